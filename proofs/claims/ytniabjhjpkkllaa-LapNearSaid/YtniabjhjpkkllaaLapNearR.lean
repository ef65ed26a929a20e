/-
  LapNear holds of the given program: whatever its arguments are, the law's call returns true, and they read behind it as they did.
  No condition beyond the given statement's own.
-/
import Derived.Test.YtniabjhjpkkllaaRows
import Derived.Test.YtniabjhjpkkllaaEngU
import Derived.Test.YtniabjhjpkkllaaLapNearT
import Derived.Test.YtniabjhjpkkllaaLapNearL
import Derived.WalkKit
import Derived.ProofKit
import Derived.OpenShut
set_option linter.unusedVariables false
namespace Go.Proofs.Ytniabjhjpkkllaa.lapNear
open Go.ChangeShapes Go.WideShapes Go.ChangeAt Go.RowKit Go.Eng

theorem own : ownKnob Try.prog.godebug = none := by kernel_rfl
theorem params : TySs Try.prog [(.sl (.int .i64)), (.sl (.int .i64)), .bool, .bool] [22, 22, 4, 4] := ⟨(tys_sl Try.underlying22 (by kernel_rfl) (by kernel_rfl) (tys_int Try.underlying3)), ⟨(tys_sl Try.underlying22 (by kernel_rfl) (by kernel_rfl) (tys_int Try.underlying3)), ⟨(tys_bool Try.underlying4), ⟨(tys_bool Try.underlying4), trivial⟩⟩⟩⟩
theorem params' : TySs Try.prog [(.sl (.int .i64)), (.sl (.int .i64)), .bool, .bool] Try.f9.params.toList := (show TySs Try.prog [(.sl (.int .i64)), (.sl (.int .i64)), .bool, .bool] Try.f9.params.toList = TySs Try.prog [(.sl (.int .i64)), (.sl (.int .i64)), .bool, .bool] [22, 22, 4, 4] by kernel_rfl).mpr params
theorem fits : ([22, 22, 4, 4].all fun t => Try.prog.readableRec t && Nat.blt t Try.prog.types.size) = true := by kernel_rfl
theorem fits' : ∀ t, t ∈ Try.f9.params.toList → Try.prog.readableRec t = true ∧ t < Try.prog.types.size := by
  rw [show Try.f9.params.toList = [22, 22, 4, 4] by kernel_rfl]
  intro t ht
  have := List.all_eq_true.1 fits t ht
  rw [Bool.and_eq_true] at this
  exact ⟨this.1, Nat.le_of_ble_eq_true this.2⟩
theorem laid : laidOutB Try.prog = true := by kernel_rfl
theorem words (H : Type) (ds : List (DataW H)) (h : ds.length = 4) : Rows.lapNearSpec.fn H ds = { results := [.lit (.bool true)], args := ds } :=
  match ds, h with
  | [d0, d1, d2, d3], _ => rfl
theorem law (x : AVals [(.sl (.int .i64)), (.sl (.int .i64)), .bool, .bool]) (hx : RngA [(.sl (.int .i64)), (.sl (.int .i64)), .bool, .bool] x) : Go.Eng.A.L12_LapNear_e (mkArgs _ x) 0 fun v _ => ∃ fr, v = .t fr .bool true :=
  (show Go.Eng.A.L12_LapNear_e (mkArgs _ x) 0 (fun v _ => ∃ fr, v = .t fr .bool true) = Go.Eng.A.L12_LapNear x.1 x.2.1 x.2.2.1 x.2.2.2.1 (fun r => ∃ fr, AV.t true .bool r = .t fr .bool true) by kernel_rfl).mpr
    (Go.Eng.A.near (x.1) (x.2.1) (x.2.2.1) (x.2.2.2.1) (hx.1) (hx.2.1) (hx.2.2.1) (hx.2.2.2.1) _ ⟨true, rfl⟩)

set_option maxRecDepth 100000 in
theorem lifted (os : Os) (started : os.Started) (H : Type) (enc : TypeId × Value → H) :
    ReturnsInHanded {} Try.checked os 9 .any (Rows.lapNearSpec.pre6 enc Try.prog Try.f9 Rows.lapNearRow.domain false) (Rows.lapNearSpec.post enc Try.prog Try.f9 false true false false) :=
  returnsInHanded_of_change (C := Try.checked) own started (by kernel_rfl) Try.func9
    (ChangeSpec.witness6 (enc := enc) (C := Try.checked) false ⟨#[], #[.slice none 0 0, .slice none 0 0, .bool false, .bool false], []⟩ 8 (by kernel_rfl) (by kernel_rfl) (by kernel_rfl) (by kernel_rfl))
    fun W base args ds gs before hval hW _ _ => law_contract (P := Try.prog) (cs := [(.sl (.int .i64)), (.sl (.int .i64)), .bool, .bool]) (tb := 4) Go.Eng.A.L12_LapNear_ok params' laid fits' rfl (by kernel_rfl) Try.underlying4
      (fun H ds h => words H ds (h.trans (by kernel_rfl))) law W base args ds gs before hval hW

theorem over : Rows.lapNearRow.holds Try.pinned (OpenSpec.ofChange Rows.lapNearSpec) :=
  OpenClaim.holds_of_wide 9 Try.f9 rfl rfl rfl rfl rfl rfl rfl ⟨rfl, rfl, rfl, rfl, rfl⟩ rfl rfl rfl rfl rfl (by kernel_rfl) Try.func9 (by kernel_rfl)
    (of_decide_eq_true (by kernel_rfl)) (by unfold Func.isWrapper; first | (rw [if_pos (by decide +kernel)]; kernel_rfl) | (rw [if_neg (by decide +kernel)]; exact ⟨rfl, rfl⟩))
    (fun os started H enc _ => lifted os started H enc)

theorem proved : Rows.LapNearSaid := over

#print axioms proved
end Go.Proofs.Ytniabjhjpkkllaa.lapNear
