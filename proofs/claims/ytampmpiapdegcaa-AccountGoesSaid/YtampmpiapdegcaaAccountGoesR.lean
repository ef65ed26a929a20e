/-
  AccountGoes holds of the given program: whatever its arguments are, the law's call returns true, and they read behind it as they did.
  No condition beyond the given statement's own.
-/
import Derived.Test.YtampmpiapdegcaaRows
import Derived.Test.YtampmpiapdegcaaEngU
import Derived.Test.YtampmpiapdegcaaAccountGoesT
import Derived.Test.YtampmpiapdegcaaAccountGoesL
import Derived.WalkKit
import Derived.ProofKit
import Derived.OpenShut
set_option linter.unusedVariables false
namespace Go.Proofs.Ytampmpiapdegcaa.accountGoes
open Go.ChangeShapes Go.WideShapes Go.ChangeAt Go.RowKit Go.Eng

theorem own : ownKnob Try.prog.godebug = none := by kernel_rfl
theorem params : TySs Try.prog [(.cons (.cons (.int .i64) (.cons (.int .i64) (.cons (.int .i64) (.cons (.int .i64) (.cons (.int .i64) (.cons (.int .i64) .nil)))))) (.cons (.sl (.sl (.cons (.cons .bool (.cons .bool (.cons .bool (.cons (.int .i64) (.cons (.sl (.cons (.sl (.cons (.int .i64) (.cons (.int .i64) (.cons (.sl (.int .i64)) .nil)))) .nil)) .nil))))) (.cons (.int .i64) (.cons (.int .i64) .nil))))) .nil))] [26] := ⟨(tys_cons Try.underlying26 (by kernel_rfl) (tysf_cons (by kernel_rfl) (by kernel_rfl) (tys_cons Try.underlying23 (by kernel_rfl) (tysf_cons (by kernel_rfl) (by kernel_rfl) (tys_int Try.underlying3) (tysf_cons (by kernel_rfl) (by kernel_rfl) (tys_int Try.underlying3) (tysf_cons (by kernel_rfl) (by kernel_rfl) (tys_int Try.underlying3) (tysf_cons (by kernel_rfl) (by kernel_rfl) (tys_int Try.underlying3) (tysf_cons (by kernel_rfl) (by kernel_rfl) (tys_int Try.underlying3) (tysf_cons (by kernel_rfl) (by kernel_rfl) (tys_int Try.underlying3) tysf_nil))))))) (tysf_cons (by kernel_rfl) (by kernel_rfl) (tys_sl Try.underlying24 (by kernel_rfl) (by kernel_rfl) (tys_sl Try.underlying33 (by kernel_rfl) (by kernel_rfl) (tys_cons Try.underlying39 (by kernel_rfl) (tysf_cons (by kernel_rfl) (by kernel_rfl) (tys_cons Try.underlying37 (by kernel_rfl) (tysf_cons (by kernel_rfl) (by kernel_rfl) (tys_bool Try.underlying4) (tysf_cons (by kernel_rfl) (by kernel_rfl) (tys_bool Try.underlying4) (tysf_cons (by kernel_rfl) (by kernel_rfl) (tys_bool Try.underlying4) (tysf_cons (by kernel_rfl) (by kernel_rfl) (tys_int Try.underlying3) (tysf_cons (by kernel_rfl) (by kernel_rfl) (tys_sl Try.underlying35 (by kernel_rfl) (by kernel_rfl) (tys_cons Try.underlying51 (by kernel_rfl) (tysf_cons (by kernel_rfl) (by kernel_rfl) (tys_sl Try.underlying49 (by kernel_rfl) (by kernel_rfl) (tys_cons Try.underlying53 (by kernel_rfl) (tysf_cons (by kernel_rfl) (by kernel_rfl) (tys_int Try.underlying3) (tysf_cons (by kernel_rfl) (by kernel_rfl) (tys_int Try.underlying3) (tysf_cons (by kernel_rfl) (by kernel_rfl) (tys_sl Try.underlying30 (by kernel_rfl) (by kernel_rfl) (tys_int Try.underlying3)) tysf_nil))))) tysf_nil))) tysf_nil)))))) (tysf_cons (by kernel_rfl) (by kernel_rfl) (tys_int Try.underlying3) (tysf_cons (by kernel_rfl) (by kernel_rfl) (tys_int Try.underlying3) tysf_nil)))))) tysf_nil))), trivial⟩
theorem params' : TySs Try.prog [(.cons (.cons (.int .i64) (.cons (.int .i64) (.cons (.int .i64) (.cons (.int .i64) (.cons (.int .i64) (.cons (.int .i64) .nil)))))) (.cons (.sl (.sl (.cons (.cons .bool (.cons .bool (.cons .bool (.cons (.int .i64) (.cons (.sl (.cons (.sl (.cons (.int .i64) (.cons (.int .i64) (.cons (.sl (.int .i64)) .nil)))) .nil)) .nil))))) (.cons (.int .i64) (.cons (.int .i64) .nil))))) .nil))] Try.f3.params.toList := (show TySs Try.prog [(.cons (.cons (.int .i64) (.cons (.int .i64) (.cons (.int .i64) (.cons (.int .i64) (.cons (.int .i64) (.cons (.int .i64) .nil)))))) (.cons (.sl (.sl (.cons (.cons .bool (.cons .bool (.cons .bool (.cons (.int .i64) (.cons (.sl (.cons (.sl (.cons (.int .i64) (.cons (.int .i64) (.cons (.sl (.int .i64)) .nil)))) .nil)) .nil))))) (.cons (.int .i64) (.cons (.int .i64) .nil))))) .nil))] Try.f3.params.toList = TySs Try.prog [(.cons (.cons (.int .i64) (.cons (.int .i64) (.cons (.int .i64) (.cons (.int .i64) (.cons (.int .i64) (.cons (.int .i64) .nil)))))) (.cons (.sl (.sl (.cons (.cons .bool (.cons .bool (.cons .bool (.cons (.int .i64) (.cons (.sl (.cons (.sl (.cons (.int .i64) (.cons (.int .i64) (.cons (.sl (.int .i64)) .nil)))) .nil)) .nil))))) (.cons (.int .i64) (.cons (.int .i64) .nil))))) .nil))] [26] by kernel_rfl).mpr params
theorem fits : ([26].all fun t => Try.prog.readableRec t && Nat.blt t Try.prog.types.size) = true := by kernel_rfl
theorem fits' : ∀ t, t ∈ Try.f3.params.toList → Try.prog.readableRec t = true ∧ t < Try.prog.types.size := by
  rw [show Try.f3.params.toList = [26] by kernel_rfl]
  intro t ht
  have := List.all_eq_true.1 fits t ht
  rw [Bool.and_eq_true] at this
  exact ⟨this.1, Nat.le_of_ble_eq_true this.2⟩
theorem laid : laidOutB Try.prog = true := by kernel_rfl
theorem words (H : Type) (ds : List (DataW H)) (h : ds.length = 1) : Rows.accountGoesSpec.fn H ds = { results := [.lit (.bool true)], args := ds } :=
  match ds, h with
  | [d0], _ => rfl
theorem law (x : AVals [(.cons (.cons (.int .i64) (.cons (.int .i64) (.cons (.int .i64) (.cons (.int .i64) (.cons (.int .i64) (.cons (.int .i64) .nil)))))) (.cons (.sl (.sl (.cons (.cons .bool (.cons .bool (.cons .bool (.cons (.int .i64) (.cons (.sl (.cons (.sl (.cons (.int .i64) (.cons (.int .i64) (.cons (.sl (.int .i64)) .nil)))) .nil)) .nil))))) (.cons (.int .i64) (.cons (.int .i64) .nil))))) .nil))]) (hx : RngA [(.cons (.cons (.int .i64) (.cons (.int .i64) (.cons (.int .i64) (.cons (.int .i64) (.cons (.int .i64) (.cons (.int .i64) .nil)))))) (.cons (.sl (.sl (.cons (.cons .bool (.cons .bool (.cons .bool (.cons (.int .i64) (.cons (.sl (.cons (.sl (.cons (.int .i64) (.cons (.int .i64) (.cons (.sl (.int .i64)) .nil)))) .nil)) .nil))))) (.cons (.int .i64) (.cons (.int .i64) .nil))))) .nil))] x) : Go.Eng.A.L28_AccountGoes_e (mkArgs _ x) 0 fun v _ => ∃ fr, v = .t fr .bool true :=
  (show Go.Eng.A.L28_AccountGoes_e (mkArgs _ x) 0 (fun v _ => ∃ fr, v = .t fr .bool true) = Go.Eng.A.L28_AccountGoes x.1 (fun r => ∃ fr, AV.t true .bool r = .t fr .bool true) by kernel_rfl).mpr
    (Go.Eng.A.goes (x.1) (hx.1) _ ⟨true, rfl⟩)

set_option maxRecDepth 100000 in
theorem lifted (os : Os) (started : os.Started) (H : Type) (enc : TypeId × Value → H) :
    ReturnsInHanded {} Try.checked os 3 .any (Rows.accountGoesSpec.pre6 enc Try.prog Try.f3 Rows.accountGoesRow.domain false) (Rows.accountGoesSpec.post enc Try.prog Try.f3 false true false false) :=
  returnsInHanded_of_change (C := Try.checked) own started (by kernel_rfl) Try.func3
    (ChangeSpec.witness6 (enc := enc) (C := Try.checked) false ⟨#[], #[.agg #[.int .i64 0, .int .i64 0, .int .i64 0, .int .i64 0, .int .i64 0, .int .i64 0, .slice none 0 0]], []⟩ 8 (by kernel_rfl) (by kernel_rfl) (by kernel_rfl) (by kernel_rfl))
    fun W base args ds gs before hval hW _ _ => law_contract (P := Try.prog) (cs := [(.cons (.cons (.int .i64) (.cons (.int .i64) (.cons (.int .i64) (.cons (.int .i64) (.cons (.int .i64) (.cons (.int .i64) .nil)))))) (.cons (.sl (.sl (.cons (.cons .bool (.cons .bool (.cons .bool (.cons (.int .i64) (.cons (.sl (.cons (.sl (.cons (.int .i64) (.cons (.int .i64) (.cons (.sl (.int .i64)) .nil)))) .nil)) .nil))))) (.cons (.int .i64) (.cons (.int .i64) .nil))))) .nil))]) (tb := 4) Go.Eng.A.L28_AccountGoes_ok params' laid fits' rfl (by kernel_rfl) Try.underlying4
      (fun H ds h => words H ds (h.trans (by kernel_rfl))) law W base args ds gs before hval hW

theorem over : Rows.accountGoesRow.holds Try.pinned (OpenSpec.ofChange Rows.accountGoesSpec) :=
  OpenClaim.holds_of_wide 3 Try.f3 rfl rfl rfl rfl rfl rfl rfl ⟨rfl, rfl, rfl, rfl, rfl⟩ rfl rfl rfl rfl rfl (by kernel_rfl) Try.func3 (by kernel_rfl)
    (of_decide_eq_true (by kernel_rfl)) (by unfold Func.isWrapper; first | (rw [if_pos (by decide +kernel)]; kernel_rfl) | (rw [if_neg (by decide +kernel)]; exact ⟨rfl, rfl⟩))
    (fun os started H enc _ => lifted os started H enc)

theorem proved : Rows.AccountGoesSaid := over

#print axioms proved
end Go.Proofs.Ytampmpiapdegcaa.accountGoes
