/- Each of these functions is what the program computes: printed by program. -/
import Derived.Test.YtkgapcdnpcjcmaaEngT
import Derived.Test.YtkgapcdnpcjcmaaWindowLeavesP
import Derived.Test.YtkgapcdnpcjcmaaProg
import Derived.Test.YtkgapcdnpcjcmaaWindowLeavesTd
set_option linter.unusedVariables false
set_option maxRecDepth 100000
namespace Go.Eng.A
open Go Go.Eng Go.Proofs
noncomputable section

def R11_Meet_e : Ent := entOf [.tm (.arr 8 (.int .i64)), .tm (.arr 8 (.int .i64))] fun (v : (List Int) × (List Int) × Unit) n K => R11_Meet v.1 v.2.1 (fun (r0 : (List Int)) => K (.t true (.arr 8 (.int .i64)) r0) [])
def R11_Meet_f : List (Nat × Ent) := [(47, R01_Shr_e)]
def R11_Meet_C : Cfg := mkCE tys eqs R11_Meet_f
def R11_Meet_b : Code := match Try.f17.body with | some c => c | none => .skip
def R11_Meet_y0 : Lay := ⟨45, [(2, .fx (.op 0 (.arr 8 (.int .i64)) [])), (3, .fx (.op 1 (.arr 8 (.int .i64)) [])), (4, .fx (.op 2 (.arr 8 (.int .i64)) [])), (5, .fx (.op 3 (.arr 8 (.int .i64)) [])), (6, .tm true (.int .i64)), (33, .tm true .bool)], [.val true true 23 (.arr 8 (.int .i64)), .val true true 23 (.arr 8 (.int .i64)), .val true true 23 (.arr 8 (.int .i64)), .val true true 23 (.arr 8 (.int .i64))]⟩
def R11_Meet_y1 : Lay := ⟨45, [(2, .fx (.op 0 (.arr 8 (.int .i64)) [])), (3, .fx (.op 1 (.arr 8 (.int .i64)) [])), (4, .fx (.op 2 (.arr 8 (.int .i64)) [])), (5, .fx (.op 3 (.arr 8 (.int .i64)) [])), (6, .tm true (.int .i64))], [.val true true 23 (.arr 8 (.int .i64)), .val true true 23 (.arr 8 (.int .i64)), .val true true 23 (.arr 8 (.int .i64)), .val true true 23 (.arr 8 (.int .i64))]⟩
def R11_Meet_j6_c : Cut := ⟨R11_Meet_y0, fun o => match o with | .nrm => some R11_Meet_y1 | _ => none, fun (v : (Int × Bool × Unit) × ((List Int) × (List Int) × (List Int) × (List Int) × Unit)) (K : KK) => R11_Meet_j6 v.1.1 v.1.2.1 v.2.1 v.2.2.1 v.2.2.2.1 v.2.2.2.2.1 (fun (y0 : Int) (y1 : (List Int)) (y2 : (List Int)) (y3 : (List Int)) (y4 : (List Int)) => K .nrm (st R11_Meet_y1 ((y0, ()), (y1, y2, y3, y4, ()))))⟩
def R11_Meet_y2 : Lay := ⟨45, [(4, .fx (.op 0 (.arr 8 (.int .i64)) [])), (5, .fx (.op 1 (.arr 8 (.int .i64)) []))], [.val true true 23 (.arr 8 (.int .i64)), .val true true 23 (.arr 8 (.int .i64))]⟩
def R11_Meet_l3_F (k : Nat) (v : (Int × Unit) × ((List Int) × (List Int) × (List Int) × (List Int) × Unit)) (K : KK) : Prop := R11_Meet_l3 k v.1.1 v.2.1 v.2.2.1 v.2.2.2.1 v.2.2.2.2.1 (fun (y0 : (List Int)) (y1 : (List Int)) => K (.exit 0) (st R11_Meet_y2 ((()), (y0, y1, ()))))
def R11_Meet_l3_c : Cut := ⟨R11_Meet_y1, fun o => match o with | .exit 0 => some R11_Meet_y2 | _ => none, fun (v : (Int × Unit) × ((List Int) × (List Int) × (List Int) × (List Int) × Unit)) K => ∃ k, R11_Meet_l3_F k v K⟩
def R11_Meet_L : Cuts := mkL [(3, R11_Meet_l3_c)] [(6, R11_Meet_j6_c)]
theorem R11_Meet_lo : LoopsOK R11_Meet_C R11_Meet_L R11_Meet_b :=
  (show LoopsOK R11_Meet_C R11_Meet_L R11_Meet_b = ((LoopOK R11_Meet_C R11_Meet_L R11_Meet_l3_c (nthB (loopsOf R11_Meet_b) 0) ∧ True) ∧ True) by kernel_rfl).mpr ⟨⟨⟨R11_Meet_l3_F, fun v K => by kernel_rfl, fun v K => by kernel_rfl, fun k v K => by kernel_rfl⟩, trivial⟩, trivial⟩
theorem R11_Meet_jo : JoinsOK R11_Meet_C R11_Meet_L R11_Meet_b :=
  (show JoinsOK R11_Meet_C R11_Meet_L R11_Meet_b = ((JoinOK R11_Meet_C R11_Meet_L R11_Meet_j6_c (nthB (joinsOf R11_Meet_L R11_Meet_b) 0) ∧ True) ∧ True) by kernel_rfl).mpr ⟨⟨fun v K => by kernel_rfl, trivial⟩, trivial⟩
theorem R11_Meet_ok : EntOK Try.prog 17 R11_Meet_e :=
  entOf_ok (e := evFn R11_Meet_C R11_Meet_L Try.f17) (fun v n K => Eq.trans (R11_Meet_def v.1 v.2.1 (fun (r0 : (List Int)) => K (.t true (.arr 8 (.int .i64)) r0) [])) (by kernel_rfl)) (evFn_ok (mkCE_all (fns := R11_Meet_f) tys_ok eqs_ok ⟨⟨R01_Shr_ok, Try.call47⟩, trivial⟩ mixed) Try.func17 (show Try.f17.body = some R11_Meet_b by kernel_rfl) ⟨R11_Meet_lo, R11_Meet_jo, by kernel_rfl⟩)

def L11_WindowLeaves_e : Ent := entOf [.tm (.sl (.int .i64)), .tm (.arr 8 (.int .i64)), .tm (.arr 8 (.int .i64))] fun (v : (List Int) × (List Int) × (List Int) × Unit) n K => L11_WindowLeaves v.1 v.2.1 v.2.2.1 (fun (r0 : Bool) => K (.t true .bool r0) [])
def L11_WindowLeaves_f : List (Nat × Ent) := [(11, L11_awake_e), (12, window_Left_e), (13, R11_Left_e), (14, window_Right_e), (15, R11_Right_e), (16, window_Meet_e), (17, R11_Meet_e)]
def L11_WindowLeaves_C : Cfg := mkCE tys eqs L11_WindowLeaves_f
def L11_WindowLeaves_b : Code := match Try.f3.body with | some c => c | none => .skip
def L11_WindowLeaves_L : Cuts := mkL [] []
theorem L11_WindowLeaves_lo : LoopsOK L11_WindowLeaves_C L11_WindowLeaves_L L11_WindowLeaves_b := (show LoopsOK L11_WindowLeaves_C L11_WindowLeaves_L L11_WindowLeaves_b = True by kernel_rfl).mpr trivial
theorem L11_WindowLeaves_jo : JoinsOK L11_WindowLeaves_C L11_WindowLeaves_L L11_WindowLeaves_b := (show JoinsOK L11_WindowLeaves_C L11_WindowLeaves_L L11_WindowLeaves_b = True by kernel_rfl).mpr trivial
theorem L11_WindowLeaves_ok : EntOK Try.prog 3 L11_WindowLeaves_e :=
  entOf_ok (e := evFn L11_WindowLeaves_C L11_WindowLeaves_L Try.f3) (fun v n K => Eq.trans (L11_WindowLeaves_def v.1 v.2.1 v.2.2.1 (fun (r0 : Bool) => K (.t true .bool r0) [])) (by kernel_rfl)) (evFn_ok (mkCE_all (fns := L11_WindowLeaves_f) tys_ok eqs_ok ⟨⟨L11_awake_ok, Try.call11⟩, ⟨window_Left_ok, Try.call12⟩, ⟨R11_Left_ok, Try.call13⟩, ⟨window_Right_ok, Try.call14⟩, ⟨R11_Right_ok, Try.call15⟩, ⟨window_Meet_ok, Try.call16⟩, ⟨R11_Meet_ok, Try.call17⟩, trivial⟩ mixed) Try.func3 (show Try.f3.body = some L11_WindowLeaves_b by kernel_rfl) ⟨L11_WindowLeaves_lo, L11_WindowLeaves_jo, by kernel_rfl⟩)

end
end Go.Eng.A
