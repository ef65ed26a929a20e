/- Each of these functions is what the program computes: printed by program. -/
import Derived.Test.YtkgapcdnpcjcmaaEngT
import Derived.Test.YtkgapcdnpcjcmaaWindowLeavesP
import Derived.Test.YtkgapcdnpcjcmaaProg
import Derived.Test.YtkgapcdnpcjcmaaWindowLeavesTc
set_option linter.unusedVariables false
set_option maxRecDepth 100000
namespace Go.Eng.A
open Go Go.Eng Go.Proofs
noncomputable section

def window_Meet_e : Ent := entOf [.tm (.arr 8 (.int .i64)), .tm (.arr 8 (.int .i64))] fun (v : (List Int) × (List Int) × Unit) n K => window_Meet v.1 v.2.1 (fun (r0 : (List Int)) => K (.t true (.arr 8 (.int .i64)) r0) [])
def window_Meet_f : List (Nat × Ent) := [(46, num_Shr_e)]
def window_Meet_C : Cfg := mkCE tys eqs window_Meet_f
def window_Meet_b : Code := match Try.f16.body with | some c => c | none => .skip
def window_Meet_y0 : Lay := ⟨40, [(2, .fx (.op 0 (.arr 8 (.int .i64)) [])), (3, .fx (.op 1 (.arr 8 (.int .i64)) [])), (4, .fx (.op 2 (.arr 8 (.int .i64)) [])), (5, .fx (.op 3 (.arr 8 (.int .i64)) [])), (6, .tm true (.int .i64)), (7, .tm true (.int .i64)), (27, .tm true .bool)], [.val true true 23 (.arr 8 (.int .i64)), .val true true 23 (.arr 8 (.int .i64)), .val true true 23 (.arr 8 (.int .i64)), .val true true 23 (.arr 8 (.int .i64))]⟩
def window_Meet_y1 : Lay := ⟨40, [(2, .fx (.op 0 (.arr 8 (.int .i64)) [])), (3, .fx (.op 1 (.arr 8 (.int .i64)) [])), (4, .fx (.op 2 (.arr 8 (.int .i64)) [])), (5, .fx (.op 3 (.arr 8 (.int .i64)) [])), (7, .tm true (.int .i64))], [.val true true 23 (.arr 8 (.int .i64)), .val true true 23 (.arr 8 (.int .i64)), .val true true 23 (.arr 8 (.int .i64)), .val true true 23 (.arr 8 (.int .i64))]⟩
def window_Meet_j6_c : Cut := ⟨window_Meet_y0, fun o => match o with | .nrm => some window_Meet_y1 | _ => none, fun (v : (Int × Int × Bool × Unit) × ((List Int) × (List Int) × (List Int) × (List Int) × Unit)) (K : KK) => window_Meet_j6 v.1.1 v.1.2.1 v.1.2.2.1 v.2.1 v.2.2.1 v.2.2.2.1 v.2.2.2.2.1 (fun (y0 : Int) (y1 : (List Int)) (y2 : (List Int)) (y3 : (List Int)) (y4 : (List Int)) => K .nrm (st window_Meet_y1 ((y0, ()), (y1, y2, y3, y4, ()))))⟩
def window_Meet_y2 : Lay := ⟨40, [(4, .fx (.op 0 (.arr 8 (.int .i64)) [])), (5, .fx (.op 1 (.arr 8 (.int .i64)) []))], [.val true true 23 (.arr 8 (.int .i64)), .val true true 23 (.arr 8 (.int .i64))]⟩
def window_Meet_l3_F (k : Nat) (v : (Int × Unit) × ((List Int) × (List Int) × (List Int) × (List Int) × Unit)) (K : KK) : Prop := window_Meet_l3 k v.1.1 v.2.1 v.2.2.1 v.2.2.2.1 v.2.2.2.2.1 (fun (y0 : (List Int)) (y1 : (List Int)) => K (.exit 0) (st window_Meet_y2 ((()), (y0, y1, ()))))
def window_Meet_l3_c : Cut := ⟨window_Meet_y1, fun o => match o with | .exit 0 => some window_Meet_y2 | _ => none, fun (v : (Int × Unit) × ((List Int) × (List Int) × (List Int) × (List Int) × Unit)) K => ∃ k, window_Meet_l3_F k v K⟩
def window_Meet_L : Cuts := mkL [(3, window_Meet_l3_c)] [(6, window_Meet_j6_c)]
theorem window_Meet_lo : LoopsOK window_Meet_C window_Meet_L window_Meet_b :=
  (show LoopsOK window_Meet_C window_Meet_L window_Meet_b = ((LoopOK window_Meet_C window_Meet_L window_Meet_l3_c (nthB (loopsOf window_Meet_b) 0) ∧ True) ∧ True) by kernel_rfl).mpr ⟨⟨⟨window_Meet_l3_F, fun v K => by kernel_rfl, fun v K => by kernel_rfl, fun k v K => by kernel_rfl⟩, trivial⟩, trivial⟩
theorem window_Meet_jo : JoinsOK window_Meet_C window_Meet_L window_Meet_b :=
  (show JoinsOK window_Meet_C window_Meet_L window_Meet_b = ((JoinOK window_Meet_C window_Meet_L window_Meet_j6_c (nthB (joinsOf window_Meet_L window_Meet_b) 0) ∧ True) ∧ True) by kernel_rfl).mpr ⟨⟨fun v K => by kernel_rfl, trivial⟩, trivial⟩
theorem window_Meet_ok : EntOK Try.prog 16 window_Meet_e :=
  entOf_ok (e := evFn window_Meet_C window_Meet_L Try.f16) (fun v n K => Eq.trans (window_Meet_def v.1 v.2.1 (fun (r0 : (List Int)) => K (.t true (.arr 8 (.int .i64)) r0) [])) (by kernel_rfl)) (evFn_ok (mkCE_all (fns := window_Meet_f) tys_ok eqs_ok ⟨⟨num_Shr_ok, Try.call46⟩, trivial⟩ mixed) Try.func16 (show Try.f16.body = some window_Meet_b by kernel_rfl) ⟨window_Meet_lo, window_Meet_jo, by kernel_rfl⟩)

def R01_Mod_e : Ent := entOf [.tm (.int .i64), .tm (.int .i64)] fun (v : Int × Int × Unit) n K => R01_Mod v.1 v.2.1 (fun (r0 : Int) (r1 : Int) => K (.tu [.t true (.int .i64) r0, .t true (.int .i64) r1]) [])
def R01_Mod_f : List (Nat × Ent) := []
def R01_Mod_C : Cfg := mkCE tys eqs R01_Mod_f
def R01_Mod_b : Code := match Try.f59.body with | some c => c | none => .skip
def R01_Mod_L : Cuts := mkL [] []
theorem R01_Mod_lo : LoopsOK R01_Mod_C R01_Mod_L R01_Mod_b := (show LoopsOK R01_Mod_C R01_Mod_L R01_Mod_b = True by kernel_rfl).mpr trivial
theorem R01_Mod_jo : JoinsOK R01_Mod_C R01_Mod_L R01_Mod_b := (show JoinsOK R01_Mod_C R01_Mod_L R01_Mod_b = True by kernel_rfl).mpr trivial
theorem R01_Mod_ok : EntOK Try.prog 59 R01_Mod_e :=
  entOf_ok (e := evFn R01_Mod_C R01_Mod_L Try.f59) (fun v n K => Eq.trans (R01_Mod_def v.1 v.2.1 (fun (r0 : Int) (r1 : Int) => K (.tu [.t true (.int .i64) r0, .t true (.int .i64) r1]) [])) (by kernel_rfl)) (evFn_ok (mkCE_all (fns := R01_Mod_f) tys_ok eqs_ok trivial mixed) Try.func59 (show Try.f59.body = some R01_Mod_b by kernel_rfl) ⟨R01_Mod_lo, R01_Mod_jo, by kernel_rfl⟩)

def R01_Shr_e : Ent := entOf [.tm (.int .i64), .tm (.int .i64)] fun (v : Int × Int × Unit) n K => R01_Shr v.1 v.2.1 (fun (r0 : Int) => K (.t true (.int .i64) r0) [])
def R01_Shr_f : List (Nat × Ent) := [(59, R01_Mod_e)]
def R01_Shr_C : Cfg := mkCE tys eqs R01_Shr_f
def R01_Shr_b : Code := match Try.f47.body with | some c => c | none => .skip
def R01_Shr_L : Cuts := mkL [] []
theorem R01_Shr_lo : LoopsOK R01_Shr_C R01_Shr_L R01_Shr_b := (show LoopsOK R01_Shr_C R01_Shr_L R01_Shr_b = True by kernel_rfl).mpr trivial
theorem R01_Shr_jo : JoinsOK R01_Shr_C R01_Shr_L R01_Shr_b := (show JoinsOK R01_Shr_C R01_Shr_L R01_Shr_b = True by kernel_rfl).mpr trivial
theorem R01_Shr_ok : EntOK Try.prog 47 R01_Shr_e :=
  entOf_ok (e := evFn R01_Shr_C R01_Shr_L Try.f47) (fun v n K => Eq.trans (R01_Shr_def v.1 v.2.1 (fun (r0 : Int) => K (.t true (.int .i64) r0) [])) (by kernel_rfl)) (evFn_ok (mkCE_all (fns := R01_Shr_f) tys_ok eqs_ok ⟨⟨R01_Mod_ok, Try.call59⟩, trivial⟩ mixed) Try.func47 (show Try.f47.body = some R01_Shr_b by kernel_rfl) ⟨R01_Shr_lo, R01_Shr_jo, by kernel_rfl⟩)

end
end Go.Eng.A
