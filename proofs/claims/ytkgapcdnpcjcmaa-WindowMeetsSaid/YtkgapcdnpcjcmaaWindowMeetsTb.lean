/- Each of these functions is what the program computes: printed by program. -/
import Derived.Test.YtkgapcdnpcjcmaaEngT
import Derived.Test.YtkgapcdnpcjcmaaWindowMeetsP
import Derived.Test.YtkgapcdnpcjcmaaProg
import Derived.Test.YtkgapcdnpcjcmaaWindowMeetsTa
set_option linter.unusedVariables false
set_option maxRecDepth 100000
namespace Go.Eng.A
open Go Go.Eng Go.Proofs
noncomputable section

def window_Fold_e : Ent := entOf [.tm (.sl (.int .i64))] fun (v : (List Int) × Unit) n K => window_Fold v.1 (K (.ns) []) (fun (r0 : (List Int)) => K (.os (n + 0)) [.val true false 3 (.row (.int .i64)) r0])
def window_Fold_f : List (Nat × Ent) := [(43, window_within_e), (42, window_Slope_e), (46, num_Shr_e)]
def window_Fold_C : Cfg := mkC tys window_Fold_f
def window_Fold_b : Code := match Try.f18.body with | some c => c | none => .skip
def window_Fold_y0 : Lay := ⟨81, [(0, .tm false (.sl (.int .i64))), (3, .tm true (.int .i64)), (4, .fx (.os 0)), (5, .fx (.op 1 (.arr 8 (.int .i64)) [])), (22, .tm true (.int .i64))], [.val true false 3 (.row (.int .i64)), .val true true 23 (.arr 8 (.int .i64))]⟩
def window_Fold_y1 : Lay := ⟨81, [(4, .fx (.os 0))], [.val true false 3 (.row (.int .i64))]⟩
def window_Fold_l8_F (k : Nat) (v : ((List Int) × Int × Int × Unit) × ((List Int) × (List Int) × Unit)) (K : KK) : Prop := window_Fold_l8 k v.1.1 v.1.2.1 v.1.2.2.1 v.2.1 v.2.2.1 (fun (y0 : (List Int)) => K (.exit 0) (st window_Fold_y1 ((()), (y0, ()))))
def window_Fold_l8_c : Cut := ⟨window_Fold_y0, fun o => match o with | .exit 0 => some window_Fold_y1 | _ => none, fun (v : ((List Int) × Int × Int × Unit) × ((List Int) × (List Int) × Unit)) K => ∃ k, window_Fold_l8_F k v K⟩
def window_Fold_L : Cuts := mkL [(8, window_Fold_l8_c)] []
theorem window_Fold_lo : LoopsOK window_Fold_C window_Fold_L window_Fold_b :=
  (show LoopsOK window_Fold_C window_Fold_L window_Fold_b = ((LoopOK window_Fold_C window_Fold_L window_Fold_l8_c (nthB (loopsOf window_Fold_b) 0) ∧ True) ∧ True) by kernel_rfl).mpr ⟨⟨⟨window_Fold_l8_F, fun v K => by kernel_rfl, fun v K => by kernel_rfl, fun k v K => by kernel_rfl⟩, trivial⟩, trivial⟩
theorem window_Fold_jo : JoinsOK window_Fold_C window_Fold_L window_Fold_b := (show JoinsOK window_Fold_C window_Fold_L window_Fold_b = True by kernel_rfl).mpr trivial
theorem window_Fold_ok : EntOK Try.prog 18 window_Fold_e :=
  entOf_ok (e := evFn window_Fold_C window_Fold_L Try.f18) (fun v n K => Eq.trans (window_Fold_def v.1 (K (.ns) []) (fun (r0 : (List Int)) => K (.os (n + 0)) [.val true false 3 (.row (.int .i64)) r0])) (by kernel_rfl)) (evFn_ok (mkC_all (fns := window_Fold_f) tys_ok ⟨⟨window_within_ok, Try.call43⟩, ⟨window_Slope_ok, Try.call42⟩, ⟨num_Shr_ok, Try.call46⟩, trivial⟩ mixed) Try.func18 (show Try.f18.body = some window_Fold_b by kernel_rfl) ⟨window_Fold_lo, window_Fold_jo, by kernel_rfl⟩)

def window_Right_e : Ent := entOf [.tm (.sl (.int .i64))] fun (v : (List Int) × Unit) n K => window_Right v.1 (fun (r0 : (List Int)) => K (.t true (.arr 8 (.int .i64)) r0) [])
def window_Right_f : List (Nat × Ent) := [(43, window_within_e), (42, window_Slope_e)]
def window_Right_C : Cfg := mkC tys window_Right_f
def window_Right_b : Code := match Try.f14.body with | some c => c | none => .skip
def window_Right_y0 : Lay := ⟨44, [(0, .tm false (.sl (.int .i64))), (2, .fx (.op 0 (.arr 8 (.int .i64)) [])), (3, .fx (.op 1 (.arr 8 (.int .i64)) [])), (4, .fx (.op 2 (.arr 8 (.int .i64)) [])), (12, .tm true (.int .i64))], [.val true true 23 (.arr 8 (.int .i64)), .val true true 23 (.arr 8 (.int .i64)), .val true true 23 (.arr 8 (.int .i64))]⟩
def window_Right_y1 : Lay := ⟨44, [(2, .fx (.op 0 (.arr 8 (.int .i64)) [])), (3, .fx (.op 1 (.arr 8 (.int .i64)) []))], [.val true true 23 (.arr 8 (.int .i64)), .val true true 23 (.arr 8 (.int .i64))]⟩
def window_Right_l6_F (k : Nat) (v : ((List Int) × Int × Unit) × ((List Int) × (List Int) × (List Int) × Unit)) (K : KK) : Prop := window_Right_l6 k v.1.1 v.1.2.1 v.2.1 v.2.2.1 v.2.2.2.1 (fun (y0 : (List Int)) (y1 : (List Int)) => K (.exit 0) (st window_Right_y1 ((()), (y0, y1, ()))))
def window_Right_l6_c : Cut := ⟨window_Right_y0, fun o => match o with | .exit 0 => some window_Right_y1 | _ => none, fun (v : ((List Int) × Int × Unit) × ((List Int) × (List Int) × (List Int) × Unit)) K => ∃ k, window_Right_l6_F k v K⟩
def window_Right_L : Cuts := mkL [(6, window_Right_l6_c)] []
theorem window_Right_lo : LoopsOK window_Right_C window_Right_L window_Right_b :=
  (show LoopsOK window_Right_C window_Right_L window_Right_b = ((LoopOK window_Right_C window_Right_L window_Right_l6_c (nthB (loopsOf window_Right_b) 0) ∧ True) ∧ True) by kernel_rfl).mpr ⟨⟨⟨window_Right_l6_F, fun v K => by kernel_rfl, fun v K => by kernel_rfl, fun k v K => by kernel_rfl⟩, trivial⟩, trivial⟩
theorem window_Right_jo : JoinsOK window_Right_C window_Right_L window_Right_b := (show JoinsOK window_Right_C window_Right_L window_Right_b = True by kernel_rfl).mpr trivial
theorem window_Right_ok : EntOK Try.prog 14 window_Right_e :=
  entOf_ok (e := evFn window_Right_C window_Right_L Try.f14) (fun v n K => Eq.trans (window_Right_def v.1 (fun (r0 : (List Int)) => K (.t true (.arr 8 (.int .i64)) r0) [])) (by kernel_rfl)) (evFn_ok (mkC_all (fns := window_Right_f) tys_ok ⟨⟨window_within_ok, Try.call43⟩, ⟨window_Slope_ok, Try.call42⟩, trivial⟩ mixed) Try.func14 (show Try.f14.body = some window_Right_b by kernel_rfl) ⟨window_Right_lo, window_Right_jo, by kernel_rfl⟩)

def window_Left_e : Ent := entOf [.tm (.sl (.int .i64))] fun (v : (List Int) × Unit) n K => window_Left v.1 (fun (r0 : (List Int)) => K (.t true (.arr 8 (.int .i64)) r0) [])
def window_Left_f : List (Nat × Ent) := [(43, window_within_e), (42, window_Slope_e)]
def window_Left_C : Cfg := mkC tys window_Left_f
def window_Left_b : Code := match Try.f12.body with | some c => c | none => .skip
def window_Left_y0 : Lay := ⟨40, [(0, .tm false (.sl (.int .i64))), (2, .fx (.op 0 (.arr 8 (.int .i64)) [])), (3, .fx (.op 1 (.arr 8 (.int .i64)) [])), (4, .fx (.op 2 (.arr 8 (.int .i64)) [])), (11, .tm true (.int .i64))], [.val true true 23 (.arr 8 (.int .i64)), .val true true 23 (.arr 8 (.int .i64)), .val true true 23 (.arr 8 (.int .i64))]⟩
def window_Left_y1 : Lay := ⟨40, [(2, .fx (.op 0 (.arr 8 (.int .i64)) [])), (3, .fx (.op 1 (.arr 8 (.int .i64)) []))], [.val true true 23 (.arr 8 (.int .i64)), .val true true 23 (.arr 8 (.int .i64))]⟩
def window_Left_l6_F (k : Nat) (v : ((List Int) × Int × Unit) × ((List Int) × (List Int) × (List Int) × Unit)) (K : KK) : Prop := window_Left_l6 k v.1.1 v.1.2.1 v.2.1 v.2.2.1 v.2.2.2.1 (fun (y0 : (List Int)) (y1 : (List Int)) => K (.exit 0) (st window_Left_y1 ((()), (y0, y1, ()))))
def window_Left_l6_c : Cut := ⟨window_Left_y0, fun o => match o with | .exit 0 => some window_Left_y1 | _ => none, fun (v : ((List Int) × Int × Unit) × ((List Int) × (List Int) × (List Int) × Unit)) K => ∃ k, window_Left_l6_F k v K⟩
def window_Left_L : Cuts := mkL [(6, window_Left_l6_c)] []
theorem window_Left_lo : LoopsOK window_Left_C window_Left_L window_Left_b :=
  (show LoopsOK window_Left_C window_Left_L window_Left_b = ((LoopOK window_Left_C window_Left_L window_Left_l6_c (nthB (loopsOf window_Left_b) 0) ∧ True) ∧ True) by kernel_rfl).mpr ⟨⟨⟨window_Left_l6_F, fun v K => by kernel_rfl, fun v K => by kernel_rfl, fun k v K => by kernel_rfl⟩, trivial⟩, trivial⟩
theorem window_Left_jo : JoinsOK window_Left_C window_Left_L window_Left_b := (show JoinsOK window_Left_C window_Left_L window_Left_b = True by kernel_rfl).mpr trivial
theorem window_Left_ok : EntOK Try.prog 12 window_Left_e :=
  entOf_ok (e := evFn window_Left_C window_Left_L Try.f12) (fun v n K => Eq.trans (window_Left_def v.1 (fun (r0 : (List Int)) => K (.t true (.arr 8 (.int .i64)) r0) [])) (by kernel_rfl)) (evFn_ok (mkC_all (fns := window_Left_f) tys_ok ⟨⟨window_within_ok, Try.call43⟩, ⟨window_Slope_ok, Try.call42⟩, trivial⟩ mixed) Try.func12 (show Try.f12.body = some window_Left_b by kernel_rfl) ⟨window_Left_lo, window_Left_jo, by kernel_rfl⟩)

end
end Go.Eng.A
