/- Each of these functions is what the program computes: printed by program. -/
import Derived.Test.YtkgapcdnpcjcmaaEngT
import Derived.Test.YtkgapcdnpcjcmaaWindowLeavesP
import Derived.Test.YtkgapcdnpcjcmaaProg
import Derived.Test.YtkgapcdnpcjcmaaWindowLeavesTa
set_option linter.unusedVariables false
set_option maxRecDepth 100000
namespace Go.Eng.A
open Go Go.Eng Go.Proofs
noncomputable section

def window_Fold_e : Ent := entOf [.tm (.sl (.int .i64))] fun (v : (List Int) × Unit) n K => window_Fold v.1 (K (.ns) []) (fun (r0 : (List Int)) => K (.os (n + 0)) [.val true false 3 (.row (.int .i64)) r0])
def window_Fold_f : List (Nat × Ent) := [(43, window_within_e), (42, window_Slope_e), (46, num_Shr_e)]
def window_Fold_C : Cfg := mkCE tys eqs window_Fold_f
def window_Fold_b : Code := match Try.f18.body with | some c => c | none => .skip
def window_Fold_y0 : Lay := ⟨81, [(0, .tm false (.sl (.int .i64))), (3, .tm true (.int .i64)), (4, .fx (.os 0)), (5, .fx (.op 1 (.arr 8 (.int .i64)) [])), (22, .tm true (.int .i64))], [.val true false 3 (.row (.int .i64)), .val true true 23 (.arr 8 (.int .i64))]⟩
def window_Fold_y1 : Lay := ⟨81, [(4, .fx (.os 0))], [.val true false 3 (.row (.int .i64))]⟩
def window_Fold_l8_F (k : Nat) (v : ((List Int) × Int × Int × Unit) × ((List Int) × (List Int) × Unit)) (K : KK) : Prop := window_Fold_l8 k v.1.1 v.1.2.1 v.1.2.2.1 v.2.1 v.2.2.1 (fun (y0 : (List Int)) => K (.exit 0) (st window_Fold_y1 ((()), (y0, ()))))
def window_Fold_l8_c : Cut := ⟨window_Fold_y0, fun o => match o with | .exit 0 => some window_Fold_y1 | _ => none, fun (v : ((List Int) × Int × Int × Unit) × ((List Int) × (List Int) × Unit)) K => ∃ k, window_Fold_l8_F k v K⟩
def window_Fold_L : Cuts := mkL [(8, window_Fold_l8_c)] []
theorem window_Fold_lo : LoopsOK window_Fold_C window_Fold_L window_Fold_b :=
  (show LoopsOK window_Fold_C window_Fold_L window_Fold_b = ((LoopOK window_Fold_C window_Fold_L window_Fold_l8_c (nthB (loopsOf window_Fold_b) 0) ∧ True) ∧ True) by kernel_rfl).mpr ⟨⟨⟨window_Fold_l8_F, fun v K => by kernel_rfl, fun v K => by kernel_rfl, fun k v K => by kernel_rfl⟩, trivial⟩, trivial⟩
theorem window_Fold_jo : JoinsOK window_Fold_C window_Fold_L window_Fold_b := (show JoinsOK window_Fold_C window_Fold_L window_Fold_b = True by kernel_rfl).mpr trivial
theorem window_Fold_ok : EntOK Try.prog 18 window_Fold_e :=
  entOf_ok (e := evFn window_Fold_C window_Fold_L Try.f18) (fun v n K => Eq.trans (window_Fold_def v.1 (K (.ns) []) (fun (r0 : (List Int)) => K (.os (n + 0)) [.val true false 3 (.row (.int .i64)) r0])) (by kernel_rfl)) (evFn_ok (mkCE_all (fns := window_Fold_f) tys_ok eqs_ok ⟨⟨window_within_ok, Try.call43⟩, ⟨window_Slope_ok, Try.call42⟩, ⟨num_Shr_ok, Try.call46⟩, trivial⟩ mixed) Try.func18 (show Try.f18.body = some window_Fold_b by kernel_rfl) ⟨window_Fold_lo, window_Fold_jo, by kernel_rfl⟩)

def R01_Same_e : Ent := entOf [.tm (.sl (.int .i64)), .tm (.sl (.int .i64))] fun (v : (List Int) × (List Int) × Unit) n K => R01_Same v.1 v.2.1 (fun (r0 : Bool) => K (.t true .bool r0) [])
def R01_Same_f : List (Nat × Ent) := []
def R01_Same_C : Cfg := mkCE tys eqs R01_Same_f
def R01_Same_b : Code := match Try.f29.body with | some c => c | none => .skip
def R01_Same_y0 : Lay := ⟨26, [(0, .tm false (.sl (.int .i64))), (1, .tm false (.sl (.int .i64))), (5, .tm true (.int .i64))], []⟩
def R01_Same_y1 : Lay := ⟨26, [(4, .tm true .bool)], []⟩
def R01_Same_y2 : Lay := ⟨26, [], []⟩
def R01_Same_l4_F (k : Nat) (v : ((List Int) × (List Int) × Int × Unit) × (Unit)) (K : KK) : Prop := R01_Same_l4 k v.1.1 v.1.2.1 v.1.2.2.1 (fun (y0 : Bool) => K .ret (st R01_Same_y1 ((y0, ()), (())))) (K (.exit 0) (st R01_Same_y2 ((()), (()))))
def R01_Same_l4_c : Cut := ⟨R01_Same_y0, fun o => match o with | .ret => some R01_Same_y1 | .exit 0 => some R01_Same_y2 | _ => none, fun (v : ((List Int) × (List Int) × Int × Unit) × (Unit)) K => ∃ k, R01_Same_l4_F k v K⟩
def R01_Same_L : Cuts := mkL [(4, R01_Same_l4_c)] []
theorem R01_Same_lo : LoopsOK R01_Same_C R01_Same_L R01_Same_b :=
  (show LoopsOK R01_Same_C R01_Same_L R01_Same_b = ((LoopOK R01_Same_C R01_Same_L R01_Same_l4_c (nthB (loopsOf R01_Same_b) 0) ∧ True) ∧ True) by kernel_rfl).mpr ⟨⟨⟨R01_Same_l4_F, fun v K => by kernel_rfl, fun v K => by kernel_rfl, fun k v K => by kernel_rfl⟩, trivial⟩, trivial⟩
theorem R01_Same_jo : JoinsOK R01_Same_C R01_Same_L R01_Same_b := (show JoinsOK R01_Same_C R01_Same_L R01_Same_b = True by kernel_rfl).mpr trivial
theorem R01_Same_ok : EntOK Try.prog 29 R01_Same_e :=
  entOf_ok (e := evFn R01_Same_C R01_Same_L Try.f29) (fun v n K => Eq.trans (R01_Same_def v.1 v.2.1 (fun (r0 : Bool) => K (.t true .bool r0) [])) (by kernel_rfl)) (evFn_ok (mkCE_all (fns := R01_Same_f) tys_ok eqs_ok trivial mixed) Try.func29 (show Try.f29.body = some R01_Same_b by kernel_rfl) ⟨R01_Same_lo, R01_Same_jo, by kernel_rfl⟩)

def L11_awake_e : Ent := entOf [] fun (v : Unit) n K => L11_awake (fun (r0 : Bool) => K (.t true .bool r0) [])
def L11_awake_f : List (Nat × Ent) := [(18, window_Fold_e), (29, R01_Same_e), (42, window_Slope_e)]
def L11_awake_C : Cfg := mkCE tys eqs L11_awake_f
def L11_awake_b : Code := match Try.f11.body with | some c => c | none => .skip
def L11_awake_y0 : Lay := ⟨35, [(2, .fx (.os 0)), (3, .fx (.os 1))], [.val true false 3 (.row (.int .i64)), .val true false 3 (.row (.int .i64))]⟩
def L11_awake_y1 : Lay := ⟨35, [(0, .tm true .bool)], []⟩
def L11_awake_j5_c : Cut := ⟨L11_awake_y0, fun o => match o with | .ret => some L11_awake_y1 | _ => none, fun (v : (Unit) × ((List Int) × (List Int) × Unit)) (K : KK) => L11_awake_j5 v.2.1 v.2.2.1 (fun (y0 : Bool) => K .ret (st L11_awake_y1 ((y0, ()), (()))))⟩
def L11_awake_y2 : Lay := ⟨35, [(1, .fx (.os 0)), (2, .fx (.os 1))], [.val true true 3 (.row (.int .i64)), .val true false 3 (.row (.int .i64))]⟩
def L11_awake_j3_c : Cut := ⟨L11_awake_y2, fun o => match o with | .ret => some L11_awake_y1 | _ => none, fun (v : (Unit) × ((List Int) × (List Int) × Unit)) (K : KK) => L11_awake_j3 v.2.1 v.2.2.1 (fun (y0 : Bool) => K .ret (st L11_awake_y1 ((y0, ()), (()))))⟩
def L11_awake_L : Cuts := mkL [] [(5, L11_awake_j5_c), (3, L11_awake_j3_c)]
theorem L11_awake_lo : LoopsOK L11_awake_C L11_awake_L L11_awake_b := (show LoopsOK L11_awake_C L11_awake_L L11_awake_b = True by kernel_rfl).mpr trivial
theorem L11_awake_jo : JoinsOK L11_awake_C L11_awake_L L11_awake_b :=
  (show JoinsOK L11_awake_C L11_awake_L L11_awake_b = ((JoinOK L11_awake_C L11_awake_L L11_awake_j3_c (nthB (joinsOf L11_awake_L L11_awake_b) 0) ∧ True) ∧ (JoinOK L11_awake_C L11_awake_L L11_awake_j5_c (nthB (joinsOf L11_awake_L L11_awake_b) 1) ∧ True) ∧ True) by kernel_rfl).mpr ⟨⟨fun v K => by kernel_rfl, trivial⟩, ⟨fun v K => by kernel_rfl, trivial⟩, trivial⟩
theorem L11_awake_ok : EntOK Try.prog 11 L11_awake_e :=
  entOf_ok (e := evFn L11_awake_C L11_awake_L Try.f11) (fun v n K => Eq.trans (L11_awake_def (fun (r0 : Bool) => K (.t true .bool r0) [])) (by kernel_rfl)) (evFn_ok (mkCE_all (fns := L11_awake_f) tys_ok eqs_ok ⟨⟨window_Fold_ok, Try.call18⟩, ⟨R01_Same_ok, Try.call29⟩, ⟨window_Slope_ok, Try.call42⟩, trivial⟩ mixed) Try.func11 (show Try.f11.body = some L11_awake_b by kernel_rfl) ⟨L11_awake_lo, L11_awake_jo, by kernel_rfl⟩)

def window_Left_e : Ent := entOf [.tm (.sl (.int .i64))] fun (v : (List Int) × Unit) n K => window_Left v.1 (fun (r0 : (List Int)) => K (.t true (.arr 8 (.int .i64)) r0) [])
def window_Left_f : List (Nat × Ent) := [(43, window_within_e), (42, window_Slope_e)]
def window_Left_C : Cfg := mkCE tys eqs window_Left_f
def window_Left_b : Code := match Try.f12.body with | some c => c | none => .skip
def window_Left_y0 : Lay := ⟨40, [(0, .tm false (.sl (.int .i64))), (2, .fx (.op 0 (.arr 8 (.int .i64)) [])), (3, .fx (.op 1 (.arr 8 (.int .i64)) [])), (4, .fx (.op 2 (.arr 8 (.int .i64)) [])), (11, .tm true (.int .i64))], [.val true true 23 (.arr 8 (.int .i64)), .val true true 23 (.arr 8 (.int .i64)), .val true true 23 (.arr 8 (.int .i64))]⟩
def window_Left_y1 : Lay := ⟨40, [(2, .fx (.op 0 (.arr 8 (.int .i64)) [])), (3, .fx (.op 1 (.arr 8 (.int .i64)) []))], [.val true true 23 (.arr 8 (.int .i64)), .val true true 23 (.arr 8 (.int .i64))]⟩
def window_Left_l6_F (k : Nat) (v : ((List Int) × Int × Unit) × ((List Int) × (List Int) × (List Int) × Unit)) (K : KK) : Prop := window_Left_l6 k v.1.1 v.1.2.1 v.2.1 v.2.2.1 v.2.2.2.1 (fun (y0 : (List Int)) (y1 : (List Int)) => K (.exit 0) (st window_Left_y1 ((()), (y0, y1, ()))))
def window_Left_l6_c : Cut := ⟨window_Left_y0, fun o => match o with | .exit 0 => some window_Left_y1 | _ => none, fun (v : ((List Int) × Int × Unit) × ((List Int) × (List Int) × (List Int) × Unit)) K => ∃ k, window_Left_l6_F k v K⟩
def window_Left_L : Cuts := mkL [(6, window_Left_l6_c)] []
theorem window_Left_lo : LoopsOK window_Left_C window_Left_L window_Left_b :=
  (show LoopsOK window_Left_C window_Left_L window_Left_b = ((LoopOK window_Left_C window_Left_L window_Left_l6_c (nthB (loopsOf window_Left_b) 0) ∧ True) ∧ True) by kernel_rfl).mpr ⟨⟨⟨window_Left_l6_F, fun v K => by kernel_rfl, fun v K => by kernel_rfl, fun k v K => by kernel_rfl⟩, trivial⟩, trivial⟩
theorem window_Left_jo : JoinsOK window_Left_C window_Left_L window_Left_b := (show JoinsOK window_Left_C window_Left_L window_Left_b = True by kernel_rfl).mpr trivial
theorem window_Left_ok : EntOK Try.prog 12 window_Left_e :=
  entOf_ok (e := evFn window_Left_C window_Left_L Try.f12) (fun v n K => Eq.trans (window_Left_def v.1 (fun (r0 : (List Int)) => K (.t true (.arr 8 (.int .i64)) r0) [])) (by kernel_rfl)) (evFn_ok (mkCE_all (fns := window_Left_f) tys_ok eqs_ok ⟨⟨window_within_ok, Try.call43⟩, ⟨window_Slope_ok, Try.call42⟩, trivial⟩ mixed) Try.func12 (show Try.f12.body = some window_Left_b by kernel_rfl) ⟨window_Left_lo, window_Left_jo, by kernel_rfl⟩)

end
end Go.Eng.A
