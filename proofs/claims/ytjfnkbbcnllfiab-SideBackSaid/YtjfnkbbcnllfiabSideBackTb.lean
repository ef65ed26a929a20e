/- Each of these functions is what the program computes: printed by program. -/
import Derived.Test.YtjfnkbbcnllfiabEngT
import Derived.Test.YtjfnkbbcnllfiabSideBackP
import Derived.Test.YtjfnkbbcnllfiabProg
import Derived.Test.YtjfnkbbcnllfiabSideBackTa
set_option linter.unusedVariables false
set_option maxRecDepth 100000
namespace Go.Eng.A
open Go Go.Eng Go.Proofs
noncomputable section

def side_Split_1_e : Ent := entOf [.tm (.int .i64), .tm (.int .i64)] fun (v : Int × Int × Unit) n K => side_Split_1 v.1 v.2.1 (fun (r0 : Int) (r1 : Int) => K (.tu [.t true (.int .i64) r0, .t true (.int .i64) r1]) [])
def side_Split_1_f : List (Nat × Ent) := [(38, num_Shr_e)]
def side_Split_1_C : Cfg := mkC tys side_Split_1_f
def side_Split_1_b : Code := match Try.f37.body with | some c => c | none => .skip
def side_Split_1_L : Cuts := mkL [] []
theorem side_Split_1_lo : LoopsOK side_Split_1_C side_Split_1_L side_Split_1_b := (show LoopsOK side_Split_1_C side_Split_1_L side_Split_1_b = True by kernel_rfl).mpr trivial
theorem side_Split_1_jo : JoinsOK side_Split_1_C side_Split_1_L side_Split_1_b := (show JoinsOK side_Split_1_C side_Split_1_L side_Split_1_b = True by kernel_rfl).mpr trivial
theorem side_Split_1_ok : EntOK Try.prog 37 side_Split_1_e :=
  entOf_ok (e := evFn side_Split_1_C side_Split_1_L Try.f37) (fun v n K => Eq.trans (side_Split_1_def v.1 v.2.1 (fun (r0 : Int) (r1 : Int) => K (.tu [.t true (.int .i64) r0, .t true (.int .i64) r1]) [])) (by kernel_rfl)) (evFn_ok (mkC_all (fns := side_Split_1_f) tys_ok ⟨⟨num_Shr_ok, Try.call38⟩, trivial⟩ mixed) Try.func37 (show Try.f37.body = some side_Split_1_b by kernel_rfl) ⟨side_Split_1_lo, side_Split_1_jo, by kernel_rfl⟩)

def side_both__side_Split_1_e : Ent := entOf [.tm (.sl (.int .i64)), .tm (.sl (.int .i64)), .fn 37 []] fun (v : (List Int) × (List Int) × (Unit) × Unit) n K => side_both__side_Split_1 v.1 v.2.1 (K (.tu [.ns, .ns]) []) (fun (r0 : (List Int)) (r1 : (List Int)) => K (.tu [.os (n + 0), .os (n + 1)]) [.val true true 3 (.row (.int .i64)) r0, .val true true 3 (.row (.int .i64)) r1])
def side_both__side_Split_1_f : List (Nat × Ent) := [(47, side_right_e), (37, side_Split_1_e)]
def side_both__side_Split_1_C : Cfg := mkC tys side_both__side_Split_1_f
def side_both__side_Split_1_b : Code := match Try.f34.body with | some c => c | none => .skip
def side_both__side_Split_1_y0 : Lay := ⟨48, [(1, .tm false (.sl (.int .i64))), (2, .fx (.fn 37 [])), (8, .fx (.os 0)), (9, .fx (.os 1)), (22, .tm false (.sl (.int .i64))), (23, .tm true (.int .i64)), (24, .tm true (.int .i64))], [.val true true 3 (.row (.int .i64)), .val true true 3 (.row (.int .i64))]⟩
def side_both__side_Split_1_y1 : Lay := ⟨48, [(8, .fx (.os 0)), (9, .fx (.os 1))], [.val true true 3 (.row (.int .i64)), .val true true 3 (.row (.int .i64))]⟩
def side_both__side_Split_1_l5_F (k : Nat) (v : ((List Int) × (List Int) × Int × Int × Unit) × ((List Int) × (List Int) × Unit)) (K : KK) : Prop := side_both__side_Split_1_l5 k v.1.1 v.1.2.1 v.1.2.2.1 v.1.2.2.2.1 v.2.1 v.2.2.1 (fun (y0 : (List Int)) (y1 : (List Int)) => K (.exit 0) (st side_both__side_Split_1_y1 ((()), (y0, y1, ()))))
def side_both__side_Split_1_l5_c : Cut := ⟨side_both__side_Split_1_y0, fun o => match o with | .exit 0 => some side_both__side_Split_1_y1 | _ => none, fun (v : ((List Int) × (List Int) × Int × Int × Unit) × ((List Int) × (List Int) × Unit)) K => ∃ k, side_both__side_Split_1_l5_F k v K⟩
def side_both__side_Split_1_L : Cuts := mkL [(5, side_both__side_Split_1_l5_c)] []
theorem side_both__side_Split_1_lo : LoopsOK side_both__side_Split_1_C side_both__side_Split_1_L side_both__side_Split_1_b :=
  (show LoopsOK side_both__side_Split_1_C side_both__side_Split_1_L side_both__side_Split_1_b = ((LoopOK side_both__side_Split_1_C side_both__side_Split_1_L side_both__side_Split_1_l5_c (nthB (loopsOf side_both__side_Split_1_b) 0) ∧ True) ∧ True) by kernel_rfl).mpr ⟨⟨⟨side_both__side_Split_1_l5_F, fun v K => by kernel_rfl, fun v K => by kernel_rfl, fun k v K => by kernel_rfl⟩, trivial⟩, trivial⟩
theorem side_both__side_Split_1_jo : JoinsOK side_both__side_Split_1_C side_both__side_Split_1_L side_both__side_Split_1_b := (show JoinsOK side_both__side_Split_1_C side_both__side_Split_1_L side_both__side_Split_1_b = True by kernel_rfl).mpr trivial
theorem side_both__side_Split_1_ok : EntOK Try.prog 34 side_both__side_Split_1_e :=
  entOf_ok (e := evFn side_both__side_Split_1_C side_both__side_Split_1_L Try.f34) (fun v n K => Eq.trans (side_both__side_Split_1_def v.1 v.2.1 (K (.tu [.ns, .ns]) []) (fun (r0 : (List Int)) (r1 : (List Int)) => K (.tu [.os (n + 0), .os (n + 1)]) [.val true true 3 (.row (.int .i64)) r0, .val true true 3 (.row (.int .i64)) r1])) (by kernel_rfl)) (evFn_ok (mkC_all (fns := side_both__side_Split_1_f) tys_ok ⟨⟨side_right_ok, Try.call47⟩, ⟨side_Split_1_ok, Try.call37⟩, trivial⟩ mixed) Try.func34 (show Try.f34.body = some side_both__side_Split_1_b by kernel_rfl) ⟨side_both__side_Split_1_lo, side_both__side_Split_1_jo, by kernel_rfl⟩)

def side_Split_e : Ent := entOf [.tm (.sl (.int .i64)), .tm (.sl (.int .i64))] fun (v : (List Int) × (List Int) × Unit) n K => side_Split v.1 v.2.1 (K (.tu [.ns, .ns]) []) (fun (r0 : (List Int)) (r1 : (List Int)) => K (.tu [.os (n + 0), .os (n + 1)]) [.val true true 3 (.row (.int .i64)) r0, .val true true 3 (.row (.int .i64)) r1])
def side_Split_f : List (Nat × Ent) := [(34, side_both__side_Split_1_e)]
def side_Split_C : Cfg := mkC tys side_Split_f
def side_Split_b : Code := match Try.f18.body with | some c => c | none => .skip
def side_Split_L : Cuts := mkL [] []
theorem side_Split_lo : LoopsOK side_Split_C side_Split_L side_Split_b := (show LoopsOK side_Split_C side_Split_L side_Split_b = True by kernel_rfl).mpr trivial
theorem side_Split_jo : JoinsOK side_Split_C side_Split_L side_Split_b := (show JoinsOK side_Split_C side_Split_L side_Split_b = True by kernel_rfl).mpr trivial
theorem side_Split_ok : EntOK Try.prog 18 side_Split_e :=
  entOf_ok (e := evFn side_Split_C side_Split_L Try.f18) (fun v n K => Eq.trans (side_Split_def v.1 v.2.1 (K (.tu [.ns, .ns]) []) (fun (r0 : (List Int)) (r1 : (List Int)) => K (.tu [.os (n + 0), .os (n + 1)]) [.val true true 3 (.row (.int .i64)) r0, .val true true 3 (.row (.int .i64)) r1])) (by kernel_rfl)) (evFn_ok (mkC_all (fns := side_Split_f) tys_ok ⟨⟨side_both__side_Split_1_ok, Try.call34⟩, trivial⟩ mixed) Try.func18 (show Try.f18.body = some side_Split_b by kernel_rfl) ⟨side_Split_lo, side_Split_jo, by kernel_rfl⟩)

def R01_Same_e : Ent := entOf [.tm (.sl (.int .i64)), .tm (.sl (.int .i64))] fun (v : (List Int) × (List Int) × Unit) n K => R01_Same v.1 v.2.1 (fun (r0 : Bool) => K (.t true .bool r0) [])
def R01_Same_f : List (Nat × Ent) := []
def R01_Same_C : Cfg := mkC tys R01_Same_f
def R01_Same_b : Code := match Try.f13.body with | some c => c | none => .skip
def R01_Same_y0 : Lay := ⟨26, [(0, .tm false (.sl (.int .i64))), (1, .tm false (.sl (.int .i64))), (5, .tm true (.int .i64))], []⟩
def R01_Same_y1 : Lay := ⟨26, [(4, .tm true .bool)], []⟩
def R01_Same_y2 : Lay := ⟨26, [], []⟩
def R01_Same_l4_F (k : Nat) (v : ((List Int) × (List Int) × Int × Unit) × (Unit)) (K : KK) : Prop := R01_Same_l4 k v.1.1 v.1.2.1 v.1.2.2.1 (fun (y0 : Bool) => K .ret (st R01_Same_y1 ((y0, ()), (())))) (K (.exit 0) (st R01_Same_y2 ((()), (()))))
def R01_Same_l4_c : Cut := ⟨R01_Same_y0, fun o => match o with | .ret => some R01_Same_y1 | .exit 0 => some R01_Same_y2 | _ => none, fun (v : ((List Int) × (List Int) × Int × Unit) × (Unit)) K => ∃ k, R01_Same_l4_F k v K⟩
def R01_Same_L : Cuts := mkL [(4, R01_Same_l4_c)] []
theorem R01_Same_lo : LoopsOK R01_Same_C R01_Same_L R01_Same_b :=
  (show LoopsOK R01_Same_C R01_Same_L R01_Same_b = ((LoopOK R01_Same_C R01_Same_L R01_Same_l4_c (nthB (loopsOf R01_Same_b) 0) ∧ True) ∧ True) by kernel_rfl).mpr ⟨⟨⟨R01_Same_l4_F, fun v K => by kernel_rfl, fun v K => by kernel_rfl, fun k v K => by kernel_rfl⟩, trivial⟩, trivial⟩
theorem R01_Same_jo : JoinsOK R01_Same_C R01_Same_L R01_Same_b := (show JoinsOK R01_Same_C R01_Same_L R01_Same_b = True by kernel_rfl).mpr trivial
theorem R01_Same_ok : EntOK Try.prog 13 R01_Same_e :=
  entOf_ok (e := evFn R01_Same_C R01_Same_L Try.f13) (fun v n K => Eq.trans (R01_Same_def v.1 v.2.1 (fun (r0 : Bool) => K (.t true .bool r0) [])) (by kernel_rfl)) (evFn_ok (mkC_all (fns := R01_Same_f) tys_ok trivial mixed) Try.func13 (show Try.f13.body = some R01_Same_b by kernel_rfl) ⟨R01_Same_lo, R01_Same_jo, by kernel_rfl⟩)

def num_Abs_e : Ent := entOf [.tm (.int .i64)] fun (v : Int × Unit) n K => num_Abs v.1 (fun (r0 : Int) => K (.t true (.int .i64) r0) [])
def num_Abs_f : List (Nat × Ent) := [(48, num_within_e)]
def num_Abs_C : Cfg := mkC tys num_Abs_f
def num_Abs_b : Code := match Try.f40.body with | some c => c | none => .skip
def num_Abs_L : Cuts := mkL [] []
theorem num_Abs_lo : LoopsOK num_Abs_C num_Abs_L num_Abs_b := (show LoopsOK num_Abs_C num_Abs_L num_Abs_b = True by kernel_rfl).mpr trivial
theorem num_Abs_jo : JoinsOK num_Abs_C num_Abs_L num_Abs_b := (show JoinsOK num_Abs_C num_Abs_L num_Abs_b = True by kernel_rfl).mpr trivial
theorem num_Abs_ok : EntOK Try.prog 40 num_Abs_e :=
  entOf_ok (e := evFn num_Abs_C num_Abs_L Try.f40) (fun v n K => Eq.trans (num_Abs_def v.1 (fun (r0 : Int) => K (.t true (.int .i64) r0) [])) (by kernel_rfl)) (evFn_ok (mkC_all (fns := num_Abs_f) tys_ok ⟨⟨num_within_ok, Try.call48⟩, trivial⟩ mixed) Try.func40 (show Try.f40.body = some num_Abs_b by kernel_rfl) ⟨num_Abs_lo, num_Abs_jo, by kernel_rfl⟩)

def side_Better_e : Ent := entOf [.tm (.sl (.int .i64)), .tm (.sl (.int .i64))] fun (v : (List Int) × (List Int) × Unit) n K => side_Better v.1 v.2.1 (fun (r0 : Bool) => K (.t true .bool r0) [])
def side_Better_f : List (Nat × Ent) := [(18, side_Split_e), (40, num_Abs_e)]
def side_Better_C : Cfg := mkC tys side_Better_f
def side_Better_b : Code := match Try.f20.body with | some c => c | none => .skip
def side_Better_y0 : Lay := ⟨53, [(0, .tm false (.sl (.int .i64))), (1, .tm false (.sl (.int .i64))), (5, .tm true (.int .i64)), (6, .tm true (.int .i64)), (7, .fx (.os 0)), (8, .fx (.os 1)), (17, .tm true (.int .i64)), (18, .tm true (.int .i64))], [.val true true 3 (.row (.int .i64)), .val true true 3 (.row (.int .i64))]⟩
def side_Better_y1 : Lay := ⟨53, [(5, .tm true (.int .i64)), (6, .tm true (.int .i64))], []⟩
def side_Better_l4_F (k : Nat) (v : ((List Int) × (List Int) × Int × Int × Int × Int × Unit) × ((List Int) × (List Int) × Unit)) (K : KK) : Prop := side_Better_l4 k v.1.1 v.1.2.1 v.1.2.2.1 v.1.2.2.2.1 v.1.2.2.2.2.1 v.1.2.2.2.2.2.1 v.2.1 v.2.2.1 (fun (y0 : Int) (y1 : Int) => K (.exit 0) (st side_Better_y1 ((y0, y1, ()), (()))))
def side_Better_l4_c : Cut := ⟨side_Better_y0, fun o => match o with | .exit 0 => some side_Better_y1 | _ => none, fun (v : ((List Int) × (List Int) × Int × Int × Int × Int × Unit) × ((List Int) × (List Int) × Unit)) K => ∃ k, side_Better_l4_F k v K⟩
def side_Better_y2 : Lay := ⟨53, [(0, .tm false (.sl (.int .i64))), (1, .tm false (.sl (.int .i64))), (5, .tm true (.int .i64)), (6, .tm true (.int .i64)), (7, .fx (.os 0)), (8, .fx (.os 1))], [.val true true 3 (.row (.int .i64)), .val true true 3 (.row (.int .i64))]⟩
def side_Better_y3 : Lay := ⟨53, [(4, .tm true .bool)], []⟩
def side_Better_j3_c : Cut := ⟨side_Better_y2, fun o => match o with | .ret => some side_Better_y3 | _ => none, fun (v : ((List Int) × (List Int) × Int × Int × Unit) × ((List Int) × (List Int) × Unit)) (K : KK) => side_Better_j3 v.1.1 v.1.2.1 v.1.2.2.1 v.1.2.2.2.1 v.2.1 v.2.2.1 (fun (y0 : Bool) => K .ret (st side_Better_y3 ((y0, ()), (()))))⟩
def side_Better_L : Cuts := mkL [(4, side_Better_l4_c)] [(3, side_Better_j3_c)]
theorem side_Better_lo : LoopsOK side_Better_C side_Better_L side_Better_b :=
  (show LoopsOK side_Better_C side_Better_L side_Better_b = ((LoopOK side_Better_C side_Better_L side_Better_l4_c (nthB (loopsOf side_Better_b) 0) ∧ True) ∧ True) by kernel_rfl).mpr ⟨⟨⟨side_Better_l4_F, fun v K => by kernel_rfl, fun v K => by kernel_rfl, fun k v K => by kernel_rfl⟩, trivial⟩, trivial⟩
theorem side_Better_jo : JoinsOK side_Better_C side_Better_L side_Better_b :=
  (show JoinsOK side_Better_C side_Better_L side_Better_b = ((JoinOK side_Better_C side_Better_L side_Better_j3_c (nthB (joinsOf side_Better_L side_Better_b) 0) ∧ True) ∧ True) by kernel_rfl).mpr ⟨⟨fun v K => by kernel_rfl, trivial⟩, trivial⟩
theorem side_Better_ok : EntOK Try.prog 20 side_Better_e :=
  entOf_ok (e := evFn side_Better_C side_Better_L Try.f20) (fun v n K => Eq.trans (side_Better_def v.1 v.2.1 (fun (r0 : Bool) => K (.t true .bool r0) [])) (by kernel_rfl)) (evFn_ok (mkC_all (fns := side_Better_f) tys_ok ⟨⟨side_Split_ok, Try.call18⟩, ⟨num_Abs_ok, Try.call40⟩, trivial⟩ mixed) Try.func20 (show Try.f20.body = some side_Better_b by kernel_rfl) ⟨side_Better_lo, side_Better_jo, by kernel_rfl⟩)

def L19_awake_e : Ent := entOf [] fun (v : Unit) n K => L19_awake (fun (r0 : Bool) => K (.t true .bool r0) [])
def L19_awake_f : List (Nat × Ent) := [(16, side_Merge_e), (18, side_Split_e), (13, R01_Same_e), (20, side_Better_e)]
def L19_awake_C : Cfg := mkC tys L19_awake_f
def L19_awake_b : Code := match Try.f15.body with | some c => c | none => .skip
def L19_awake_y0 : Lay := ⟨46, [(1, .fx (.os 0)), (2, .fx (.os 1)), (3, .fx (.os 2)), (4, .fx (.os 3))], [.val true true 3 (.row (.int .i64)), .val true true 3 (.row (.int .i64)), .val true true 3 (.row (.int .i64)), .val true true 3 (.row (.int .i64))]⟩
def L19_awake_y1 : Lay := ⟨46, [(0, .tm true .bool)], []⟩
def L19_awake_j3_c : Cut := ⟨L19_awake_y0, fun o => match o with | .ret => some L19_awake_y1 | _ => none, fun (v : (Unit) × ((List Int) × (List Int) × (List Int) × (List Int) × Unit)) (K : KK) => L19_awake_j3 v.2.1 v.2.2.1 v.2.2.2.1 v.2.2.2.2.1 (fun (y0 : Bool) => K .ret (st L19_awake_y1 ((y0, ()), (()))))⟩
def L19_awake_y2 : Lay := ⟨46, [(1, .fx (.os 0)), (2, .fx (.os 1))], [.val true true 3 (.row (.int .i64)), .val true true 3 (.row (.int .i64))]⟩
def L19_awake_j2_c : Cut := ⟨L19_awake_y2, fun o => match o with | .ret => some L19_awake_y1 | _ => none, fun (v : (Unit) × ((List Int) × (List Int) × Unit)) (K : KK) => L19_awake_j2 v.2.1 v.2.2.1 (fun (y0 : Bool) => K .ret (st L19_awake_y1 ((y0, ()), (()))))⟩
def L19_awake_L : Cuts := mkL [] [(3, L19_awake_j3_c), (2, L19_awake_j2_c)]
theorem L19_awake_lo : LoopsOK L19_awake_C L19_awake_L L19_awake_b := (show LoopsOK L19_awake_C L19_awake_L L19_awake_b = True by kernel_rfl).mpr trivial
theorem L19_awake_jo : JoinsOK L19_awake_C L19_awake_L L19_awake_b :=
  (show JoinsOK L19_awake_C L19_awake_L L19_awake_b = ((JoinOK L19_awake_C L19_awake_L L19_awake_j2_c (nthB (joinsOf L19_awake_L L19_awake_b) 0) ∧ True) ∧ (JoinOK L19_awake_C L19_awake_L L19_awake_j3_c (nthB (joinsOf L19_awake_L L19_awake_b) 1) ∧ True) ∧ True) by kernel_rfl).mpr ⟨⟨fun v K => by kernel_rfl, trivial⟩, ⟨fun v K => by kernel_rfl, trivial⟩, trivial⟩
theorem L19_awake_ok : EntOK Try.prog 15 L19_awake_e :=
  entOf_ok (e := evFn L19_awake_C L19_awake_L Try.f15) (fun v n K => Eq.trans (L19_awake_def (fun (r0 : Bool) => K (.t true .bool r0) [])) (by kernel_rfl)) (evFn_ok (mkC_all (fns := L19_awake_f) tys_ok ⟨⟨side_Merge_ok, Try.call16⟩, ⟨side_Split_ok, Try.call18⟩, ⟨R01_Same_ok, Try.call13⟩, ⟨side_Better_ok, Try.call20⟩, trivial⟩ mixed) Try.func15 (show Try.f15.body = some L19_awake_b by kernel_rfl) ⟨L19_awake_lo, L19_awake_jo, by kernel_rfl⟩)

end
end Go.Eng.A
