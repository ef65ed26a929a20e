/- Each of these functions is what the program computes: printed by program. -/
import Derived.Test.YtjfnkbbcnllfiabEngT
import Derived.Test.YtjfnkbbcnllfiabSideTellsP
import Derived.Test.YtjfnkbbcnllfiabProg
import Derived.Test.YtjfnkbbcnllfiabSideTellsTa
set_option linter.unusedVariables false
set_option maxRecDepth 100000
namespace Go.Eng.A
open Go Go.Eng Go.Proofs
noncomputable section

def L19_awake_e : Ent := entOf [] fun (v : Unit) n K => L19_awake (fun (r0 : Bool) => K (.t true .bool r0) [])
def L19_awake_f : List (Nat × Ent) := [(16, side_Merge_e), (18, side_Split_e), (13, R01_Same_e), (20, side_Better_e)]
def L19_awake_C : Cfg := mkC tys L19_awake_f
def L19_awake_b : Code := match Try.f15.body with | some c => c | none => .skip
def L19_awake_y0 : Lay := ⟨46, [(1, .fx (.os 0)), (2, .fx (.os 1)), (3, .fx (.os 2)), (4, .fx (.os 3))], [.val true true 3 (.row (.int .i64)), .val true true 3 (.row (.int .i64)), .val true true 3 (.row (.int .i64)), .val true true 3 (.row (.int .i64))]⟩
def L19_awake_y1 : Lay := ⟨46, [(0, .tm true .bool)], []⟩
def L19_awake_j3_c : Cut := ⟨L19_awake_y0, fun o => match o with | .ret => some L19_awake_y1 | _ => none, fun (v : (Unit) × ((List Int) × (List Int) × (List Int) × (List Int) × Unit)) (K : KK) => L19_awake_j3 v.2.1 v.2.2.1 v.2.2.2.1 v.2.2.2.2.1 (fun (y0 : Bool) => K .ret (st L19_awake_y1 ((y0, ()), (()))))⟩
def L19_awake_y2 : Lay := ⟨46, [(1, .fx (.os 0)), (2, .fx (.os 1))], [.val true true 3 (.row (.int .i64)), .val true true 3 (.row (.int .i64))]⟩
def L19_awake_j2_c : Cut := ⟨L19_awake_y2, fun o => match o with | .ret => some L19_awake_y1 | _ => none, fun (v : (Unit) × ((List Int) × (List Int) × Unit)) (K : KK) => L19_awake_j2 v.2.1 v.2.2.1 (fun (y0 : Bool) => K .ret (st L19_awake_y1 ((y0, ()), (()))))⟩
def L19_awake_L : Cuts := mkL [] [(3, L19_awake_j3_c), (2, L19_awake_j2_c)]
theorem L19_awake_lo : LoopsOK L19_awake_C L19_awake_L L19_awake_b := (show LoopsOK L19_awake_C L19_awake_L L19_awake_b = True by kernel_rfl).mpr trivial
theorem L19_awake_jo : JoinsOK L19_awake_C L19_awake_L L19_awake_b :=
  (show JoinsOK L19_awake_C L19_awake_L L19_awake_b = ((JoinOK L19_awake_C L19_awake_L L19_awake_j2_c (nthB (joinsOf L19_awake_L L19_awake_b) 0) ∧ True) ∧ (JoinOK L19_awake_C L19_awake_L L19_awake_j3_c (nthB (joinsOf L19_awake_L L19_awake_b) 1) ∧ True) ∧ True) by kernel_rfl).mpr ⟨⟨fun v K => by kernel_rfl, trivial⟩, ⟨fun v K => by kernel_rfl, trivial⟩, trivial⟩
theorem L19_awake_ok : EntOK Try.prog 15 L19_awake_e :=
  entOf_ok (e := evFn L19_awake_C L19_awake_L Try.f15) (fun v n K => by kernel_rfl) (evFn_ok (mkC_all (fns := L19_awake_f) tys_ok ⟨⟨side_Merge_ok, Try.call16⟩, ⟨side_Split_ok, Try.call18⟩, ⟨R01_Same_ok, Try.call13⟩, ⟨side_Better_ok, Try.call20⟩, trivial⟩ mixed) Try.func15 (show Try.f15.body = some L19_awake_b by kernel_rfl) ⟨L19_awake_lo, L19_awake_jo, by kernel_rfl⟩)

def R01_Within_e : Ent := entOf [.tm (.sl (.int .i64)), .tm (.int .i64), .tm (.int .i64)] fun (v : (List Int) × Int × Int × Unit) n K => R01_Within v.1 v.2.1 v.2.2.1 (fun (r0 : Bool) => K (.t true .bool r0) [])
def R01_Within_f : List (Nat × Ent) := []
def R01_Within_C : Cfg := mkC tys R01_Within_f
def R01_Within_b : Code := match Try.f12.body with | some c => c | none => .skip
def R01_Within_y0 : Lay := ⟨28, [(0, .tm false (.sl (.int .i64))), (1, .tm true (.int .i64)), (2, .tm true (.int .i64)), (7, .tm true (.int .i64))], []⟩
def R01_Within_y1 : Lay := ⟨28, [(6, .tm true .bool)], []⟩
def R01_Within_y2 : Lay := ⟨28, [], []⟩
def R01_Within_l2_F (k : Nat) (v : ((List Int) × Int × Int × Int × Unit) × (Unit)) (K : KK) : Prop := R01_Within_l2 k v.1.1 v.1.2.1 v.1.2.2.1 v.1.2.2.2.1 (fun (y0 : Bool) => K .ret (st R01_Within_y1 ((y0, ()), (())))) (K (.exit 0) (st R01_Within_y2 ((()), (()))))
def R01_Within_l2_c : Cut := ⟨R01_Within_y0, fun o => match o with | .ret => some R01_Within_y1 | .exit 0 => some R01_Within_y2 | _ => none, fun (v : ((List Int) × Int × Int × Int × Unit) × (Unit)) K => ∃ k, R01_Within_l2_F k v K⟩
def R01_Within_L : Cuts := mkL [(2, R01_Within_l2_c)] []
theorem R01_Within_lo : LoopsOK R01_Within_C R01_Within_L R01_Within_b :=
  (show LoopsOK R01_Within_C R01_Within_L R01_Within_b = ((LoopOK R01_Within_C R01_Within_L R01_Within_l2_c (nthB (loopsOf R01_Within_b) 0) ∧ True) ∧ True) by kernel_rfl).mpr ⟨⟨⟨R01_Within_l2_F, fun v K => by kernel_rfl, fun v K => by kernel_rfl, fun k v K => by kernel_rfl⟩, trivial⟩, trivial⟩
theorem R01_Within_jo : JoinsOK R01_Within_C R01_Within_L R01_Within_b := (show JoinsOK R01_Within_C R01_Within_L R01_Within_b = True by kernel_rfl).mpr trivial
theorem R01_Within_ok : EntOK Try.prog 12 R01_Within_e :=
  entOf_ok (e := evFn R01_Within_C R01_Within_L Try.f12) (fun v n K => by kernel_rfl) (evFn_ok (mkC_all (fns := R01_Within_f) tys_ok trivial mixed) Try.func12 (show Try.f12.body = some R01_Within_b by kernel_rfl) ⟨R01_Within_lo, R01_Within_jo, by kernel_rfl⟩)

def R19_Right_e : Ent := entOf [.tm (.sl (.int .i64)), .tm (.sl (.int .i64))] fun (v : (List Int) × (List Int) × Unit) n K => R19_Right v.1 v.2.1 (fun (r0 : Bool) => K (.t true .bool r0) [])
def R19_Right_f : List (Nat × Ent) := [(12, R01_Within_e)]
def R19_Right_C : Cfg := mkC tys R19_Right_f
def R19_Right_b : Code := match Try.f36.body with | some c => c | none => .skip
def R19_Right_L : Cuts := mkL [] []
theorem R19_Right_lo : LoopsOK R19_Right_C R19_Right_L R19_Right_b := (show LoopsOK R19_Right_C R19_Right_L R19_Right_b = True by kernel_rfl).mpr trivial
theorem R19_Right_jo : JoinsOK R19_Right_C R19_Right_L R19_Right_b := (show JoinsOK R19_Right_C R19_Right_L R19_Right_b = True by kernel_rfl).mpr trivial
theorem R19_Right_ok : EntOK Try.prog 36 R19_Right_e :=
  entOf_ok (e := evFn R19_Right_C R19_Right_L Try.f36) (fun v n K => by kernel_rfl) (evFn_ok (mkC_all (fns := R19_Right_f) tys_ok ⟨⟨R01_Within_ok, Try.call12⟩, trivial⟩ mixed) Try.func36 (show Try.f36.body = some R19_Right_b by kernel_rfl) ⟨R19_Right_lo, R19_Right_jo, by kernel_rfl⟩)

def R19_Merge_e : Ent := entOf [.tm (.sl (.int .i64)), .tm (.sl (.int .i64))] fun (v : (List Int) × (List Int) × Unit) n K => R19_Merge v.1 v.2.1 (K (.tu [.ns, .ns]) []) (fun (r0 : (List Int)) (r1 : (List Int)) => K (.tu [.os (n + 0), .os (n + 1)]) [.val true true 3 (.row (.int .i64)) r0, .val true true 3 (.row (.int .i64)) r1])
def R19_Merge_f : List (Nat × Ent) := [(36, R19_Right_e)]
def R19_Merge_C : Cfg := mkC tys R19_Merge_f
def R19_Merge_b : Code := match Try.f17.body with | some c => c | none => .skip
def R19_Merge_y0 : Lay := ⟨45, [(0, .tm false (.sl (.int .i64))), (1, .tm false (.sl (.int .i64))), (6, .fx (.os 0)), (7, .fx (.os 1)), (8, .tm true (.int .i64))], [.val true true 3 (.row (.int .i64)), .val true true 3 (.row (.int .i64))]⟩
def R19_Merge_y1 : Lay := ⟨45, [(6, .fx (.os 0)), (7, .fx (.os 1))], [.val true true 3 (.row (.int .i64)), .val true true 3 (.row (.int .i64))]⟩
def R19_Merge_l5_F (k : Nat) (v : ((List Int) × (List Int) × Int × Unit) × ((List Int) × (List Int) × Unit)) (K : KK) : Prop := R19_Merge_l5 k v.1.1 v.1.2.1 v.1.2.2.1 v.2.1 v.2.2.1 (fun (y0 : (List Int)) (y1 : (List Int)) => K (.exit 0) (st R19_Merge_y1 ((()), (y0, y1, ()))))
def R19_Merge_l5_c : Cut := ⟨R19_Merge_y0, fun o => match o with | .exit 0 => some R19_Merge_y1 | _ => none, fun (v : ((List Int) × (List Int) × Int × Unit) × ((List Int) × (List Int) × Unit)) K => ∃ k, R19_Merge_l5_F k v K⟩
def R19_Merge_L : Cuts := mkL [(5, R19_Merge_l5_c)] []
theorem R19_Merge_lo : LoopsOK R19_Merge_C R19_Merge_L R19_Merge_b :=
  (show LoopsOK R19_Merge_C R19_Merge_L R19_Merge_b = ((LoopOK R19_Merge_C R19_Merge_L R19_Merge_l5_c (nthB (loopsOf R19_Merge_b) 0) ∧ True) ∧ True) by kernel_rfl).mpr ⟨⟨⟨R19_Merge_l5_F, fun v K => by kernel_rfl, fun v K => by kernel_rfl, fun k v K => by kernel_rfl⟩, trivial⟩, trivial⟩
theorem R19_Merge_jo : JoinsOK R19_Merge_C R19_Merge_L R19_Merge_b := (show JoinsOK R19_Merge_C R19_Merge_L R19_Merge_b = True by kernel_rfl).mpr trivial
theorem R19_Merge_ok : EntOK Try.prog 17 R19_Merge_e :=
  entOf_ok (e := evFn R19_Merge_C R19_Merge_L Try.f17) (fun v n K => by kernel_rfl) (evFn_ok (mkC_all (fns := R19_Merge_f) tys_ok ⟨⟨R19_Right_ok, Try.call36⟩, trivial⟩ mixed) Try.func17 (show Try.f17.body = some R19_Merge_b by kernel_rfl) ⟨R19_Merge_lo, R19_Merge_jo, by kernel_rfl⟩)

def R01_Mod_e : Ent := entOf [.tm (.int .i64), .tm (.int .i64)] fun (v : Int × Int × Unit) n K => R01_Mod v.1 v.2.1 (fun (r0 : Int) (r1 : Int) => K (.tu [.t true (.int .i64) r0, .t true (.int .i64) r1]) [])
def R01_Mod_f : List (Nat × Ent) := []
def R01_Mod_C : Cfg := mkC tys R01_Mod_f
def R01_Mod_b : Code := match Try.f43.body with | some c => c | none => .skip
def R01_Mod_L : Cuts := mkL [] []
theorem R01_Mod_lo : LoopsOK R01_Mod_C R01_Mod_L R01_Mod_b := (show LoopsOK R01_Mod_C R01_Mod_L R01_Mod_b = True by kernel_rfl).mpr trivial
theorem R01_Mod_jo : JoinsOK R01_Mod_C R01_Mod_L R01_Mod_b := (show JoinsOK R01_Mod_C R01_Mod_L R01_Mod_b = True by kernel_rfl).mpr trivial
theorem R01_Mod_ok : EntOK Try.prog 43 R01_Mod_e :=
  entOf_ok (e := evFn R01_Mod_C R01_Mod_L Try.f43) (fun v n K => by kernel_rfl) (evFn_ok (mkC_all (fns := R01_Mod_f) tys_ok trivial mixed) Try.func43 (show Try.f43.body = some R01_Mod_b by kernel_rfl) ⟨R01_Mod_lo, R01_Mod_jo, by kernel_rfl⟩)

def R01_Shr_e : Ent := entOf [.tm (.int .i64), .tm (.int .i64)] fun (v : Int × Int × Unit) n K => R01_Shr v.1 v.2.1 (fun (r0 : Int) => K (.t true (.int .i64) r0) [])
def R01_Shr_f : List (Nat × Ent) := [(43, R01_Mod_e)]
def R01_Shr_C : Cfg := mkC tys R01_Shr_f
def R01_Shr_b : Code := match Try.f39.body with | some c => c | none => .skip
def R01_Shr_L : Cuts := mkL [] []
theorem R01_Shr_lo : LoopsOK R01_Shr_C R01_Shr_L R01_Shr_b := (show LoopsOK R01_Shr_C R01_Shr_L R01_Shr_b = True by kernel_rfl).mpr trivial
theorem R01_Shr_jo : JoinsOK R01_Shr_C R01_Shr_L R01_Shr_b := (show JoinsOK R01_Shr_C R01_Shr_L R01_Shr_b = True by kernel_rfl).mpr trivial
theorem R01_Shr_ok : EntOK Try.prog 39 R01_Shr_e :=
  entOf_ok (e := evFn R01_Shr_C R01_Shr_L Try.f39) (fun v n K => by kernel_rfl) (evFn_ok (mkC_all (fns := R01_Shr_f) tys_ok ⟨⟨R01_Mod_ok, Try.call43⟩, trivial⟩ mixed) Try.func39 (show Try.f39.body = some R01_Shr_b by kernel_rfl) ⟨R01_Shr_lo, R01_Shr_jo, by kernel_rfl⟩)

def R19_Split_e : Ent := entOf [.tm (.sl (.int .i64)), .tm (.sl (.int .i64))] fun (v : (List Int) × (List Int) × Unit) n K => R19_Split v.1 v.2.1 (K (.tu [.ns, .ns]) []) (fun (r0 : (List Int)) (r1 : (List Int)) => K (.tu [.os (n + 0), .os (n + 1)]) [.val true true 3 (.row (.int .i64)) r0, .val true true 3 (.row (.int .i64)) r1])
def R19_Split_f : List (Nat × Ent) := [(36, R19_Right_e), (39, R01_Shr_e)]
def R19_Split_C : Cfg := mkC tys R19_Split_f
def R19_Split_b : Code := match Try.f19.body with | some c => c | none => .skip
def R19_Split_y0 : Lay := ⟨47, [(0, .tm false (.sl (.int .i64))), (1, .tm false (.sl (.int .i64))), (6, .fx (.os 0)), (7, .fx (.os 1)), (8, .tm true (.int .i64))], [.val true true 3 (.row (.int .i64)), .val true true 3 (.row (.int .i64))]⟩
def R19_Split_y1 : Lay := ⟨47, [(6, .fx (.os 0)), (7, .fx (.os 1))], [.val true true 3 (.row (.int .i64)), .val true true 3 (.row (.int .i64))]⟩
def R19_Split_l5_F (k : Nat) (v : ((List Int) × (List Int) × Int × Unit) × ((List Int) × (List Int) × Unit)) (K : KK) : Prop := R19_Split_l5 k v.1.1 v.1.2.1 v.1.2.2.1 v.2.1 v.2.2.1 (fun (y0 : (List Int)) (y1 : (List Int)) => K (.exit 0) (st R19_Split_y1 ((()), (y0, y1, ()))))
def R19_Split_l5_c : Cut := ⟨R19_Split_y0, fun o => match o with | .exit 0 => some R19_Split_y1 | _ => none, fun (v : ((List Int) × (List Int) × Int × Unit) × ((List Int) × (List Int) × Unit)) K => ∃ k, R19_Split_l5_F k v K⟩
def R19_Split_L : Cuts := mkL [(5, R19_Split_l5_c)] []
theorem R19_Split_lo : LoopsOK R19_Split_C R19_Split_L R19_Split_b :=
  (show LoopsOK R19_Split_C R19_Split_L R19_Split_b = ((LoopOK R19_Split_C R19_Split_L R19_Split_l5_c (nthB (loopsOf R19_Split_b) 0) ∧ True) ∧ True) by kernel_rfl).mpr ⟨⟨⟨R19_Split_l5_F, fun v K => by kernel_rfl, fun v K => by kernel_rfl, fun k v K => by kernel_rfl⟩, trivial⟩, trivial⟩
theorem R19_Split_jo : JoinsOK R19_Split_C R19_Split_L R19_Split_b := (show JoinsOK R19_Split_C R19_Split_L R19_Split_b = True by kernel_rfl).mpr trivial
theorem R19_Split_ok : EntOK Try.prog 19 R19_Split_e :=
  entOf_ok (e := evFn R19_Split_C R19_Split_L Try.f19) (fun v n K => by kernel_rfl) (evFn_ok (mkC_all (fns := R19_Split_f) tys_ok ⟨⟨R19_Right_ok, Try.call36⟩, ⟨R01_Shr_ok, Try.call39⟩, trivial⟩ mixed) Try.func19 (show Try.f19.body = some R19_Split_b by kernel_rfl) ⟨R19_Split_lo, R19_Split_jo, by kernel_rfl⟩)

def R01_Abs_e : Ent := entOf [.tm (.int .i64)] fun (v : Int × Unit) n K => R01_Abs v.1 (fun (r0 : Int) => K (.t true (.int .i64) r0) [])
def R01_Abs_f : List (Nat × Ent) := []
def R01_Abs_C : Cfg := mkC tys R01_Abs_f
def R01_Abs_b : Code := match Try.f22.body with | some c => c | none => .skip
def R01_Abs_L : Cuts := mkL [] []
theorem R01_Abs_lo : LoopsOK R01_Abs_C R01_Abs_L R01_Abs_b := (show LoopsOK R01_Abs_C R01_Abs_L R01_Abs_b = True by kernel_rfl).mpr trivial
theorem R01_Abs_jo : JoinsOK R01_Abs_C R01_Abs_L R01_Abs_b := (show JoinsOK R01_Abs_C R01_Abs_L R01_Abs_b = True by kernel_rfl).mpr trivial
theorem R01_Abs_ok : EntOK Try.prog 22 R01_Abs_e :=
  entOf_ok (e := evFn R01_Abs_C R01_Abs_L Try.f22) (fun v n K => by kernel_rfl) (evFn_ok (mkC_all (fns := R01_Abs_f) tys_ok trivial mixed) Try.func22 (show Try.f22.body = some R01_Abs_b by kernel_rfl) ⟨R01_Abs_lo, R01_Abs_jo, by kernel_rfl⟩)

def R19_Far_e : Ent := entOf [.tm (.sl (.int .i64))] fun (v : (List Int) × Unit) n K => R19_Far v.1 (fun (r0 : Int) => K (.t true (.int .i64) r0) [])
def R19_Far_f : List (Nat × Ent) := [(22, R01_Abs_e)]
def R19_Far_C : Cfg := mkC tys R19_Far_f
def R19_Far_b : Code := match Try.f41.body with | some c => c | none => .skip
def R19_Far_y0 : Lay := ⟨19, [(0, .tm false (.sl (.int .i64))), (3, .tm true (.int .i64)), (4, .tm true (.int .i64))], []⟩
def R19_Far_y1 : Lay := ⟨19, [(3, .tm true (.int .i64))], []⟩
def R19_Far_l3_F (k : Nat) (v : ((List Int) × Int × Int × Unit) × (Unit)) (K : KK) : Prop := R19_Far_l3 k v.1.1 v.1.2.1 v.1.2.2.1 (fun (y0 : Int) => K (.exit 0) (st R19_Far_y1 ((y0, ()), (()))))
def R19_Far_l3_c : Cut := ⟨R19_Far_y0, fun o => match o with | .exit 0 => some R19_Far_y1 | _ => none, fun (v : ((List Int) × Int × Int × Unit) × (Unit)) K => ∃ k, R19_Far_l3_F k v K⟩
def R19_Far_L : Cuts := mkL [(3, R19_Far_l3_c)] []
theorem R19_Far_lo : LoopsOK R19_Far_C R19_Far_L R19_Far_b :=
  (show LoopsOK R19_Far_C R19_Far_L R19_Far_b = ((LoopOK R19_Far_C R19_Far_L R19_Far_l3_c (nthB (loopsOf R19_Far_b) 0) ∧ True) ∧ True) by kernel_rfl).mpr ⟨⟨⟨R19_Far_l3_F, fun v K => by kernel_rfl, fun v K => by kernel_rfl, fun k v K => by kernel_rfl⟩, trivial⟩, trivial⟩
theorem R19_Far_jo : JoinsOK R19_Far_C R19_Far_L R19_Far_b := (show JoinsOK R19_Far_C R19_Far_L R19_Far_b = True by kernel_rfl).mpr trivial
theorem R19_Far_ok : EntOK Try.prog 41 R19_Far_e :=
  entOf_ok (e := evFn R19_Far_C R19_Far_L Try.f41) (fun v n K => by kernel_rfl) (evFn_ok (mkC_all (fns := R19_Far_f) tys_ok ⟨⟨R01_Abs_ok, Try.call22⟩, trivial⟩ mixed) Try.func41 (show Try.f41.body = some R19_Far_b by kernel_rfl) ⟨R19_Far_lo, R19_Far_jo, by kernel_rfl⟩)

def R19_Better_e : Ent := entOf [.tm (.sl (.int .i64)), .tm (.sl (.int .i64))] fun (v : (List Int) × (List Int) × Unit) n K => R19_Better v.1 v.2.1 (fun (r0 : Bool) => K (.t true .bool r0) [])
def R19_Better_f : List (Nat × Ent) := [(36, R19_Right_e), (19, R19_Split_e), (41, R19_Far_e)]
def R19_Better_C : Cfg := mkC tys R19_Better_f
def R19_Better_b : Code := match Try.f21.body with | some c => c | none => .skip
def R19_Better_y0 : Lay := ⟨30, [(0, .tm false (.sl (.int .i64))), (1, .tm false (.sl (.int .i64))), (5, .fx (.os 0)), (6, .fx (.os 1))], [.val true true 3 (.row (.int .i64)), .val true true 3 (.row (.int .i64))]⟩
def R19_Better_y1 : Lay := ⟨30, [(4, .tm true .bool)], []⟩
def R19_Better_j4_c : Cut := ⟨R19_Better_y0, fun o => match o with | .ret => some R19_Better_y1 | _ => none, fun (v : ((List Int) × (List Int) × Unit) × ((List Int) × (List Int) × Unit)) (K : KK) => R19_Better_j4 v.1.1 v.1.2.1 v.2.1 v.2.2.1 (fun (y0 : Bool) => K .ret (st R19_Better_y1 ((y0, ()), (()))))⟩
def R19_Better_L : Cuts := mkL [] [(4, R19_Better_j4_c)]
theorem R19_Better_lo : LoopsOK R19_Better_C R19_Better_L R19_Better_b := (show LoopsOK R19_Better_C R19_Better_L R19_Better_b = True by kernel_rfl).mpr trivial
theorem R19_Better_jo : JoinsOK R19_Better_C R19_Better_L R19_Better_b :=
  (show JoinsOK R19_Better_C R19_Better_L R19_Better_b = ((JoinOK R19_Better_C R19_Better_L R19_Better_j4_c (nthB (joinsOf R19_Better_L R19_Better_b) 0) ∧ True) ∧ True) by kernel_rfl).mpr ⟨⟨fun v K => by kernel_rfl, trivial⟩, trivial⟩
theorem R19_Better_ok : EntOK Try.prog 21 R19_Better_e :=
  entOf_ok (e := evFn R19_Better_C R19_Better_L Try.f21) (fun v n K => by kernel_rfl) (evFn_ok (mkC_all (fns := R19_Better_f) tys_ok ⟨⟨R19_Right_ok, Try.call36⟩, ⟨R19_Split_ok, Try.call19⟩, ⟨R19_Far_ok, Try.call41⟩, trivial⟩ mixed) Try.func21 (show Try.f21.body = some R19_Better_b by kernel_rfl) ⟨R19_Better_lo, R19_Better_jo, by kernel_rfl⟩)

def L19_SideTells_e : Ent := entOf [.tm (.sl (.int .i64)), .tm (.sl (.int .i64))] fun (v : (List Int) × (List Int) × Unit) n K => L19_SideTells v.1 v.2.1 (fun (r0 : Bool) => K (.t true .bool r0) [])
def L19_SideTells_f : List (Nat × Ent) := [(15, L19_awake_e), (16, side_Merge_e), (17, R19_Merge_e), (18, side_Split_e), (19, R19_Split_e), (13, R01_Same_e), (20, side_Better_e), (21, R19_Better_e)]
def L19_SideTells_C : Cfg := mkC tys L19_SideTells_f
def L19_SideTells_b : Code := match Try.f4.body with | some c => c | none => .skip
def L19_SideTells_y0 : Lay := ⟨76, [(0, .tm false (.sl (.int .i64))), (1, .tm false (.sl (.int .i64))), (20, .tm true .bool)], []⟩
def L19_SideTells_y1 : Lay := ⟨76, [(4, .tm true .bool)], []⟩
def L19_SideTells_y2 : Lay := ⟨76, [(0, .tm false (.sl (.int .i64))), (1, .tm false (.sl (.int .i64)))], []⟩
def L19_SideTells_j2_c : Cut := ⟨L19_SideTells_y0, fun o => match o with | .ret => some L19_SideTells_y1 | .nrm => some L19_SideTells_y2 | _ => none, fun (v : ((List Int) × (List Int) × Bool × Unit) × (Unit)) (K : KK) => L19_SideTells_j2 v.1.1 v.1.2.1 v.1.2.2.1 (fun (y0 : Bool) => K .ret (st L19_SideTells_y1 ((y0, ()), (())))) (fun (y0 : (List Int)) (y1 : (List Int)) => K .nrm (st L19_SideTells_y2 ((y0, y1, ()), (()))))⟩
def L19_SideTells_y3 : Lay := ⟨76, [(0, .tm false (.sl (.int .i64))), (1, .tm false (.sl (.int .i64))), (5, .fx (.os 0)), (6, .fx (.os 1)), (7, .fx (.os 2)), (8, .fx (.os 3)), (9, .fx (.os 4)), (10, .fx (.os 5)), (11, .fx (.os 6)), (12, .fx (.os 7))], [.val true true 3 (.row (.int .i64)), .val true true 3 (.row (.int .i64)), .val true true 3 (.row (.int .i64)), .val true true 3 (.row (.int .i64)), .val true true 3 (.row (.int .i64)), .val true true 3 (.row (.int .i64)), .val true true 3 (.row (.int .i64)), .val true true 3 (.row (.int .i64))]⟩
def L19_SideTells_j7_c : Cut := ⟨L19_SideTells_y3, fun o => match o with | .ret => some L19_SideTells_y1 | _ => none, fun (v : ((List Int) × (List Int) × Unit) × ((List Int) × (List Int) × (List Int) × (List Int) × (List Int) × (List Int) × (List Int) × (List Int) × Unit)) (K : KK) => L19_SideTells_j7 v.1.1 v.1.2.1 v.2.1 v.2.2.1 v.2.2.2.1 v.2.2.2.2.1 v.2.2.2.2.2.1 v.2.2.2.2.2.2.1 v.2.2.2.2.2.2.2.1 v.2.2.2.2.2.2.2.2.1 (fun (y0 : Bool) => K .ret (st L19_SideTells_y1 ((y0, ()), (()))))⟩
def L19_SideTells_y4 : Lay := ⟨76, [(0, .tm false (.sl (.int .i64))), (1, .tm false (.sl (.int .i64))), (5, .fx (.os 0)), (6, .fx (.os 1)), (7, .fx (.os 2)), (8, .fx (.os 3)), (9, .fx (.os 4)), (10, .fx (.os 5))], [.val true true 3 (.row (.int .i64)), .val true true 3 (.row (.int .i64)), .val true true 3 (.row (.int .i64)), .val true true 3 (.row (.int .i64)), .val true true 3 (.row (.int .i64)), .val true true 3 (.row (.int .i64))]⟩
def L19_SideTells_j6_c : Cut := ⟨L19_SideTells_y4, fun o => match o with | .ret => some L19_SideTells_y1 | _ => none, fun (v : ((List Int) × (List Int) × Unit) × ((List Int) × (List Int) × (List Int) × (List Int) × (List Int) × (List Int) × Unit)) (K : KK) => L19_SideTells_j6 v.1.1 v.1.2.1 v.2.1 v.2.2.1 v.2.2.2.1 v.2.2.2.2.1 v.2.2.2.2.2.1 v.2.2.2.2.2.2.1 (fun (y0 : Bool) => K .ret (st L19_SideTells_y1 ((y0, ()), (()))))⟩
def L19_SideTells_y5 : Lay := ⟨76, [(0, .tm false (.sl (.int .i64))), (1, .tm false (.sl (.int .i64))), (5, .fx (.os 0)), (6, .fx (.os 1)), (7, .fx (.os 2)), (8, .fx (.os 3))], [.val true true 3 (.row (.int .i64)), .val true true 3 (.row (.int .i64)), .val true true 3 (.row (.int .i64)), .val true true 3 (.row (.int .i64))]⟩
def L19_SideTells_j5_c : Cut := ⟨L19_SideTells_y5, fun o => match o with | .ret => some L19_SideTells_y1 | _ => none, fun (v : ((List Int) × (List Int) × Unit) × ((List Int) × (List Int) × (List Int) × (List Int) × Unit)) (K : KK) => L19_SideTells_j5 v.1.1 v.1.2.1 v.2.1 v.2.2.1 v.2.2.2.1 v.2.2.2.2.1 (fun (y0 : Bool) => K .ret (st L19_SideTells_y1 ((y0, ()), (()))))⟩
def L19_SideTells_y6 : Lay := ⟨76, [(0, .tm false (.sl (.int .i64))), (1, .tm false (.sl (.int .i64))), (5, .fx (.os 0)), (6, .fx (.os 1))], [.val true true 3 (.row (.int .i64)), .val true true 3 (.row (.int .i64))]⟩
def L19_SideTells_j4_c : Cut := ⟨L19_SideTells_y6, fun o => match o with | .ret => some L19_SideTells_y1 | _ => none, fun (v : ((List Int) × (List Int) × Unit) × ((List Int) × (List Int) × Unit)) (K : KK) => L19_SideTells_j4 v.1.1 v.1.2.1 v.2.1 v.2.2.1 (fun (y0 : Bool) => K .ret (st L19_SideTells_y1 ((y0, ()), (()))))⟩
def L19_SideTells_j3_c : Cut := ⟨L19_SideTells_y2, fun o => match o with | .ret => some L19_SideTells_y1 | _ => none, fun (v : ((List Int) × (List Int) × Unit) × (Unit)) (K : KK) => L19_SideTells_j3 v.1.1 v.1.2.1 (fun (y0 : Bool) => K .ret (st L19_SideTells_y1 ((y0, ()), (()))))⟩
def L19_SideTells_L : Cuts := mkL [] [(2, L19_SideTells_j2_c), (7, L19_SideTells_j7_c), (6, L19_SideTells_j6_c), (5, L19_SideTells_j5_c), (4, L19_SideTells_j4_c), (3, L19_SideTells_j3_c)]
theorem L19_SideTells_lo : LoopsOK L19_SideTells_C L19_SideTells_L L19_SideTells_b := (show LoopsOK L19_SideTells_C L19_SideTells_L L19_SideTells_b = True by kernel_rfl).mpr trivial
theorem L19_SideTells_jo : JoinsOK L19_SideTells_C L19_SideTells_L L19_SideTells_b :=
  (show JoinsOK L19_SideTells_C L19_SideTells_L L19_SideTells_b = ((JoinOK L19_SideTells_C L19_SideTells_L L19_SideTells_j3_c (nthB (joinsOf L19_SideTells_L L19_SideTells_b) 0) ∧ True) ∧ (JoinOK L19_SideTells_C L19_SideTells_L L19_SideTells_j2_c (nthB (joinsOf L19_SideTells_L L19_SideTells_b) 1) ∧ True) ∧ (JoinOK L19_SideTells_C L19_SideTells_L L19_SideTells_j4_c (nthB (joinsOf L19_SideTells_L L19_SideTells_b) 2) ∧ True) ∧ (JoinOK L19_SideTells_C L19_SideTells_L L19_SideTells_j5_c (nthB (joinsOf L19_SideTells_L L19_SideTells_b) 3) ∧ True) ∧ (JoinOK L19_SideTells_C L19_SideTells_L L19_SideTells_j6_c (nthB (joinsOf L19_SideTells_L L19_SideTells_b) 4) ∧ True) ∧ (JoinOK L19_SideTells_C L19_SideTells_L L19_SideTells_j7_c (nthB (joinsOf L19_SideTells_L L19_SideTells_b) 5) ∧ True) ∧ True) by kernel_rfl).mpr ⟨⟨fun v K => by kernel_rfl, trivial⟩, ⟨fun v K => by kernel_rfl, trivial⟩, ⟨fun v K => by kernel_rfl, trivial⟩, ⟨fun v K => by kernel_rfl, trivial⟩, ⟨fun v K => by kernel_rfl, trivial⟩, ⟨fun v K => by kernel_rfl, trivial⟩, trivial⟩
theorem L19_SideTells_ok : EntOK Try.prog 4 L19_SideTells_e :=
  entOf_ok (e := evFn L19_SideTells_C L19_SideTells_L Try.f4) (fun v n K => by kernel_rfl) (evFn_ok (mkC_all (fns := L19_SideTells_f) tys_ok ⟨⟨L19_awake_ok, Try.call15⟩, ⟨side_Merge_ok, Try.call16⟩, ⟨R19_Merge_ok, Try.call17⟩, ⟨side_Split_ok, Try.call18⟩, ⟨R19_Split_ok, Try.call19⟩, ⟨R01_Same_ok, Try.call13⟩, ⟨side_Better_ok, Try.call20⟩, ⟨R19_Better_ok, Try.call21⟩, trivial⟩ mixed) Try.func4 (show Try.f4.body = some L19_SideTells_b by kernel_rfl) ⟨L19_SideTells_lo, L19_SideTells_jo, by kernel_rfl⟩)

end
end Go.Eng.A
