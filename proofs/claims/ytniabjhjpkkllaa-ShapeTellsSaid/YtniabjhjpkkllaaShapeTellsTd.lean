/- Each of these functions is what the program computes: printed by program. -/
import Derived.Test.YtniabjhjpkkllaaEngT
import Derived.Test.YtniabjhjpkkllaaShapeTellsP
import Derived.Test.YtniabjhjpkkllaaProg
import Derived.Test.YtniabjhjpkkllaaShapeTellsTc
set_option linter.unusedVariables false
set_option maxRecDepth 100000
namespace Go.Eng.A
open Go Go.Eng Go.Proofs
noncomputable section

def L17_awake_e : Ent := entOf [] fun (v : Unit) n K => L17_awake (fun (r0 : Bool) => K (.t true .bool r0) [])
def L17_awake_f : List (Nat × Ent) := [(23, shape_Values_e), (25, shape_Level_e), (19, R01_Same_e), (27, shape_Power_e)]
def L17_awake_C : Cfg := mkC tys L17_awake_f
def L17_awake_b : Code := match Try.f22.body with | some c => c | none => .skip
def L17_awake_y0 : Lay := ⟨44, [(1, .fx (.os 0)), (2, .tm true .bool), (4, .tm true .bool)], [.val true true 3 (.row (.int .i64))]⟩
def L17_awake_y1 : Lay := ⟨44, [(0, .tm true .bool)], []⟩
def L17_awake_j3_c : Cut := ⟨L17_awake_y0, fun o => match o with | .ret => some L17_awake_y1 | _ => none, fun (v : (Bool × Bool × Unit) × ((List Int) × Unit)) (K : KK) => L17_awake_j3 v.1.1 v.1.2.1 v.2.1 (fun (y0 : Bool) => K .ret (st L17_awake_y1 ((y0, ()), (()))))⟩
def L17_awake_y2 : Lay := ⟨44, [(1, .fx (.os 0)), (2, .tm true .bool)], [.val true true 3 (.row (.int .i64))]⟩
def L17_awake_j2_c : Cut := ⟨L17_awake_y2, fun o => match o with | .ret => some L17_awake_y1 | _ => none, fun (v : (Bool × Unit) × ((List Int) × Unit)) (K : KK) => L17_awake_j2 v.1.1 v.2.1 (fun (y0 : Bool) => K .ret (st L17_awake_y1 ((y0, ()), (()))))⟩
def L17_awake_L : Cuts := mkL [] [(3, L17_awake_j3_c), (2, L17_awake_j2_c)]
theorem L17_awake_lo : LoopsOK L17_awake_C L17_awake_L L17_awake_b := (show LoopsOK L17_awake_C L17_awake_L L17_awake_b = True by kernel_rfl).mpr trivial
theorem L17_awake_jo : JoinsOK L17_awake_C L17_awake_L L17_awake_b :=
  (show JoinsOK L17_awake_C L17_awake_L L17_awake_b = ((JoinOK L17_awake_C L17_awake_L L17_awake_j2_c (nthB (joinsOf L17_awake_L L17_awake_b) 0) ∧ True) ∧ (JoinOK L17_awake_C L17_awake_L L17_awake_j3_c (nthB (joinsOf L17_awake_L L17_awake_b) 1) ∧ True) ∧ True) by kernel_rfl).mpr ⟨⟨fun v K => by kernel_rfl, trivial⟩, ⟨fun v K => by kernel_rfl, trivial⟩, trivial⟩
theorem L17_awake_ok : EntOK Try.prog 22 L17_awake_e :=
  entOf_ok (e := evFn L17_awake_C L17_awake_L Try.f22) (fun v n K => Eq.trans (L17_awake_def (fun (r0 : Bool) => K (.t true .bool r0) [])) (by kernel_rfl)) (evFn_ok (mkC_all (fns := L17_awake_f) tys_ok ⟨⟨shape_Values_ok, Try.call23⟩, ⟨shape_Level_ok, Try.call25⟩, ⟨R01_Same_ok, Try.call19⟩, ⟨shape_Power_ok, Try.call27⟩, trivial⟩ mixed) Try.func22 (show Try.f22.body = some L17_awake_b by kernel_rfl) ⟨L17_awake_lo, L17_awake_jo, by kernel_rfl⟩)

def R16_far_e : Ent := entOf [.tm (.int .i64)] fun (v : Int × Unit) n K => R16_far v.1 (fun (r0 : Int) => K (.t true (.int .i64) r0) [])
def R16_far_f : List (Nat × Ent) := []
def R16_far_C : Cfg := mkC tys R16_far_f
def R16_far_b : Code := match Try.f62.body with | some c => c | none => .skip
def R16_far_L : Cuts := mkL [] []
theorem R16_far_lo : LoopsOK R16_far_C R16_far_L R16_far_b := (show LoopsOK R16_far_C R16_far_L R16_far_b = True by kernel_rfl).mpr trivial
theorem R16_far_jo : JoinsOK R16_far_C R16_far_L R16_far_b := (show JoinsOK R16_far_C R16_far_L R16_far_b = True by kernel_rfl).mpr trivial
theorem R16_far_ok : EntOK Try.prog 62 R16_far_e :=
  entOf_ok (e := evFn R16_far_C R16_far_L Try.f62) (fun v n K => Eq.trans (R16_far_def v.1 (fun (r0 : Int) => K (.t true (.int .i64) r0) [])) (by kernel_rfl)) (evFn_ok (mkC_all (fns := R16_far_f) tys_ok trivial mixed) Try.func62 (show Try.f62.body = some R16_far_b by kernel_rfl) ⟨R16_far_lo, R16_far_jo, by kernel_rfl⟩)

def R16_Size_e : Ent := entOf [.tm (.sl (.int .i64))] fun (v : (List Int) × Unit) n K => R16_Size v.1 (fun (r0 : Int) (r1 : Bool) => K (.tu [.t true (.int .i64) r0, .t true .bool r1]) [])
def R16_Size_f : List (Nat × Ent) := [(62, R16_far_e)]
def R16_Size_C : Cfg := mkC tys R16_Size_f
def R16_Size_b : Code := match Try.f29.body with | some c => c | none => .skip
def R16_Size_y0 : Lay := ⟨30, [(0, .tm false (.sl (.int .i64))), (13, .tm true .bool)], []⟩
def R16_Size_y1 : Lay := ⟨30, [(2, .tm true (.int .i64)), (3, .tm true .bool)], []⟩
def R16_Size_y2 : Lay := ⟨30, [(0, .tm false (.sl (.int .i64)))], []⟩
def R16_Size_j2_c : Cut := ⟨R16_Size_y0, fun o => match o with | .ret => some R16_Size_y1 | .nrm => some R16_Size_y2 | _ => none, fun (v : ((List Int) × Bool × Unit) × (Unit)) (K : KK) => R16_Size_j2 v.1.1 v.1.2.1 (fun (y0 : Int) (y1 : Bool) => K .ret (st R16_Size_y1 ((y0, y1, ()), (())))) (fun (y0 : (List Int)) => K .nrm (st R16_Size_y2 ((y0, ()), (()))))⟩
def R16_Size_y3 : Lay := ⟨30, [(0, .tm false (.sl (.int .i64))), (4, .tm true (.int .i64)), (5, .tm true (.int .i64))], []⟩
def R16_Size_y4 : Lay := ⟨30, [(4, .tm true (.int .i64))], []⟩
def R16_Size_l5_F (k : Nat) (v : ((List Int) × Int × Int × Unit) × (Unit)) (K : KK) : Prop := R16_Size_l5 k v.1.1 v.1.2.1 v.1.2.2.1 (fun (y0 : Int) => K (.exit 0) (st R16_Size_y4 ((y0, ()), (()))))
def R16_Size_l5_c : Cut := ⟨R16_Size_y3, fun o => match o with | .exit 0 => some R16_Size_y4 | _ => none, fun (v : ((List Int) × Int × Int × Unit) × (Unit)) K => ∃ k, R16_Size_l5_F k v K⟩
def R16_Size_j3_c : Cut := ⟨R16_Size_y2, fun o => match o with | .ret => some R16_Size_y1 | _ => none, fun (v : ((List Int) × Unit) × (Unit)) (K : KK) => R16_Size_j3 v.1.1 (fun (y0 : Int) (y1 : Bool) => K .ret (st R16_Size_y1 ((y0, y1, ()), (()))))⟩
def R16_Size_L : Cuts := mkL [(5, R16_Size_l5_c)] [(2, R16_Size_j2_c), (3, R16_Size_j3_c)]
theorem R16_Size_lo : LoopsOK R16_Size_C R16_Size_L R16_Size_b :=
  (show LoopsOK R16_Size_C R16_Size_L R16_Size_b = ((LoopOK R16_Size_C R16_Size_L R16_Size_l5_c (nthB (loopsOf R16_Size_b) 0) ∧ True) ∧ True) by kernel_rfl).mpr ⟨⟨⟨R16_Size_l5_F, fun v K => by kernel_rfl, fun v K => by kernel_rfl, fun k v K => by kernel_rfl⟩, trivial⟩, trivial⟩
theorem R16_Size_jo : JoinsOK R16_Size_C R16_Size_L R16_Size_b :=
  (show JoinsOK R16_Size_C R16_Size_L R16_Size_b = ((JoinOK R16_Size_C R16_Size_L R16_Size_j3_c (nthB (joinsOf R16_Size_L R16_Size_b) 0) ∧ True) ∧ (JoinOK R16_Size_C R16_Size_L R16_Size_j2_c (nthB (joinsOf R16_Size_L R16_Size_b) 1) ∧ True) ∧ True) by kernel_rfl).mpr ⟨⟨fun v K => by kernel_rfl, trivial⟩, ⟨fun v K => by kernel_rfl, trivial⟩, trivial⟩
theorem R16_Size_ok : EntOK Try.prog 29 R16_Size_e :=
  entOf_ok (e := evFn R16_Size_C R16_Size_L Try.f29) (fun v n K => Eq.trans (R16_Size_def v.1 (fun (r0 : Int) (r1 : Bool) => K (.tu [.t true (.int .i64) r0, .t true .bool r1]) [])) (by kernel_rfl)) (evFn_ok (mkC_all (fns := R16_Size_f) tys_ok ⟨⟨R16_far_ok, Try.call62⟩, trivial⟩ mixed) Try.func29 (show Try.f29.body = some R16_Size_b by kernel_rfl) ⟨R16_Size_lo, R16_Size_jo, by kernel_rfl⟩)

def R08_step_e : Ent := entOf [.tm (.int .i64)] fun (v : Int × Unit) n K => R08_step v.1 (fun (r0 : Int) => K (.t true (.int .i64) r0) [])
def R08_step_f : List (Nat × Ent) := []
def R08_step_C : Cfg := mkC tys R08_step_f
def R08_step_b : Code := match Try.f63.body with | some c => c | none => .skip
def R08_step_L : Cuts := mkL [] []
theorem R08_step_lo : LoopsOK R08_step_C R08_step_L R08_step_b := (show LoopsOK R08_step_C R08_step_L R08_step_b = True by kernel_rfl).mpr trivial
theorem R08_step_jo : JoinsOK R08_step_C R08_step_L R08_step_b := (show JoinsOK R08_step_C R08_step_L R08_step_b = True by kernel_rfl).mpr trivial
theorem R08_step_ok : EntOK Try.prog 63 R08_step_e :=
  entOf_ok (e := evFn R08_step_C R08_step_L Try.f63) (fun v n K => Eq.trans (R08_step_def v.1 (fun (r0 : Int) => K (.t true (.int .i64) r0) [])) (by kernel_rfl)) (evFn_ok (mkC_all (fns := R08_step_f) tys_ok trivial mixed) Try.func63 (show Try.f63.body = some R08_step_b by kernel_rfl) ⟨R08_step_lo, R08_step_jo, by kernel_rfl⟩)

def R01_Mod_e : Ent := entOf [.tm (.int .i64), .tm (.int .i64)] fun (v : Int × Int × Unit) n K => R01_Mod v.1 v.2.1 (fun (r0 : Int) (r1 : Int) => K (.tu [.t true (.int .i64) r0, .t true (.int .i64) r1]) [])
def R01_Mod_f : List (Nat × Ent) := []
def R01_Mod_C : Cfg := mkC tys R01_Mod_f
def R01_Mod_b : Code := match Try.f74.body with | some c => c | none => .skip
def R01_Mod_L : Cuts := mkL [] []
theorem R01_Mod_lo : LoopsOK R01_Mod_C R01_Mod_L R01_Mod_b := (show LoopsOK R01_Mod_C R01_Mod_L R01_Mod_b = True by kernel_rfl).mpr trivial
theorem R01_Mod_jo : JoinsOK R01_Mod_C R01_Mod_L R01_Mod_b := (show JoinsOK R01_Mod_C R01_Mod_L R01_Mod_b = True by kernel_rfl).mpr trivial
theorem R01_Mod_ok : EntOK Try.prog 74 R01_Mod_e :=
  entOf_ok (e := evFn R01_Mod_C R01_Mod_L Try.f74) (fun v n K => Eq.trans (R01_Mod_def v.1 v.2.1 (fun (r0 : Int) (r1 : Int) => K (.tu [.t true (.int .i64) r0, .t true (.int .i64) r1]) [])) (by kernel_rfl)) (evFn_ok (mkC_all (fns := R01_Mod_f) tys_ok trivial mixed) Try.func74 (show Try.f74.body = some R01_Mod_b by kernel_rfl) ⟨R01_Mod_lo, R01_Mod_jo, by kernel_rfl⟩)

def R01_Shr_e : Ent := entOf [.tm (.int .i64), .tm (.int .i64)] fun (v : Int × Int × Unit) n K => R01_Shr v.1 v.2.1 (fun (r0 : Int) => K (.t true (.int .i64) r0) [])
def R01_Shr_f : List (Nat × Ent) := [(74, R01_Mod_e)]
def R01_Shr_C : Cfg := mkC tys R01_Shr_f
def R01_Shr_b : Code := match Try.f50.body with | some c => c | none => .skip
def R01_Shr_L : Cuts := mkL [] []
theorem R01_Shr_lo : LoopsOK R01_Shr_C R01_Shr_L R01_Shr_b := (show LoopsOK R01_Shr_C R01_Shr_L R01_Shr_b = True by kernel_rfl).mpr trivial
theorem R01_Shr_jo : JoinsOK R01_Shr_C R01_Shr_L R01_Shr_b := (show JoinsOK R01_Shr_C R01_Shr_L R01_Shr_b = True by kernel_rfl).mpr trivial
theorem R01_Shr_ok : EntOK Try.prog 50 R01_Shr_e :=
  entOf_ok (e := evFn R01_Shr_C R01_Shr_L Try.f50) (fun v n K => Eq.trans (R01_Shr_def v.1 v.2.1 (fun (r0 : Int) => K (.t true (.int .i64) r0) [])) (by kernel_rfl)) (evFn_ok (mkC_all (fns := R01_Shr_f) tys_ok ⟨⟨R01_Mod_ok, Try.call74⟩, trivial⟩ mixed) Try.func50 (show Try.f50.body = some R01_Shr_b by kernel_rfl) ⟨R01_Shr_lo, R01_Shr_jo, by kernel_rfl⟩)

def R08_Amp_e : Ent := entOf [.tm (.int .i64), .tm (.int .i64)] fun (v : Int × Int × Unit) n K => R08_Amp v.1 v.2.1 (fun (r0 : Int) => K (.t true (.int .i64) r0) [])
def R08_Amp_f : List (Nat × Ent) := [(63, R08_step_e), (50, R01_Shr_e)]
def R08_Amp_C : Cfg := mkC tys R08_Amp_f
def R08_Amp_b : Code := match Try.f30.body with | some c => c | none => .skip
def R08_Amp_L : Cuts := mkL [] []
theorem R08_Amp_lo : LoopsOK R08_Amp_C R08_Amp_L R08_Amp_b := (show LoopsOK R08_Amp_C R08_Amp_L R08_Amp_b = True by kernel_rfl).mpr trivial
theorem R08_Amp_jo : JoinsOK R08_Amp_C R08_Amp_L R08_Amp_b := (show JoinsOK R08_Amp_C R08_Amp_L R08_Amp_b = True by kernel_rfl).mpr trivial
theorem R08_Amp_ok : EntOK Try.prog 30 R08_Amp_e :=
  entOf_ok (e := evFn R08_Amp_C R08_Amp_L Try.f30) (fun v n K => Eq.trans (R08_Amp_def v.1 v.2.1 (fun (r0 : Int) => K (.t true (.int .i64) r0) [])) (by kernel_rfl)) (evFn_ok (mkC_all (fns := R08_Amp_f) tys_ok ⟨⟨R08_step_ok, Try.call63⟩, ⟨R01_Shr_ok, Try.call50⟩, trivial⟩ mixed) Try.func30 (show Try.f30.body = some R08_Amp_b by kernel_rfl) ⟨R08_Amp_lo, R08_Amp_jo, by kernel_rfl⟩)

def R17_squares_e : Ent := entOf [.tm (.sl (.int .i64))] fun (v : (List Int) × Unit) n K => R17_squares v.1 (fun (r0 : Int) => K (.t true (.int .i64) r0) [])
def R17_squares_f : List (Nat × Ent) := []
def R17_squares_C : Cfg := mkC tys R17_squares_f
def R17_squares_b : Code := match Try.f58.body with | some c => c | none => .skip
def R17_squares_y0 : Lay := ⟨23, [(0, .tm false (.sl (.int .i64))), (3, .tm true (.int .i64)), (4, .tm true (.int .i64))], []⟩
def R17_squares_y1 : Lay := ⟨23, [(3, .tm true (.int .i64))], []⟩
def R17_squares_l3_F (k : Nat) (v : ((List Int) × Int × Int × Unit) × (Unit)) (K : KK) : Prop := R17_squares_l3 k v.1.1 v.1.2.1 v.1.2.2.1 (fun (y0 : Int) => K (.exit 0) (st R17_squares_y1 ((y0, ()), (()))))
def R17_squares_l3_c : Cut := ⟨R17_squares_y0, fun o => match o with | .exit 0 => some R17_squares_y1 | _ => none, fun (v : ((List Int) × Int × Int × Unit) × (Unit)) K => ∃ k, R17_squares_l3_F k v K⟩
def R17_squares_L : Cuts := mkL [(3, R17_squares_l3_c)] []
theorem R17_squares_lo : LoopsOK R17_squares_C R17_squares_L R17_squares_b :=
  (show LoopsOK R17_squares_C R17_squares_L R17_squares_b = ((LoopOK R17_squares_C R17_squares_L R17_squares_l3_c (nthB (loopsOf R17_squares_b) 0) ∧ True) ∧ True) by kernel_rfl).mpr ⟨⟨⟨R17_squares_l3_F, fun v K => by kernel_rfl, fun v K => by kernel_rfl, fun k v K => by kernel_rfl⟩, trivial⟩, trivial⟩
theorem R17_squares_jo : JoinsOK R17_squares_C R17_squares_L R17_squares_b := (show JoinsOK R17_squares_C R17_squares_L R17_squares_b = True by kernel_rfl).mpr trivial
theorem R17_squares_ok : EntOK Try.prog 58 R17_squares_e :=
  entOf_ok (e := evFn R17_squares_C R17_squares_L Try.f58) (fun v n K => Eq.trans (R17_squares_def v.1 (fun (r0 : Int) => K (.t true (.int .i64) r0) [])) (by kernel_rfl)) (evFn_ok (mkC_all (fns := R17_squares_f) tys_ok trivial mixed) Try.func58 (show Try.f58.body = some R17_squares_b by kernel_rfl) ⟨R17_squares_lo, R17_squares_jo, by kernel_rfl⟩)

def R06_Sqrt_e : Ent := entOf [.tm (.int .i64)] fun (v : Int × Unit) n K => R06_Sqrt v.1 (fun (r0 : Int) => K (.t true (.int .i64) r0) [])
def R06_Sqrt_f : List (Nat × Ent) := []
def R06_Sqrt_C : Cfg := mkC tys R06_Sqrt_f
def R06_Sqrt_b : Code := match Try.f57.body with | some c => c | none => .skip
def R06_Sqrt_y0 : Lay := ⟨28, [(0, .tm true (.int .i64)), (3, .tm true (.int .i64)), (4, .tm true (.int .i64))], []⟩
def R06_Sqrt_y1 : Lay := ⟨28, [(3, .tm true (.int .i64))], []⟩
def R06_Sqrt_l4_F (k : Nat) (v : (Int × Int × Int × Unit) × (Unit)) (K : KK) : Prop := R06_Sqrt_l4 k v.1.1 v.1.2.1 v.1.2.2.1 (fun (y0 : Int) => K (.exit 0) (st R06_Sqrt_y1 ((y0, ()), (()))))
def R06_Sqrt_l4_c : Cut := ⟨R06_Sqrt_y0, fun o => match o with | .exit 0 => some R06_Sqrt_y1 | _ => none, fun (v : (Int × Int × Int × Unit) × (Unit)) K => ∃ k, R06_Sqrt_l4_F k v K⟩
def R06_Sqrt_L : Cuts := mkL [(4, R06_Sqrt_l4_c)] []
theorem R06_Sqrt_lo : LoopsOK R06_Sqrt_C R06_Sqrt_L R06_Sqrt_b :=
  (show LoopsOK R06_Sqrt_C R06_Sqrt_L R06_Sqrt_b = ((LoopOK R06_Sqrt_C R06_Sqrt_L R06_Sqrt_l4_c (nthB (loopsOf R06_Sqrt_b) 0) ∧ True) ∧ True) by kernel_rfl).mpr ⟨⟨⟨R06_Sqrt_l4_F, fun v K => by kernel_rfl, fun v K => by kernel_rfl, fun k v K => by kernel_rfl⟩, trivial⟩, trivial⟩
theorem R06_Sqrt_jo : JoinsOK R06_Sqrt_C R06_Sqrt_L R06_Sqrt_b := (show JoinsOK R06_Sqrt_C R06_Sqrt_L R06_Sqrt_b = True by kernel_rfl).mpr trivial
theorem R06_Sqrt_ok : EntOK Try.prog 57 R06_Sqrt_e :=
  entOf_ok (e := evFn R06_Sqrt_C R06_Sqrt_L Try.f57) (fun v n K => Eq.trans (R06_Sqrt_def v.1 (fun (r0 : Int) => K (.t true (.int .i64) r0) [])) (by kernel_rfl)) (evFn_ok (mkC_all (fns := R06_Sqrt_f) tys_ok trivial mixed) Try.func57 (show Try.f57.body = some R06_Sqrt_b by kernel_rfl) ⟨R06_Sqrt_lo, R06_Sqrt_jo, by kernel_rfl⟩)

def R01_Abs_e : Ent := entOf [.tm (.int .i64)] fun (v : Int × Unit) n K => R01_Abs v.1 (fun (r0 : Int) => K (.t true (.int .i64) r0) [])
def R01_Abs_f : List (Nat × Ent) := []
def R01_Abs_C : Cfg := mkC tys R01_Abs_f
def R01_Abs_b : Code := match Try.f31.body with | some c => c | none => .skip
def R01_Abs_L : Cuts := mkL [] []
theorem R01_Abs_lo : LoopsOK R01_Abs_C R01_Abs_L R01_Abs_b := (show LoopsOK R01_Abs_C R01_Abs_L R01_Abs_b = True by kernel_rfl).mpr trivial
theorem R01_Abs_jo : JoinsOK R01_Abs_C R01_Abs_L R01_Abs_b := (show JoinsOK R01_Abs_C R01_Abs_L R01_Abs_b = True by kernel_rfl).mpr trivial
theorem R01_Abs_ok : EntOK Try.prog 31 R01_Abs_e :=
  entOf_ok (e := evFn R01_Abs_C R01_Abs_L Try.f31) (fun v n K => Eq.trans (R01_Abs_def v.1 (fun (r0 : Int) => K (.t true (.int .i64) r0) [])) (by kernel_rfl)) (evFn_ok (mkC_all (fns := R01_Abs_f) tys_ok trivial mixed) Try.func31 (show Try.f31.body = some R01_Abs_b by kernel_rfl) ⟨R01_Abs_lo, R01_Abs_jo, by kernel_rfl⟩)

end
end Go.Eng.A
