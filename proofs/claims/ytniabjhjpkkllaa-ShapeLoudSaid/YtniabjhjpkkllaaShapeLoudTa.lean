/- Each of these functions is what the program computes: printed by program. -/
import Derived.Test.YtniabjhjpkkllaaEngT
import Derived.Test.YtniabjhjpkkllaaShapeLoudP
import Derived.Test.YtniabjhjpkkllaaProg
set_option linter.unusedVariables false
set_option maxRecDepth 100000
namespace Go.Eng.A
open Go Go.Eng Go.Proofs
noncomputable section

def tys : List Ty := [.no, .no, .no, .sc (.int .i64), .no, .sc (.int .u8), .no, .no, .no, .no, .no, .no, .no, .no, .no, .no, .no, .no, .no, .no, .no, .no, .sl 3 (.int .i64) 8, .no, .no, .no, .no, .no, .no, .no, .no, .no, .no, .no, .no, .no, .no, .no, .no, .no, .no, .no, .no, .no, .no, .no, .no, .no, .no, .no, .no, .no, .no, .no, .no, .no, .no, .no, .no, .no, .no, .no, .no, .no, .no, .no, .no, .no, .no, .no, .no, .no, .no, .no, .no, .no, .no, .no, .no, .no, .no, .no, .no, .arr 4 3 (.int .i64)]
theorem tok3 : TOK Try.prog 3 (.int .i64) := tok_mk Try.type3 Try.underlying3 (by kernel_rfl) (by kernel_rfl) (by kernel_rfl) (.inr (by kernel_rfl))
theorem tok5 : TOK Try.prog 5 (.int .u8) := tok_mk Try.type5 Try.underlying5 (by kernel_rfl) (by kernel_rfl) (by kernel_rfl) (.inr (by kernel_rfl))
theorem tok22 : TOK Try.prog 22 (.sl (.int .i64)) := tok_mk Try.type22 Try.underlying22 (by kernel_rfl) (by kernel_rfl) (by kernel_rfl) (.inr (by kernel_rfl))
theorem tok83 : TOK Try.prog 83 (.arr 4 (.int .i64)) := tok_mk Try.type83 Try.underlying83 (by kernel_rfl) (by kernel_rfl) (by kernel_rfl) (.inr (by kernel_rfl))
theorem tys_ok : TysOK Try.prog 0 tys := ⟨trivial, trivial, trivial, tyok_int tok3 Try.underlying3, trivial, tyok_int tok5 Try.underlying5, trivial, trivial, trivial, trivial, trivial, trivial, trivial, trivial, trivial, trivial, trivial, trivial, trivial, trivial, trivial, trivial, tyok_sl tok22 Try.underlying22 tok3 (by kernel_rfl) (by kernel_rfl) (by kernel_rfl) Try.type3 (by kernel_rfl) Try.type22 (by kernel_rfl), trivial, trivial, trivial, trivial, trivial, trivial, trivial, trivial, trivial, trivial, trivial, trivial, trivial, trivial, trivial, trivial, trivial, trivial, trivial, trivial, trivial, trivial, trivial, trivial, trivial, trivial, trivial, trivial, trivial, trivial, trivial, trivial, trivial, trivial, trivial, trivial, trivial, trivial, trivial, trivial, trivial, trivial, trivial, trivial, trivial, trivial, trivial, trivial, trivial, trivial, trivial, trivial, trivial, trivial, trivial, trivial, trivial, trivial, trivial, trivial, tyok_arr tok83 Try.underlying83 tok3 (by kernel_rfl), trivial⟩
theorem mixed : Try.prog.follows .mixedOrders = true := by kernel_rfl

def R16_far_e : Ent := entOf [.tm (.int .i64)] fun (v : Int × Unit) n K => R16_far v.1 (fun (r0 : Int) => K (.t true (.int .i64) r0) [])
def R16_far_f : List (Nat × Ent) := []
def R16_far_C : Cfg := mkC tys R16_far_f
def R16_far_b : Code := match Try.f62.body with | some c => c | none => .skip
def R16_far_L : Cuts := mkL [] []
theorem R16_far_lo : LoopsOK R16_far_C R16_far_L R16_far_b := (show LoopsOK R16_far_C R16_far_L R16_far_b = True by kernel_rfl).mpr trivial
theorem R16_far_jo : JoinsOK R16_far_C R16_far_L R16_far_b := (show JoinsOK R16_far_C R16_far_L R16_far_b = True by kernel_rfl).mpr trivial
theorem R16_far_ok : EntOK Try.prog 62 R16_far_e :=
  entOf_ok (e := evFn R16_far_C R16_far_L Try.f62) (fun v n K => Eq.trans (R16_far_def v.1 (fun (r0 : Int) => K (.t true (.int .i64) r0) [])) (by kernel_rfl)) (evFn_ok (mkC_all (fns := R16_far_f) tys_ok trivial mixed) Try.func62 (show Try.f62.body = some R16_far_b by kernel_rfl) ⟨R16_far_lo, R16_far_jo, by kernel_rfl⟩)

def R16_Size_e : Ent := entOf [.tm (.sl (.int .i64))] fun (v : (List Int) × Unit) n K => R16_Size v.1 (fun (r0 : Int) (r1 : Bool) => K (.tu [.t true (.int .i64) r0, .t true .bool r1]) [])
def R16_Size_f : List (Nat × Ent) := [(62, R16_far_e)]
def R16_Size_C : Cfg := mkC tys R16_Size_f
def R16_Size_b : Code := match Try.f29.body with | some c => c | none => .skip
def R16_Size_y0 : Lay := ⟨30, [(0, .tm false (.sl (.int .i64))), (13, .tm true .bool)], []⟩
def R16_Size_y1 : Lay := ⟨30, [(2, .tm true (.int .i64)), (3, .tm true .bool)], []⟩
def R16_Size_y2 : Lay := ⟨30, [(0, .tm false (.sl (.int .i64)))], []⟩
def R16_Size_j2_c : Cut := ⟨R16_Size_y0, fun o => match o with | .ret => some R16_Size_y1 | .nrm => some R16_Size_y2 | _ => none, fun (v : ((List Int) × Bool × Unit) × (Unit)) (K : KK) => R16_Size_j2 v.1.1 v.1.2.1 (fun (y0 : Int) (y1 : Bool) => K .ret (st R16_Size_y1 ((y0, y1, ()), (())))) (fun (y0 : (List Int)) => K .nrm (st R16_Size_y2 ((y0, ()), (()))))⟩
def R16_Size_y3 : Lay := ⟨30, [(0, .tm false (.sl (.int .i64))), (4, .tm true (.int .i64)), (5, .tm true (.int .i64))], []⟩
def R16_Size_y4 : Lay := ⟨30, [(4, .tm true (.int .i64))], []⟩
def R16_Size_l5_F (k : Nat) (v : ((List Int) × Int × Int × Unit) × (Unit)) (K : KK) : Prop := R16_Size_l5 k v.1.1 v.1.2.1 v.1.2.2.1 (fun (y0 : Int) => K (.exit 0) (st R16_Size_y4 ((y0, ()), (()))))
def R16_Size_l5_c : Cut := ⟨R16_Size_y3, fun o => match o with | .exit 0 => some R16_Size_y4 | _ => none, fun (v : ((List Int) × Int × Int × Unit) × (Unit)) K => ∃ k, R16_Size_l5_F k v K⟩
def R16_Size_j3_c : Cut := ⟨R16_Size_y2, fun o => match o with | .ret => some R16_Size_y1 | _ => none, fun (v : ((List Int) × Unit) × (Unit)) (K : KK) => R16_Size_j3 v.1.1 (fun (y0 : Int) (y1 : Bool) => K .ret (st R16_Size_y1 ((y0, y1, ()), (()))))⟩
def R16_Size_L : Cuts := mkL [(5, R16_Size_l5_c)] [(2, R16_Size_j2_c), (3, R16_Size_j3_c)]
theorem R16_Size_lo : LoopsOK R16_Size_C R16_Size_L R16_Size_b :=
  (show LoopsOK R16_Size_C R16_Size_L R16_Size_b = ((LoopOK R16_Size_C R16_Size_L R16_Size_l5_c (nthB (loopsOf R16_Size_b) 0) ∧ True) ∧ True) by kernel_rfl).mpr ⟨⟨⟨R16_Size_l5_F, fun v K => by kernel_rfl, fun v K => by kernel_rfl, fun k v K => by kernel_rfl⟩, trivial⟩, trivial⟩
theorem R16_Size_jo : JoinsOK R16_Size_C R16_Size_L R16_Size_b :=
  (show JoinsOK R16_Size_C R16_Size_L R16_Size_b = ((JoinOK R16_Size_C R16_Size_L R16_Size_j3_c (nthB (joinsOf R16_Size_L R16_Size_b) 0) ∧ True) ∧ (JoinOK R16_Size_C R16_Size_L R16_Size_j2_c (nthB (joinsOf R16_Size_L R16_Size_b) 1) ∧ True) ∧ True) by kernel_rfl).mpr ⟨⟨fun v K => by kernel_rfl, trivial⟩, ⟨fun v K => by kernel_rfl, trivial⟩, trivial⟩
theorem R16_Size_ok : EntOK Try.prog 29 R16_Size_e :=
  entOf_ok (e := evFn R16_Size_C R16_Size_L Try.f29) (fun v n K => Eq.trans (R16_Size_def v.1 (fun (r0 : Int) (r1 : Bool) => K (.tu [.t true (.int .i64) r0, .t true .bool r1]) [])) (by kernel_rfl)) (evFn_ok (mkC_all (fns := R16_Size_f) tys_ok ⟨⟨R16_far_ok, Try.call62⟩, trivial⟩ mixed) Try.func29 (show Try.f29.body = some R16_Size_b by kernel_rfl) ⟨R16_Size_lo, R16_Size_jo, by kernel_rfl⟩)

def num_within_e : Ent := entOf [.tm (.int .i64), .tm (.sl (.int .i64))] fun (v : Int × (List Int) × Unit) n K => num_within v.1 v.2.1 (fun (r0 : Bool) => K (.t true .bool r0) [])
def num_within_f : List (Nat × Ent) := []
def num_within_C : Cfg := mkC tys num_within_f
def num_within_b : Code := match Try.f90.body with | some c => c | none => .skip
def num_within_y0 : Lay := ⟨23, [(0, .tm true (.int .i64)), (7, .tm false (.sl (.int .i64))), (8, .tm true (.int .i64)), (9, .tm true (.int .i64))], []⟩
def num_within_y1 : Lay := ⟨23, [(4, .tm true .bool)], []⟩
def num_within_y2 : Lay := ⟨23, [], []⟩
def num_within_l2_F (k : Nat) (v : (Int × (List Int) × Int × Int × Unit) × (Unit)) (K : KK) : Prop := num_within_l2 k v.1.1 v.1.2.1 v.1.2.2.1 v.1.2.2.2.1 (fun (y0 : Bool) => K .ret (st num_within_y1 ((y0, ()), (())))) (K (.exit 0) (st num_within_y2 ((()), (()))))
def num_within_l2_c : Cut := ⟨num_within_y0, fun o => match o with | .ret => some num_within_y1 | .exit 0 => some num_within_y2 | _ => none, fun (v : (Int × (List Int) × Int × Int × Unit) × (Unit)) K => ∃ k, num_within_l2_F k v K⟩
def num_within_L : Cuts := mkL [(2, num_within_l2_c)] []
theorem num_within_lo : LoopsOK num_within_C num_within_L num_within_b :=
  (show LoopsOK num_within_C num_within_L num_within_b = ((LoopOK num_within_C num_within_L num_within_l2_c (nthB (loopsOf num_within_b) 0) ∧ True) ∧ True) by kernel_rfl).mpr ⟨⟨⟨num_within_l2_F, fun v K => by kernel_rfl, fun v K => by kernel_rfl, fun k v K => by kernel_rfl⟩, trivial⟩, trivial⟩
theorem num_within_jo : JoinsOK num_within_C num_within_L num_within_b := (show JoinsOK num_within_C num_within_L num_within_b = True by kernel_rfl).mpr trivial
theorem num_within_ok : EntOK Try.prog 90 num_within_e :=
  entOf_ok (e := evFn num_within_C num_within_L Try.f90) (fun v n K => Eq.trans (num_within_def v.1 v.2.1 (fun (r0 : Bool) => K (.t true .bool r0) [])) (by kernel_rfl)) (evFn_ok (mkC_all (fns := num_within_f) tys_ok trivial mixed) Try.func90 (show Try.f90.body = some num_within_b by kernel_rfl) ⟨num_within_lo, num_within_jo, by kernel_rfl⟩)

def num_Abs_e : Ent := entOf [.tm (.int .i64)] fun (v : Int × Unit) n K => num_Abs v.1 (fun (r0 : Int) => K (.t true (.int .i64) r0) [])
def num_Abs_f : List (Nat × Ent) := [(90, num_within_e)]
def num_Abs_C : Cfg := mkC tys num_Abs_f
def num_Abs_b : Code := match Try.f56.body with | some c => c | none => .skip
def num_Abs_L : Cuts := mkL [] []
theorem num_Abs_lo : LoopsOK num_Abs_C num_Abs_L num_Abs_b := (show LoopsOK num_Abs_C num_Abs_L num_Abs_b = True by kernel_rfl).mpr trivial
theorem num_Abs_jo : JoinsOK num_Abs_C num_Abs_L num_Abs_b := (show JoinsOK num_Abs_C num_Abs_L num_Abs_b = True by kernel_rfl).mpr trivial
theorem num_Abs_ok : EntOK Try.prog 56 num_Abs_e :=
  entOf_ok (e := evFn num_Abs_C num_Abs_L Try.f56) (fun v n K => Eq.trans (num_Abs_def v.1 (fun (r0 : Int) => K (.t true (.int .i64) r0) [])) (by kernel_rfl)) (evFn_ok (mkC_all (fns := num_Abs_f) tys_ok ⟨⟨num_within_ok, Try.call90⟩, trivial⟩ mixed) Try.func56 (show Try.f56.body = some num_Abs_b by kernel_rfl) ⟨num_Abs_lo, num_Abs_jo, by kernel_rfl⟩)

def pvq_Size_e : Ent := entOf [.tm (.sl (.int .i64))] fun (v : (List Int) × Unit) n K => pvq_Size v.1 (fun (r0 : Int) (r1 : Bool) => K (.tu [.t true (.int .i64) r0, .t true .bool r1]) [])
def pvq_Size_f : List (Nat × Ent) := [(56, num_Abs_e)]
def pvq_Size_C : Cfg := mkC tys pvq_Size_f
def pvq_Size_b : Code := match Try.f51.body with | some c => c | none => .skip
def pvq_Size_y0 : Lay := ⟨35, [(0, .tm false (.sl (.int .i64))), (14, .tm true .bool)], []⟩
def pvq_Size_y1 : Lay := ⟨35, [(2, .tm true (.int .i64)), (3, .tm true .bool)], []⟩
def pvq_Size_y2 : Lay := ⟨35, [(0, .tm false (.sl (.int .i64)))], []⟩
def pvq_Size_j2_c : Cut := ⟨pvq_Size_y0, fun o => match o with | .ret => some pvq_Size_y1 | .nrm => some pvq_Size_y2 | _ => none, fun (v : ((List Int) × Bool × Unit) × (Unit)) (K : KK) => pvq_Size_j2 v.1.1 v.1.2.1 (fun (y0 : Int) (y1 : Bool) => K .ret (st pvq_Size_y1 ((y0, y1, ()), (())))) (fun (y0 : (List Int)) => K .nrm (st pvq_Size_y2 ((y0, ()), (()))))⟩
def pvq_Size_y3 : Lay := ⟨35, [(4, .tm true (.int .i64)), (6, .tm true (.int .i64)), (15, .tm false (.sl (.int .i64))), (16, .tm true (.int .i64)), (17, .tm true (.int .i64)), (26, .tm true .bool)], []⟩
def pvq_Size_y4 : Lay := ⟨35, [(4, .tm true (.int .i64)), (6, .tm true (.int .i64)), (15, .tm false (.sl (.int .i64))), (16, .tm true (.int .i64)), (17, .tm true (.int .i64))], []⟩
def pvq_Size_j8_c : Cut := ⟨pvq_Size_y3, fun o => match o with | .ret => some pvq_Size_y1 | .nrm => some pvq_Size_y4 | _ => none, fun (v : (Int × Int × (List Int) × Int × Int × Bool × Unit) × (Unit)) (K : KK) => pvq_Size_j8 v.1.1 v.1.2.1 v.1.2.2.1 v.1.2.2.2.1 v.1.2.2.2.2.1 v.1.2.2.2.2.2.1 (fun (y0 : Int) (y1 : Bool) => K .ret (st pvq_Size_y1 ((y0, y1, ()), (())))) (fun (y0 : Int) (y1 : Int) (y2 : (List Int)) (y3 : Int) (y4 : Int) => K .nrm (st pvq_Size_y4 ((y0, y1, y2, y3, y4, ()), (()))))⟩
def pvq_Size_y5 : Lay := ⟨35, [(4, .tm true (.int .i64)), (15, .tm false (.sl (.int .i64))), (16, .tm true (.int .i64)), (17, .tm true (.int .i64))], []⟩
def pvq_Size_j9_c : Cut := ⟨pvq_Size_y4, fun o => match o with | .nrm => some pvq_Size_y5 | _ => none, fun (v : (Int × Int × (List Int) × Int × Int × Unit) × (Unit)) (K : KK) => pvq_Size_j9 v.1.1 v.1.2.1 v.1.2.2.1 v.1.2.2.2.1 v.1.2.2.2.2.1 (fun (y0 : Int) (y1 : (List Int)) (y2 : Int) (y3 : Int) => K .nrm (st pvq_Size_y5 ((y0, y1, y2, y3, ()), (()))))⟩
def pvq_Size_y6 : Lay := ⟨35, [(4, .tm true (.int .i64))], []⟩
def pvq_Size_l5_F (k : Nat) (v : (Int × (List Int) × Int × Int × Unit) × (Unit)) (K : KK) : Prop := pvq_Size_l5 k v.1.1 v.1.2.1 v.1.2.2.1 v.1.2.2.2.1 (fun (y0 : Int) (y1 : Bool) => K .ret (st pvq_Size_y1 ((y0, y1, ()), (())))) (fun (y0 : Int) => K (.exit 0) (st pvq_Size_y6 ((y0, ()), (()))))
def pvq_Size_l5_c : Cut := ⟨pvq_Size_y5, fun o => match o with | .ret => some pvq_Size_y1 | .exit 0 => some pvq_Size_y6 | _ => none, fun (v : (Int × (List Int) × Int × Int × Unit) × (Unit)) K => ∃ k, pvq_Size_l5_F k v K⟩
def pvq_Size_j3_c : Cut := ⟨pvq_Size_y2, fun o => match o with | .ret => some pvq_Size_y1 | _ => none, fun (v : ((List Int) × Unit) × (Unit)) (K : KK) => pvq_Size_j3 v.1.1 (fun (y0 : Int) (y1 : Bool) => K .ret (st pvq_Size_y1 ((y0, y1, ()), (()))))⟩
def pvq_Size_L : Cuts := mkL [(5, pvq_Size_l5_c)] [(2, pvq_Size_j2_c), (8, pvq_Size_j8_c), (9, pvq_Size_j9_c), (3, pvq_Size_j3_c)]
theorem pvq_Size_lo : LoopsOK pvq_Size_C pvq_Size_L pvq_Size_b :=
  (show LoopsOK pvq_Size_C pvq_Size_L pvq_Size_b = ((LoopOK pvq_Size_C pvq_Size_L pvq_Size_l5_c (nthB (loopsOf pvq_Size_b) 0) ∧ True) ∧ True) by kernel_rfl).mpr ⟨⟨⟨pvq_Size_l5_F, fun v K => by kernel_rfl, fun v K => by kernel_rfl, fun k v K => by kernel_rfl⟩, trivial⟩, trivial⟩
theorem pvq_Size_jo : JoinsOK pvq_Size_C pvq_Size_L pvq_Size_b :=
  (show JoinsOK pvq_Size_C pvq_Size_L pvq_Size_b = ((JoinOK pvq_Size_C pvq_Size_L pvq_Size_j3_c (nthB (joinsOf pvq_Size_L pvq_Size_b) 0) ∧ True) ∧ (JoinOK pvq_Size_C pvq_Size_L pvq_Size_j2_c (nthB (joinsOf pvq_Size_L pvq_Size_b) 1) ∧ True) ∧ (JoinOK pvq_Size_C pvq_Size_L pvq_Size_j9_c (nthB (joinsOf pvq_Size_L pvq_Size_b) 2) ∧ True) ∧ (JoinOK pvq_Size_C pvq_Size_L pvq_Size_j8_c (nthB (joinsOf pvq_Size_L pvq_Size_b) 3) ∧ True) ∧ True) by kernel_rfl).mpr ⟨⟨fun v K => by kernel_rfl, trivial⟩, ⟨fun v K => by kernel_rfl, trivial⟩, ⟨fun v K => by kernel_rfl, trivial⟩, ⟨fun v K => by kernel_rfl, trivial⟩, trivial⟩
theorem pvq_Size_ok : EntOK Try.prog 51 pvq_Size_e :=
  entOf_ok (e := evFn pvq_Size_C pvq_Size_L Try.f51) (fun v n K => Eq.trans (pvq_Size_def v.1 (fun (r0 : Int) (r1 : Bool) => K (.tu [.t true (.int .i64) r0, .t true .bool r1]) [])) (by kernel_rfl)) (evFn_ok (mkC_all (fns := pvq_Size_f) tys_ok ⟨⟨num_Abs_ok, Try.call56⟩, trivial⟩ mixed) Try.func51 (show Try.f51.body = some pvq_Size_b by kernel_rfl) ⟨pvq_Size_lo, pvq_Size_jo, by kernel_rfl⟩)

def level_steps_e : Ent := entOf [] fun (v : Unit) n K => level_steps (fun (r0 : (List Int)) => K (.t true (.arr 4 (.int .i64)) r0) [])
def level_steps_f : List (Nat × Ent) := []
def level_steps_C : Cfg := mkC tys level_steps_f
def level_steps_b : Code := match Try.f89.body with | some c => c | none => .skip
def level_steps_L : Cuts := mkL [] []
theorem level_steps_lo : LoopsOK level_steps_C level_steps_L level_steps_b := (show LoopsOK level_steps_C level_steps_L level_steps_b = True by kernel_rfl).mpr trivial
theorem level_steps_jo : JoinsOK level_steps_C level_steps_L level_steps_b := (show JoinsOK level_steps_C level_steps_L level_steps_b = True by kernel_rfl).mpr trivial
theorem level_steps_ok : EntOK Try.prog 89 level_steps_e :=
  entOf_ok (e := evFn level_steps_C level_steps_L Try.f89) (fun v n K => Eq.trans (level_steps_def (fun (r0 : (List Int)) => K (.t true (.arr 4 (.int .i64)) r0) [])) (by kernel_rfl)) (evFn_ok (mkC_all (fns := level_steps_f) tys_ok trivial mixed) Try.func89 (show Try.f89.body = some level_steps_b by kernel_rfl) ⟨level_steps_lo, level_steps_jo, by kernel_rfl⟩)

def num_Shr_e : Ent := entOf [.tm (.int .i64), .tm (.int .i64)] fun (v : Int × Int × Unit) n K => num_Shr v.1 v.2.1 (fun (r0 : Int) => K (.t true (.int .i64) r0) [])
def num_Shr_f : List (Nat × Ent) := [(90, num_within_e)]
def num_Shr_C : Cfg := mkC tys num_Shr_f
def num_Shr_b : Code := match Try.f81.body with | some c => c | none => .skip
def num_Shr_y0 : Lay := ⟨29, [(0, .tm true (.int .i64)), (1, .tm true (.int .i64)), (5, .tm true .bool)], []⟩
def num_Shr_y1 : Lay := ⟨29, [(4, .tm true (.int .i64))], []⟩
def num_Shr_y2 : Lay := ⟨29, [(0, .tm true (.int .i64)), (1, .tm true (.int .i64))], []⟩
def num_Shr_j2_c : Cut := ⟨num_Shr_y0, fun o => match o with | .ret => some num_Shr_y1 | .nrm => some num_Shr_y2 | _ => none, fun (v : (Int × Int × Bool × Unit) × (Unit)) (K : KK) => num_Shr_j2 v.1.1 v.1.2.1 v.1.2.2.1 (fun (y0 : Int) => K .ret (st num_Shr_y1 ((y0, ()), (())))) (fun (y0 : Int) (y1 : Int) => K .nrm (st num_Shr_y2 ((y0, y1, ()), (()))))⟩
def num_Shr_j5_c : Cut := ⟨num_Shr_y2, fun o => match o with | .ret => some num_Shr_y1 | _ => none, fun (v : (Int × Int × Unit) × (Unit)) (K : KK) => num_Shr_j5 v.1.1 v.1.2.1 (fun (y0 : Int) => K .ret (st num_Shr_y1 ((y0, ()), (()))))⟩
def num_Shr_L : Cuts := mkL [] [(2, num_Shr_j2_c), (5, num_Shr_j5_c)]
theorem num_Shr_lo : LoopsOK num_Shr_C num_Shr_L num_Shr_b := (show LoopsOK num_Shr_C num_Shr_L num_Shr_b = True by kernel_rfl).mpr trivial
theorem num_Shr_jo : JoinsOK num_Shr_C num_Shr_L num_Shr_b :=
  (show JoinsOK num_Shr_C num_Shr_L num_Shr_b = ((JoinOK num_Shr_C num_Shr_L num_Shr_j5_c (nthB (joinsOf num_Shr_L num_Shr_b) 0) ∧ True) ∧ (JoinOK num_Shr_C num_Shr_L num_Shr_j2_c (nthB (joinsOf num_Shr_L num_Shr_b) 1) ∧ True) ∧ True) by kernel_rfl).mpr ⟨⟨fun v K => by kernel_rfl, trivial⟩, ⟨fun v K => by kernel_rfl, trivial⟩, trivial⟩
theorem num_Shr_ok : EntOK Try.prog 81 num_Shr_e :=
  entOf_ok (e := evFn num_Shr_C num_Shr_L Try.f81) (fun v n K => Eq.trans (num_Shr_def v.1 v.2.1 (fun (r0 : Int) => K (.t true (.int .i64) r0) [])) (by kernel_rfl)) (evFn_ok (mkC_all (fns := num_Shr_f) tys_ok ⟨⟨num_within_ok, Try.call90⟩, trivial⟩ mixed) Try.func81 (show Try.f81.body = some num_Shr_b by kernel_rfl) ⟨num_Shr_lo, num_Shr_jo, by kernel_rfl⟩)

def level_Amp_e : Ent := entOf [.tm (.int .i64), .tm (.int .i64)] fun (v : Int × Int × Unit) n K => level_Amp v.1 v.2.1 (fun (r0 : Int) => K (.t true (.int .i64) r0) [])
def level_Amp_f : List (Nat × Ent) := [(89, level_steps_e), (81, num_Shr_e)]
def level_Amp_C : Cfg := mkC tys level_Amp_f
def level_Amp_b : Code := match Try.f52.body with | some c => c | none => .skip
def level_Amp_L : Cuts := mkL [] []
theorem level_Amp_lo : LoopsOK level_Amp_C level_Amp_L level_Amp_b := (show LoopsOK level_Amp_C level_Amp_L level_Amp_b = True by kernel_rfl).mpr trivial
theorem level_Amp_jo : JoinsOK level_Amp_C level_Amp_L level_Amp_b := (show JoinsOK level_Amp_C level_Amp_L level_Amp_b = True by kernel_rfl).mpr trivial
theorem level_Amp_ok : EntOK Try.prog 52 level_Amp_e :=
  entOf_ok (e := evFn level_Amp_C level_Amp_L Try.f52) (fun v n K => Eq.trans (level_Amp_def v.1 v.2.1 (fun (r0 : Int) => K (.t true (.int .i64) r0) [])) (by kernel_rfl)) (evFn_ok (mkC_all (fns := level_Amp_f) tys_ok ⟨⟨level_steps_ok, Try.call89⟩, ⟨num_Shr_ok, Try.call81⟩, trivial⟩ mixed) Try.func52 (show Try.f52.body = some level_Amp_b by kernel_rfl) ⟨level_Amp_lo, level_Amp_jo, by kernel_rfl⟩)

end
end Go.Eng.A
