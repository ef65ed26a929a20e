/- Each of these functions is what the program computes: printed by program. -/
import Derived.Test.YtniabjhjpkkllaaEngT
import Derived.Test.YtniabjhjpkkllaaShapeLoudP
import Derived.Test.YtniabjhjpkkllaaProg
import Derived.Test.YtniabjhjpkkllaaShapeLoudTb
set_option linter.unusedVariables false
set_option maxRecDepth 100000
namespace Go.Eng.A
open Go Go.Eng Go.Proofs
noncomputable section

def shape_Values_e : Ent := entOf [.tm (.sl (.int .i64)), .tm (.int .i64), .tm (.int .i64)] fun (v : (List Int) × Int × Int × Unit) n K => shape_Values v.1 v.2.1 v.2.2.1 (fun (r0 : Bool) => K (.tu [.ns, .t true .bool r0]) []) (fun (r0 : Bool) (r1 : (List Int)) => K (.tu [.os (n + 0), .t true .bool r0]) [.val true true 3 (.row (.int .i64)) r1])
def shape_Values_f : List (Nat × Ent) := [(51, pvq_Size_e), (52, level_Amp_e), (54, shape_squares_e), (53, root_Sqrt_e), (56, num_Abs_e), (55, num_Div_e)]
def shape_Values_C : Cfg := mkC tys shape_Values_f
def shape_Values_b : Code := match Try.f23.body with | some c => c | none => .skip
def shape_Values_y0 : Lay := ⟨84, [(0, .tm false (.sl (.int .i64))), (1, .tm true (.int .i64)), (2, .tm true (.int .i64)), (8, .tm true (.int .i64)), (38, .tm true .bool)], []⟩
def shape_Values_y1 : Lay := ⟨84, [(6, .fx .ns), (7, .tm true .bool)], []⟩
def shape_Values_y2 : Lay := ⟨84, [(0, .tm false (.sl (.int .i64))), (1, .tm true (.int .i64)), (2, .tm true (.int .i64)), (8, .tm true (.int .i64))], []⟩
def shape_Values_j3_c : Cut := ⟨shape_Values_y0, fun o => match o with | .ret => some shape_Values_y1 | .nrm => some shape_Values_y2 | _ => none, fun (v : ((List Int) × Int × Int × Int × Bool × Unit) × (Unit)) (K : KK) => shape_Values_j3 v.1.1 v.1.2.1 v.1.2.2.1 v.1.2.2.2.1 v.1.2.2.2.2.1 (fun (y0 : Bool) => K .ret (st shape_Values_y1 ((y0, ()), (())))) (fun (y0 : (List Int)) (y1 : Int) (y2 : Int) (y3 : Int) => K .nrm (st shape_Values_y2 ((y0, y1, y2, y3, ()), (()))))⟩
def shape_Values_y3 : Lay := ⟨84, [(0, .tm false (.sl (.int .i64))), (10, .fx (.os 0)), (11, .tm true (.int .i64)), (50, .tm true .bool)], [.val true true 3 (.row (.int .i64))]⟩
def shape_Values_y4 : Lay := ⟨84, [(6, .fx (.os 0)), (7, .tm true .bool)], [.val true true 3 (.row (.int .i64))]⟩
def shape_Values_y5 : Lay := ⟨84, [(0, .tm false (.sl (.int .i64))), (10, .fx (.os 0)), (11, .tm true (.int .i64))], [.val true true 3 (.row (.int .i64))]⟩
def shape_Values_j7_c : Cut := ⟨shape_Values_y3, fun o => match o with | .ret => some shape_Values_y4 | .nrm => some shape_Values_y5 | _ => none, fun (v : ((List Int) × Int × Bool × Unit) × ((List Int) × Unit)) (K : KK) => shape_Values_j7 v.1.1 v.1.2.1 v.1.2.2.1 v.2.1 (fun (y0 : Bool) (y1 : (List Int)) => K .ret (st shape_Values_y4 ((y0, ()), (y1, ())))) (fun (y0 : (List Int)) (y1 : Int) (y2 : (List Int)) => K .nrm (st shape_Values_y5 ((y0, y1, ()), (y2, ()))))⟩
def shape_Values_y6 : Lay := ⟨84, [(10, .fx (.os 0)), (11, .tm true (.int .i64)), (12, .tm true (.int .i64)), (56, .tm false (.sl (.int .i64))), (57, .tm true (.int .i64)), (58, .tm true (.int .i64))], [.val true true 3 (.row (.int .i64))]⟩
def shape_Values_y7 : Lay := ⟨84, [(10, .fx (.os 0))], [.val true true 3 (.row (.int .i64))]⟩
def shape_Values_l10_F (k : Nat) (v : (Int × Int × (List Int) × Int × Int × Unit) × ((List Int) × Unit)) (K : KK) : Prop := shape_Values_l10 k v.1.1 v.1.2.1 v.1.2.2.1 v.1.2.2.2.1 v.1.2.2.2.2.1 v.2.1 (fun (y0 : (List Int)) => K (.exit 0) (st shape_Values_y7 ((()), (y0, ()))))
def shape_Values_l10_c : Cut := ⟨shape_Values_y6, fun o => match o with | .exit 0 => some shape_Values_y7 | _ => none, fun (v : (Int × Int × (List Int) × Int × Int × Unit) × ((List Int) × Unit)) K => ∃ k, shape_Values_l10_F k v K⟩
def shape_Values_j8_c : Cut := ⟨shape_Values_y5, fun o => match o with | .ret => some shape_Values_y4 | _ => none, fun (v : ((List Int) × Int × Unit) × ((List Int) × Unit)) (K : KK) => shape_Values_j8 v.1.1 v.1.2.1 v.2.1 (fun (y0 : Bool) (y1 : (List Int)) => K .ret (st shape_Values_y4 ((y0, ()), (y1, ()))))⟩
def shape_Values_j4_c : Cut := ⟨shape_Values_y2, fun o => match o with | .ret => some shape_Values_y4 | _ => none, fun (v : ((List Int) × Int × Int × Int × Unit) × (Unit)) (K : KK) => shape_Values_j4 v.1.1 v.1.2.1 v.1.2.2.1 v.1.2.2.2.1 (fun (y0 : Bool) (y1 : (List Int)) => K .ret (st shape_Values_y4 ((y0, ()), (y1, ()))))⟩
def shape_Values_L : Cuts := mkL [(10, shape_Values_l10_c)] [(3, shape_Values_j3_c), (7, shape_Values_j7_c), (8, shape_Values_j8_c), (4, shape_Values_j4_c)]
theorem shape_Values_lo : LoopsOK shape_Values_C shape_Values_L shape_Values_b :=
  (show LoopsOK shape_Values_C shape_Values_L shape_Values_b = ((LoopOK shape_Values_C shape_Values_L shape_Values_l10_c (nthB (loopsOf shape_Values_b) 0) ∧ True) ∧ True) by kernel_rfl).mpr ⟨⟨⟨shape_Values_l10_F, fun v K => by kernel_rfl, fun v K => by kernel_rfl, fun k v K => by kernel_rfl⟩, trivial⟩, trivial⟩
theorem shape_Values_jo : JoinsOK shape_Values_C shape_Values_L shape_Values_b :=
  (show JoinsOK shape_Values_C shape_Values_L shape_Values_b = ((JoinOK shape_Values_C shape_Values_L shape_Values_j4_c (nthB (joinsOf shape_Values_L shape_Values_b) 0) ∧ True) ∧ (JoinOK shape_Values_C shape_Values_L shape_Values_j3_c (nthB (joinsOf shape_Values_L shape_Values_b) 1) ∧ True) ∧ (JoinOK shape_Values_C shape_Values_L shape_Values_j8_c (nthB (joinsOf shape_Values_L shape_Values_b) 2) ∧ True) ∧ (JoinOK shape_Values_C shape_Values_L shape_Values_j7_c (nthB (joinsOf shape_Values_L shape_Values_b) 3) ∧ True) ∧ True) by kernel_rfl).mpr ⟨⟨fun v K => by kernel_rfl, trivial⟩, ⟨fun v K => by kernel_rfl, trivial⟩, ⟨fun v K => by kernel_rfl, trivial⟩, ⟨fun v K => by kernel_rfl, trivial⟩, trivial⟩
theorem shape_Values_ok : EntOK Try.prog 23 shape_Values_e :=
  entOf_ok (e := evFn shape_Values_C shape_Values_L Try.f23) (fun v n K => Eq.trans (shape_Values_def v.1 v.2.1 v.2.2.1 (fun (r0 : Bool) => K (.tu [.ns, .t true .bool r0]) []) (fun (r0 : Bool) (r1 : (List Int)) => K (.tu [.os (n + 0), .t true .bool r0]) [.val true true 3 (.row (.int .i64)) r1])) (by kernel_rfl)) (evFn_ok (mkC_all (fns := shape_Values_f) tys_ok ⟨⟨pvq_Size_ok, Try.call51⟩, ⟨level_Amp_ok, Try.call52⟩, ⟨shape_squares_ok, Try.call54⟩, ⟨root_Sqrt_ok, Try.call53⟩, ⟨num_Abs_ok, Try.call56⟩, ⟨num_Div_ok, Try.call55⟩, trivial⟩ mixed) Try.func23 (show Try.f23.body = some shape_Values_b by kernel_rfl) ⟨shape_Values_lo, shape_Values_jo, by kernel_rfl⟩)

def shape_Power_e : Ent := entOf [.tm (.sl (.int .i64))] fun (v : (List Int) × Unit) n K => shape_Power v.1 (fun (r0 : Int) => K (.t true (.int .i64) r0) [])
def shape_Power_f : List (Nat × Ent) := [(54, shape_squares_e), (53, root_Sqrt_e)]
def shape_Power_C : Cfg := mkC tys shape_Power_f
def shape_Power_b : Code := match Try.f27.body with | some c => c | none => .skip
def shape_Power_y0 : Lay := ⟨24, [(0, .tm false (.sl (.int .i64))), (8, .tm false (.sl (.int .i64))), (9, .tm true (.int .i64)), (10, .tm true (.int .i64))], []⟩
def shape_Power_y1 : Lay := ⟨24, [(2, .tm true (.int .i64))], []⟩
def shape_Power_y2 : Lay := ⟨24, [(0, .tm false (.sl (.int .i64)))], []⟩
def shape_Power_l4_F (k : Nat) (v : ((List Int) × (List Int) × Int × Int × Unit) × (Unit)) (K : KK) : Prop := shape_Power_l4 k v.1.1 v.1.2.1 v.1.2.2.1 v.1.2.2.2.1 (fun (y0 : Int) => K .ret (st shape_Power_y1 ((y0, ()), (())))) (fun (y0 : (List Int)) => K (.exit 0) (st shape_Power_y2 ((y0, ()), (()))))
def shape_Power_l4_c : Cut := ⟨shape_Power_y0, fun o => match o with | .ret => some shape_Power_y1 | .exit 0 => some shape_Power_y2 | _ => none, fun (v : ((List Int) × (List Int) × Int × Int × Unit) × (Unit)) K => ∃ k, shape_Power_l4_F k v K⟩
def shape_Power_L : Cuts := mkL [(4, shape_Power_l4_c)] []
theorem shape_Power_lo : LoopsOK shape_Power_C shape_Power_L shape_Power_b :=
  (show LoopsOK shape_Power_C shape_Power_L shape_Power_b = ((LoopOK shape_Power_C shape_Power_L shape_Power_l4_c (nthB (loopsOf shape_Power_b) 0) ∧ True) ∧ True) by kernel_rfl).mpr ⟨⟨⟨shape_Power_l4_F, fun v K => by kernel_rfl, fun v K => by kernel_rfl, fun k v K => by kernel_rfl⟩, trivial⟩, trivial⟩
theorem shape_Power_jo : JoinsOK shape_Power_C shape_Power_L shape_Power_b := (show JoinsOK shape_Power_C shape_Power_L shape_Power_b = True by kernel_rfl).mpr trivial
theorem shape_Power_ok : EntOK Try.prog 27 shape_Power_e :=
  entOf_ok (e := evFn shape_Power_C shape_Power_L Try.f27) (fun v n K => Eq.trans (shape_Power_def v.1 (fun (r0 : Int) => K (.t true (.int .i64) r0) [])) (by kernel_rfl)) (evFn_ok (mkC_all (fns := shape_Power_f) tys_ok ⟨⟨shape_squares_ok, Try.call54⟩, ⟨root_Sqrt_ok, Try.call53⟩, trivial⟩ mixed) Try.func27 (show Try.f27.body = some shape_Power_b by kernel_rfl) ⟨shape_Power_lo, shape_Power_jo, by kernel_rfl⟩)

def level_Find_e : Ent := entOf [.tm (.int .i64)] fun (v : Int × Unit) n K => level_Find v.1 (fun (r0 : Int) (r1 : Int) => K (.tu [.t true (.int .i64) r0, .t true (.int .i64) r1]) [])
def level_Find_f : List (Nat × Ent) := [(52, level_Amp_e)]
def level_Find_C : Cfg := mkC tys level_Find_f
def level_Find_b : Code := match Try.f60.body with | some c => c | none => .skip
def level_Find_y0 : Lay := ⟨30, [(0, .tm true (.int .i64)), (4, .tm true (.int .i64)), (5, .tm true (.int .i64))], []⟩
def level_Find_y1 : Lay := ⟨30, [(4, .tm true (.int .i64))], []⟩
def level_Find_l2_F (k : Nat) (v : (Int × Int × Int × Unit) × (Unit)) (K : KK) : Prop := level_Find_l2 k v.1.1 v.1.2.1 v.1.2.2.1 (fun (y0 : Int) => K (.exit 0) (st level_Find_y1 ((y0, ()), (()))))
def level_Find_l2_c : Cut := ⟨level_Find_y0, fun o => match o with | .exit 0 => some level_Find_y1 | _ => none, fun (v : (Int × Int × Int × Unit) × (Unit)) K => ∃ k, level_Find_l2_F k v K⟩
def level_Find_L : Cuts := mkL [(2, level_Find_l2_c)] []
theorem level_Find_lo : LoopsOK level_Find_C level_Find_L level_Find_b :=
  (show LoopsOK level_Find_C level_Find_L level_Find_b = ((LoopOK level_Find_C level_Find_L level_Find_l2_c (nthB (loopsOf level_Find_b) 0) ∧ True) ∧ True) by kernel_rfl).mpr ⟨⟨⟨level_Find_l2_F, fun v K => by kernel_rfl, fun v K => by kernel_rfl, fun k v K => by kernel_rfl⟩, trivial⟩, trivial⟩
theorem level_Find_jo : JoinsOK level_Find_C level_Find_L level_Find_b := (show JoinsOK level_Find_C level_Find_L level_Find_b = True by kernel_rfl).mpr trivial
theorem level_Find_ok : EntOK Try.prog 60 level_Find_e :=
  entOf_ok (e := evFn level_Find_C level_Find_L Try.f60) (fun v n K => Eq.trans (level_Find_def v.1 (fun (r0 : Int) (r1 : Int) => K (.tu [.t true (.int .i64) r0, .t true (.int .i64) r1]) [])) (by kernel_rfl)) (evFn_ok (mkC_all (fns := level_Find_f) tys_ok ⟨⟨level_Amp_ok, Try.call52⟩, trivial⟩ mixed) Try.func60 (show Try.f60.body = some level_Find_b by kernel_rfl) ⟨level_Find_lo, level_Find_jo, by kernel_rfl⟩)

def shape_Level_e : Ent := entOf [.tm (.sl (.int .i64))] fun (v : (List Int) × Unit) n K => shape_Level v.1 (fun (r0 : Int) (r1 : Int) => K (.tu [.t true (.int .i64) r0, .t true (.int .i64) r1]) [])
def shape_Level_f : List (Nat × Ent) := [(27, shape_Power_e), (60, level_Find_e)]
def shape_Level_C : Cfg := mkC tys shape_Level_f
def shape_Level_b : Code := match Try.f25.body with | some c => c | none => .skip
def shape_Level_L : Cuts := mkL [] []
theorem shape_Level_lo : LoopsOK shape_Level_C shape_Level_L shape_Level_b := (show LoopsOK shape_Level_C shape_Level_L shape_Level_b = True by kernel_rfl).mpr trivial
theorem shape_Level_jo : JoinsOK shape_Level_C shape_Level_L shape_Level_b := (show JoinsOK shape_Level_C shape_Level_L shape_Level_b = True by kernel_rfl).mpr trivial
theorem shape_Level_ok : EntOK Try.prog 25 shape_Level_e :=
  entOf_ok (e := evFn shape_Level_C shape_Level_L Try.f25) (fun v n K => Eq.trans (shape_Level_def v.1 (fun (r0 : Int) (r1 : Int) => K (.tu [.t true (.int .i64) r0, .t true (.int .i64) r1]) [])) (by kernel_rfl)) (evFn_ok (mkC_all (fns := shape_Level_f) tys_ok ⟨⟨shape_Power_ok, Try.call27⟩, ⟨level_Find_ok, Try.call60⟩, trivial⟩ mixed) Try.func25 (show Try.f25.body = some shape_Level_b by kernel_rfl) ⟨shape_Level_lo, shape_Level_jo, by kernel_rfl⟩)

def R01_Same_e : Ent := entOf [.tm (.sl (.int .i64)), .tm (.sl (.int .i64))] fun (v : (List Int) × (List Int) × Unit) n K => R01_Same v.1 v.2.1 (fun (r0 : Bool) => K (.t true .bool r0) [])
def R01_Same_f : List (Nat × Ent) := []
def R01_Same_C : Cfg := mkC tys R01_Same_f
def R01_Same_b : Code := match Try.f19.body with | some c => c | none => .skip
def R01_Same_y0 : Lay := ⟨26, [(0, .tm false (.sl (.int .i64))), (1, .tm false (.sl (.int .i64))), (5, .tm true (.int .i64))], []⟩
def R01_Same_y1 : Lay := ⟨26, [(4, .tm true .bool)], []⟩
def R01_Same_y2 : Lay := ⟨26, [], []⟩
def R01_Same_l4_F (k : Nat) (v : ((List Int) × (List Int) × Int × Unit) × (Unit)) (K : KK) : Prop := R01_Same_l4 k v.1.1 v.1.2.1 v.1.2.2.1 (fun (y0 : Bool) => K .ret (st R01_Same_y1 ((y0, ()), (())))) (K (.exit 0) (st R01_Same_y2 ((()), (()))))
def R01_Same_l4_c : Cut := ⟨R01_Same_y0, fun o => match o with | .ret => some R01_Same_y1 | .exit 0 => some R01_Same_y2 | _ => none, fun (v : ((List Int) × (List Int) × Int × Unit) × (Unit)) K => ∃ k, R01_Same_l4_F k v K⟩
def R01_Same_L : Cuts := mkL [(4, R01_Same_l4_c)] []
theorem R01_Same_lo : LoopsOK R01_Same_C R01_Same_L R01_Same_b :=
  (show LoopsOK R01_Same_C R01_Same_L R01_Same_b = ((LoopOK R01_Same_C R01_Same_L R01_Same_l4_c (nthB (loopsOf R01_Same_b) 0) ∧ True) ∧ True) by kernel_rfl).mpr ⟨⟨⟨R01_Same_l4_F, fun v K => by kernel_rfl, fun v K => by kernel_rfl, fun k v K => by kernel_rfl⟩, trivial⟩, trivial⟩
theorem R01_Same_jo : JoinsOK R01_Same_C R01_Same_L R01_Same_b := (show JoinsOK R01_Same_C R01_Same_L R01_Same_b = True by kernel_rfl).mpr trivial
theorem R01_Same_ok : EntOK Try.prog 19 R01_Same_e :=
  entOf_ok (e := evFn R01_Same_C R01_Same_L Try.f19) (fun v n K => Eq.trans (R01_Same_def v.1 v.2.1 (fun (r0 : Bool) => K (.t true .bool r0) [])) (by kernel_rfl)) (evFn_ok (mkC_all (fns := R01_Same_f) tys_ok trivial mixed) Try.func19 (show Try.f19.body = some R01_Same_b by kernel_rfl) ⟨R01_Same_lo, R01_Same_jo, by kernel_rfl⟩)

end
end Go.Eng.A
