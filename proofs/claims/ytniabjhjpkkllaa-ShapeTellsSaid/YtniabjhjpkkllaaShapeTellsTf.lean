/- Each of these functions is what the program computes: printed by program. -/
import Derived.Test.YtniabjhjpkkllaaEngT
import Derived.Test.YtniabjhjpkkllaaShapeTellsP
import Derived.Test.YtniabjhjpkkllaaProg
import Derived.Test.YtniabjhjpkkllaaShapeTellsTe
set_option linter.unusedVariables false
set_option maxRecDepth 100000
namespace Go.Eng.A
open Go Go.Eng Go.Proofs
noncomputable section

def R17_Values_e : Ent := entOf [.tm (.sl (.int .i64)), .tm (.int .i64), .tm (.int .i64)] fun (v : (List Int) × Int × Int × Unit) n K => R17_Values v.1 v.2.1 v.2.2.1 (fun (r0 : Bool) => K (.tu [.ns, .t true .bool r0]) []) (fun (r0 : Bool) (r1 : (List Int)) => K (.tu [.os (n + 0), .t true .bool r0]) [.val true true 3 (.row (.int .i64)) r1])
def R17_Values_f : List (Nat × Ent) := [(29, R16_Size_e), (30, R08_Amp_e), (58, R17_squares_e), (57, R06_Sqrt_e), (31, R01_Abs_e), (59, R01_Div_e)]
def R17_Values_C : Cfg := mkC tys R17_Values_f
def R17_Values_b : Code := match Try.f24.body with | some c => c | none => .skip
def R17_Values_y0 : Lay := ⟨83, [(0, .tm false (.sl (.int .i64))), (1, .tm true (.int .i64)), (2, .tm true (.int .i64)), (8, .tm true (.int .i64)), (37, .tm true .bool)], []⟩
def R17_Values_y1 : Lay := ⟨83, [(6, .fx .ns), (7, .tm true .bool)], []⟩
def R17_Values_y2 : Lay := ⟨83, [(0, .tm false (.sl (.int .i64))), (1, .tm true (.int .i64)), (2, .tm true (.int .i64)), (8, .tm true (.int .i64))], []⟩
def R17_Values_j3_c : Cut := ⟨R17_Values_y0, fun o => match o with | .ret => some R17_Values_y1 | .nrm => some R17_Values_y2 | _ => none, fun (v : ((List Int) × Int × Int × Int × Bool × Unit) × (Unit)) (K : KK) => R17_Values_j3 v.1.1 v.1.2.1 v.1.2.2.1 v.1.2.2.2.1 v.1.2.2.2.2.1 (fun (y0 : Bool) => K .ret (st R17_Values_y1 ((y0, ()), (())))) (fun (y0 : (List Int)) (y1 : Int) (y2 : Int) (y3 : Int) => K .nrm (st R17_Values_y2 ((y0, y1, y2, y3, ()), (()))))⟩
def R17_Values_y3 : Lay := ⟨83, [(0, .tm false (.sl (.int .i64))), (1, .tm true (.int .i64)), (2, .tm true (.int .i64)), (10, .fx (.os 0)), (46, .tm true .bool)], [.val true true 3 (.row (.int .i64))]⟩
def R17_Values_y4 : Lay := ⟨83, [(6, .fx (.os 0)), (7, .tm true .bool)], [.val true true 3 (.row (.int .i64))]⟩
def R17_Values_y5 : Lay := ⟨83, [(0, .tm false (.sl (.int .i64))), (1, .tm true (.int .i64)), (2, .tm true (.int .i64)), (10, .fx (.os 0))], [.val true true 3 (.row (.int .i64))]⟩
def R17_Values_j6_c : Cut := ⟨R17_Values_y3, fun o => match o with | .ret => some R17_Values_y4 | .nrm => some R17_Values_y5 | _ => none, fun (v : ((List Int) × Int × Int × Bool × Unit) × ((List Int) × Unit)) (K : KK) => R17_Values_j6 v.1.1 v.1.2.1 v.1.2.2.1 v.1.2.2.2.1 v.2.1 (fun (y0 : Bool) (y1 : (List Int)) => K .ret (st R17_Values_y4 ((y0, ()), (y1, ())))) (fun (y0 : (List Int)) (y1 : Int) (y2 : Int) (y3 : (List Int)) => K .nrm (st R17_Values_y5 ((y0, y1, y2, ()), (y3, ()))))⟩
def R17_Values_y6 : Lay := ⟨83, [(0, .tm false (.sl (.int .i64))), (10, .fx (.os 0)), (11, .tm true (.int .i64)), (12, .tm true (.int .i64)), (13, .tm true (.int .i64)), (14, .tm true (.int .i64))], [.val true true 3 (.row (.int .i64))]⟩
def R17_Values_y7 : Lay := ⟨83, [(0, .tm false (.sl (.int .i64))), (10, .fx (.os 0)), (11, .tm true (.int .i64)), (12, .tm true (.int .i64)), (13, .tm true (.int .i64))], [.val true true 3 (.row (.int .i64))]⟩
def R17_Values_j14_c : Cut := ⟨R17_Values_y6, fun o => match o with | .nrm => some R17_Values_y7 | _ => none, fun (v : ((List Int) × Int × Int × Int × Int × Unit) × ((List Int) × Unit)) (K : KK) => R17_Values_j14 v.1.1 v.1.2.1 v.1.2.2.1 v.1.2.2.2.1 v.1.2.2.2.2.1 v.2.1 (fun (y0 : (List Int)) (y1 : Int) (y2 : Int) (y3 : Int) (y4 : (List Int)) => K .nrm (st R17_Values_y7 ((y0, y1, y2, y3, ()), (y4, ()))))⟩
def R17_Values_y8 : Lay := ⟨83, [(10, .fx (.os 0))], [.val true true 3 (.row (.int .i64))]⟩
def R17_Values_l9_F (k : Nat) (v : ((List Int) × Int × Int × Int × Unit) × ((List Int) × Unit)) (K : KK) : Prop := R17_Values_l9 k v.1.1 v.1.2.1 v.1.2.2.1 v.1.2.2.2.1 v.2.1 (fun (y0 : (List Int)) => K (.exit 0) (st R17_Values_y8 ((()), (y0, ()))))
def R17_Values_l9_c : Cut := ⟨R17_Values_y7, fun o => match o with | .exit 0 => some R17_Values_y8 | _ => none, fun (v : ((List Int) × Int × Int × Int × Unit) × ((List Int) × Unit)) K => ∃ k, R17_Values_l9_F k v K⟩
def R17_Values_j7_c : Cut := ⟨R17_Values_y5, fun o => match o with | .ret => some R17_Values_y4 | _ => none, fun (v : ((List Int) × Int × Int × Unit) × ((List Int) × Unit)) (K : KK) => R17_Values_j7 v.1.1 v.1.2.1 v.1.2.2.1 v.2.1 (fun (y0 : Bool) (y1 : (List Int)) => K .ret (st R17_Values_y4 ((y0, ()), (y1, ()))))⟩
def R17_Values_j4_c : Cut := ⟨R17_Values_y2, fun o => match o with | .ret => some R17_Values_y4 | _ => none, fun (v : ((List Int) × Int × Int × Int × Unit) × (Unit)) (K : KK) => R17_Values_j4 v.1.1 v.1.2.1 v.1.2.2.1 v.1.2.2.2.1 (fun (y0 : Bool) (y1 : (List Int)) => K .ret (st R17_Values_y4 ((y0, ()), (y1, ()))))⟩
def R17_Values_L : Cuts := mkL [(9, R17_Values_l9_c)] [(3, R17_Values_j3_c), (6, R17_Values_j6_c), (14, R17_Values_j14_c), (7, R17_Values_j7_c), (4, R17_Values_j4_c)]
theorem R17_Values_lo : LoopsOK R17_Values_C R17_Values_L R17_Values_b :=
  (show LoopsOK R17_Values_C R17_Values_L R17_Values_b = ((LoopOK R17_Values_C R17_Values_L R17_Values_l9_c (nthB (loopsOf R17_Values_b) 0) ∧ True) ∧ True) by kernel_rfl).mpr ⟨⟨⟨R17_Values_l9_F, fun v K => by kernel_rfl, fun v K => by kernel_rfl, fun k v K => by kernel_rfl⟩, trivial⟩, trivial⟩
theorem R17_Values_jo : JoinsOK R17_Values_C R17_Values_L R17_Values_b :=
  (show JoinsOK R17_Values_C R17_Values_L R17_Values_b = ((JoinOK R17_Values_C R17_Values_L R17_Values_j4_c (nthB (joinsOf R17_Values_L R17_Values_b) 0) ∧ True) ∧ (JoinOK R17_Values_C R17_Values_L R17_Values_j3_c (nthB (joinsOf R17_Values_L R17_Values_b) 1) ∧ True) ∧ (JoinOK R17_Values_C R17_Values_L R17_Values_j7_c (nthB (joinsOf R17_Values_L R17_Values_b) 2) ∧ True) ∧ (JoinOK R17_Values_C R17_Values_L R17_Values_j6_c (nthB (joinsOf R17_Values_L R17_Values_b) 3) ∧ True) ∧ (JoinOK R17_Values_C R17_Values_L R17_Values_j14_c (nthB (joinsOf R17_Values_L R17_Values_b) 4) ∧ True) ∧ True) by kernel_rfl).mpr ⟨⟨fun v K => by kernel_rfl, trivial⟩, ⟨fun v K => by kernel_rfl, trivial⟩, ⟨fun v K => by kernel_rfl, trivial⟩, ⟨fun v K => by kernel_rfl, trivial⟩, ⟨fun v K => by kernel_rfl, trivial⟩, trivial⟩
theorem R17_Values_ok : EntOK Try.prog 24 R17_Values_e :=
  entOf_ok (e := evFn R17_Values_C R17_Values_L Try.f24) (fun v n K => Eq.trans (R17_Values_def v.1 v.2.1 v.2.2.1 (fun (r0 : Bool) => K (.tu [.ns, .t true .bool r0]) []) (fun (r0 : Bool) (r1 : (List Int)) => K (.tu [.os (n + 0), .t true .bool r0]) [.val true true 3 (.row (.int .i64)) r1])) (by kernel_rfl)) (evFn_ok (mkC_all (fns := R17_Values_f) tys_ok ⟨⟨R16_Size_ok, Try.call29⟩, ⟨R08_Amp_ok, Try.call30⟩, ⟨R17_squares_ok, Try.call58⟩, ⟨R06_Sqrt_ok, Try.call57⟩, ⟨R01_Abs_ok, Try.call31⟩, ⟨R01_Div_ok, Try.call59⟩, trivial⟩ mixed) Try.func24 (show Try.f24.body = some R17_Values_b by kernel_rfl) ⟨R17_Values_lo, R17_Values_jo, by kernel_rfl⟩)

def R01_Within_e : Ent := entOf [.tm (.sl (.int .i64)), .tm (.int .i64), .tm (.int .i64)] fun (v : (List Int) × Int × Int × Unit) n K => R01_Within v.1 v.2.1 v.2.2.1 (fun (r0 : Bool) => K (.t true .bool r0) [])
def R01_Within_f : List (Nat × Ent) := []
def R01_Within_C : Cfg := mkC tys R01_Within_f
def R01_Within_b : Code := match Try.f40.body with | some c => c | none => .skip
def R01_Within_y0 : Lay := ⟨28, [(0, .tm false (.sl (.int .i64))), (1, .tm true (.int .i64)), (2, .tm true (.int .i64)), (7, .tm true (.int .i64))], []⟩
def R01_Within_y1 : Lay := ⟨28, [(6, .tm true .bool)], []⟩
def R01_Within_y2 : Lay := ⟨28, [], []⟩
def R01_Within_l2_F (k : Nat) (v : ((List Int) × Int × Int × Int × Unit) × (Unit)) (K : KK) : Prop := R01_Within_l2 k v.1.1 v.1.2.1 v.1.2.2.1 v.1.2.2.2.1 (fun (y0 : Bool) => K .ret (st R01_Within_y1 ((y0, ()), (())))) (K (.exit 0) (st R01_Within_y2 ((()), (()))))
def R01_Within_l2_c : Cut := ⟨R01_Within_y0, fun o => match o with | .ret => some R01_Within_y1 | .exit 0 => some R01_Within_y2 | _ => none, fun (v : ((List Int) × Int × Int × Int × Unit) × (Unit)) K => ∃ k, R01_Within_l2_F k v K⟩
def R01_Within_L : Cuts := mkL [(2, R01_Within_l2_c)] []
theorem R01_Within_lo : LoopsOK R01_Within_C R01_Within_L R01_Within_b :=
  (show LoopsOK R01_Within_C R01_Within_L R01_Within_b = ((LoopOK R01_Within_C R01_Within_L R01_Within_l2_c (nthB (loopsOf R01_Within_b) 0) ∧ True) ∧ True) by kernel_rfl).mpr ⟨⟨⟨R01_Within_l2_F, fun v K => by kernel_rfl, fun v K => by kernel_rfl, fun k v K => by kernel_rfl⟩, trivial⟩, trivial⟩
theorem R01_Within_jo : JoinsOK R01_Within_C R01_Within_L R01_Within_b := (show JoinsOK R01_Within_C R01_Within_L R01_Within_b = True by kernel_rfl).mpr trivial
theorem R01_Within_ok : EntOK Try.prog 40 R01_Within_e :=
  entOf_ok (e := evFn R01_Within_C R01_Within_L Try.f40) (fun v n K => Eq.trans (R01_Within_def v.1 v.2.1 v.2.2.1 (fun (r0 : Bool) => K (.t true .bool r0) [])) (by kernel_rfl)) (evFn_ok (mkC_all (fns := R01_Within_f) tys_ok trivial mixed) Try.func40 (show Try.f40.body = some R01_Within_b by kernel_rfl) ⟨R01_Within_lo, R01_Within_jo, by kernel_rfl⟩)

def R17_Power_e : Ent := entOf [.tm (.sl (.int .i64))] fun (v : (List Int) × Unit) n K => R17_Power v.1 (fun (r0 : Int) => K (.t true (.int .i64) r0) [])
def R17_Power_f : List (Nat × Ent) := [(40, R01_Within_e), (58, R17_squares_e), (57, R06_Sqrt_e)]
def R17_Power_C : Cfg := mkC tys R17_Power_f
def R17_Power_b : Code := match Try.f28.body with | some c => c | none => .skip
def R17_Power_L : Cuts := mkL [] []
theorem R17_Power_lo : LoopsOK R17_Power_C R17_Power_L R17_Power_b := (show LoopsOK R17_Power_C R17_Power_L R17_Power_b = True by kernel_rfl).mpr trivial
theorem R17_Power_jo : JoinsOK R17_Power_C R17_Power_L R17_Power_b := (show JoinsOK R17_Power_C R17_Power_L R17_Power_b = True by kernel_rfl).mpr trivial
theorem R17_Power_ok : EntOK Try.prog 28 R17_Power_e :=
  entOf_ok (e := evFn R17_Power_C R17_Power_L Try.f28) (fun v n K => Eq.trans (R17_Power_def v.1 (fun (r0 : Int) => K (.t true (.int .i64) r0) [])) (by kernel_rfl)) (evFn_ok (mkC_all (fns := R17_Power_f) tys_ok ⟨⟨R01_Within_ok, Try.call40⟩, ⟨R17_squares_ok, Try.call58⟩, ⟨R06_Sqrt_ok, Try.call57⟩, trivial⟩ mixed) Try.func28 (show Try.f28.body = some R17_Power_b by kernel_rfl) ⟨R17_Power_lo, R17_Power_jo, by kernel_rfl⟩)

def R08_Find_e : Ent := entOf [.tm (.int .i64)] fun (v : Int × Unit) n K => R08_Find v.1 (fun (r0 : Int) (r1 : Int) => K (.tu [.t true (.int .i64) r0, .t true (.int .i64) r1]) [])
def R08_Find_f : List (Nat × Ent) := [(30, R08_Amp_e)]
def R08_Find_C : Cfg := mkC tys R08_Find_f
def R08_Find_b : Code := match Try.f61.body with | some c => c | none => .skip
def R08_Find_y0 : Lay := ⟨21, [(0, .tm true (.int .i64)), (4, .tm true (.int .i64)), (5, .tm true (.int .i64))], []⟩
def R08_Find_y1 : Lay := ⟨21, [(2, .tm true (.int .i64)), (3, .tm true (.int .i64))], []⟩
def R08_Find_y2 : Lay := ⟨21, [(0, .tm true (.int .i64)), (4, .tm true (.int .i64))], []⟩
def R08_Find_l5_F (k : Nat) (v : (Int × Int × Int × Unit) × (Unit)) (K : KK) : Prop := R08_Find_l5 k v.1.1 v.1.2.1 v.1.2.2.1 (fun (y0 : Int) (y1 : Int) => K .ret (st R08_Find_y1 ((y0, y1, ()), (())))) (fun (y0 : Int) (y1 : Int) => K (.exit 2) (st R08_Find_y2 ((y0, y1, ()), (()))))
def R08_Find_l5_c : Cut := ⟨R08_Find_y0, fun o => match o with | .ret => some R08_Find_y1 | .exit 2 => some R08_Find_y2 | _ => none, fun (v : (Int × Int × Int × Unit) × (Unit)) K => ∃ k, R08_Find_l5_F k v K⟩
def R08_Find_y3 : Lay := ⟨21, [], []⟩
def R08_Find_l2_F (k : Nat) (v : (Int × Int × Unit) × (Unit)) (K : KK) : Prop := R08_Find_l2 k v.1.1 v.1.2.1 (fun (y0 : Int) (y1 : Int) => K .ret (st R08_Find_y1 ((y0, y1, ()), (())))) (K (.exit 0) (st R08_Find_y3 ((()), (()))))
def R08_Find_l2_c : Cut := ⟨R08_Find_y2, fun o => match o with | .ret => some R08_Find_y1 | .exit 0 => some R08_Find_y3 | _ => none, fun (v : (Int × Int × Unit) × (Unit)) K => ∃ k, R08_Find_l2_F k v K⟩
def R08_Find_L : Cuts := mkL [(5, R08_Find_l5_c), (2, R08_Find_l2_c)] []
theorem R08_Find_lo : LoopsOK R08_Find_C R08_Find_L R08_Find_b :=
  (show LoopsOK R08_Find_C R08_Find_L R08_Find_b = ((LoopOK R08_Find_C R08_Find_L R08_Find_l2_c (nthB (loopsOf R08_Find_b) 0) ∧ True) ∧ (LoopOK R08_Find_C R08_Find_L R08_Find_l5_c (nthB (loopsOf R08_Find_b) 1) ∧ True) ∧ True) by kernel_rfl).mpr ⟨⟨⟨R08_Find_l2_F, fun v K => by kernel_rfl, fun v K => by kernel_rfl, fun k v K => by kernel_rfl⟩, trivial⟩, ⟨⟨R08_Find_l5_F, fun v K => by kernel_rfl, fun v K => by kernel_rfl, fun k v K => by kernel_rfl⟩, trivial⟩, trivial⟩
theorem R08_Find_jo : JoinsOK R08_Find_C R08_Find_L R08_Find_b := (show JoinsOK R08_Find_C R08_Find_L R08_Find_b = True by kernel_rfl).mpr trivial
theorem R08_Find_ok : EntOK Try.prog 61 R08_Find_e :=
  entOf_ok (e := evFn R08_Find_C R08_Find_L Try.f61) (fun v n K => Eq.trans (R08_Find_def v.1 (fun (r0 : Int) (r1 : Int) => K (.tu [.t true (.int .i64) r0, .t true (.int .i64) r1]) [])) (by kernel_rfl)) (evFn_ok (mkC_all (fns := R08_Find_f) tys_ok ⟨⟨R08_Amp_ok, Try.call30⟩, trivial⟩ mixed) Try.func61 (show Try.f61.body = some R08_Find_b by kernel_rfl) ⟨R08_Find_lo, R08_Find_jo, by kernel_rfl⟩)

def R17_Level_e : Ent := entOf [.tm (.sl (.int .i64))] fun (v : (List Int) × Unit) n K => R17_Level v.1 (fun (r0 : Int) (r1 : Int) => K (.tu [.t true (.int .i64) r0, .t true (.int .i64) r1]) [])
def R17_Level_f : List (Nat × Ent) := [(28, R17_Power_e), (61, R08_Find_e)]
def R17_Level_C : Cfg := mkC tys R17_Level_f
def R17_Level_b : Code := match Try.f26.body with | some c => c | none => .skip
def R17_Level_L : Cuts := mkL [] []
theorem R17_Level_lo : LoopsOK R17_Level_C R17_Level_L R17_Level_b := (show LoopsOK R17_Level_C R17_Level_L R17_Level_b = True by kernel_rfl).mpr trivial
theorem R17_Level_jo : JoinsOK R17_Level_C R17_Level_L R17_Level_b := (show JoinsOK R17_Level_C R17_Level_L R17_Level_b = True by kernel_rfl).mpr trivial
theorem R17_Level_ok : EntOK Try.prog 26 R17_Level_e :=
  entOf_ok (e := evFn R17_Level_C R17_Level_L Try.f26) (fun v n K => Eq.trans (R17_Level_def v.1 (fun (r0 : Int) (r1 : Int) => K (.tu [.t true (.int .i64) r0, .t true (.int .i64) r1]) [])) (by kernel_rfl)) (evFn_ok (mkC_all (fns := R17_Level_f) tys_ok ⟨⟨R17_Power_ok, Try.call28⟩, ⟨R08_Find_ok, Try.call61⟩, trivial⟩ mixed) Try.func26 (show Try.f26.body = some R17_Level_b by kernel_rfl) ⟨R17_Level_lo, R17_Level_jo, by kernel_rfl⟩)

end
end Go.Eng.A
