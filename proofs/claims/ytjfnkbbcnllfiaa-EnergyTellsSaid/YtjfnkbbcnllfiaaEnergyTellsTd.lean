/- Each of these functions is what the program computes: printed by program. -/
import Derived.Test.YtjfnkbbcnllfiaaEngT
import Derived.Test.YtjfnkbbcnllfiaaEnergyTellsP
import Derived.Test.YtjfnkbbcnllfiaaProg
import Derived.Test.YtjfnkbbcnllfiaaEnergyTellsTc
set_option linter.unusedVariables false
set_option maxRecDepth 100000
namespace Go.Eng.A
open Go Go.Eng Go.Proofs
noncomputable section

def R14_Row_e : Ent := entOf [.tm .bool, .tm (.sl (.int .i64)), .tm (.sl (.int .i64))] fun (v : Bool × (List Int) × (List Int) × Unit) n K => R14_Row v.1 v.2.1 v.2.2.1 (fun (r0 : Bool) => K (.tu [.ns, .t true .bool r0]) []) (fun (r0 : Bool) (r1 : (List Int)) => K (.tu [.os (n + 0), .t true .bool r0]) [.val true true 3 (.row (.int .i64)) r1])
def R14_Row_f : List (Nat × Ent) := [(51, R01_Within_e), (38, R14_Right_e), (54, R14_expected_e)]
def R14_Row_C : Cfg := mkC tys R14_Row_f
def R14_Row_b : Code := match Try.f36.body with | some c => c | none => .skip
def R14_Row_y0 : Lay := ⟨53, [(0, .tm true .bool), (1, .tm false (.sl (.int .i64))), (2, .tm false (.sl (.int .i64))), (27, .tm true .bool)], []⟩
def R14_Row_y1 : Lay := ⟨53, [(6, .fx .ns), (7, .tm true .bool)], []⟩
def R14_Row_y2 : Lay := ⟨53, [(0, .tm true .bool), (1, .tm false (.sl (.int .i64))), (2, .tm false (.sl (.int .i64)))], []⟩
def R14_Row_j2_c : Cut := ⟨R14_Row_y0, fun o => match o with | .ret => some R14_Row_y1 | .nrm => some R14_Row_y2 | _ => none, fun (v : (Bool × (List Int) × (List Int) × Bool × Unit) × (Unit)) (K : KK) => R14_Row_j2 v.1.1 v.1.2.1 v.1.2.2.1 v.1.2.2.2.1 (fun (y0 : Bool) => K .ret (st R14_Row_y1 ((y0, ()), (())))) (fun (y0 : Bool) (y1 : (List Int)) (y2 : (List Int)) => K .nrm (st R14_Row_y2 ((y0, y1, y2, ()), (()))))⟩
def R14_Row_y3 : Lay := ⟨53, [(0, .tm true .bool), (1, .tm false (.sl (.int .i64))), (2, .tm false (.sl (.int .i64))), (8, .fx (.os 0)), (9, .tm true (.int .i64)), (10, .tm true (.int .i64)), (47, .tm true .bool)], [.val true true 3 (.row (.int .i64))]⟩
def R14_Row_y4 : Lay := ⟨53, [(0, .tm true .bool), (1, .tm false (.sl (.int .i64))), (2, .tm false (.sl (.int .i64))), (8, .fx (.os 0)), (9, .tm true (.int .i64)), (10, .tm true (.int .i64))], [.val true true 3 (.row (.int .i64))]⟩
def R14_Row_j9_c : Cut := ⟨R14_Row_y3, fun o => match o with | .ret => some R14_Row_y1 | .nrm => some R14_Row_y4 | _ => none, fun (v : (Bool × (List Int) × (List Int) × Int × Int × Bool × Unit) × ((List Int) × Unit)) (K : KK) => R14_Row_j9 v.1.1 v.1.2.1 v.1.2.2.1 v.1.2.2.2.1 v.1.2.2.2.2.1 v.1.2.2.2.2.2.1 v.2.1 (fun (y0 : Bool) => K .ret (st R14_Row_y1 ((y0, ()), (())))) (fun (y0 : Bool) (y1 : (List Int)) (y2 : (List Int)) (y3 : Int) (y4 : Int) (y5 : (List Int)) => K .nrm (st R14_Row_y4 ((y0, y1, y2, y3, y4, ()), (y5, ()))))⟩
def R14_Row_y5 : Lay := ⟨53, [(0, .tm true .bool), (1, .tm false (.sl (.int .i64))), (2, .tm false (.sl (.int .i64))), (8, .fx (.os 0)), (9, .tm true (.int .i64))], [.val true true 3 (.row (.int .i64))]⟩
def R14_Row_j10_c : Cut := ⟨R14_Row_y4, fun o => match o with | .nrm => some R14_Row_y5 | _ => none, fun (v : (Bool × (List Int) × (List Int) × Int × Int × Unit) × ((List Int) × Unit)) (K : KK) => R14_Row_j10 v.1.1 v.1.2.1 v.1.2.2.1 v.1.2.2.2.1 v.1.2.2.2.2.1 v.2.1 (fun (y0 : Bool) (y1 : (List Int)) (y2 : (List Int)) (y3 : Int) (y4 : (List Int)) => K .nrm (st R14_Row_y5 ((y0, y1, y2, y3, ()), (y4, ()))))⟩
def R14_Row_y6 : Lay := ⟨53, [(8, .fx (.os 0))], [.val true true 3 (.row (.int .i64))]⟩
def R14_Row_l5_F (k : Nat) (v : (Bool × (List Int) × (List Int) × Int × Unit) × ((List Int) × Unit)) (K : KK) : Prop := R14_Row_l5 k v.1.1 v.1.2.1 v.1.2.2.1 v.1.2.2.2.1 v.2.1 (fun (y0 : Bool) => K .ret (st R14_Row_y1 ((y0, ()), (())))) (fun (y0 : (List Int)) => K (.exit 0) (st R14_Row_y6 ((()), (y0, ()))))
def R14_Row_l5_c : Cut := ⟨R14_Row_y5, fun o => match o with | .ret => some R14_Row_y1 | .exit 0 => some R14_Row_y6 | _ => none, fun (v : (Bool × (List Int) × (List Int) × Int × Unit) × ((List Int) × Unit)) K => ∃ k, R14_Row_l5_F k v K⟩
def R14_Row_y7 : Lay := ⟨53, [(6, .fx (.os 0)), (7, .tm true .bool)], [.val true true 3 (.row (.int .i64))]⟩
def R14_Row_j3_c : Cut := ⟨R14_Row_y2, fun o => match o with | .ret => some R14_Row_y7 | _ => none, fun (v : (Bool × (List Int) × (List Int) × Unit) × (Unit)) (K : KK) => R14_Row_j3 v.1.1 v.1.2.1 v.1.2.2.1 (fun (y0 : Bool) (y1 : (List Int)) => K .ret (st R14_Row_y7 ((y0, ()), (y1, ()))))⟩
def R14_Row_L : Cuts := mkL [(5, R14_Row_l5_c)] [(2, R14_Row_j2_c), (9, R14_Row_j9_c), (10, R14_Row_j10_c), (3, R14_Row_j3_c)]
theorem R14_Row_lo : LoopsOK R14_Row_C R14_Row_L R14_Row_b :=
  (show LoopsOK R14_Row_C R14_Row_L R14_Row_b = ((LoopOK R14_Row_C R14_Row_L R14_Row_l5_c (nthB (loopsOf R14_Row_b) 0) ∧ True) ∧ True) by kernel_rfl).mpr ⟨⟨⟨R14_Row_l5_F, fun v K => by kernel_rfl, fun v K => by kernel_rfl, fun k v K => by kernel_rfl⟩, trivial⟩, trivial⟩
theorem R14_Row_jo : JoinsOK R14_Row_C R14_Row_L R14_Row_b :=
  (show JoinsOK R14_Row_C R14_Row_L R14_Row_b = ((JoinOK R14_Row_C R14_Row_L R14_Row_j3_c (nthB (joinsOf R14_Row_L R14_Row_b) 0) ∧ True) ∧ (JoinOK R14_Row_C R14_Row_L R14_Row_j2_c (nthB (joinsOf R14_Row_L R14_Row_b) 1) ∧ True) ∧ (JoinOK R14_Row_C R14_Row_L R14_Row_j10_c (nthB (joinsOf R14_Row_L R14_Row_b) 2) ∧ True) ∧ (JoinOK R14_Row_C R14_Row_L R14_Row_j9_c (nthB (joinsOf R14_Row_L R14_Row_b) 3) ∧ True) ∧ True) by kernel_rfl).mpr ⟨⟨fun v K => by kernel_rfl, trivial⟩, ⟨fun v K => by kernel_rfl, trivial⟩, ⟨fun v K => by kernel_rfl, trivial⟩, ⟨fun v K => by kernel_rfl, trivial⟩, trivial⟩
theorem R14_Row_ok : EntOK Try.prog 36 R14_Row_e :=
  entOf_ok (e := evFn R14_Row_C R14_Row_L Try.f36) (fun v n K => Eq.trans (R14_Row_def v.1 v.2.1 v.2.2.1 (fun (r0 : Bool) => K (.tu [.ns, .t true .bool r0]) []) (fun (r0 : Bool) (r1 : (List Int)) => K (.tu [.os (n + 0), .t true .bool r0]) [.val true true 3 (.row (.int .i64)) r1])) (by kernel_rfl)) (evFn_ok (mkC_all (fns := R14_Row_f) tys_ok ⟨⟨R01_Within_ok, Try.call51⟩, ⟨R14_Right_ok, Try.call38⟩, ⟨R14_expected_ok, Try.call54⟩, trivial⟩ mixed) Try.func36 (show Try.f36.body = some R14_Row_b by kernel_rfl) ⟨R14_Row_lo, R14_Row_jo, by kernel_rfl⟩)

def R14_Deltas_e : Ent := entOf [.tm .bool, .tm (.sl (.int .i64)), .tm (.sl (.int .i64))] fun (v : Bool × (List Int) × (List Int) × Unit) n K => R14_Deltas v.1 v.2.1 v.2.2.1 (K (.ns) []) (fun (r0 : (List Int)) => K (.os (n + 0)) [.val true true 3 (.row (.int .i64)) r0])
def R14_Deltas_f : List (Nat × Ent) := [(38, R14_Right_e), (54, R14_expected_e)]
def R14_Deltas_C : Cfg := mkC tys R14_Deltas_f
def R14_Deltas_b : Code := match Try.f40.body with | some c => c | none => .skip
def R14_Deltas_y0 : Lay := ⟨39, [(0, .tm true .bool), (1, .tm false (.sl (.int .i64))), (2, .tm false (.sl (.int .i64))), (7, .fx (.os 0)), (8, .tm true (.int .i64))], [.val true true 3 (.row (.int .i64))]⟩
def R14_Deltas_y1 : Lay := ⟨39, [(7, .fx (.os 0))], [.val true true 3 (.row (.int .i64))]⟩
def R14_Deltas_l5_F (k : Nat) (v : (Bool × (List Int) × (List Int) × Int × Unit) × ((List Int) × Unit)) (K : KK) : Prop := R14_Deltas_l5 k v.1.1 v.1.2.1 v.1.2.2.1 v.1.2.2.2.1 v.2.1 (fun (y0 : (List Int)) => K (.exit 0) (st R14_Deltas_y1 ((()), (y0, ()))))
def R14_Deltas_l5_c : Cut := ⟨R14_Deltas_y0, fun o => match o with | .exit 0 => some R14_Deltas_y1 | _ => none, fun (v : (Bool × (List Int) × (List Int) × Int × Unit) × ((List Int) × Unit)) K => ∃ k, R14_Deltas_l5_F k v K⟩
def R14_Deltas_y2 : Lay := ⟨39, [(0, .tm true .bool), (1, .tm false (.sl (.int .i64))), (2, .tm false (.sl (.int .i64)))], []⟩
def R14_Deltas_y3 : Lay := ⟨39, [(6, .fx (.os 0))], [.val true true 3 (.row (.int .i64))]⟩
def R14_Deltas_j3_c : Cut := ⟨R14_Deltas_y2, fun o => match o with | .ret => some R14_Deltas_y3 | _ => none, fun (v : (Bool × (List Int) × (List Int) × Unit) × (Unit)) (K : KK) => R14_Deltas_j3 v.1.1 v.1.2.1 v.1.2.2.1 (fun (y0 : (List Int)) => K .ret (st R14_Deltas_y3 ((()), (y0, ()))))⟩
def R14_Deltas_L : Cuts := mkL [(5, R14_Deltas_l5_c)] [(3, R14_Deltas_j3_c)]
theorem R14_Deltas_lo : LoopsOK R14_Deltas_C R14_Deltas_L R14_Deltas_b :=
  (show LoopsOK R14_Deltas_C R14_Deltas_L R14_Deltas_b = ((LoopOK R14_Deltas_C R14_Deltas_L R14_Deltas_l5_c (nthB (loopsOf R14_Deltas_b) 0) ∧ True) ∧ True) by kernel_rfl).mpr ⟨⟨⟨R14_Deltas_l5_F, fun v K => by kernel_rfl, fun v K => by kernel_rfl, fun k v K => by kernel_rfl⟩, trivial⟩, trivial⟩
theorem R14_Deltas_jo : JoinsOK R14_Deltas_C R14_Deltas_L R14_Deltas_b :=
  (show JoinsOK R14_Deltas_C R14_Deltas_L R14_Deltas_b = ((JoinOK R14_Deltas_C R14_Deltas_L R14_Deltas_j3_c (nthB (joinsOf R14_Deltas_L R14_Deltas_b) 0) ∧ True) ∧ True) by kernel_rfl).mpr ⟨⟨fun v K => by kernel_rfl, trivial⟩, trivial⟩
theorem R14_Deltas_ok : EntOK Try.prog 40 R14_Deltas_e :=
  entOf_ok (e := evFn R14_Deltas_C R14_Deltas_L Try.f40) (fun v n K => Eq.trans (R14_Deltas_def v.1 v.2.1 v.2.2.1 (K (.ns) []) (fun (r0 : (List Int)) => K (.os (n + 0)) [.val true true 3 (.row (.int .i64)) r0])) (by kernel_rfl)) (evFn_ok (mkC_all (fns := R14_Deltas_f) tys_ok ⟨⟨R14_Right_ok, Try.call38⟩, ⟨R14_expected_ok, Try.call54⟩, trivial⟩ mixed) Try.func40 (show Try.f40.body = some R14_Deltas_b by kernel_rfl) ⟨R14_Deltas_lo, R14_Deltas_jo, by kernel_rfl⟩)

def R01_Same_e : Ent := entOf [.tm (.sl (.int .i64)), .tm (.sl (.int .i64))] fun (v : (List Int) × (List Int) × Unit) n K => R01_Same v.1 v.2.1 (fun (r0 : Bool) => K (.t true .bool r0) [])
def R01_Same_f : List (Nat × Ent) := []
def R01_Same_C : Cfg := mkC tys R01_Same_f
def R01_Same_b : Code := match Try.f14.body with | some c => c | none => .skip
def R01_Same_y0 : Lay := ⟨26, [(0, .tm false (.sl (.int .i64))), (1, .tm false (.sl (.int .i64))), (5, .tm true (.int .i64))], []⟩
def R01_Same_y1 : Lay := ⟨26, [(4, .tm true .bool)], []⟩
def R01_Same_y2 : Lay := ⟨26, [], []⟩
def R01_Same_l4_F (k : Nat) (v : ((List Int) × (List Int) × Int × Unit) × (Unit)) (K : KK) : Prop := R01_Same_l4 k v.1.1 v.1.2.1 v.1.2.2.1 (fun (y0 : Bool) => K .ret (st R01_Same_y1 ((y0, ()), (())))) (K (.exit 0) (st R01_Same_y2 ((()), (()))))
def R01_Same_l4_c : Cut := ⟨R01_Same_y0, fun o => match o with | .ret => some R01_Same_y1 | .exit 0 => some R01_Same_y2 | _ => none, fun (v : ((List Int) × (List Int) × Int × Unit) × (Unit)) K => ∃ k, R01_Same_l4_F k v K⟩
def R01_Same_L : Cuts := mkL [(4, R01_Same_l4_c)] []
theorem R01_Same_lo : LoopsOK R01_Same_C R01_Same_L R01_Same_b :=
  (show LoopsOK R01_Same_C R01_Same_L R01_Same_b = ((LoopOK R01_Same_C R01_Same_L R01_Same_l4_c (nthB (loopsOf R01_Same_b) 0) ∧ True) ∧ True) by kernel_rfl).mpr ⟨⟨⟨R01_Same_l4_F, fun v K => by kernel_rfl, fun v K => by kernel_rfl, fun k v K => by kernel_rfl⟩, trivial⟩, trivial⟩
theorem R01_Same_jo : JoinsOK R01_Same_C R01_Same_L R01_Same_b := (show JoinsOK R01_Same_C R01_Same_L R01_Same_b = True by kernel_rfl).mpr trivial
theorem R01_Same_ok : EntOK Try.prog 14 R01_Same_e :=
  entOf_ok (e := evFn R01_Same_C R01_Same_L Try.f14) (fun v n K => Eq.trans (R01_Same_def v.1 v.2.1 (fun (r0 : Bool) => K (.t true .bool r0) [])) (by kernel_rfl)) (evFn_ok (mkC_all (fns := R01_Same_f) tys_ok trivial mixed) Try.func14 (show Try.f14.body = some R01_Same_b by kernel_rfl) ⟨R01_Same_lo, R01_Same_jo, by kernel_rfl⟩)

end
end Go.Eng.A
