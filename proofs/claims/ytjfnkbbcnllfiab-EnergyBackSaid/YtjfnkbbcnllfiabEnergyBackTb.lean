/- Each of these functions is what the program computes: printed by program. -/
import Derived.Test.YtjfnkbbcnllfiabEngT
import Derived.Test.YtjfnkbbcnllfiabEnergyBackP
import Derived.Test.YtjfnkbbcnllfiabProg
import Derived.Test.YtjfnkbbcnllfiabEnergyBackTa
set_option linter.unusedVariables false
set_option maxRecDepth 100000
namespace Go.Eng.A
open Go Go.Eng Go.Proofs
noncomputable section

def energy_Row_e : Ent := entOf [.tm .bool, .tm (.sl (.int .i64)), .tm (.sl (.int .i64))] fun (v : Bool × (List Int) × (List Int) × Unit) n K => energy_Row v.1 v.2.1 v.2.2.1 (fun (r0 : Bool) => K (.tu [.ns, .t true .bool r0]) []) (fun (r0 : Bool) (r1 : (List Int)) => K (.tu [.os (n + 0), .t true .bool r0]) [.val true true 3 (.row (.int .i64)) r1])
def energy_Row_f : List (Nat × Ent) := [(32, energy_Right_e), (33, energy_expects_e), (45, energy_expects_1_e), (46, energy_expects_2_e)]
def energy_Row_C : Cfg := mkC tys energy_Row_f
def energy_Row_b : Code := match Try.f11.body with | some c => c | none => .skip
def energy_Row_y0 : Lay := ⟨62, [(0, .tm true .bool), (1, .tm false (.sl (.int .i64))), (2, .tm false (.sl (.int .i64))), (24, .tm true .bool)], []⟩
def energy_Row_y1 : Lay := ⟨62, [(6, .fx .ns), (7, .tm true .bool)], []⟩
def energy_Row_y2 : Lay := ⟨62, [(0, .tm true .bool), (1, .tm false (.sl (.int .i64))), (2, .tm false (.sl (.int .i64)))], []⟩
def energy_Row_j2_c : Cut := ⟨energy_Row_y0, fun o => match o with | .ret => some energy_Row_y1 | .nrm => some energy_Row_y2 | _ => none, fun (v : (Bool × (List Int) × (List Int) × Bool × Unit) × (Unit)) (K : KK) => energy_Row_j2 v.1.1 v.1.2.1 v.1.2.2.1 v.1.2.2.2.1 (fun (y0 : Bool) => K .ret (st energy_Row_y1 ((y0, ()), (())))) (fun (y0 : Bool) (y1 : (List Int)) (y2 : (List Int)) => K .nrm (st energy_Row_y2 ((y0, y1, y2, ()), (()))))⟩
def energy_Row_y3 : Lay := ⟨62, [(8, .fx (.fn 45 [])), (9, .fx (.os 0)), (10, .tm true (.int .i64)), (11, .tm true (.int .i64)), (12, .tm true (.int .i64)), (31, .tm false (.sl (.int .i64))), (32, .tm true (.int .i64)), (33, .tm true (.int .i64)), (43, .tm true .bool)], [.val true true 3 (.row (.int .i64))]⟩
def energy_Row_y4 : Lay := ⟨62, [(8, .fx (.fn 45 [])), (9, .fx (.os 0)), (10, .tm true (.int .i64)), (11, .tm true (.int .i64)), (12, .tm true (.int .i64)), (31, .tm false (.sl (.int .i64))), (32, .tm true (.int .i64)), (33, .tm true (.int .i64))], [.val true true 3 (.row (.int .i64))]⟩
def energy_Row_j10_c : Cut := ⟨energy_Row_y3, fun o => match o with | .ret => some energy_Row_y1 | .nrm => some energy_Row_y4 | _ => none, fun (v : (Int × Int × Int × (List Int) × Int × Int × Bool × Unit) × ((List Int) × Unit)) (K : KK) => energy_Row_j10 v.1.1 v.1.2.1 v.1.2.2.1 v.1.2.2.2.1 v.1.2.2.2.2.1 v.1.2.2.2.2.2.1 v.1.2.2.2.2.2.2.1 v.2.1 (fun (y0 : Bool) => K .ret (st energy_Row_y1 ((y0, ()), (())))) (fun (y0 : Int) (y1 : Int) (y2 : Int) (y3 : (List Int)) (y4 : Int) (y5 : Int) (y6 : (List Int)) => K .nrm (st energy_Row_y4 ((y0, y1, y2, y3, y4, y5, ()), (y6, ()))))⟩
def energy_Row_y5 : Lay := ⟨62, [(8, .fx (.fn 45 [])), (9, .fx (.os 0)), (10, .tm true (.int .i64)), (31, .tm false (.sl (.int .i64))), (32, .tm true (.int .i64)), (33, .tm true (.int .i64)), (59, .tm true .bool)], [.val true true 3 (.row (.int .i64))]⟩
def energy_Row_y6 : Lay := ⟨62, [(8, .fx (.fn 45 [])), (9, .fx (.os 0)), (10, .tm true (.int .i64)), (31, .tm false (.sl (.int .i64))), (32, .tm true (.int .i64)), (33, .tm true (.int .i64))], [.val true true 3 (.row (.int .i64))]⟩
def energy_Row_j14_c : Cut := ⟨energy_Row_y5, fun o => match o with | .ret => some energy_Row_y1 | .nrm => some energy_Row_y6 | _ => none, fun (v : (Int × (List Int) × Int × Int × Bool × Unit) × ((List Int) × Unit)) (K : KK) => energy_Row_j14 v.1.1 v.1.2.1 v.1.2.2.1 v.1.2.2.2.1 v.1.2.2.2.2.1 v.2.1 (fun (y0 : Bool) => K .ret (st energy_Row_y1 ((y0, ()), (())))) (fun (y0 : Int) (y1 : (List Int)) (y2 : Int) (y3 : Int) (y4 : (List Int)) => K .nrm (st energy_Row_y6 ((y0, y1, y2, y3, ()), (y4, ()))))⟩
def energy_Row_j11_c : Cut := ⟨energy_Row_y4, fun o => match o with | .ret => some energy_Row_y1 | .nrm => some energy_Row_y6 | _ => none, fun (v : (Int × Int × Int × (List Int) × Int × Int × Unit) × ((List Int) × Unit)) (K : KK) => energy_Row_j11 v.1.1 v.1.2.1 v.1.2.2.1 v.1.2.2.2.1 v.1.2.2.2.2.1 v.1.2.2.2.2.2.1 v.2.1 (fun (y0 : Bool) => K .ret (st energy_Row_y1 ((y0, ()), (())))) (fun (y0 : Int) (y1 : (List Int)) (y2 : Int) (y3 : Int) (y4 : (List Int)) => K .nrm (st energy_Row_y6 ((y0, y1, y2, y3, ()), (y4, ()))))⟩
def energy_Row_y7 : Lay := ⟨62, [(9, .fx (.os 0))], [.val true true 3 (.row (.int .i64))]⟩
def energy_Row_l7_F (k : Nat) (v : (Int × (List Int) × Int × Int × Unit) × ((List Int) × Unit)) (K : KK) : Prop := energy_Row_l7 k v.1.1 v.1.2.1 v.1.2.2.1 v.1.2.2.2.1 v.2.1 (fun (y0 : Bool) => K .ret (st energy_Row_y1 ((y0, ()), (())))) (fun (y0 : (List Int)) => K (.exit 0) (st energy_Row_y7 ((()), (y0, ()))))
def energy_Row_l7_c : Cut := ⟨energy_Row_y6, fun o => match o with | .ret => some energy_Row_y1 | .exit 0 => some energy_Row_y7 | _ => none, fun (v : (Int × (List Int) × Int × Int × Unit) × ((List Int) × Unit)) K => ∃ k, energy_Row_l7_F k v K⟩
def energy_Row_y8 : Lay := ⟨62, [(8, .fx (.fn 46 [(.op 0 (.sl (.int .i64)) [])])), (9, .fx (.os 1)), (10, .tm true (.int .i64)), (11, .tm true (.int .i64)), (12, .tm true (.int .i64)), (31, .tm false (.sl (.int .i64))), (32, .tm true (.int .i64)), (33, .tm true (.int .i64)), (43, .tm true .bool)], [.val true false 23 (.sl (.int .i64)), .val true true 3 (.row (.int .i64))]⟩
def energy_Row_y9 : Lay := ⟨62, [(8, .fx (.fn 46 [(.op 0 (.sl (.int .i64)) [])])), (9, .fx (.os 1)), (10, .tm true (.int .i64)), (11, .tm true (.int .i64)), (12, .tm true (.int .i64)), (31, .tm false (.sl (.int .i64))), (32, .tm true (.int .i64)), (33, .tm true (.int .i64))], [.val true false 23 (.sl (.int .i64)), .val true true 3 (.row (.int .i64))]⟩
def energy_Row_j10a_c : Cut := ⟨energy_Row_y8, fun o => match o with | .ret => some energy_Row_y1 | .nrm => some energy_Row_y9 | _ => none, fun (v : (Int × Int × Int × (List Int) × Int × Int × Bool × Unit) × ((List Int) × (List Int) × Unit)) (K : KK) => energy_Row_j10a v.1.1 v.1.2.1 v.1.2.2.1 v.1.2.2.2.1 v.1.2.2.2.2.1 v.1.2.2.2.2.2.1 v.1.2.2.2.2.2.2.1 v.2.1 v.2.2.1 (fun (y0 : Bool) => K .ret (st energy_Row_y1 ((y0, ()), (())))) (fun (y0 : Int) (y1 : Int) (y2 : Int) (y3 : (List Int)) (y4 : Int) (y5 : Int) (y6 : (List Int)) (y7 : (List Int)) => K .nrm (st energy_Row_y9 ((y0, y1, y2, y3, y4, y5, ()), (y6, y7, ()))))⟩
def energy_Row_y10 : Lay := ⟨62, [(8, .fx (.fn 46 [(.op 0 (.sl (.int .i64)) [])])), (9, .fx (.os 1)), (10, .tm true (.int .i64)), (31, .tm false (.sl (.int .i64))), (32, .tm true (.int .i64)), (33, .tm true (.int .i64)), (59, .tm true .bool)], [.val true false 23 (.sl (.int .i64)), .val true true 3 (.row (.int .i64))]⟩
def energy_Row_y11 : Lay := ⟨62, [(8, .fx (.fn 46 [(.op 0 (.sl (.int .i64)) [])])), (9, .fx (.os 1)), (10, .tm true (.int .i64)), (31, .tm false (.sl (.int .i64))), (32, .tm true (.int .i64)), (33, .tm true (.int .i64))], [.val true false 23 (.sl (.int .i64)), .val true true 3 (.row (.int .i64))]⟩
def energy_Row_j14a_c : Cut := ⟨energy_Row_y10, fun o => match o with | .ret => some energy_Row_y1 | .nrm => some energy_Row_y11 | _ => none, fun (v : (Int × (List Int) × Int × Int × Bool × Unit) × ((List Int) × (List Int) × Unit)) (K : KK) => energy_Row_j14a v.1.1 v.1.2.1 v.1.2.2.1 v.1.2.2.2.1 v.1.2.2.2.2.1 v.2.1 v.2.2.1 (fun (y0 : Bool) => K .ret (st energy_Row_y1 ((y0, ()), (())))) (fun (y0 : Int) (y1 : (List Int)) (y2 : Int) (y3 : Int) (y4 : (List Int)) (y5 : (List Int)) => K .nrm (st energy_Row_y11 ((y0, y1, y2, y3, ()), (y4, y5, ()))))⟩
def energy_Row_j11a_c : Cut := ⟨energy_Row_y9, fun o => match o with | .ret => some energy_Row_y1 | .nrm => some energy_Row_y11 | _ => none, fun (v : (Int × Int × Int × (List Int) × Int × Int × Unit) × ((List Int) × (List Int) × Unit)) (K : KK) => energy_Row_j11a v.1.1 v.1.2.1 v.1.2.2.1 v.1.2.2.2.1 v.1.2.2.2.2.1 v.1.2.2.2.2.2.1 v.2.1 v.2.2.1 (fun (y0 : Bool) => K .ret (st energy_Row_y1 ((y0, ()), (())))) (fun (y0 : Int) (y1 : (List Int)) (y2 : Int) (y3 : Int) (y4 : (List Int)) (y5 : (List Int)) => K .nrm (st energy_Row_y11 ((y0, y1, y2, y3, ()), (y4, y5, ()))))⟩
def energy_Row_l7a_F (k : Nat) (v : (Int × (List Int) × Int × Int × Unit) × ((List Int) × (List Int) × Unit)) (K : KK) : Prop := energy_Row_l7a k v.1.1 v.1.2.1 v.1.2.2.1 v.1.2.2.2.1 v.2.1 v.2.2.1 (fun (y0 : Bool) => K .ret (st energy_Row_y1 ((y0, ()), (())))) (fun (y0 : (List Int)) => K (.exit 0) (st energy_Row_y7 ((()), (y0, ()))))
def energy_Row_l7a_c : Cut := ⟨energy_Row_y11, fun o => match o with | .ret => some energy_Row_y1 | .exit 0 => some energy_Row_y7 | _ => none, fun (v : (Int × (List Int) × Int × Int × Unit) × ((List Int) × (List Int) × Unit)) K => ∃ k, energy_Row_l7a_F k v K⟩
def energy_Row_y12 : Lay := ⟨62, [(6, .fx (.os 0)), (7, .tm true .bool)], [.val true true 3 (.row (.int .i64))]⟩
def energy_Row_j3_c : Cut := ⟨energy_Row_y2, fun o => match o with | .ret => some energy_Row_y12 | _ => none, fun (v : (Bool × (List Int) × (List Int) × Unit) × (Unit)) (K : KK) => energy_Row_j3 v.1.1 v.1.2.1 v.1.2.2.1 (fun (y0 : Bool) (y1 : (List Int)) => K .ret (st energy_Row_y12 ((y0, ()), (y1, ()))))⟩
def energy_Row_L : Cuts := mkL [(7, energy_Row_l7_c), (7, energy_Row_l7a_c)] [(2, energy_Row_j2_c), (10, energy_Row_j10_c), (14, energy_Row_j14_c), (11, energy_Row_j11_c), (10, energy_Row_j10a_c), (14, energy_Row_j14a_c), (11, energy_Row_j11a_c), (3, energy_Row_j3_c)]
theorem energy_Row_lo : LoopsOK energy_Row_C energy_Row_L energy_Row_b :=
  (show LoopsOK energy_Row_C energy_Row_L energy_Row_b = ((LoopOK energy_Row_C energy_Row_L energy_Row_l7_c (nthB (loopsOf energy_Row_b) 0) ∧ LoopOK energy_Row_C energy_Row_L energy_Row_l7a_c (nthB (loopsOf energy_Row_b) 0) ∧ True) ∧ True) by kernel_rfl).mpr ⟨⟨⟨energy_Row_l7_F, fun v K => by kernel_rfl, fun v K => by kernel_rfl, fun k v K => by kernel_rfl⟩, ⟨energy_Row_l7a_F, fun v K => by kernel_rfl, fun v K => by kernel_rfl, fun k v K => by kernel_rfl⟩, trivial⟩, trivial⟩
theorem energy_Row_jo : JoinsOK energy_Row_C energy_Row_L energy_Row_b :=
  (show JoinsOK energy_Row_C energy_Row_L energy_Row_b = ((JoinOK energy_Row_C energy_Row_L energy_Row_j3_c (nthB (joinsOf energy_Row_L energy_Row_b) 0) ∧ True) ∧ (JoinOK energy_Row_C energy_Row_L energy_Row_j2_c (nthB (joinsOf energy_Row_L energy_Row_b) 1) ∧ True) ∧ (JoinOK energy_Row_C energy_Row_L energy_Row_j11_c (nthB (joinsOf energy_Row_L energy_Row_b) 2) ∧ JoinOK energy_Row_C energy_Row_L energy_Row_j11a_c (nthB (joinsOf energy_Row_L energy_Row_b) 2) ∧ True) ∧ (JoinOK energy_Row_C energy_Row_L energy_Row_j10_c (nthB (joinsOf energy_Row_L energy_Row_b) 3) ∧ JoinOK energy_Row_C energy_Row_L energy_Row_j10a_c (nthB (joinsOf energy_Row_L energy_Row_b) 3) ∧ True) ∧ (JoinOK energy_Row_C energy_Row_L energy_Row_j14_c (nthB (joinsOf energy_Row_L energy_Row_b) 4) ∧ JoinOK energy_Row_C energy_Row_L energy_Row_j14a_c (nthB (joinsOf energy_Row_L energy_Row_b) 4) ∧ True) ∧ True) by kernel_rfl).mpr ⟨⟨fun v K => by kernel_rfl, trivial⟩, ⟨fun v K => by kernel_rfl, trivial⟩, ⟨fun v K => by kernel_rfl, fun v K => by kernel_rfl, trivial⟩, ⟨fun v K => by kernel_rfl, fun v K => by kernel_rfl, trivial⟩, ⟨fun v K => by kernel_rfl, fun v K => by kernel_rfl, trivial⟩, trivial⟩
theorem energy_Row_ok : EntOK Try.prog 11 energy_Row_e :=
  entOf_ok (e := evFn energy_Row_C energy_Row_L Try.f11) (fun v n K => Eq.trans (energy_Row_def v.1 v.2.1 v.2.2.1 (fun (r0 : Bool) => K (.tu [.ns, .t true .bool r0]) []) (fun (r0 : Bool) (r1 : (List Int)) => K (.tu [.os (n + 0), .t true .bool r0]) [.val true true 3 (.row (.int .i64)) r1])) (by kernel_rfl)) (evFn_ok (mkC_all (fns := energy_Row_f) tys_ok ⟨⟨energy_Right_ok, Try.call32⟩, ⟨energy_expects_ok, Try.call33⟩, ⟨energy_expects_1_ok, Try.call45⟩, ⟨energy_expects_2_ok, Try.call46⟩, trivial⟩ mixed) Try.func11 (show Try.f11.body = some energy_Row_b by kernel_rfl) ⟨energy_Row_lo, energy_Row_jo, by kernel_rfl⟩)

def R01_Within_e : Ent := entOf [.tm (.sl (.int .i64)), .tm (.int .i64), .tm (.int .i64)] fun (v : (List Int) × Int × Int × Unit) n K => R01_Within v.1 v.2.1 v.2.2.1 (fun (r0 : Bool) => K (.t true .bool r0) [])
def R01_Within_f : List (Nat × Ent) := []
def R01_Within_C : Cfg := mkC tys R01_Within_f
def R01_Within_b : Code := match Try.f12.body with | some c => c | none => .skip
def R01_Within_y0 : Lay := ⟨28, [(0, .tm false (.sl (.int .i64))), (1, .tm true (.int .i64)), (2, .tm true (.int .i64)), (7, .tm true (.int .i64))], []⟩
def R01_Within_y1 : Lay := ⟨28, [(6, .tm true .bool)], []⟩
def R01_Within_y2 : Lay := ⟨28, [], []⟩
def R01_Within_l2_F (k : Nat) (v : ((List Int) × Int × Int × Int × Unit) × (Unit)) (K : KK) : Prop := R01_Within_l2 k v.1.1 v.1.2.1 v.1.2.2.1 v.1.2.2.2.1 (fun (y0 : Bool) => K .ret (st R01_Within_y1 ((y0, ()), (())))) (K (.exit 0) (st R01_Within_y2 ((()), (()))))
def R01_Within_l2_c : Cut := ⟨R01_Within_y0, fun o => match o with | .ret => some R01_Within_y1 | .exit 0 => some R01_Within_y2 | _ => none, fun (v : ((List Int) × Int × Int × Int × Unit) × (Unit)) K => ∃ k, R01_Within_l2_F k v K⟩
def R01_Within_L : Cuts := mkL [(2, R01_Within_l2_c)] []
theorem R01_Within_lo : LoopsOK R01_Within_C R01_Within_L R01_Within_b :=
  (show LoopsOK R01_Within_C R01_Within_L R01_Within_b = ((LoopOK R01_Within_C R01_Within_L R01_Within_l2_c (nthB (loopsOf R01_Within_b) 0) ∧ True) ∧ True) by kernel_rfl).mpr ⟨⟨⟨R01_Within_l2_F, fun v K => by kernel_rfl, fun v K => by kernel_rfl, fun k v K => by kernel_rfl⟩, trivial⟩, trivial⟩
theorem R01_Within_jo : JoinsOK R01_Within_C R01_Within_L R01_Within_b := (show JoinsOK R01_Within_C R01_Within_L R01_Within_b = True by kernel_rfl).mpr trivial
theorem R01_Within_ok : EntOK Try.prog 12 R01_Within_e :=
  entOf_ok (e := evFn R01_Within_C R01_Within_L Try.f12) (fun v n K => Eq.trans (R01_Within_def v.1 v.2.1 v.2.2.1 (fun (r0 : Bool) => K (.t true .bool r0) [])) (by kernel_rfl)) (evFn_ok (mkC_all (fns := R01_Within_f) tys_ok trivial mixed) Try.func12 (show Try.f12.body = some R01_Within_b by kernel_rfl) ⟨R01_Within_lo, R01_Within_jo, by kernel_rfl⟩)

def R01_Same_e : Ent := entOf [.tm (.sl (.int .i64)), .tm (.sl (.int .i64))] fun (v : (List Int) × (List Int) × Unit) n K => R01_Same v.1 v.2.1 (fun (r0 : Bool) => K (.t true .bool r0) [])
def R01_Same_f : List (Nat × Ent) := []
def R01_Same_C : Cfg := mkC tys R01_Same_f
def R01_Same_b : Code := match Try.f13.body with | some c => c | none => .skip
def R01_Same_y0 : Lay := ⟨26, [(0, .tm false (.sl (.int .i64))), (1, .tm false (.sl (.int .i64))), (5, .tm true (.int .i64))], []⟩
def R01_Same_y1 : Lay := ⟨26, [(4, .tm true .bool)], []⟩
def R01_Same_y2 : Lay := ⟨26, [], []⟩
def R01_Same_l4_F (k : Nat) (v : ((List Int) × (List Int) × Int × Unit) × (Unit)) (K : KK) : Prop := R01_Same_l4 k v.1.1 v.1.2.1 v.1.2.2.1 (fun (y0 : Bool) => K .ret (st R01_Same_y1 ((y0, ()), (())))) (K (.exit 0) (st R01_Same_y2 ((()), (()))))
def R01_Same_l4_c : Cut := ⟨R01_Same_y0, fun o => match o with | .ret => some R01_Same_y1 | .exit 0 => some R01_Same_y2 | _ => none, fun (v : ((List Int) × (List Int) × Int × Unit) × (Unit)) K => ∃ k, R01_Same_l4_F k v K⟩
def R01_Same_L : Cuts := mkL [(4, R01_Same_l4_c)] []
theorem R01_Same_lo : LoopsOK R01_Same_C R01_Same_L R01_Same_b :=
  (show LoopsOK R01_Same_C R01_Same_L R01_Same_b = ((LoopOK R01_Same_C R01_Same_L R01_Same_l4_c (nthB (loopsOf R01_Same_b) 0) ∧ True) ∧ True) by kernel_rfl).mpr ⟨⟨⟨R01_Same_l4_F, fun v K => by kernel_rfl, fun v K => by kernel_rfl, fun k v K => by kernel_rfl⟩, trivial⟩, trivial⟩
theorem R01_Same_jo : JoinsOK R01_Same_C R01_Same_L R01_Same_b := (show JoinsOK R01_Same_C R01_Same_L R01_Same_b = True by kernel_rfl).mpr trivial
theorem R01_Same_ok : EntOK Try.prog 13 R01_Same_e :=
  entOf_ok (e := evFn R01_Same_C R01_Same_L Try.f13) (fun v n K => Eq.trans (R01_Same_def v.1 v.2.1 (fun (r0 : Bool) => K (.t true .bool r0) [])) (by kernel_rfl)) (evFn_ok (mkC_all (fns := R01_Same_f) tys_ok trivial mixed) Try.func13 (show Try.f13.body = some R01_Same_b by kernel_rfl) ⟨R01_Same_lo, R01_Same_jo, by kernel_rfl⟩)

end
end Go.Eng.A
