/- Each of these functions is what the program computes: printed by program. -/
import Derived.Test.YtjfnkbbcnllfiaaEngT
import Derived.Test.YtjfnkbbcnllfiaaEnergyTellsP
import Derived.Test.YtjfnkbbcnllfiaaProg
import Derived.Test.YtjfnkbbcnllfiaaEnergyTellsTd
set_option linter.unusedVariables false
set_option maxRecDepth 100000
namespace Go.Eng.A
open Go Go.Eng Go.Proofs
noncomputable section

def L14_EnergyTells_e : Ent := entOf [.tm .bool, .tm (.sl (.int .i64)), .tm (.sl (.int .i64))] fun (v : Bool × (List Int) × (List Int) × Unit) n K => L14_EnergyTells v.1 v.2.1 v.2.2.1 (fun (r0 : Bool) => K (.t true .bool r0) [])
def L14_EnergyTells_f : List (Nat × Ent) := [(34, L14_awake_e), (35, energy_Row_e), (36, R14_Row_e), (37, energy_Right_e), (38, R14_Right_e), (39, energy_Deltas_e), (40, R14_Deltas_e), (14, R01_Same_e)]
def L14_EnergyTells_C : Cfg := mkC tys L14_EnergyTells_f
def L14_EnergyTells_b : Code := match Try.f10.body with | some c => c | none => .skip
def L14_EnergyTells_y0 : Lay := ⟨63, [(0, .tm true .bool), (1, .tm false (.sl (.int .i64))), (2, .tm false (.sl (.int .i64))), (18, .tm true .bool)], []⟩
def L14_EnergyTells_y1 : Lay := ⟨63, [(6, .tm true .bool)], []⟩
def L14_EnergyTells_y2 : Lay := ⟨63, [(0, .tm true .bool), (1, .tm false (.sl (.int .i64))), (2, .tm false (.sl (.int .i64)))], []⟩
def L14_EnergyTells_j2_c : Cut := ⟨L14_EnergyTells_y0, fun o => match o with | .ret => some L14_EnergyTells_y1 | .nrm => some L14_EnergyTells_y2 | _ => none, fun (v : (Bool × (List Int) × (List Int) × Bool × Unit) × (Unit)) (K : KK) => L14_EnergyTells_j2 v.1.1 v.1.2.1 v.1.2.2.1 v.1.2.2.2.1 (fun (y0 : Bool) => K .ret (st L14_EnergyTells_y1 ((y0, ()), (())))) (fun (y0 : Bool) (y1 : (List Int)) (y2 : (List Int)) => K .nrm (st L14_EnergyTells_y2 ((y0, y1, y2, ()), (()))))⟩
def L14_EnergyTells_y3 : Lay := ⟨63, [(0, .tm true .bool), (1, .tm false (.sl (.int .i64))), (2, .tm false (.sl (.int .i64))), (7, .fx (.os 0)), (8, .tm true .bool), (9, .fx (.os 1)), (10, .tm true .bool)], [.val true true 3 (.row (.int .i64)), .val true true 3 (.row (.int .i64))]⟩
def L14_EnergyTells_j5_c : Cut := ⟨L14_EnergyTells_y3, fun o => match o with | .ret => some L14_EnergyTells_y1 | _ => none, fun (v : (Bool × (List Int) × (List Int) × Bool × Bool × Unit) × ((List Int) × (List Int) × Unit)) (K : KK) => L14_EnergyTells_j5 v.1.1 v.1.2.1 v.1.2.2.1 v.1.2.2.2.1 v.1.2.2.2.2.1 v.2.1 v.2.2.1 (fun (y0 : Bool) => K .ret (st L14_EnergyTells_y1 ((y0, ()), (()))))⟩
def L14_EnergyTells_y4 : Lay := ⟨63, [(0, .tm true .bool), (1, .tm false (.sl (.int .i64))), (2, .tm false (.sl (.int .i64))), (7, .fx (.os 0)), (8, .tm true .bool)], [.val true true 3 (.row (.int .i64))]⟩
def L14_EnergyTells_j4_c : Cut := ⟨L14_EnergyTells_y4, fun o => match o with | .ret => some L14_EnergyTells_y1 | _ => none, fun (v : (Bool × (List Int) × (List Int) × Bool × Unit) × ((List Int) × Unit)) (K : KK) => L14_EnergyTells_j4 v.1.1 v.1.2.1 v.1.2.2.1 v.1.2.2.2.1 v.2.1 (fun (y0 : Bool) => K .ret (st L14_EnergyTells_y1 ((y0, ()), (()))))⟩
def L14_EnergyTells_j3_c : Cut := ⟨L14_EnergyTells_y2, fun o => match o with | .ret => some L14_EnergyTells_y1 | _ => none, fun (v : (Bool × (List Int) × (List Int) × Unit) × (Unit)) (K : KK) => L14_EnergyTells_j3 v.1.1 v.1.2.1 v.1.2.2.1 (fun (y0 : Bool) => K .ret (st L14_EnergyTells_y1 ((y0, ()), (()))))⟩
def L14_EnergyTells_L : Cuts := mkL [] [(2, L14_EnergyTells_j2_c), (5, L14_EnergyTells_j5_c), (4, L14_EnergyTells_j4_c), (3, L14_EnergyTells_j3_c)]
theorem L14_EnergyTells_lo : LoopsOK L14_EnergyTells_C L14_EnergyTells_L L14_EnergyTells_b := (show LoopsOK L14_EnergyTells_C L14_EnergyTells_L L14_EnergyTells_b = True by kernel_rfl).mpr trivial
theorem L14_EnergyTells_jo : JoinsOK L14_EnergyTells_C L14_EnergyTells_L L14_EnergyTells_b :=
  (show JoinsOK L14_EnergyTells_C L14_EnergyTells_L L14_EnergyTells_b = ((JoinOK L14_EnergyTells_C L14_EnergyTells_L L14_EnergyTells_j3_c (nthB (joinsOf L14_EnergyTells_L L14_EnergyTells_b) 0) ∧ True) ∧ (JoinOK L14_EnergyTells_C L14_EnergyTells_L L14_EnergyTells_j2_c (nthB (joinsOf L14_EnergyTells_L L14_EnergyTells_b) 1) ∧ True) ∧ (JoinOK L14_EnergyTells_C L14_EnergyTells_L L14_EnergyTells_j4_c (nthB (joinsOf L14_EnergyTells_L L14_EnergyTells_b) 2) ∧ True) ∧ (JoinOK L14_EnergyTells_C L14_EnergyTells_L L14_EnergyTells_j5_c (nthB (joinsOf L14_EnergyTells_L L14_EnergyTells_b) 3) ∧ True) ∧ True) by kernel_rfl).mpr ⟨⟨fun v K => by kernel_rfl, trivial⟩, ⟨fun v K => by kernel_rfl, trivial⟩, ⟨fun v K => by kernel_rfl, trivial⟩, ⟨fun v K => by kernel_rfl, trivial⟩, trivial⟩
theorem L14_EnergyTells_ok : EntOK Try.prog 10 L14_EnergyTells_e :=
  entOf_ok (e := evFn L14_EnergyTells_C L14_EnergyTells_L Try.f10) (fun v n K => Eq.trans (L14_EnergyTells_def v.1 v.2.1 v.2.2.1 (fun (r0 : Bool) => K (.t true .bool r0) [])) (by kernel_rfl)) (evFn_ok (mkC_all (fns := L14_EnergyTells_f) tys_ok ⟨⟨L14_awake_ok, Try.call34⟩, ⟨energy_Row_ok, Try.call35⟩, ⟨R14_Row_ok, Try.call36⟩, ⟨energy_Right_ok, Try.call37⟩, ⟨R14_Right_ok, Try.call38⟩, ⟨energy_Deltas_ok, Try.call39⟩, ⟨R14_Deltas_ok, Try.call40⟩, ⟨R01_Same_ok, Try.call14⟩, trivial⟩ mixed) Try.func10 (show Try.f10.body = some L14_EnergyTells_b by kernel_rfl) ⟨L14_EnergyTells_lo, L14_EnergyTells_jo, by kernel_rfl⟩)

end
end Go.Eng.A
