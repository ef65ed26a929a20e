/- Each of these functions is what the program computes: printed by program. -/
import Derived.Test.YtjfnkbbcnllfiabEngT
import Derived.Test.YtjfnkbbcnllfiabEnergyBackP
import Derived.Test.YtjfnkbbcnllfiabProg
import Derived.Test.YtjfnkbbcnllfiabEnergyBackTc
set_option linter.unusedVariables false
set_option maxRecDepth 100000
namespace Go.Eng.A
open Go Go.Eng Go.Proofs
noncomputable section

def L14_EnergyBack_e : Ent := entOf [.tm .bool, .tm (.arr 13 (.int .u8)), .tm (.arr 13 (.int .u8))] fun (v : Bool × (List Int) × (List Int) × Unit) n K => L14_EnergyBack v.1 v.2.1 v.2.2.1 (fun (r0 : Bool) => K (.t true .bool r0) [])
def L14_EnergyBack_f : List (Nat × Ent) := [(10, energy_Deltas_e), (11, energy_Row_e), (12, R01_Within_e), (13, R01_Same_e), (14, L14_awake_e)]
def L14_EnergyBack_C : Cfg := mkC tys L14_EnergyBack_f
def L14_EnergyBack_b : Code := match Try.f3.body with | some c => c | none => .skip
def L14_EnergyBack_y0 : Lay := ⟨90, [(0, .tm true .bool), (4, .fx (.op 0 (.arr 13 (.int .u8)) [])), (5, .fx (.op 1 (.arr 13 (.int .u8)) [])), (7, .fx (.os 2)), (8, .fx (.os 3)), (9, .fx .ns), (10, .tm true (.int .i64))], [.val true true 22 (.arr 13 (.int .u8)), .val true true 22 (.arr 13 (.int .u8)), .val true true 3 (.row (.int .i64)), .val true true 3 (.row (.int .i64))]⟩
def L14_EnergyBack_y1 : Lay := ⟨90, [(0, .tm true .bool), (7, .fx (.os 0)), (8, .fx (.os 1)), (9, .fx .ns)], [.val true true 3 (.row (.int .i64)), .val true true 3 (.row (.int .i64))]⟩
def L14_EnergyBack_l3_F (k : Nat) (v : (Bool × Int × Unit) × ((List Int) × (List Int) × (List Int) × (List Int) × Unit)) (K : KK) : Prop := L14_EnergyBack_l3 k v.1.1 v.1.2.1 v.2.1 v.2.2.1 v.2.2.2.1 v.2.2.2.2.1 (fun (y0 : Bool) (y1 : (List Int)) (y2 : (List Int)) => K (.exit 0) (st L14_EnergyBack_y1 ((y0, ()), (y1, y2, ()))))
def L14_EnergyBack_l3_c : Cut := ⟨L14_EnergyBack_y0, fun o => match o with | .exit 0 => some L14_EnergyBack_y1 | _ => none, fun (v : (Bool × Int × Unit) × ((List Int) × (List Int) × (List Int) × (List Int) × Unit)) K => ∃ k, L14_EnergyBack_l3_F k v K⟩
def L14_EnergyBack_y2 : Lay := ⟨90, [(7, .fx (.os 0)), (8, .fx (.os 1)), (9, .fx .ns), (11, .fx (.os 2)), (12, .fx (.os 3)), (13, .tm true .bool), (14, .fx (.os 4)), (15, .tm true .bool)], [.val true true 3 (.row (.int .i64)), .val true true 3 (.row (.int .i64)), .val true true 3 (.row (.int .i64)), .val true true 3 (.row (.int .i64)), .val true true 3 (.row (.int .i64))]⟩
def L14_EnergyBack_y3 : Lay := ⟨90, [(6, .tm true .bool)], []⟩
def L14_EnergyBack_j10_c : Cut := ⟨L14_EnergyBack_y2, fun o => match o with | .ret => some L14_EnergyBack_y3 | _ => none, fun (v : (Bool × Bool × Unit) × ((List Int) × (List Int) × (List Int) × (List Int) × (List Int) × Unit)) (K : KK) => L14_EnergyBack_j10 v.1.1 v.1.2.1 v.2.1 v.2.2.1 v.2.2.2.1 v.2.2.2.2.1 v.2.2.2.2.2.1 (fun (y0 : Bool) => K .ret (st L14_EnergyBack_y3 ((y0, ()), (()))))⟩
def L14_EnergyBack_y4 : Lay := ⟨90, [(7, .fx (.os 0)), (8, .fx (.os 1)), (9, .fx .ns), (11, .fx (.os 2)), (12, .fx (.os 3)), (13, .tm true .bool)], [.val true true 3 (.row (.int .i64)), .val true true 3 (.row (.int .i64)), .val true true 3 (.row (.int .i64)), .val true true 3 (.row (.int .i64))]⟩
def L14_EnergyBack_j9_c : Cut := ⟨L14_EnergyBack_y4, fun o => match o with | .ret => some L14_EnergyBack_y3 | _ => none, fun (v : (Bool × Unit) × ((List Int) × (List Int) × (List Int) × (List Int) × Unit)) (K : KK) => L14_EnergyBack_j9 v.1.1 v.2.1 v.2.2.1 v.2.2.2.1 v.2.2.2.2.1 (fun (y0 : Bool) => K .ret (st L14_EnergyBack_y3 ((y0, ()), (()))))⟩
def L14_EnergyBack_y5 : Lay := ⟨90, [(0, .tm true .bool), (7, .fx (.os 0)), (8, .fx (.os 1)), (9, .fx .ns), (11, .fx (.os 2))], [.val true true 3 (.row (.int .i64)), .val true true 3 (.row (.int .i64)), .val true true 3 (.row (.int .i64))]⟩
def L14_EnergyBack_j8_c : Cut := ⟨L14_EnergyBack_y5, fun o => match o with | .ret => some L14_EnergyBack_y3 | _ => none, fun (v : (Bool × Unit) × ((List Int) × (List Int) × (List Int) × Unit)) (K : KK) => L14_EnergyBack_j8 v.1.1 v.2.1 v.2.2.1 v.2.2.2.1 (fun (y0 : Bool) => K .ret (st L14_EnergyBack_y3 ((y0, ()), (()))))⟩
def L14_EnergyBack_L : Cuts := mkL [(3, L14_EnergyBack_l3_c)] [(10, L14_EnergyBack_j10_c), (9, L14_EnergyBack_j9_c), (8, L14_EnergyBack_j8_c)]
theorem L14_EnergyBack_lo : LoopsOK L14_EnergyBack_C L14_EnergyBack_L L14_EnergyBack_b :=
  (show LoopsOK L14_EnergyBack_C L14_EnergyBack_L L14_EnergyBack_b = ((LoopOK L14_EnergyBack_C L14_EnergyBack_L L14_EnergyBack_l3_c (nthB (loopsOf L14_EnergyBack_b) 0) ∧ True) ∧ True) by kernel_rfl).mpr ⟨⟨⟨L14_EnergyBack_l3_F, fun v K => by kernel_rfl, fun v K => by kernel_rfl, fun k v K => by kernel_rfl⟩, trivial⟩, trivial⟩
theorem L14_EnergyBack_jo : JoinsOK L14_EnergyBack_C L14_EnergyBack_L L14_EnergyBack_b :=
  (show JoinsOK L14_EnergyBack_C L14_EnergyBack_L L14_EnergyBack_b = ((JoinOK L14_EnergyBack_C L14_EnergyBack_L L14_EnergyBack_j8_c (nthB (joinsOf L14_EnergyBack_L L14_EnergyBack_b) 0) ∧ True) ∧ (JoinOK L14_EnergyBack_C L14_EnergyBack_L L14_EnergyBack_j9_c (nthB (joinsOf L14_EnergyBack_L L14_EnergyBack_b) 1) ∧ True) ∧ (JoinOK L14_EnergyBack_C L14_EnergyBack_L L14_EnergyBack_j10_c (nthB (joinsOf L14_EnergyBack_L L14_EnergyBack_b) 2) ∧ True) ∧ True) by kernel_rfl).mpr ⟨⟨fun v K => by kernel_rfl, trivial⟩, ⟨fun v K => by kernel_rfl, trivial⟩, ⟨fun v K => by kernel_rfl, trivial⟩, trivial⟩
theorem L14_EnergyBack_ok : EntOK Try.prog 3 L14_EnergyBack_e :=
  entOf_ok (e := evFn L14_EnergyBack_C L14_EnergyBack_L Try.f3) (fun v n K => Eq.trans (L14_EnergyBack_def v.1 v.2.1 v.2.2.1 (fun (r0 : Bool) => K (.t true .bool r0) [])) (by kernel_rfl)) (evFn_ok (mkC_all (fns := L14_EnergyBack_f) tys_ok ⟨⟨energy_Deltas_ok, Try.call10⟩, ⟨energy_Row_ok, Try.call11⟩, ⟨R01_Within_ok, Try.call12⟩, ⟨R01_Same_ok, Try.call13⟩, ⟨L14_awake_ok, Try.call14⟩, trivial⟩ mixed) Try.func3 (show Try.f3.body = some L14_EnergyBack_b by kernel_rfl) ⟨L14_EnergyBack_lo, L14_EnergyBack_jo, by kernel_rfl⟩)

end
end Go.Eng.A
