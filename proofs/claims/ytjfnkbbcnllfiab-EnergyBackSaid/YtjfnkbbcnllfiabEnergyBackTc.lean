/- Each of these functions is what the program computes: printed by program. -/
import Derived.Test.YtjfnkbbcnllfiabEngT
import Derived.Test.YtjfnkbbcnllfiabEnergyBackP
import Derived.Test.YtjfnkbbcnllfiabProg
import Derived.Test.YtjfnkbbcnllfiabEnergyBackTb
set_option linter.unusedVariables false
set_option maxRecDepth 100000
namespace Go.Eng.A
open Go Go.Eng Go.Proofs
noncomputable section

def L14_awake_e : Ent := entOf [] fun (v : Unit) n K => L14_awake (fun (r0 : Bool) => K (.t true .bool r0) [])
def L14_awake_f : List (Nat × Ent) := [(10, energy_Deltas_e), (11, energy_Row_e), (12, R01_Within_e), (32, energy_Right_e)]
def L14_awake_C : Cfg := mkC tys L14_awake_f
def L14_awake_b : Code := match Try.f14.body with | some c => c | none => .skip
def L14_awake_y0 : Lay := ⟨39, [(1, .fx (.os 0)), (2, .tm true (.int .i64))], [.val true true 3 (.row (.int .i64))]⟩
def L14_awake_y1 : Lay := ⟨39, [(1, .fx (.os 0))], [.val true true 3 (.row (.int .i64))]⟩
def L14_awake_l3_F (k : Nat) (v : (Int × Unit) × ((List Int) × Unit)) (K : KK) : Prop := L14_awake_l3 k v.1.1 v.2.1 (fun (y0 : (List Int)) => K (.exit 0) (st L14_awake_y1 ((()), (y0, ()))))
def L14_awake_l3_c : Cut := ⟨L14_awake_y0, fun o => match o with | .exit 0 => some L14_awake_y1 | _ => none, fun (v : (Int × Unit) × ((List Int) × Unit)) K => ∃ k, L14_awake_l3_F k v K⟩
def L14_awake_y2 : Lay := ⟨39, [(1, .fx (.os 0)), (3, .fx (.os 1)), (5, .tm true .bool)], [.val true true 3 (.row (.int .i64)), .val true true 3 (.row (.int .i64))]⟩
def L14_awake_y3 : Lay := ⟨39, [(0, .tm true .bool)], []⟩
def L14_awake_j8_c : Cut := ⟨L14_awake_y2, fun o => match o with | .ret => some L14_awake_y3 | _ => none, fun (v : (Bool × Unit) × ((List Int) × (List Int) × Unit)) (K : KK) => L14_awake_j8 v.1.1 v.2.1 v.2.2.1 (fun (y0 : Bool) => K .ret (st L14_awake_y3 ((y0, ()), (()))))⟩
def L14_awake_y4 : Lay := ⟨39, [(1, .fx (.os 0)), (3, .fx (.os 1))], [.val true true 3 (.row (.int .i64)), .val true true 3 (.row (.int .i64))]⟩
def L14_awake_j7_c : Cut := ⟨L14_awake_y4, fun o => match o with | .ret => some L14_awake_y3 | _ => none, fun (v : (Unit) × ((List Int) × (List Int) × Unit)) (K : KK) => L14_awake_j7 v.2.1 v.2.2.1 (fun (y0 : Bool) => K .ret (st L14_awake_y3 ((y0, ()), (()))))⟩
def L14_awake_L : Cuts := mkL [(3, L14_awake_l3_c)] [(8, L14_awake_j8_c), (7, L14_awake_j7_c)]
theorem L14_awake_lo : LoopsOK L14_awake_C L14_awake_L L14_awake_b :=
  (show LoopsOK L14_awake_C L14_awake_L L14_awake_b = ((LoopOK L14_awake_C L14_awake_L L14_awake_l3_c (nthB (loopsOf L14_awake_b) 0) ∧ True) ∧ True) by kernel_rfl).mpr ⟨⟨⟨L14_awake_l3_F, fun v K => by kernel_rfl, fun v K => by kernel_rfl, fun k v K => by kernel_rfl⟩, trivial⟩, trivial⟩
theorem L14_awake_jo : JoinsOK L14_awake_C L14_awake_L L14_awake_b :=
  (show JoinsOK L14_awake_C L14_awake_L L14_awake_b = ((JoinOK L14_awake_C L14_awake_L L14_awake_j7_c (nthB (joinsOf L14_awake_L L14_awake_b) 0) ∧ True) ∧ (JoinOK L14_awake_C L14_awake_L L14_awake_j8_c (nthB (joinsOf L14_awake_L L14_awake_b) 1) ∧ True) ∧ True) by kernel_rfl).mpr ⟨⟨fun v K => by kernel_rfl, trivial⟩, ⟨fun v K => by kernel_rfl, trivial⟩, trivial⟩
theorem L14_awake_ok : EntOK Try.prog 14 L14_awake_e :=
  entOf_ok (e := evFn L14_awake_C L14_awake_L Try.f14) (fun v n K => Eq.trans (L14_awake_def (fun (r0 : Bool) => K (.t true .bool r0) [])) (by kernel_rfl)) (evFn_ok (mkC_all (fns := L14_awake_f) tys_ok ⟨⟨energy_Deltas_ok, Try.call10⟩, ⟨energy_Row_ok, Try.call11⟩, ⟨R01_Within_ok, Try.call12⟩, ⟨energy_Right_ok, Try.call32⟩, trivial⟩ mixed) Try.func14 (show Try.f14.body = some L14_awake_b by kernel_rfl) ⟨L14_awake_lo, L14_awake_jo, by kernel_rfl⟩)

end
end Go.Eng.A
