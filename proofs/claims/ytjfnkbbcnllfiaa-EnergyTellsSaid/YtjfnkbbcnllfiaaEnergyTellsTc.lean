/- Each of these functions is what the program computes: printed by program. -/
import Derived.Test.YtjfnkbbcnllfiaaEngT
import Derived.Test.YtjfnkbbcnllfiaaEnergyTellsP
import Derived.Test.YtjfnkbbcnllfiaaProg
import Derived.Test.YtjfnkbbcnllfiaaEnergyTellsTb
set_option linter.unusedVariables false
set_option maxRecDepth 100000
namespace Go.Eng.A
open Go Go.Eng Go.Proofs
noncomputable section

def L14_awake_e : Ent := entOf [] fun (v : Unit) n K => L14_awake (fun (r0 : Bool) => K (.t true .bool r0) [])
def L14_awake_f : List (Nat × Ent) := [(39, energy_Deltas_e), (35, energy_Row_e), (51, R01_Within_e), (37, energy_Right_e)]
def L14_awake_C : Cfg := mkC tys L14_awake_f
def L14_awake_b : Code := match Try.f34.body with | some c => c | none => .skip
def L14_awake_y0 : Lay := ⟨39, [(1, .fx (.os 0)), (2, .tm true (.int .i64))], [.val true true 3 (.row (.int .i64))]⟩
def L14_awake_y1 : Lay := ⟨39, [(1, .fx (.os 0))], [.val true true 3 (.row (.int .i64))]⟩
def L14_awake_l3_F (k : Nat) (v : (Int × Unit) × ((List Int) × Unit)) (K : KK) : Prop := L14_awake_l3 k v.1.1 v.2.1 (fun (y0 : (List Int)) => K (.exit 0) (st L14_awake_y1 ((()), (y0, ()))))
def L14_awake_l3_c : Cut := ⟨L14_awake_y0, fun o => match o with | .exit 0 => some L14_awake_y1 | _ => none, fun (v : (Int × Unit) × ((List Int) × Unit)) K => ∃ k, L14_awake_l3_F k v K⟩
def L14_awake_y2 : Lay := ⟨39, [(1, .fx (.os 0)), (3, .fx (.os 1)), (5, .tm true .bool)], [.val true true 3 (.row (.int .i64)), .val true true 3 (.row (.int .i64))]⟩
def L14_awake_y3 : Lay := ⟨39, [(0, .tm true .bool)], []⟩
def L14_awake_j8_c : Cut := ⟨L14_awake_y2, fun o => match o with | .ret => some L14_awake_y3 | _ => none, fun (v : (Bool × Unit) × ((List Int) × (List Int) × Unit)) (K : KK) => L14_awake_j8 v.1.1 v.2.1 v.2.2.1 (fun (y0 : Bool) => K .ret (st L14_awake_y3 ((y0, ()), (()))))⟩
def L14_awake_y4 : Lay := ⟨39, [(1, .fx (.os 0)), (3, .fx (.os 1))], [.val true true 3 (.row (.int .i64)), .val true true 3 (.row (.int .i64))]⟩
def L14_awake_j7_c : Cut := ⟨L14_awake_y4, fun o => match o with | .ret => some L14_awake_y3 | _ => none, fun (v : (Unit) × ((List Int) × (List Int) × Unit)) (K : KK) => L14_awake_j7 v.2.1 v.2.2.1 (fun (y0 : Bool) => K .ret (st L14_awake_y3 ((y0, ()), (()))))⟩
def L14_awake_L : Cuts := mkL [(3, L14_awake_l3_c)] [(8, L14_awake_j8_c), (7, L14_awake_j7_c)]
theorem L14_awake_lo : LoopsOK L14_awake_C L14_awake_L L14_awake_b :=
  (show LoopsOK L14_awake_C L14_awake_L L14_awake_b = ((LoopOK L14_awake_C L14_awake_L L14_awake_l3_c (nthB (loopsOf L14_awake_b) 0) ∧ True) ∧ True) by kernel_rfl).mpr ⟨⟨⟨L14_awake_l3_F, fun v K => by kernel_rfl, fun v K => by kernel_rfl, fun k v K => by kernel_rfl⟩, trivial⟩, trivial⟩
theorem L14_awake_jo : JoinsOK L14_awake_C L14_awake_L L14_awake_b :=
  (show JoinsOK L14_awake_C L14_awake_L L14_awake_b = ((JoinOK L14_awake_C L14_awake_L L14_awake_j7_c (nthB (joinsOf L14_awake_L L14_awake_b) 0) ∧ True) ∧ (JoinOK L14_awake_C L14_awake_L L14_awake_j8_c (nthB (joinsOf L14_awake_L L14_awake_b) 1) ∧ True) ∧ True) by kernel_rfl).mpr ⟨⟨fun v K => by kernel_rfl, trivial⟩, ⟨fun v K => by kernel_rfl, trivial⟩, trivial⟩
theorem L14_awake_ok : EntOK Try.prog 34 L14_awake_e :=
  entOf_ok (e := evFn L14_awake_C L14_awake_L Try.f34) (fun v n K => Eq.trans (L14_awake_def (fun (r0 : Bool) => K (.t true .bool r0) [])) (by kernel_rfl)) (evFn_ok (mkC_all (fns := L14_awake_f) tys_ok ⟨⟨energy_Deltas_ok, Try.call39⟩, ⟨energy_Row_ok, Try.call35⟩, ⟨R01_Within_ok, Try.call51⟩, ⟨energy_Right_ok, Try.call37⟩, trivial⟩ mixed) Try.func34 (show Try.f34.body = some L14_awake_b by kernel_rfl) ⟨L14_awake_lo, L14_awake_jo, by kernel_rfl⟩)

def R14_Right_e : Ent := entOf [.tm (.sl (.int .i64))] fun (v : (List Int) × Unit) n K => R14_Right v.1 (fun (r0 : Bool) => K (.t true .bool r0) [])
def R14_Right_f : List (Nat × Ent) := [(51, R01_Within_e)]
def R14_Right_C : Cfg := mkC tys R14_Right_f
def R14_Right_b : Code := match Try.f38.body with | some c => c | none => .skip
def R14_Right_L : Cuts := mkL [] []
theorem R14_Right_lo : LoopsOK R14_Right_C R14_Right_L R14_Right_b := (show LoopsOK R14_Right_C R14_Right_L R14_Right_b = True by kernel_rfl).mpr trivial
theorem R14_Right_jo : JoinsOK R14_Right_C R14_Right_L R14_Right_b := (show JoinsOK R14_Right_C R14_Right_L R14_Right_b = True by kernel_rfl).mpr trivial
theorem R14_Right_ok : EntOK Try.prog 38 R14_Right_e :=
  entOf_ok (e := evFn R14_Right_C R14_Right_L Try.f38) (fun v n K => Eq.trans (R14_Right_def v.1 (fun (r0 : Bool) => K (.t true .bool r0) [])) (by kernel_rfl)) (evFn_ok (mkC_all (fns := R14_Right_f) tys_ok ⟨⟨R01_Within_ok, Try.call51⟩, trivial⟩ mixed) Try.func38 (show Try.f38.body = some R14_Right_b by kernel_rfl) ⟨R14_Right_lo, R14_Right_jo, by kernel_rfl⟩)

def R14_expected_e : Ent := entOf [.tm .bool, .tm (.sl (.int .i64)), .tm (.sl (.int .i64)), .tm (.int .i64)] fun (v : Bool × (List Int) × (List Int) × Int × Unit) n K => R14_expected v.1 v.2.1 v.2.2.1 v.2.2.2.1 (fun (r0 : Int) => K (.t true (.int .i64) r0) [])
def R14_expected_f : List (Nat × Ent) := []
def R14_expected_C : Cfg := mkC tys R14_expected_f
def R14_expected_b : Code := match Try.f54.body with | some c => c | none => .skip
def R14_expected_y0 : Lay := ⟨39, [(1, .tm false (.sl (.int .i64))), (3, .tm true (.int .i64)), (9, .tm true (.int .i64))], []⟩
def R14_expected_y1 : Lay := ⟨39, [(8, .tm true (.int .i64))], []⟩
def R14_expected_j8_c : Cut := ⟨R14_expected_y0, fun o => match o with | .ret => some R14_expected_y1 | _ => none, fun (v : ((List Int) × Int × Int × Unit) × (Unit)) (K : KK) => R14_expected_j8 v.1.1 v.1.2.1 v.1.2.2.1 (fun (y0 : Int) => K .ret (st R14_expected_y1 ((y0, ()), (()))))⟩
def R14_expected_y2 : Lay := ⟨39, [(0, .tm true .bool), (1, .tm false (.sl (.int .i64))), (2, .tm false (.sl (.int .i64))), (3, .tm true (.int .i64))], []⟩
def R14_expected_j3_c : Cut := ⟨R14_expected_y2, fun o => match o with | .ret => some R14_expected_y1 | _ => none, fun (v : (Bool × (List Int) × (List Int) × Int × Unit) × (Unit)) (K : KK) => R14_expected_j3 v.1.1 v.1.2.1 v.1.2.2.1 v.1.2.2.2.1 (fun (y0 : Int) => K .ret (st R14_expected_y1 ((y0, ()), (()))))⟩
def R14_expected_L : Cuts := mkL [] [(8, R14_expected_j8_c), (3, R14_expected_j3_c)]
theorem R14_expected_lo : LoopsOK R14_expected_C R14_expected_L R14_expected_b := (show LoopsOK R14_expected_C R14_expected_L R14_expected_b = True by kernel_rfl).mpr trivial
theorem R14_expected_jo : JoinsOK R14_expected_C R14_expected_L R14_expected_b :=
  (show JoinsOK R14_expected_C R14_expected_L R14_expected_b = ((JoinOK R14_expected_C R14_expected_L R14_expected_j3_c (nthB (joinsOf R14_expected_L R14_expected_b) 0) ∧ True) ∧ (JoinOK R14_expected_C R14_expected_L R14_expected_j8_c (nthB (joinsOf R14_expected_L R14_expected_b) 1) ∧ True) ∧ True) by kernel_rfl).mpr ⟨⟨fun v K => by kernel_rfl, trivial⟩, ⟨fun v K => by kernel_rfl, trivial⟩, trivial⟩
theorem R14_expected_ok : EntOK Try.prog 54 R14_expected_e :=
  entOf_ok (e := evFn R14_expected_C R14_expected_L Try.f54) (fun v n K => Eq.trans (R14_expected_def v.1 v.2.1 v.2.2.1 v.2.2.2.1 (fun (r0 : Int) => K (.t true (.int .i64) r0) [])) (by kernel_rfl)) (evFn_ok (mkC_all (fns := R14_expected_f) tys_ok trivial mixed) Try.func54 (show Try.f54.body = some R14_expected_b by kernel_rfl) ⟨R14_expected_lo, R14_expected_jo, by kernel_rfl⟩)

end
end Go.Eng.A
