/- Each of these functions is what the program computes: printed by program. -/
import Derived.Test.YtjfnkbbcnllfiaaEngT
import Derived.Test.YtjfnkbbcnllfiaaTransientTellsP
import Derived.Test.YtjfnkbbcnllfiaaProg
set_option linter.unusedVariables false
set_option maxRecDepth 100000
namespace Go.Eng.A
open Go Go.Eng Go.Proofs
noncomputable section

def tys : List Ty := [.no, .no, .no, .sc (.int .i64), .sc .bool, .no, .no, .no, .no, .no, .no, .no, .no, .no, .no, .no, .no, .no, .no, .no, .no, .no, .sl 3 (.int .i64) 8]
theorem tok3 : TOK Try.prog 3 (.int .i64) := tok_mk Try.type3 Try.underlying3 (by kernel_rfl) (by kernel_rfl) (by kernel_rfl) (.inr (by kernel_rfl))
theorem tok4 : TOK Try.prog 4 .bool := tok_mk Try.type4 Try.underlying4 (by kernel_rfl) (by kernel_rfl) (by kernel_rfl) (.inr (by kernel_rfl))
theorem tok22 : TOK Try.prog 22 (.sl (.int .i64)) := tok_mk Try.type22 Try.underlying22 (by kernel_rfl) (by kernel_rfl) (by kernel_rfl) (.inr (by kernel_rfl))
theorem tys_ok : TysOK Try.prog 0 tys := ⟨trivial, trivial, trivial, tyok_int tok3 Try.underlying3, tyok_bool tok4 Try.underlying4, trivial, trivial, trivial, trivial, trivial, trivial, trivial, trivial, trivial, trivial, trivial, trivial, trivial, trivial, trivial, trivial, trivial, tyok_sl tok22 Try.underlying22 tok3 (by kernel_rfl) (by kernel_rfl) (by kernel_rfl) Try.type3 (by kernel_rfl) Try.type22 (by kernel_rfl), trivial⟩
theorem mixed : Try.prog.follows .mixedOrders = true := by kernel_rfl

def num_Sat_e : Ent := entOf [(.int .i64)] fun (v : Int × Unit) n K => num_Sat v.1 (fun (r0 : Int) => K (.t true (.int .i64) r0) [])
def num_Sat_f : List (Nat × Ent) := []
def num_Sat_C : Cfg := mkC tys num_Sat_f
def num_Sat_b : Code := match Try.f55.body with | some c => c | none => .skip
def num_Sat_L : Cuts := mkL [] []
theorem num_Sat_lo : LoopsOK num_Sat_C num_Sat_L num_Sat_b := (show LoopsOK num_Sat_C num_Sat_L num_Sat_b = True by kernel_rfl).mpr trivial
theorem num_Sat_jo : JoinsOK num_Sat_C num_Sat_L num_Sat_b := (show JoinsOK num_Sat_C num_Sat_L num_Sat_b = True by kernel_rfl).mpr trivial
theorem num_Sat_ok : EntOK Try.prog 55 num_Sat_e :=
  entOf_ok (e := evFn num_Sat_C num_Sat_L Try.f55) (fun v n K => by kernel_rfl) (evFn_ok (mkC_all (fns := num_Sat_f) tys_ok trivial mixed) Try.func55 (show Try.f55.body = some num_Sat_b by kernel_rfl) ⟨num_Sat_lo, num_Sat_jo, by kernel_rfl⟩)

def transient_right_e : Ent := entOf [(.sl (.int .i64))] fun (v : (List Int) × Unit) n K => transient_right v.1 (fun (r0 : Bool) => K (.t true .bool r0) [])
def transient_right_f : List (Nat × Ent) := [(55, num_Sat_e)]
def transient_right_C : Cfg := mkC tys transient_right_f
def transient_right_b : Code := match Try.f41.body with | some c => c | none => .skip
def transient_right_y0 : Lay := ⟨19, [(0, .tm false (.sl (.int .i64))), (5, .tm false (.sl (.int .i64))), (6, .tm true (.int .i64)), (7, .tm true (.int .i64))], []⟩
def transient_right_y1 : Lay := ⟨19, [(2, .tm true .bool)], []⟩
def transient_right_y2 : Lay := ⟨19, [(0, .tm false (.sl (.int .i64)))], []⟩
def transient_right_l2_F (k : Nat) (v : ((List Int) × (List Int) × Int × Int × Unit) × (Unit)) (K : KK) : Prop := transient_right_l2 k v.1.1 v.1.2.1 v.1.2.2.1 v.1.2.2.2.1 (fun (y0 : Bool) => K .ret (st transient_right_y1 ((y0, ()), (())))) (fun (y0 : (List Int)) => K (.exit 0) (st transient_right_y2 ((y0, ()), (()))))
def transient_right_l2_c : Cut := ⟨transient_right_y0, fun o => match o with | .ret => some transient_right_y1 | .exit 0 => some transient_right_y2 | _ => none, fun (v : ((List Int) × (List Int) × Int × Int × Unit) × (Unit)) K => ∃ k, transient_right_l2_F k v K⟩
def transient_right_L : Cuts := mkL [(2, transient_right_l2_c)] []
theorem transient_right_lo : LoopsOK transient_right_C transient_right_L transient_right_b :=
  (show LoopsOK transient_right_C transient_right_L transient_right_b = ((∀ cut, transient_right_L.loop 2 = some cut → LoopOK transient_right_C transient_right_L cut (nthB (loopsOf transient_right_b) 0)) ∧ True) by kernel_rfl).mpr ⟨of_some (a := transient_right_l2_c) (by kernel_rfl) ⟨transient_right_l2_F, fun v K => by kernel_rfl, fun v K => by kernel_rfl, fun k v K => by kernel_rfl⟩, trivial⟩
theorem transient_right_jo : JoinsOK transient_right_C transient_right_L transient_right_b := (show JoinsOK transient_right_C transient_right_L transient_right_b = True by kernel_rfl).mpr trivial
theorem transient_right_ok : EntOK Try.prog 41 transient_right_e :=
  entOf_ok (e := evFn transient_right_C transient_right_L Try.f41) (fun v n K => by kernel_rfl) (evFn_ok (mkC_all (fns := transient_right_f) tys_ok ⟨⟨num_Sat_ok, Try.call55⟩, trivial⟩ mixed) Try.func41 (show Try.f41.body = some transient_right_b by kernel_rfl) ⟨transient_right_lo, transient_right_jo, by kernel_rfl⟩)

def transient_Loud_e : Ent := entOf [(.sl (.int .i64))] fun (v : (List Int) × Unit) n K => transient_Loud v.1 (K (.ns) []) (fun (r0 : (List Int)) => K (.os (n + 0)) [.val true true 3 (.row (.int .i64)) r0])
def transient_Loud_f : List (Nat × Ent) := [(41, transient_right_e)]
def transient_Loud_C : Cfg := mkC tys transient_Loud_f
def transient_Loud_b : Code := match Try.f15.body with | some c => c | none => .skip
def transient_Loud_y0 : Lay := ⟨30, [(3, .fx (.os 0)), (11, .tm false (.sl (.int .i64))), (12, .tm true (.int .i64)), (13, .tm true (.int .i64))], [.val true true 3 (.row (.int .i64))]⟩
def transient_Loud_y1 : Lay := ⟨30, [(3, .fx (.os 0))], [.val true true 3 (.row (.int .i64))]⟩
def transient_Loud_l5_F (k : Nat) (v : ((List Int) × Int × Int × Unit) × ((List Int) × Unit)) (K : KK) : Prop := transient_Loud_l5 k v.1.1 v.1.2.1 v.1.2.2.1 v.2.1 (fun (y0 : (List Int)) => K (.exit 0) (st transient_Loud_y1 ((()), (y0, ()))))
def transient_Loud_l5_c : Cut := ⟨transient_Loud_y0, fun o => match o with | .exit 0 => some transient_Loud_y1 | _ => none, fun (v : ((List Int) × Int × Int × Unit) × ((List Int) × Unit)) K => ∃ k, transient_Loud_l5_F k v K⟩
def transient_Loud_L : Cuts := mkL [(5, transient_Loud_l5_c)] []
theorem transient_Loud_lo : LoopsOK transient_Loud_C transient_Loud_L transient_Loud_b :=
  (show LoopsOK transient_Loud_C transient_Loud_L transient_Loud_b = ((∀ cut, transient_Loud_L.loop 5 = some cut → LoopOK transient_Loud_C transient_Loud_L cut (nthB (loopsOf transient_Loud_b) 0)) ∧ True) by kernel_rfl).mpr ⟨of_some (a := transient_Loud_l5_c) (by kernel_rfl) ⟨transient_Loud_l5_F, fun v K => by kernel_rfl, fun v K => by kernel_rfl, fun k v K => by kernel_rfl⟩, trivial⟩
theorem transient_Loud_jo : JoinsOK transient_Loud_C transient_Loud_L transient_Loud_b := (show JoinsOK transient_Loud_C transient_Loud_L transient_Loud_b = True by kernel_rfl).mpr trivial
theorem transient_Loud_ok : EntOK Try.prog 15 transient_Loud_e :=
  entOf_ok (e := evFn transient_Loud_C transient_Loud_L Try.f15) (fun v n K => by kernel_rfl) (evFn_ok (mkC_all (fns := transient_Loud_f) tys_ok ⟨⟨transient_right_ok, Try.call41⟩, trivial⟩ mixed) Try.func15 (show Try.f15.body = some transient_Loud_b by kernel_rfl) ⟨transient_Loud_lo, transient_Loud_jo, by kernel_rfl⟩)

def transient_Begins_e : Ent := entOf [(.sl (.int .i64))] fun (v : (List Int) × Unit) n K => transient_Begins v.1 (fun (r0 : Int) (r1 : Bool) => K (.tu [.t true (.int .i64) r0, .t true .bool r1]) [])
def transient_Begins_f : List (Nat × Ent) := [(15, transient_Loud_e)]
def transient_Begins_C : Cfg := mkC tys transient_Begins_f
def transient_Begins_b : Code := match Try.f12.body with | some c => c | none => .skip
def transient_Begins_y0 : Lay := ⟨36, [(4, .tm true (.int .i64)), (5, .tm true (.int .i64)), (6, .tm true (.int .i64)), (7, .tm true (.int .i64)), (9, .fx (.os 0)), (10, .tm true (.int .i64)), (11, .tm true (.int .i64)), (16, .tm true .bool)], [.val true true 3 (.row (.int .i64))]⟩
def transient_Begins_y1 : Lay := ⟨36, [(4, .tm true (.int .i64))], []⟩
def transient_Begins_y2 : Lay := ⟨36, [(4, .tm true (.int .i64)), (5, .tm true (.int .i64)), (7, .tm true (.int .i64)), (9, .fx (.os 0)), (10, .tm true (.int .i64)), (11, .tm true (.int .i64))], [.val true true 3 (.row (.int .i64))]⟩
def transient_Begins_j6_c : Cut := ⟨transient_Begins_y0, fun o => match o with | .exit 0 => some transient_Begins_y1 | .nrm => some transient_Begins_y2 | _ => none, fun (v : (Int × Int × Int × Int × Int × Int × Bool × Unit) × ((List Int) × Unit)) (K : KK) => transient_Begins_j6 v.1.1 v.1.2.1 v.1.2.2.1 v.1.2.2.2.1 v.1.2.2.2.2.1 v.1.2.2.2.2.2.1 v.1.2.2.2.2.2.2.1 v.2.1 (fun (y0 : Int) => K (.exit 0) (st transient_Begins_y1 ((y0, ()), (())))) (fun (y0 : Int) (y1 : Int) (y2 : Int) (y3 : Int) (y4 : Int) (y5 : (List Int)) => K .nrm (st transient_Begins_y2 ((y0, y1, y2, y3, y4, ()), (y5, ()))))⟩
def transient_Begins_y3 : Lay := ⟨36, [(4, .tm true (.int .i64)), (5, .tm true (.int .i64)), (9, .fx (.os 0)), (10, .tm true (.int .i64)), (11, .tm true (.int .i64))], [.val true true 3 (.row (.int .i64))]⟩
def transient_Begins_l3_F (k : Nat) (v : (Int × Int × Int × Int × Unit) × ((List Int) × Unit)) (K : KK) : Prop := transient_Begins_l3 k v.1.1 v.1.2.1 v.1.2.2.1 v.1.2.2.2.1 v.2.1 (fun (y0 : Int) => K (.exit 0) (st transient_Begins_y1 ((y0, ()), (()))))
def transient_Begins_l3_c : Cut := ⟨transient_Begins_y3, fun o => match o with | .exit 0 => some transient_Begins_y1 | _ => none, fun (v : (Int × Int × Int × Int × Unit) × ((List Int) × Unit)) K => ∃ k, transient_Begins_l3_F k v K⟩
def transient_Begins_j3_c : Cut := ⟨transient_Begins_y3, fun o => match o with | .nrm => some transient_Begins_y1 | _ => none, fun (v : (Int × Int × Int × Int × Unit) × ((List Int) × Unit)) (K : KK) => transient_Begins_j3 v.1.1 v.1.2.1 v.1.2.2.1 v.1.2.2.2.1 v.2.1 (fun (y0 : Int) => K .nrm (st transient_Begins_y1 ((y0, ()), (()))))⟩
def transient_Begins_y4 : Lay := ⟨36, [(2, .tm true (.int .i64)), (3, .tm true .bool)], []⟩
def transient_Begins_j9_c : Cut := ⟨transient_Begins_y1, fun o => match o with | .ret => some transient_Begins_y4 | _ => none, fun (v : (Int × Unit) × (Unit)) (K : KK) => transient_Begins_j9 v.1.1 (fun (y0 : Int) (y1 : Bool) => K .ret (st transient_Begins_y4 ((y0, y1, ()), (()))))⟩
def transient_Begins_L : Cuts := mkL [(3, transient_Begins_l3_c)] [(6, transient_Begins_j6_c), (3, transient_Begins_j3_c), (9, transient_Begins_j9_c)]
theorem transient_Begins_lo : LoopsOK transient_Begins_C transient_Begins_L transient_Begins_b :=
  (show LoopsOK transient_Begins_C transient_Begins_L transient_Begins_b = ((∀ cut, transient_Begins_L.loop 3 = some cut → LoopOK transient_Begins_C transient_Begins_L cut (nthB (loopsOf transient_Begins_b) 0)) ∧ True) by kernel_rfl).mpr ⟨of_some (a := transient_Begins_l3_c) (by kernel_rfl) ⟨transient_Begins_l3_F, fun v K => by kernel_rfl, fun v K => by kernel_rfl, fun k v K => by kernel_rfl⟩, trivial⟩
theorem transient_Begins_jo : JoinsOK transient_Begins_C transient_Begins_L transient_Begins_b :=
  (show JoinsOK transient_Begins_C transient_Begins_L transient_Begins_b = ((∀ cut, transient_Begins_L.join 9 = some cut → JoinOK transient_Begins_C transient_Begins_L cut (nthB (joinsOf transient_Begins_L transient_Begins_b) 0)) ∧ (∀ cut, transient_Begins_L.join 3 = some cut → JoinOK transient_Begins_C transient_Begins_L cut (nthB (joinsOf transient_Begins_L transient_Begins_b) 1)) ∧ (∀ cut, transient_Begins_L.join 6 = some cut → JoinOK transient_Begins_C transient_Begins_L cut (nthB (joinsOf transient_Begins_L transient_Begins_b) 2)) ∧ True) by kernel_rfl).mpr ⟨of_some (a := transient_Begins_j9_c) (by kernel_rfl) (fun v K => by kernel_rfl), of_some (a := transient_Begins_j3_c) (by kernel_rfl) (fun v K => by kernel_rfl), of_some (a := transient_Begins_j6_c) (by kernel_rfl) (fun v K => by kernel_rfl), trivial⟩
theorem transient_Begins_ok : EntOK Try.prog 12 transient_Begins_e :=
  entOf_ok (e := evFn transient_Begins_C transient_Begins_L Try.f12) (fun v n K => by kernel_rfl) (evFn_ok (mkC_all (fns := transient_Begins_f) tys_ok ⟨⟨transient_Loud_ok, Try.call15⟩, trivial⟩ mixed) Try.func12 (show Try.f12.body = some transient_Begins_b by kernel_rfl) ⟨transient_Begins_lo, transient_Begins_jo, by kernel_rfl⟩)

def L23_awake_e : Ent := entOf [] fun (v : Unit) n K => L23_awake (fun (r0 : Bool) => K (.t true .bool r0) [])
def L23_awake_f : List (Nat × Ent) := [(12, transient_Begins_e), (15, transient_Loud_e)]
def L23_awake_C : Cfg := mkC tys L23_awake_f
def L23_awake_b : Code := match Try.f11.body with | some c => c | none => .skip
def L23_awake_y0 : Lay := ⟨42, [(1, .fx (.os 0)), (2, .tm true (.int .i64))], [.val true true 3 (.row (.int .i64))]⟩
def L23_awake_y1 : Lay := ⟨42, [(1, .fx (.os 0))], [.val true true 3 (.row (.int .i64))]⟩
def L23_awake_l3_F (k : Nat) (v : (Int × Unit) × ((List Int) × Unit)) (K : KK) : Prop := L23_awake_l3 k v.1.1 v.2.1 (fun (y0 : (List Int)) => K (.exit 0) (st L23_awake_y1 ((()), (y0, ()))))
def L23_awake_l3_c : Cut := ⟨L23_awake_y0, fun o => match o with | .exit 0 => some L23_awake_y1 | _ => none, fun (v : (Int × Unit) × ((List Int) × Unit)) K => ∃ k, L23_awake_l3_F k v K⟩
def L23_awake_y2 : Lay := ⟨42, [(3, .tm true (.int .i64)), (4, .tm true .bool), (5, .fx (.os 0))], [.val true true 3 (.row (.int .i64))]⟩
def L23_awake_y3 : Lay := ⟨42, [(0, .tm true .bool)], []⟩
def L23_awake_j8_c : Cut := ⟨L23_awake_y2, fun o => match o with | .ret => some L23_awake_y3 | _ => none, fun (v : (Int × Bool × Unit) × ((List Int) × Unit)) (K : KK) => L23_awake_j8 v.1.1 v.1.2.1 v.2.1 (fun (y0 : Bool) => K .ret (st L23_awake_y3 ((y0, ()), (()))))⟩
def L23_awake_L : Cuts := mkL [(3, L23_awake_l3_c)] [(8, L23_awake_j8_c)]
theorem L23_awake_lo : LoopsOK L23_awake_C L23_awake_L L23_awake_b :=
  (show LoopsOK L23_awake_C L23_awake_L L23_awake_b = ((∀ cut, L23_awake_L.loop 3 = some cut → LoopOK L23_awake_C L23_awake_L cut (nthB (loopsOf L23_awake_b) 0)) ∧ True) by kernel_rfl).mpr ⟨of_some (a := L23_awake_l3_c) (by kernel_rfl) ⟨L23_awake_l3_F, fun v K => by kernel_rfl, fun v K => by kernel_rfl, fun k v K => by kernel_rfl⟩, trivial⟩
theorem L23_awake_jo : JoinsOK L23_awake_C L23_awake_L L23_awake_b :=
  (show JoinsOK L23_awake_C L23_awake_L L23_awake_b = ((∀ cut, L23_awake_L.join 8 = some cut → JoinOK L23_awake_C L23_awake_L cut (nthB (joinsOf L23_awake_L L23_awake_b) 0)) ∧ True) by kernel_rfl).mpr ⟨of_some (a := L23_awake_j8_c) (by kernel_rfl) (fun v K => by kernel_rfl), trivial⟩
theorem L23_awake_ok : EntOK Try.prog 11 L23_awake_e :=
  entOf_ok (e := evFn L23_awake_C L23_awake_L Try.f11) (fun v n K => by kernel_rfl) (evFn_ok (mkC_all (fns := L23_awake_f) tys_ok ⟨⟨transient_Begins_ok, Try.call12⟩, ⟨transient_Loud_ok, Try.call15⟩, trivial⟩ mixed) Try.func11 (show Try.f11.body = some L23_awake_b by kernel_rfl) ⟨L23_awake_lo, L23_awake_jo, by kernel_rfl⟩)

def R01_Within_e : Ent := entOf [(.sl (.int .i64)), (.int .i64), (.int .i64)] fun (v : (List Int) × Int × Int × Unit) n K => R01_Within v.1 v.2.1 v.2.2.1 (fun (r0 : Bool) => K (.t true .bool r0) [])
def R01_Within_f : List (Nat × Ent) := []
def R01_Within_C : Cfg := mkC tys R01_Within_f
def R01_Within_b : Code := match Try.f51.body with | some c => c | none => .skip
def R01_Within_y0 : Lay := ⟨28, [(0, .tm false (.sl (.int .i64))), (1, .tm true (.int .i64)), (2, .tm true (.int .i64)), (7, .tm true (.int .i64))], []⟩
def R01_Within_y1 : Lay := ⟨28, [(6, .tm true .bool)], []⟩
def R01_Within_y2 : Lay := ⟨28, [], []⟩
def R01_Within_l2_F (k : Nat) (v : ((List Int) × Int × Int × Int × Unit) × (Unit)) (K : KK) : Prop := R01_Within_l2 k v.1.1 v.1.2.1 v.1.2.2.1 v.1.2.2.2.1 (fun (y0 : Bool) => K .ret (st R01_Within_y1 ((y0, ()), (())))) (K (.exit 0) (st R01_Within_y2 ((()), (()))))
def R01_Within_l2_c : Cut := ⟨R01_Within_y0, fun o => match o with | .ret => some R01_Within_y1 | .exit 0 => some R01_Within_y2 | _ => none, fun (v : ((List Int) × Int × Int × Int × Unit) × (Unit)) K => ∃ k, R01_Within_l2_F k v K⟩
def R01_Within_L : Cuts := mkL [(2, R01_Within_l2_c)] []
theorem R01_Within_lo : LoopsOK R01_Within_C R01_Within_L R01_Within_b :=
  (show LoopsOK R01_Within_C R01_Within_L R01_Within_b = ((∀ cut, R01_Within_L.loop 2 = some cut → LoopOK R01_Within_C R01_Within_L cut (nthB (loopsOf R01_Within_b) 0)) ∧ True) by kernel_rfl).mpr ⟨of_some (a := R01_Within_l2_c) (by kernel_rfl) ⟨R01_Within_l2_F, fun v K => by kernel_rfl, fun v K => by kernel_rfl, fun k v K => by kernel_rfl⟩, trivial⟩
theorem R01_Within_jo : JoinsOK R01_Within_C R01_Within_L R01_Within_b := (show JoinsOK R01_Within_C R01_Within_L R01_Within_b = True by kernel_rfl).mpr trivial
theorem R01_Within_ok : EntOK Try.prog 51 R01_Within_e :=
  entOf_ok (e := evFn R01_Within_C R01_Within_L Try.f51) (fun v n K => by kernel_rfl) (evFn_ok (mkC_all (fns := R01_Within_f) tys_ok trivial mixed) Try.func51 (show Try.f51.body = some R01_Within_b by kernel_rfl) ⟨R01_Within_lo, R01_Within_jo, by kernel_rfl⟩)

def R23_Right_e : Ent := entOf [(.sl (.int .i64))] fun (v : (List Int) × Unit) n K => R23_Right v.1 (fun (r0 : Bool) => K (.t true .bool r0) [])
def R23_Right_f : List (Nat × Ent) := [(51, R01_Within_e)]
def R23_Right_C : Cfg := mkC tys R23_Right_f
def R23_Right_b : Code := match Try.f42.body with | some c => c | none => .skip
def R23_Right_L : Cuts := mkL [] []
theorem R23_Right_lo : LoopsOK R23_Right_C R23_Right_L R23_Right_b := (show LoopsOK R23_Right_C R23_Right_L R23_Right_b = True by kernel_rfl).mpr trivial
theorem R23_Right_jo : JoinsOK R23_Right_C R23_Right_L R23_Right_b := (show JoinsOK R23_Right_C R23_Right_L R23_Right_b = True by kernel_rfl).mpr trivial
theorem R23_Right_ok : EntOK Try.prog 42 R23_Right_e :=
  entOf_ok (e := evFn R23_Right_C R23_Right_L Try.f42) (fun v n K => by kernel_rfl) (evFn_ok (mkC_all (fns := R23_Right_f) tys_ok ⟨⟨R01_Within_ok, Try.call51⟩, trivial⟩ mixed) Try.func42 (show Try.f42.body = some R23_Right_b by kernel_rfl) ⟨R23_Right_lo, R23_Right_jo, by kernel_rfl⟩)

def R23_Loud_e : Ent := entOf [(.sl (.int .i64))] fun (v : (List Int) × Unit) n K => R23_Loud v.1 (K (.ns) []) (fun (r0 : (List Int)) => K (.os (n + 0)) [.val true true 3 (.row (.int .i64)) r0])
def R23_Loud_f : List (Nat × Ent) := [(42, R23_Right_e)]
def R23_Loud_C : Cfg := mkC tys R23_Loud_f
def R23_Loud_b : Code := match Try.f16.body with | some c => c | none => .skip
def R23_Loud_y0 : Lay := ⟨37, [(0, .tm false (.sl (.int .i64))), (3, .fx (.os 0)), (4, .tm true (.int .i64)), (5, .tm true (.int .i64)), (6, .tm true (.int .i64))], [.val true true 3 (.row (.int .i64))]⟩
def R23_Loud_y1 : Lay := ⟨37, [(0, .tm false (.sl (.int .i64))), (3, .fx (.os 0)), (4, .tm true (.int .i64)), (5, .tm true (.int .i64))], [.val true true 3 (.row (.int .i64))]⟩
def R23_Loud_l9_F (k : Nat) (v : ((List Int) × Int × Int × Int × Unit) × ((List Int) × Unit)) (K : KK) : Prop := R23_Loud_l9 k v.1.1 v.1.2.1 v.1.2.2.1 v.1.2.2.2.1 v.2.1 (fun (y0 : (List Int)) (y1 : Int) (y2 : Int) (y3 : (List Int)) => K (.exit 2) (st R23_Loud_y1 ((y0, y1, y2, ()), (y3, ()))))
def R23_Loud_l9_c : Cut := ⟨R23_Loud_y0, fun o => match o with | .exit 2 => some R23_Loud_y1 | _ => none, fun (v : ((List Int) × Int × Int × Int × Unit) × ((List Int) × Unit)) K => ∃ k, R23_Loud_l9_F k v K⟩
def R23_Loud_y2 : Lay := ⟨37, [(0, .tm false (.sl (.int .i64))), (3, .fx (.os 0)), (4, .tm true (.int .i64))], [.val true true 3 (.row (.int .i64))]⟩
def R23_Loud_y3 : Lay := ⟨37, [(3, .fx (.os 0))], [.val true true 3 (.row (.int .i64))]⟩
def R23_Loud_l5_F (k : Nat) (v : ((List Int) × Int × Unit) × ((List Int) × Unit)) (K : KK) : Prop := R23_Loud_l5 k v.1.1 v.1.2.1 v.2.1 (fun (y0 : (List Int)) => K (.exit 0) (st R23_Loud_y3 ((()), (y0, ()))))
def R23_Loud_l5_c : Cut := ⟨R23_Loud_y2, fun o => match o with | .exit 0 => some R23_Loud_y3 | _ => none, fun (v : ((List Int) × Int × Unit) × ((List Int) × Unit)) K => ∃ k, R23_Loud_l5_F k v K⟩
def R23_Loud_L : Cuts := mkL [(9, R23_Loud_l9_c), (5, R23_Loud_l5_c)] []
theorem R23_Loud_lo : LoopsOK R23_Loud_C R23_Loud_L R23_Loud_b :=
  (show LoopsOK R23_Loud_C R23_Loud_L R23_Loud_b = ((∀ cut, R23_Loud_L.loop 5 = some cut → LoopOK R23_Loud_C R23_Loud_L cut (nthB (loopsOf R23_Loud_b) 0)) ∧ (∀ cut, R23_Loud_L.loop 9 = some cut → LoopOK R23_Loud_C R23_Loud_L cut (nthB (loopsOf R23_Loud_b) 1)) ∧ True) by kernel_rfl).mpr ⟨of_some (a := R23_Loud_l5_c) (by kernel_rfl) ⟨R23_Loud_l5_F, fun v K => by kernel_rfl, fun v K => by kernel_rfl, fun k v K => by kernel_rfl⟩, of_some (a := R23_Loud_l9_c) (by kernel_rfl) ⟨R23_Loud_l9_F, fun v K => by kernel_rfl, fun v K => by kernel_rfl, fun k v K => by kernel_rfl⟩, trivial⟩
theorem R23_Loud_jo : JoinsOK R23_Loud_C R23_Loud_L R23_Loud_b := (show JoinsOK R23_Loud_C R23_Loud_L R23_Loud_b = True by kernel_rfl).mpr trivial
theorem R23_Loud_ok : EntOK Try.prog 16 R23_Loud_e :=
  entOf_ok (e := evFn R23_Loud_C R23_Loud_L Try.f16) (fun v n K => by kernel_rfl) (evFn_ok (mkC_all (fns := R23_Loud_f) tys_ok ⟨⟨R23_Right_ok, Try.call42⟩, trivial⟩ mixed) Try.func16 (show Try.f16.body = some R23_Loud_b by kernel_rfl) ⟨R23_Loud_lo, R23_Loud_jo, by kernel_rfl⟩)

def R23_Begins_e : Ent := entOf [(.sl (.int .i64))] fun (v : (List Int) × Unit) n K => R23_Begins v.1 (fun (r0 : Int) (r1 : Bool) => K (.tu [.t true (.int .i64) r0, .t true .bool r1]) [])
def R23_Begins_f : List (Nat × Ent) := [(16, R23_Loud_e)]
def R23_Begins_C : Cfg := mkC tys R23_Begins_f
def R23_Begins_b : Code := match Try.f13.body with | some c => c | none => .skip
def R23_Begins_y0 : Lay := ⟨36, [(4, .fx (.os 0)), (5, .tm true (.int .i64)), (6, .tm true (.int .i64)), (28, .tm true .bool)], [.val true true 3 (.row (.int .i64))]⟩
def R23_Begins_y1 : Lay := ⟨36, [(2, .tm true (.int .i64)), (3, .tm true .bool)], []⟩
def R23_Begins_y2 : Lay := ⟨36, [(4, .fx (.os 0)), (5, .tm true (.int .i64)), (6, .tm true (.int .i64))], [.val true true 3 (.row (.int .i64))]⟩
def R23_Begins_j7_c : Cut := ⟨R23_Begins_y0, fun o => match o with | .ret => some R23_Begins_y1 | .nrm => some R23_Begins_y2 | _ => none, fun (v : (Int × Int × Bool × Unit) × ((List Int) × Unit)) (K : KK) => R23_Begins_j7 v.1.1 v.1.2.1 v.1.2.2.1 v.2.1 (fun (y0 : Int) (y1 : Bool) => K .ret (st R23_Begins_y1 ((y0, y1, ()), (())))) (fun (y0 : Int) (y1 : Int) (y2 : (List Int)) => K .nrm (st R23_Begins_y2 ((y0, y1, ()), (y2, ()))))⟩
def R23_Begins_j8_c : Cut := ⟨R23_Begins_y2, fun o => match o with | .nrm => some R23_Begins_y2 | _ => none, fun (v : (Int × Int × Unit) × ((List Int) × Unit)) (K : KK) => R23_Begins_j8 v.1.1 v.1.2.1 v.2.1 (fun (y0 : Int) (y1 : Int) (y2 : (List Int)) => K .nrm (st R23_Begins_y2 ((y0, y1, ()), (y2, ()))))⟩
def R23_Begins_y3 : Lay := ⟨36, [], []⟩
def R23_Begins_l4_F (k : Nat) (v : (Int × Int × Unit) × ((List Int) × Unit)) (K : KK) : Prop := R23_Begins_l4 k v.1.1 v.1.2.1 v.2.1 (fun (y0 : Int) (y1 : Bool) => K .ret (st R23_Begins_y1 ((y0, y1, ()), (())))) (K (.exit 0) (st R23_Begins_y3 ((()), (()))))
def R23_Begins_l4_c : Cut := ⟨R23_Begins_y2, fun o => match o with | .ret => some R23_Begins_y1 | .exit 0 => some R23_Begins_y3 | _ => none, fun (v : (Int × Int × Unit) × ((List Int) × Unit)) K => ∃ k, R23_Begins_l4_F k v K⟩
def R23_Begins_y4 : Lay := ⟨36, [(4, .fx (.os 0))], [.val true true 3 (.row (.int .i64))]⟩
def R23_Begins_j2_c : Cut := ⟨R23_Begins_y4, fun o => match o with | .ret => some R23_Begins_y1 | _ => none, fun (v : (Unit) × ((List Int) × Unit)) (K : KK) => R23_Begins_j2 v.2.1 (fun (y0 : Int) (y1 : Bool) => K .ret (st R23_Begins_y1 ((y0, y1, ()), (()))))⟩
def R23_Begins_L : Cuts := mkL [(4, R23_Begins_l4_c)] [(7, R23_Begins_j7_c), (8, R23_Begins_j8_c), (2, R23_Begins_j2_c)]
theorem R23_Begins_lo : LoopsOK R23_Begins_C R23_Begins_L R23_Begins_b :=
  (show LoopsOK R23_Begins_C R23_Begins_L R23_Begins_b = ((∀ cut, R23_Begins_L.loop 4 = some cut → LoopOK R23_Begins_C R23_Begins_L cut (nthB (loopsOf R23_Begins_b) 0)) ∧ True) by kernel_rfl).mpr ⟨of_some (a := R23_Begins_l4_c) (by kernel_rfl) ⟨R23_Begins_l4_F, fun v K => by kernel_rfl, fun v K => by kernel_rfl, fun k v K => by kernel_rfl⟩, trivial⟩
theorem R23_Begins_jo : JoinsOK R23_Begins_C R23_Begins_L R23_Begins_b :=
  (show JoinsOK R23_Begins_C R23_Begins_L R23_Begins_b = ((∀ cut, R23_Begins_L.join 2 = some cut → JoinOK R23_Begins_C R23_Begins_L cut (nthB (joinsOf R23_Begins_L R23_Begins_b) 0)) ∧ (∀ cut, R23_Begins_L.join 8 = some cut → JoinOK R23_Begins_C R23_Begins_L cut (nthB (joinsOf R23_Begins_L R23_Begins_b) 1)) ∧ (∀ cut, R23_Begins_L.join 7 = some cut → JoinOK R23_Begins_C R23_Begins_L cut (nthB (joinsOf R23_Begins_L R23_Begins_b) 2)) ∧ True) by kernel_rfl).mpr ⟨of_some (a := R23_Begins_j2_c) (by kernel_rfl) (fun v K => by kernel_rfl), of_some (a := R23_Begins_j8_c) (by kernel_rfl) (fun v K => by kernel_rfl), of_some (a := R23_Begins_j7_c) (by kernel_rfl) (fun v K => by kernel_rfl), trivial⟩
theorem R23_Begins_ok : EntOK Try.prog 13 R23_Begins_e :=
  entOf_ok (e := evFn R23_Begins_C R23_Begins_L Try.f13) (fun v n K => by kernel_rfl) (evFn_ok (mkC_all (fns := R23_Begins_f) tys_ok ⟨⟨R23_Loud_ok, Try.call16⟩, trivial⟩ mixed) Try.func13 (show Try.f13.body = some R23_Begins_b by kernel_rfl) ⟨R23_Begins_lo, R23_Begins_jo, by kernel_rfl⟩)

def R01_Same_e : Ent := entOf [(.sl (.int .i64)), (.sl (.int .i64))] fun (v : (List Int) × (List Int) × Unit) n K => R01_Same v.1 v.2.1 (fun (r0 : Bool) => K (.t true .bool r0) [])
def R01_Same_f : List (Nat × Ent) := []
def R01_Same_C : Cfg := mkC tys R01_Same_f
def R01_Same_b : Code := match Try.f14.body with | some c => c | none => .skip
def R01_Same_y0 : Lay := ⟨26, [(0, .tm false (.sl (.int .i64))), (1, .tm false (.sl (.int .i64))), (5, .tm true (.int .i64))], []⟩
def R01_Same_y1 : Lay := ⟨26, [(4, .tm true .bool)], []⟩
def R01_Same_y2 : Lay := ⟨26, [], []⟩
def R01_Same_l4_F (k : Nat) (v : ((List Int) × (List Int) × Int × Unit) × (Unit)) (K : KK) : Prop := R01_Same_l4 k v.1.1 v.1.2.1 v.1.2.2.1 (fun (y0 : Bool) => K .ret (st R01_Same_y1 ((y0, ()), (())))) (K (.exit 0) (st R01_Same_y2 ((()), (()))))
def R01_Same_l4_c : Cut := ⟨R01_Same_y0, fun o => match o with | .ret => some R01_Same_y1 | .exit 0 => some R01_Same_y2 | _ => none, fun (v : ((List Int) × (List Int) × Int × Unit) × (Unit)) K => ∃ k, R01_Same_l4_F k v K⟩
def R01_Same_L : Cuts := mkL [(4, R01_Same_l4_c)] []
theorem R01_Same_lo : LoopsOK R01_Same_C R01_Same_L R01_Same_b :=
  (show LoopsOK R01_Same_C R01_Same_L R01_Same_b = ((∀ cut, R01_Same_L.loop 4 = some cut → LoopOK R01_Same_C R01_Same_L cut (nthB (loopsOf R01_Same_b) 0)) ∧ True) by kernel_rfl).mpr ⟨of_some (a := R01_Same_l4_c) (by kernel_rfl) ⟨R01_Same_l4_F, fun v K => by kernel_rfl, fun v K => by kernel_rfl, fun k v K => by kernel_rfl⟩, trivial⟩
theorem R01_Same_jo : JoinsOK R01_Same_C R01_Same_L R01_Same_b := (show JoinsOK R01_Same_C R01_Same_L R01_Same_b = True by kernel_rfl).mpr trivial
theorem R01_Same_ok : EntOK Try.prog 14 R01_Same_e :=
  entOf_ok (e := evFn R01_Same_C R01_Same_L Try.f14) (fun v n K => by kernel_rfl) (evFn_ok (mkC_all (fns := R01_Same_f) tys_ok trivial mixed) Try.func14 (show Try.f14.body = some R01_Same_b by kernel_rfl) ⟨R01_Same_lo, R01_Same_jo, by kernel_rfl⟩)

def L23_TransientTells_e : Ent := entOf [(.sl (.int .i64))] fun (v : (List Int) × Unit) n K => L23_TransientTells v.1 (fun (r0 : Bool) => K (.t true .bool r0) [])
def L23_TransientTells_f : List (Nat × Ent) := [(11, L23_awake_e), (12, transient_Begins_e), (13, R23_Begins_e), (15, transient_Loud_e), (16, R23_Loud_e), (14, R01_Same_e)]
def L23_TransientTells_C : Cfg := mkC tys L23_TransientTells_f
def L23_TransientTells_b : Code := match Try.f3.body with | some c => c | none => .skip
def L23_TransientTells_L : Cuts := mkL [] []
theorem L23_TransientTells_lo : LoopsOK L23_TransientTells_C L23_TransientTells_L L23_TransientTells_b := (show LoopsOK L23_TransientTells_C L23_TransientTells_L L23_TransientTells_b = True by kernel_rfl).mpr trivial
theorem L23_TransientTells_jo : JoinsOK L23_TransientTells_C L23_TransientTells_L L23_TransientTells_b := (show JoinsOK L23_TransientTells_C L23_TransientTells_L L23_TransientTells_b = True by kernel_rfl).mpr trivial
theorem L23_TransientTells_ok : EntOK Try.prog 3 L23_TransientTells_e :=
  entOf_ok (e := evFn L23_TransientTells_C L23_TransientTells_L Try.f3) (fun v n K => by kernel_rfl) (evFn_ok (mkC_all (fns := L23_TransientTells_f) tys_ok ⟨⟨L23_awake_ok, Try.call11⟩, ⟨transient_Begins_ok, Try.call12⟩, ⟨R23_Begins_ok, Try.call13⟩, ⟨transient_Loud_ok, Try.call15⟩, ⟨R23_Loud_ok, Try.call16⟩, ⟨R01_Same_ok, Try.call14⟩, trivial⟩ mixed) Try.func3 (show Try.f3.body = some L23_TransientTells_b by kernel_rfl) ⟨L23_TransientTells_lo, L23_TransientTells_jo, by kernel_rfl⟩)

end
end Go.Eng.A
