/- Each of these functions is what the program computes: printed by program. -/
import Derived.Test.YtjfnkbbcnllfiaaEngT
import Derived.Test.YtjfnkbbcnllfiaaTransientStillP
import Derived.Test.YtjfnkbbcnllfiaaProg
set_option linter.unusedVariables false
set_option maxRecDepth 100000
namespace Go.Eng.A
open Go Go.Eng Go.Proofs
noncomputable section

def tys : List Ty := [.no, .no, .no, .sc (.int .i64), .sc .bool, .sc (.int .u8), .no, .no, .no, .no, .no, .no, .no, .no, .no, .no, .no, .no, .no, .no, .no, .no, .sl 3 (.int .i64) 8, .no, .no, .no, .no, .no, .no, .sc (.int .i16), .arr 72 29 (.int .i16)]
theorem tok3 : TOK Try.prog 3 (.int .i64) := tok_mk Try.type3 Try.underlying3 (by kernel_rfl) (by kernel_rfl) (by kernel_rfl) (.inr (by kernel_rfl))
theorem tok4 : TOK Try.prog 4 .bool := tok_mk Try.type4 Try.underlying4 (by kernel_rfl) (by kernel_rfl) (by kernel_rfl) (.inr (by kernel_rfl))
theorem tok5 : TOK Try.prog 5 (.int .u8) := tok_mk Try.type5 Try.underlying5 (by kernel_rfl) (by kernel_rfl) (by kernel_rfl) (.inr (by kernel_rfl))
theorem tok22 : TOK Try.prog 22 (.sl (.int .i64)) := tok_mk Try.type22 Try.underlying22 (by kernel_rfl) (by kernel_rfl) (by kernel_rfl) (.inr (by kernel_rfl))
theorem tok29 : TOK Try.prog 29 (.int .i16) := tok_mk Try.type29 Try.underlying29 (by kernel_rfl) (by kernel_rfl) (by kernel_rfl) (.inr (by kernel_rfl))
theorem tok30 : TOK Try.prog 30 (.arr 72 (.int .i16)) := tok_mk Try.type30 Try.underlying30 (by kernel_rfl) (by kernel_rfl) (by kernel_rfl) (.inr (by kernel_rfl))
theorem tys_ok : TysOK Try.prog 0 tys := ⟨trivial, trivial, trivial, tyok_int tok3 Try.underlying3, tyok_bool tok4 Try.underlying4, tyok_int tok5 Try.underlying5, trivial, trivial, trivial, trivial, trivial, trivial, trivial, trivial, trivial, trivial, trivial, trivial, trivial, trivial, trivial, trivial, tyok_sl tok22 Try.underlying22 tok3 (by kernel_rfl) (by kernel_rfl) (by kernel_rfl) Try.type3 (by kernel_rfl) Try.type22 (by kernel_rfl), trivial, trivial, trivial, trivial, trivial, trivial, tyok_int tok29 Try.underlying29, tyok_arr tok30 Try.underlying30 tok29 (by kernel_rfl), trivial⟩
theorem mixed : Try.prog.follows .mixedOrders = true := by kernel_rfl

def num_Sat_e : Ent := entOf [.tm (.int .i64)] fun (v : Int × Unit) n K => num_Sat v.1 (fun (r0 : Int) => K (.t true (.int .i64) r0) [])
def num_Sat_f : List (Nat × Ent) := []
def num_Sat_C : Cfg := mkC tys num_Sat_f
def num_Sat_b : Code := match Try.f55.body with | some c => c | none => .skip
def num_Sat_L : Cuts := mkL [] []
theorem num_Sat_lo : LoopsOK num_Sat_C num_Sat_L num_Sat_b := (show LoopsOK num_Sat_C num_Sat_L num_Sat_b = True by kernel_rfl).mpr trivial
theorem num_Sat_jo : JoinsOK num_Sat_C num_Sat_L num_Sat_b := (show JoinsOK num_Sat_C num_Sat_L num_Sat_b = True by kernel_rfl).mpr trivial
theorem num_Sat_ok : EntOK Try.prog 55 num_Sat_e :=
  entOf_ok (e := evFn num_Sat_C num_Sat_L Try.f55) (fun v n K => by kernel_rfl) (evFn_ok (mkC_all (fns := num_Sat_f) tys_ok trivial mixed) Try.func55 (show Try.f55.body = some num_Sat_b by kernel_rfl) ⟨num_Sat_lo, num_Sat_jo, by kernel_rfl⟩)

def transient_right_e : Ent := entOf [.tm (.sl (.int .i64))] fun (v : (List Int) × Unit) n K => transient_right v.1 (fun (r0 : Bool) => K (.t true .bool r0) [])
def transient_right_f : List (Nat × Ent) := [(55, num_Sat_e)]
def transient_right_C : Cfg := mkC tys transient_right_f
def transient_right_b : Code := match Try.f41.body with | some c => c | none => .skip
def transient_right_y0 : Lay := ⟨19, [(0, .tm false (.sl (.int .i64))), (5, .tm false (.sl (.int .i64))), (6, .tm true (.int .i64)), (7, .tm true (.int .i64))], []⟩
def transient_right_y1 : Lay := ⟨19, [(2, .tm true .bool)], []⟩
def transient_right_y2 : Lay := ⟨19, [(0, .tm false (.sl (.int .i64)))], []⟩
def transient_right_l2_F (k : Nat) (v : ((List Int) × (List Int) × Int × Int × Unit) × (Unit)) (K : KK) : Prop := transient_right_l2 k v.1.1 v.1.2.1 v.1.2.2.1 v.1.2.2.2.1 (fun (y0 : Bool) => K .ret (st transient_right_y1 ((y0, ()), (())))) (fun (y0 : (List Int)) => K (.exit 0) (st transient_right_y2 ((y0, ()), (()))))
def transient_right_l2_c : Cut := ⟨transient_right_y0, fun o => match o with | .ret => some transient_right_y1 | .exit 0 => some transient_right_y2 | _ => none, fun (v : ((List Int) × (List Int) × Int × Int × Unit) × (Unit)) K => ∃ k, transient_right_l2_F k v K⟩
def transient_right_L : Cuts := mkL [(2, transient_right_l2_c)] []
theorem transient_right_lo : LoopsOK transient_right_C transient_right_L transient_right_b :=
  (show LoopsOK transient_right_C transient_right_L transient_right_b = ((LoopOK transient_right_C transient_right_L transient_right_l2_c (nthB (loopsOf transient_right_b) 0) ∧ True) ∧ True) by kernel_rfl).mpr ⟨⟨⟨transient_right_l2_F, fun v K => by kernel_rfl, fun v K => by kernel_rfl, fun k v K => by kernel_rfl⟩, trivial⟩, trivial⟩
theorem transient_right_jo : JoinsOK transient_right_C transient_right_L transient_right_b := (show JoinsOK transient_right_C transient_right_L transient_right_b = True by kernel_rfl).mpr trivial
theorem transient_right_ok : EntOK Try.prog 41 transient_right_e :=
  entOf_ok (e := evFn transient_right_C transient_right_L Try.f41) (fun v n K => by kernel_rfl) (evFn_ok (mkC_all (fns := transient_right_f) tys_ok ⟨⟨num_Sat_ok, Try.call55⟩, trivial⟩ mixed) Try.func41 (show Try.f41.body = some transient_right_b by kernel_rfl) ⟨transient_right_lo, transient_right_jo, by kernel_rfl⟩)

def transient_Loud_e : Ent := entOf [.tm (.sl (.int .i64))] fun (v : (List Int) × Unit) n K => transient_Loud v.1 (K (.ns) []) (fun (r0 : (List Int)) => K (.os (n + 0)) [.val true true 3 (.row (.int .i64)) r0])
def transient_Loud_f : List (Nat × Ent) := [(41, transient_right_e)]
def transient_Loud_C : Cfg := mkC tys transient_Loud_f
def transient_Loud_b : Code := match Try.f15.body with | some c => c | none => .skip
def transient_Loud_y0 : Lay := ⟨30, [(3, .fx (.os 0)), (11, .tm false (.sl (.int .i64))), (12, .tm true (.int .i64)), (13, .tm true (.int .i64))], [.val true true 3 (.row (.int .i64))]⟩
def transient_Loud_y1 : Lay := ⟨30, [(3, .fx (.os 0))], [.val true true 3 (.row (.int .i64))]⟩
def transient_Loud_l5_F (k : Nat) (v : ((List Int) × Int × Int × Unit) × ((List Int) × Unit)) (K : KK) : Prop := transient_Loud_l5 k v.1.1 v.1.2.1 v.1.2.2.1 v.2.1 (fun (y0 : (List Int)) => K (.exit 0) (st transient_Loud_y1 ((()), (y0, ()))))
def transient_Loud_l5_c : Cut := ⟨transient_Loud_y0, fun o => match o with | .exit 0 => some transient_Loud_y1 | _ => none, fun (v : ((List Int) × Int × Int × Unit) × ((List Int) × Unit)) K => ∃ k, transient_Loud_l5_F k v K⟩
def transient_Loud_L : Cuts := mkL [(5, transient_Loud_l5_c)] []
theorem transient_Loud_lo : LoopsOK transient_Loud_C transient_Loud_L transient_Loud_b :=
  (show LoopsOK transient_Loud_C transient_Loud_L transient_Loud_b = ((LoopOK transient_Loud_C transient_Loud_L transient_Loud_l5_c (nthB (loopsOf transient_Loud_b) 0) ∧ True) ∧ True) by kernel_rfl).mpr ⟨⟨⟨transient_Loud_l5_F, fun v K => by kernel_rfl, fun v K => by kernel_rfl, fun k v K => by kernel_rfl⟩, trivial⟩, trivial⟩
theorem transient_Loud_jo : JoinsOK transient_Loud_C transient_Loud_L transient_Loud_b := (show JoinsOK transient_Loud_C transient_Loud_L transient_Loud_b = True by kernel_rfl).mpr trivial
theorem transient_Loud_ok : EntOK Try.prog 15 transient_Loud_e :=
  entOf_ok (e := evFn transient_Loud_C transient_Loud_L Try.f15) (fun v n K => by kernel_rfl) (evFn_ok (mkC_all (fns := transient_Loud_f) tys_ok ⟨⟨transient_right_ok, Try.call41⟩, trivial⟩ mixed) Try.func15 (show Try.f15.body = some transient_Loud_b by kernel_rfl) ⟨transient_Loud_lo, transient_Loud_jo, by kernel_rfl⟩)

def transient_Begins_e : Ent := entOf [.tm (.sl (.int .i64))] fun (v : (List Int) × Unit) n K => transient_Begins v.1 (fun (r0 : Int) (r1 : Bool) => K (.tu [.t true (.int .i64) r0, .t true .bool r1]) [])
def transient_Begins_f : List (Nat × Ent) := [(15, transient_Loud_e)]
def transient_Begins_C : Cfg := mkC tys transient_Begins_f
def transient_Begins_b : Code := match Try.f12.body with | some c => c | none => .skip
def transient_Begins_y0 : Lay := ⟨36, [(4, .tm true (.int .i64)), (5, .tm true (.int .i64)), (6, .tm true (.int .i64)), (7, .tm true (.int .i64)), (9, .fx (.os 0)), (10, .tm true (.int .i64)), (11, .tm true (.int .i64)), (16, .tm true .bool)], [.val true true 3 (.row (.int .i64))]⟩
def transient_Begins_y1 : Lay := ⟨36, [(4, .tm true (.int .i64))], []⟩
def transient_Begins_y2 : Lay := ⟨36, [(4, .tm true (.int .i64)), (5, .tm true (.int .i64)), (7, .tm true (.int .i64)), (9, .fx (.os 0)), (10, .tm true (.int .i64)), (11, .tm true (.int .i64))], [.val true true 3 (.row (.int .i64))]⟩
def transient_Begins_j6_c : Cut := ⟨transient_Begins_y0, fun o => match o with | .exit 0 => some transient_Begins_y1 | .nrm => some transient_Begins_y2 | _ => none, fun (v : (Int × Int × Int × Int × Int × Int × Bool × Unit) × ((List Int) × Unit)) (K : KK) => transient_Begins_j6 v.1.1 v.1.2.1 v.1.2.2.1 v.1.2.2.2.1 v.1.2.2.2.2.1 v.1.2.2.2.2.2.1 v.1.2.2.2.2.2.2.1 v.2.1 (fun (y0 : Int) => K (.exit 0) (st transient_Begins_y1 ((y0, ()), (())))) (fun (y0 : Int) (y1 : Int) (y2 : Int) (y3 : Int) (y4 : Int) (y5 : (List Int)) => K .nrm (st transient_Begins_y2 ((y0, y1, y2, y3, y4, ()), (y5, ()))))⟩
def transient_Begins_y3 : Lay := ⟨36, [(4, .tm true (.int .i64)), (5, .tm true (.int .i64)), (9, .fx (.os 0)), (10, .tm true (.int .i64)), (11, .tm true (.int .i64))], [.val true true 3 (.row (.int .i64))]⟩
def transient_Begins_l3_F (k : Nat) (v : (Int × Int × Int × Int × Unit) × ((List Int) × Unit)) (K : KK) : Prop := transient_Begins_l3 k v.1.1 v.1.2.1 v.1.2.2.1 v.1.2.2.2.1 v.2.1 (fun (y0 : Int) => K (.exit 0) (st transient_Begins_y1 ((y0, ()), (()))))
def transient_Begins_l3_c : Cut := ⟨transient_Begins_y3, fun o => match o with | .exit 0 => some transient_Begins_y1 | _ => none, fun (v : (Int × Int × Int × Int × Unit) × ((List Int) × Unit)) K => ∃ k, transient_Begins_l3_F k v K⟩
def transient_Begins_j3_c : Cut := ⟨transient_Begins_y3, fun o => match o with | .nrm => some transient_Begins_y1 | _ => none, fun (v : (Int × Int × Int × Int × Unit) × ((List Int) × Unit)) (K : KK) => transient_Begins_j3 v.1.1 v.1.2.1 v.1.2.2.1 v.1.2.2.2.1 v.2.1 (fun (y0 : Int) => K .nrm (st transient_Begins_y1 ((y0, ()), (()))))⟩
def transient_Begins_y4 : Lay := ⟨36, [(2, .tm true (.int .i64)), (3, .tm true .bool)], []⟩
def transient_Begins_j9_c : Cut := ⟨transient_Begins_y1, fun o => match o with | .ret => some transient_Begins_y4 | _ => none, fun (v : (Int × Unit) × (Unit)) (K : KK) => transient_Begins_j9 v.1.1 (fun (y0 : Int) (y1 : Bool) => K .ret (st transient_Begins_y4 ((y0, y1, ()), (()))))⟩
def transient_Begins_L : Cuts := mkL [(3, transient_Begins_l3_c)] [(6, transient_Begins_j6_c), (3, transient_Begins_j3_c), (9, transient_Begins_j9_c)]
theorem transient_Begins_lo : LoopsOK transient_Begins_C transient_Begins_L transient_Begins_b :=
  (show LoopsOK transient_Begins_C transient_Begins_L transient_Begins_b = ((LoopOK transient_Begins_C transient_Begins_L transient_Begins_l3_c (nthB (loopsOf transient_Begins_b) 0) ∧ True) ∧ True) by kernel_rfl).mpr ⟨⟨⟨transient_Begins_l3_F, fun v K => by kernel_rfl, fun v K => by kernel_rfl, fun k v K => by kernel_rfl⟩, trivial⟩, trivial⟩
theorem transient_Begins_jo : JoinsOK transient_Begins_C transient_Begins_L transient_Begins_b :=
  (show JoinsOK transient_Begins_C transient_Begins_L transient_Begins_b = ((JoinOK transient_Begins_C transient_Begins_L transient_Begins_j9_c (nthB (joinsOf transient_Begins_L transient_Begins_b) 0) ∧ True) ∧ (JoinOK transient_Begins_C transient_Begins_L transient_Begins_j3_c (nthB (joinsOf transient_Begins_L transient_Begins_b) 1) ∧ True) ∧ (JoinOK transient_Begins_C transient_Begins_L transient_Begins_j6_c (nthB (joinsOf transient_Begins_L transient_Begins_b) 2) ∧ True) ∧ True) by kernel_rfl).mpr ⟨⟨fun v K => by kernel_rfl, trivial⟩, ⟨fun v K => by kernel_rfl, trivial⟩, ⟨fun v K => by kernel_rfl, trivial⟩, trivial⟩
theorem transient_Begins_ok : EntOK Try.prog 12 transient_Begins_e :=
  entOf_ok (e := evFn transient_Begins_C transient_Begins_L Try.f12) (fun v n K => by kernel_rfl) (evFn_ok (mkC_all (fns := transient_Begins_f) tys_ok ⟨⟨transient_Loud_ok, Try.call15⟩, trivial⟩ mixed) Try.func12 (show Try.f12.body = some transient_Begins_b by kernel_rfl) ⟨transient_Begins_lo, transient_Begins_jo, by kernel_rfl⟩)

def L23_awake_e : Ent := entOf [] fun (v : Unit) n K => L23_awake (fun (r0 : Bool) => K (.t true .bool r0) [])
def L23_awake_f : List (Nat × Ent) := [(12, transient_Begins_e), (15, transient_Loud_e)]
def L23_awake_C : Cfg := mkC tys L23_awake_f
def L23_awake_b : Code := match Try.f11.body with | some c => c | none => .skip
def L23_awake_y0 : Lay := ⟨42, [(1, .fx (.os 0)), (2, .tm true (.int .i64))], [.val true true 3 (.row (.int .i64))]⟩
def L23_awake_y1 : Lay := ⟨42, [(1, .fx (.os 0))], [.val true true 3 (.row (.int .i64))]⟩
def L23_awake_l3_F (k : Nat) (v : (Int × Unit) × ((List Int) × Unit)) (K : KK) : Prop := L23_awake_l3 k v.1.1 v.2.1 (fun (y0 : (List Int)) => K (.exit 0) (st L23_awake_y1 ((()), (y0, ()))))
def L23_awake_l3_c : Cut := ⟨L23_awake_y0, fun o => match o with | .exit 0 => some L23_awake_y1 | _ => none, fun (v : (Int × Unit) × ((List Int) × Unit)) K => ∃ k, L23_awake_l3_F k v K⟩
def L23_awake_y2 : Lay := ⟨42, [(3, .tm true (.int .i64)), (4, .tm true .bool), (5, .fx (.os 0))], [.val true true 3 (.row (.int .i64))]⟩
def L23_awake_y3 : Lay := ⟨42, [(0, .tm true .bool)], []⟩
def L23_awake_j8_c : Cut := ⟨L23_awake_y2, fun o => match o with | .ret => some L23_awake_y3 | _ => none, fun (v : (Int × Bool × Unit) × ((List Int) × Unit)) (K : KK) => L23_awake_j8 v.1.1 v.1.2.1 v.2.1 (fun (y0 : Bool) => K .ret (st L23_awake_y3 ((y0, ()), (()))))⟩
def L23_awake_L : Cuts := mkL [(3, L23_awake_l3_c)] [(8, L23_awake_j8_c)]
theorem L23_awake_lo : LoopsOK L23_awake_C L23_awake_L L23_awake_b :=
  (show LoopsOK L23_awake_C L23_awake_L L23_awake_b = ((LoopOK L23_awake_C L23_awake_L L23_awake_l3_c (nthB (loopsOf L23_awake_b) 0) ∧ True) ∧ True) by kernel_rfl).mpr ⟨⟨⟨L23_awake_l3_F, fun v K => by kernel_rfl, fun v K => by kernel_rfl, fun k v K => by kernel_rfl⟩, trivial⟩, trivial⟩
theorem L23_awake_jo : JoinsOK L23_awake_C L23_awake_L L23_awake_b :=
  (show JoinsOK L23_awake_C L23_awake_L L23_awake_b = ((JoinOK L23_awake_C L23_awake_L L23_awake_j8_c (nthB (joinsOf L23_awake_L L23_awake_b) 0) ∧ True) ∧ True) by kernel_rfl).mpr ⟨⟨fun v K => by kernel_rfl, trivial⟩, trivial⟩
theorem L23_awake_ok : EntOK Try.prog 11 L23_awake_e :=
  entOf_ok (e := evFn L23_awake_C L23_awake_L Try.f11) (fun v n K => by kernel_rfl) (evFn_ok (mkC_all (fns := L23_awake_f) tys_ok ⟨⟨transient_Begins_ok, Try.call12⟩, ⟨transient_Loud_ok, Try.call15⟩, trivial⟩ mixed) Try.func11 (show Try.f11.body = some L23_awake_b by kernel_rfl) ⟨L23_awake_lo, L23_awake_jo, by kernel_rfl⟩)

def L23_TransientStill_e : Ent := entOf [.tm (.int .i16), .tm (.int .u8), .tm (.arr 72 (.int .i16))] fun (v : Int × Int × (List Int) × Unit) n K => L23_TransientStill v.1 v.2.1 v.2.2.1 (fun (r0 : Bool) => K (.t true .bool r0) [])
def L23_TransientStill_f : List (Nat × Ent) := [(12, transient_Begins_e), (11, L23_awake_e)]
def L23_TransientStill_C : Cfg := mkC tys L23_TransientStill_f
def L23_TransientStill_b : Code := match Try.f4.body with | some c => c | none => .skip
def L23_TransientStill_y0 : Lay := ⟨106, [(0, .tm true (.int .i16)), (5, .fx (.op 0 (.arr 72 (.int .i16)) [])), (7, .fx (.os 1)), (8, .fx (.os 2)), (9, .fx (.os 3)), (10, .fx (.os 4)), (11, .tm true (.int .i64)), (12, .tm true (.int .i64)), (44, .tm true .bool)], [.val true true 30 (.arr 72 (.int .i16)), .val true true 3 (.row (.int .i64)), .val true true 3 (.row (.int .i64)), .val true true 3 (.row (.int .i64)), .val true true 3 (.row (.int .i64))]⟩
def L23_TransientStill_y1 : Lay := ⟨106, [(0, .tm true (.int .i16)), (5, .fx (.op 0 (.arr 72 (.int .i16)) [])), (7, .fx (.os 1)), (8, .fx (.os 2)), (9, .fx (.os 3)), (10, .fx (.os 4)), (11, .tm true (.int .i64)), (12, .tm true (.int .i64))], [.val true true 30 (.arr 72 (.int .i16)), .val true true 3 (.row (.int .i64)), .val true true 3 (.row (.int .i64)), .val true true 3 (.row (.int .i64)), .val true true 3 (.row (.int .i64))]⟩
def L23_TransientStill_j9_c : Cut := ⟨L23_TransientStill_y0, fun o => match o with | .nrm => some L23_TransientStill_y1 | _ => none, fun (v : (Int × Int × Int × Bool × Unit) × ((List Int) × (List Int) × (List Int) × (List Int) × (List Int) × Unit)) (K : KK) => L23_TransientStill_j9 v.1.1 v.1.2.1 v.1.2.2.1 v.1.2.2.2.1 v.2.1 v.2.2.1 v.2.2.2.1 v.2.2.2.2.1 v.2.2.2.2.2.1 (fun (y0 : Int) (y1 : Int) (y2 : Int) (y3 : (List Int)) (y4 : (List Int)) (y5 : (List Int)) (y6 : (List Int)) (y7 : (List Int)) => K .nrm (st L23_TransientStill_y1 ((y0, y1, y2, ()), (y3, y4, y5, y6, y7, ()))))⟩
def L23_TransientStill_j10_c : Cut := ⟨L23_TransientStill_y1, fun o => match o with | .nrm => some L23_TransientStill_y1 | _ => none, fun (v : (Int × Int × Int × Unit) × ((List Int) × (List Int) × (List Int) × (List Int) × (List Int) × Unit)) (K : KK) => L23_TransientStill_j10 v.1.1 v.1.2.1 v.1.2.2.1 v.2.1 v.2.2.1 v.2.2.2.1 v.2.2.2.2.1 v.2.2.2.2.2.1 (fun (y0 : Int) (y1 : Int) (y2 : Int) (y3 : (List Int)) (y4 : (List Int)) (y5 : (List Int)) (y6 : (List Int)) (y7 : (List Int)) => K .nrm (st L23_TransientStill_y1 ((y0, y1, y2, ()), (y3, y4, y5, y6, y7, ()))))⟩
def L23_TransientStill_y2 : Lay := ⟨106, [(7, .fx (.os 0)), (8, .fx (.os 1)), (9, .fx (.os 2)), (10, .fx (.os 3))], [.val true true 3 (.row (.int .i64)), .val true true 3 (.row (.int .i64)), .val true true 3 (.row (.int .i64)), .val true true 3 (.row (.int .i64))]⟩
def L23_TransientStill_l5_F (k : Nat) (v : (Int × Int × Int × Unit) × ((List Int) × (List Int) × (List Int) × (List Int) × (List Int) × Unit)) (K : KK) : Prop := L23_TransientStill_l5 k v.1.1 v.1.2.1 v.1.2.2.1 v.2.1 v.2.2.1 v.2.2.2.1 v.2.2.2.2.1 v.2.2.2.2.2.1 (fun (y0 : (List Int)) (y1 : (List Int)) (y2 : (List Int)) (y3 : (List Int)) => K (.exit 0) (st L23_TransientStill_y2 ((()), (y0, y1, y2, y3, ()))))
def L23_TransientStill_l5_c : Cut := ⟨L23_TransientStill_y1, fun o => match o with | .exit 0 => some L23_TransientStill_y2 | _ => none, fun (v : (Int × Int × Int × Unit) × ((List Int) × (List Int) × (List Int) × (List Int) × (List Int) × Unit)) K => ∃ k, L23_TransientStill_l5_F k v K⟩
def L23_TransientStill_L : Cuts := mkL [(5, L23_TransientStill_l5_c)] [(9, L23_TransientStill_j9_c), (10, L23_TransientStill_j10_c)]
theorem L23_TransientStill_lo : LoopsOK L23_TransientStill_C L23_TransientStill_L L23_TransientStill_b :=
  (show LoopsOK L23_TransientStill_C L23_TransientStill_L L23_TransientStill_b = ((LoopOK L23_TransientStill_C L23_TransientStill_L L23_TransientStill_l5_c (nthB (loopsOf L23_TransientStill_b) 0) ∧ True) ∧ True) by kernel_rfl).mpr ⟨⟨⟨L23_TransientStill_l5_F, fun v K => by kernel_rfl, fun v K => by kernel_rfl, fun k v K => by kernel_rfl⟩, trivial⟩, trivial⟩
theorem L23_TransientStill_jo : JoinsOK L23_TransientStill_C L23_TransientStill_L L23_TransientStill_b :=
  (show JoinsOK L23_TransientStill_C L23_TransientStill_L L23_TransientStill_b = ((JoinOK L23_TransientStill_C L23_TransientStill_L L23_TransientStill_j10_c (nthB (joinsOf L23_TransientStill_L L23_TransientStill_b) 0) ∧ True) ∧ (JoinOK L23_TransientStill_C L23_TransientStill_L L23_TransientStill_j9_c (nthB (joinsOf L23_TransientStill_L L23_TransientStill_b) 1) ∧ True) ∧ True) by kernel_rfl).mpr ⟨⟨fun v K => by kernel_rfl, trivial⟩, ⟨fun v K => by kernel_rfl, trivial⟩, trivial⟩
theorem L23_TransientStill_ok : EntOK Try.prog 4 L23_TransientStill_e :=
  entOf_ok (e := evFn L23_TransientStill_C L23_TransientStill_L Try.f4) (fun v n K => by kernel_rfl) (evFn_ok (mkC_all (fns := L23_TransientStill_f) tys_ok ⟨⟨transient_Begins_ok, Try.call12⟩, ⟨L23_awake_ok, Try.call11⟩, trivial⟩ mixed) Try.func4 (show Try.f4.body = some L23_TransientStill_b by kernel_rfl) ⟨L23_TransientStill_lo, L23_TransientStill_jo, by kernel_rfl⟩)

end
end Go.Eng.A
