/- Each of these functions is what the program computes: printed by program. -/
import Derived.Test.YtjfnkbbcnllfiabEngT
import Derived.Test.YtjfnkbbcnllfiabEnergyBackP
import Derived.Test.YtjfnkbbcnllfiabProg
set_option linter.unusedVariables false
set_option maxRecDepth 100000
namespace Go.Eng.A
open Go Go.Eng Go.Proofs
noncomputable section

def tys : List Ty := [.no, .no, .no, .sc (.int .i64), .sc .bool, .sc (.int .u8), .no, .no, .no, .no, .no, .no, .no, .no, .no, .no, .no, .no, .no, .no, .no, .no, .arr 13 5 (.int .u8), .sl 3 (.int .i64) 8]
theorem tok3 : TOK Try.prog 3 (.int .i64) := tok_mk Try.type3 Try.underlying3 (by kernel_rfl) (by kernel_rfl) (by kernel_rfl) (.inr (by kernel_rfl))
theorem tok4 : TOK Try.prog 4 .bool := tok_mk Try.type4 Try.underlying4 (by kernel_rfl) (by kernel_rfl) (by kernel_rfl) (.inr (by kernel_rfl))
theorem tok5 : TOK Try.prog 5 (.int .u8) := tok_mk Try.type5 Try.underlying5 (by kernel_rfl) (by kernel_rfl) (by kernel_rfl) (.inr (by kernel_rfl))
theorem tok22 : TOK Try.prog 22 (.arr 13 (.int .u8)) := tok_mk Try.type22 Try.underlying22 (by kernel_rfl) (by kernel_rfl) (by kernel_rfl) (.inr (by kernel_rfl))
theorem tok23 : TOK Try.prog 23 (.sl (.int .i64)) := tok_mk Try.type23 Try.underlying23 (by kernel_rfl) (by kernel_rfl) (by kernel_rfl) (.inr (by kernel_rfl))
theorem tys_ok : TysOK Try.prog 0 tys := ⟨trivial, trivial, trivial, tyok_int tok3 Try.underlying3, tyok_bool tok4 Try.underlying4, tyok_int tok5 Try.underlying5, trivial, trivial, trivial, trivial, trivial, trivial, trivial, trivial, trivial, trivial, trivial, trivial, trivial, trivial, trivial, trivial, tyok_arr tok22 Try.underlying22 tok5 (by kernel_rfl), tyok_sl tok23 Try.underlying23 tok3 (by kernel_rfl) (by kernel_rfl) (by kernel_rfl) Try.type3 (by kernel_rfl) Try.type23 (by kernel_rfl), trivial⟩
theorem mixed : Try.prog.follows .mixedOrders = true := by kernel_rfl

def energy_Right_e : Ent := entOf [.tm (.sl (.int .i64))] fun (v : (List Int) × Unit) n K => energy_Right v.1 (fun (r0 : Bool) => K (.t true .bool r0) [])
def energy_Right_f : List (Nat × Ent) := []
def energy_Right_C : Cfg := mkC tys energy_Right_f
def energy_Right_b : Code := match Try.f32.body with | some c => c | none => .skip
def energy_Right_y0 : Lay := ⟨21, [(0, .tm false (.sl (.int .i64))), (5, .tm false (.sl (.int .i64))), (6, .tm true (.int .i64)), (7, .tm true (.int .i64))], []⟩
def energy_Right_y1 : Lay := ⟨21, [(2, .tm true .bool)], []⟩
def energy_Right_y2 : Lay := ⟨21, [(0, .tm false (.sl (.int .i64)))], []⟩
def energy_Right_l2_F (k : Nat) (v : ((List Int) × (List Int) × Int × Int × Unit) × (Unit)) (K : KK) : Prop := energy_Right_l2 k v.1.1 v.1.2.1 v.1.2.2.1 v.1.2.2.2.1 (fun (y0 : Bool) => K .ret (st energy_Right_y1 ((y0, ()), (())))) (fun (y0 : (List Int)) => K (.exit 0) (st energy_Right_y2 ((y0, ()), (()))))
def energy_Right_l2_c : Cut := ⟨energy_Right_y0, fun o => match o with | .ret => some energy_Right_y1 | .exit 0 => some energy_Right_y2 | _ => none, fun (v : ((List Int) × (List Int) × Int × Int × Unit) × (Unit)) K => ∃ k, energy_Right_l2_F k v K⟩
def energy_Right_L : Cuts := mkL [(2, energy_Right_l2_c)] []
theorem energy_Right_lo : LoopsOK energy_Right_C energy_Right_L energy_Right_b :=
  (show LoopsOK energy_Right_C energy_Right_L energy_Right_b = ((LoopOK energy_Right_C energy_Right_L energy_Right_l2_c (nthB (loopsOf energy_Right_b) 0) ∧ True) ∧ True) by kernel_rfl).mpr ⟨⟨⟨energy_Right_l2_F, fun v K => by kernel_rfl, fun v K => by kernel_rfl, fun k v K => by kernel_rfl⟩, trivial⟩, trivial⟩
theorem energy_Right_jo : JoinsOK energy_Right_C energy_Right_L energy_Right_b := (show JoinsOK energy_Right_C energy_Right_L energy_Right_b = True by kernel_rfl).mpr trivial
theorem energy_Right_ok : EntOK Try.prog 32 energy_Right_e :=
  entOf_ok (e := evFn energy_Right_C energy_Right_L Try.f32) (fun v n K => Eq.trans (energy_Right_def v.1 (fun (r0 : Bool) => K (.t true .bool r0) [])) (by kernel_rfl)) (evFn_ok (mkC_all (fns := energy_Right_f) tys_ok trivial mixed) Try.func32 (show Try.f32.body = some energy_Right_b by kernel_rfl) ⟨energy_Right_lo, energy_Right_jo, by kernel_rfl⟩)

def energy_expects_e : Ent := entOf [.tm .bool, .tm (.sl (.int .i64))] fun (v : Bool × (List Int) × Unit) n K => energy_expects v.1 v.2.1 (K (.fn 45 []) []) (fun (r0 : (List Int)) => K (.fn 46 [.op (n + 0) (.sl (.int .i64)) []]) [.val true false 23 (.sl (.int .i64)) r0])
def energy_expects_f : List (Nat × Ent) := []
def energy_expects_C : Cfg := mkC tys energy_expects_f
def energy_expects_b : Code := match Try.f33.body with | some c => c | none => .skip
def energy_expects_L : Cuts := mkL [] []
theorem energy_expects_lo : LoopsOK energy_expects_C energy_expects_L energy_expects_b := (show LoopsOK energy_expects_C energy_expects_L energy_expects_b = True by kernel_rfl).mpr trivial
theorem energy_expects_jo : JoinsOK energy_expects_C energy_expects_L energy_expects_b := (show JoinsOK energy_expects_C energy_expects_L energy_expects_b = True by kernel_rfl).mpr trivial
theorem energy_expects_ok : EntOK Try.prog 33 energy_expects_e :=
  entOf_ok (e := evFn energy_expects_C energy_expects_L Try.f33) (fun v n K => Eq.trans (energy_expects_def v.1 v.2.1 (K (.fn 45 []) []) (fun (r0 : (List Int)) => K (.fn 46 [.op (n + 0) (.sl (.int .i64)) []]) [.val true false 23 (.sl (.int .i64)) r0])) (by kernel_rfl)) (evFn_ok (mkC_all (fns := energy_expects_f) tys_ok trivial mixed) Try.func33 (show Try.f33.body = some energy_expects_b by kernel_rfl) ⟨energy_expects_lo, energy_expects_jo, by kernel_rfl⟩)

def energy_expects_1_e : Ent := entOf [.tm (.int .i64), .tm (.int .i64)] fun (v : Int × Int × Unit) n K => energy_expects_1 v.1 v.2.1 (fun (r0 : Int) => K (.t true (.int .i64) r0) [])
def energy_expects_1_f : List (Nat × Ent) := []
def energy_expects_1_C : Cfg := mkC tys energy_expects_1_f
def energy_expects_1_b : Code := match Try.f45.body with | some c => c | none => .skip
def energy_expects_1_L : Cuts := mkL [] []
theorem energy_expects_1_lo : LoopsOK energy_expects_1_C energy_expects_1_L energy_expects_1_b := (show LoopsOK energy_expects_1_C energy_expects_1_L energy_expects_1_b = True by kernel_rfl).mpr trivial
theorem energy_expects_1_jo : JoinsOK energy_expects_1_C energy_expects_1_L energy_expects_1_b := (show JoinsOK energy_expects_1_C energy_expects_1_L energy_expects_1_b = True by kernel_rfl).mpr trivial
theorem energy_expects_1_ok : EntOK Try.prog 45 energy_expects_1_e :=
  entOf_ok (e := evFn energy_expects_1_C energy_expects_1_L Try.f45) (fun v n K => Eq.trans (energy_expects_1_def v.1 v.2.1 (fun (r0 : Int) => K (.t true (.int .i64) r0) [])) (by kernel_rfl)) (evFn_ok (mkC_all (fns := energy_expects_1_f) tys_ok trivial mixed) Try.func45 (show Try.f45.body = some energy_expects_1_b by kernel_rfl) ⟨energy_expects_1_lo, energy_expects_1_jo, by kernel_rfl⟩)

def energy_expects_2_e : Ent := entOf [.tm (.int .i64), .tm (.int .i64), .tm (.ptr (.sl (.int .i64)))] fun (v : Int × Int × (List Int) × Unit) n K => energy_expects_2 v.1 v.2.1 v.2.2.1 (fun (r0 : Int) => K (.t true (.int .i64) r0) [])
def energy_expects_2_f : List (Nat × Ent) := []
def energy_expects_2_C : Cfg := mkC tys energy_expects_2_f
def energy_expects_2_b : Code := match Try.f46.body with | some c => c | none => .skip
def energy_expects_2_y0 : Lay := ⟨19, [(0, .tm true (.int .i64)), (1, .tm true (.int .i64)), (2, .tm false (.ptr (.sl (.int .i64))))], []⟩
def energy_expects_2_y1 : Lay := ⟨19, [(5, .tm true (.int .i64))], []⟩
def energy_expects_2_j3_c : Cut := ⟨energy_expects_2_y0, fun o => match o with | .ret => some energy_expects_2_y1 | _ => none, fun (v : (Int × Int × (List Int) × Unit) × (Unit)) (K : KK) => energy_expects_2_j3 v.1.1 v.1.2.1 v.1.2.2.1 (fun (y0 : Int) => K .ret (st energy_expects_2_y1 ((y0, ()), (()))))⟩
def energy_expects_2_L : Cuts := mkL [] [(3, energy_expects_2_j3_c)]
theorem energy_expects_2_lo : LoopsOK energy_expects_2_C energy_expects_2_L energy_expects_2_b := (show LoopsOK energy_expects_2_C energy_expects_2_L energy_expects_2_b = True by kernel_rfl).mpr trivial
theorem energy_expects_2_jo : JoinsOK energy_expects_2_C energy_expects_2_L energy_expects_2_b :=
  (show JoinsOK energy_expects_2_C energy_expects_2_L energy_expects_2_b = ((JoinOK energy_expects_2_C energy_expects_2_L energy_expects_2_j3_c (nthB (joinsOf energy_expects_2_L energy_expects_2_b) 0) ∧ True) ∧ True) by kernel_rfl).mpr ⟨⟨fun v K => by kernel_rfl, trivial⟩, trivial⟩
theorem energy_expects_2_ok : EntOK Try.prog 46 energy_expects_2_e :=
  entOf_ok (e := evFn energy_expects_2_C energy_expects_2_L Try.f46) (fun v n K => Eq.trans (energy_expects_2_def v.1 v.2.1 v.2.2.1 (fun (r0 : Int) => K (.t true (.int .i64) r0) [])) (by kernel_rfl)) (evFn_ok (mkC_all (fns := energy_expects_2_f) tys_ok trivial mixed) Try.func46 (show Try.f46.body = some energy_expects_2_b by kernel_rfl) ⟨energy_expects_2_lo, energy_expects_2_jo, by kernel_rfl⟩)

def energy_Deltas_e : Ent := entOf [.tm .bool, .tm (.sl (.int .i64)), .tm (.sl (.int .i64))] fun (v : Bool × (List Int) × (List Int) × Unit) n K => energy_Deltas v.1 v.2.1 v.2.2.1 (K (.ns) []) (fun (r0 : (List Int)) => K (.os (n + 0)) [.val true true 3 (.row (.int .i64)) r0])
def energy_Deltas_f : List (Nat × Ent) := [(32, energy_Right_e), (33, energy_expects_e), (45, energy_expects_1_e), (46, energy_expects_2_e)]
def energy_Deltas_C : Cfg := mkC tys energy_Deltas_f
def energy_Deltas_b : Code := match Try.f10.body with | some c => c | none => .skip
def energy_Deltas_y0 : Lay := ⟨49, [(7, .fx (.fn 45 [])), (8, .fx (.os 0)), (9, .tm true (.int .i64)), (30, .tm false (.sl (.int .i64))), (31, .tm true (.int .i64)), (32, .tm true (.int .i64))], [.val true true 3 (.row (.int .i64))]⟩
def energy_Deltas_y1 : Lay := ⟨49, [(8, .fx (.os 0))], [.val true true 3 (.row (.int .i64))]⟩
def energy_Deltas_l7_F (k : Nat) (v : (Int × (List Int) × Int × Int × Unit) × ((List Int) × Unit)) (K : KK) : Prop := energy_Deltas_l7 k v.1.1 v.1.2.1 v.1.2.2.1 v.1.2.2.2.1 v.2.1 (fun (y0 : (List Int)) => K (.exit 0) (st energy_Deltas_y1 ((()), (y0, ()))))
def energy_Deltas_l7_c : Cut := ⟨energy_Deltas_y0, fun o => match o with | .exit 0 => some energy_Deltas_y1 | _ => none, fun (v : (Int × (List Int) × Int × Int × Unit) × ((List Int) × Unit)) K => ∃ k, energy_Deltas_l7_F k v K⟩
def energy_Deltas_y2 : Lay := ⟨49, [(7, .fx (.fn 46 [(.op 0 (.sl (.int .i64)) [])])), (8, .fx (.os 1)), (9, .tm true (.int .i64)), (30, .tm false (.sl (.int .i64))), (31, .tm true (.int .i64)), (32, .tm true (.int .i64))], [.val true false 23 (.sl (.int .i64)), .val true true 3 (.row (.int .i64))]⟩
def energy_Deltas_l7a_F (k : Nat) (v : (Int × (List Int) × Int × Int × Unit) × ((List Int) × (List Int) × Unit)) (K : KK) : Prop := energy_Deltas_l7a k v.1.1 v.1.2.1 v.1.2.2.1 v.1.2.2.2.1 v.2.1 v.2.2.1 (fun (y0 : (List Int)) => K (.exit 0) (st energy_Deltas_y1 ((()), (y0, ()))))
def energy_Deltas_l7a_c : Cut := ⟨energy_Deltas_y2, fun o => match o with | .exit 0 => some energy_Deltas_y1 | _ => none, fun (v : (Int × (List Int) × Int × Int × Unit) × ((List Int) × (List Int) × Unit)) K => ∃ k, energy_Deltas_l7a_F k v K⟩
def energy_Deltas_y3 : Lay := ⟨49, [(0, .tm true .bool), (1, .tm false (.sl (.int .i64))), (2, .tm false (.sl (.int .i64)))], []⟩
def energy_Deltas_y4 : Lay := ⟨49, [(6, .fx (.os 0))], [.val true true 3 (.row (.int .i64))]⟩
def energy_Deltas_j3_c : Cut := ⟨energy_Deltas_y3, fun o => match o with | .ret => some energy_Deltas_y4 | _ => none, fun (v : (Bool × (List Int) × (List Int) × Unit) × (Unit)) (K : KK) => energy_Deltas_j3 v.1.1 v.1.2.1 v.1.2.2.1 (fun (y0 : (List Int)) => K .ret (st energy_Deltas_y4 ((()), (y0, ()))))⟩
def energy_Deltas_L : Cuts := mkL [(7, energy_Deltas_l7_c), (7, energy_Deltas_l7a_c)] [(3, energy_Deltas_j3_c)]
theorem energy_Deltas_lo : LoopsOK energy_Deltas_C energy_Deltas_L energy_Deltas_b :=
  (show LoopsOK energy_Deltas_C energy_Deltas_L energy_Deltas_b = ((LoopOK energy_Deltas_C energy_Deltas_L energy_Deltas_l7_c (nthB (loopsOf energy_Deltas_b) 0) ∧ LoopOK energy_Deltas_C energy_Deltas_L energy_Deltas_l7a_c (nthB (loopsOf energy_Deltas_b) 0) ∧ True) ∧ True) by kernel_rfl).mpr ⟨⟨⟨energy_Deltas_l7_F, fun v K => by kernel_rfl, fun v K => by kernel_rfl, fun k v K => by kernel_rfl⟩, ⟨energy_Deltas_l7a_F, fun v K => by kernel_rfl, fun v K => by kernel_rfl, fun k v K => by kernel_rfl⟩, trivial⟩, trivial⟩
theorem energy_Deltas_jo : JoinsOK energy_Deltas_C energy_Deltas_L energy_Deltas_b :=
  (show JoinsOK energy_Deltas_C energy_Deltas_L energy_Deltas_b = ((JoinOK energy_Deltas_C energy_Deltas_L energy_Deltas_j3_c (nthB (joinsOf energy_Deltas_L energy_Deltas_b) 0) ∧ True) ∧ True) by kernel_rfl).mpr ⟨⟨fun v K => by kernel_rfl, trivial⟩, trivial⟩
theorem energy_Deltas_ok : EntOK Try.prog 10 energy_Deltas_e :=
  entOf_ok (e := evFn energy_Deltas_C energy_Deltas_L Try.f10) (fun v n K => Eq.trans (energy_Deltas_def v.1 v.2.1 v.2.2.1 (K (.ns) []) (fun (r0 : (List Int)) => K (.os (n + 0)) [.val true true 3 (.row (.int .i64)) r0])) (by kernel_rfl)) (evFn_ok (mkC_all (fns := energy_Deltas_f) tys_ok ⟨⟨energy_Right_ok, Try.call32⟩, ⟨energy_expects_ok, Try.call33⟩, ⟨energy_expects_1_ok, Try.call45⟩, ⟨energy_expects_2_ok, Try.call46⟩, trivial⟩ mixed) Try.func10 (show Try.f10.body = some energy_Deltas_b by kernel_rfl) ⟨energy_Deltas_lo, energy_Deltas_jo, by kernel_rfl⟩)

end
end Go.Eng.A
