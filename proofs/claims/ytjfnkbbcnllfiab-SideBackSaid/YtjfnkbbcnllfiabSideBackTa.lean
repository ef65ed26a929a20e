/- Each of these functions is what the program computes: printed by program. -/
import Derived.Test.YtjfnkbbcnllfiabEngT
import Derived.Test.YtjfnkbbcnllfiabSideBackP
import Derived.Test.YtjfnkbbcnllfiabProg
set_option linter.unusedVariables false
set_option maxRecDepth 100000
namespace Go.Eng.A
open Go Go.Eng Go.Proofs
noncomputable section

def tys : List Ty := [.no, .no, .no, .sc (.int .i64), .no, .no, .no, .no, .no, .no, .no, .no, .no, .no, .no, .no, .no, .no, .no, .no, .no, .no, .no, .sl 3 (.int .i64) 8, .no, .no, .no, .no, .no, .no, .no, .no, .no, .no, .no, .no, .no, .no, .no, .no, .no, .no, .no, .no, .no, .no, .fn, .no, .no, .no, .no, .no, .no, .sl 23 (.sl (.int .i64)) 24]
theorem tok3 : TOK Try.prog 3 (.int .i64) := tok_mk Try.type3 Try.underlying3 (by kernel_rfl) (by kernel_rfl) (by kernel_rfl) (.inr (by kernel_rfl))
theorem tok23 : TOK Try.prog 23 (.sl (.int .i64)) := tok_mk Try.type23 Try.underlying23 (by kernel_rfl) (by kernel_rfl) (by kernel_rfl) (.inr (by kernel_rfl))
theorem tok53 : TOK Try.prog 53 (.sl (.sl (.int .i64))) := tok_mk Try.type53 Try.underlying53 (by kernel_rfl) (by kernel_rfl) (by kernel_rfl) (.inr (by kernel_rfl))
theorem tys_ok : TysOK Try.prog 0 tys := ⟨trivial, trivial, trivial, tyok_int tok3 Try.underlying3, trivial, trivial, trivial, trivial, trivial, trivial, trivial, trivial, trivial, trivial, trivial, trivial, trivial, trivial, trivial, trivial, trivial, trivial, trivial, tyok_sl tok23 Try.underlying23 tok3 (by kernel_rfl) (by kernel_rfl) (by kernel_rfl) Try.type3 (by kernel_rfl) Try.type23 (by kernel_rfl), trivial, trivial, trivial, trivial, trivial, trivial, trivial, trivial, trivial, trivial, trivial, trivial, trivial, trivial, trivial, trivial, trivial, trivial, trivial, trivial, trivial, trivial, tyok_fn Try.underlying46 (by kernel_rfl) Try.type46 (by kernel_rfl), trivial, trivial, trivial, trivial, trivial, trivial, tyok_sl tok53 Try.underlying53 tok23 (by kernel_rfl) (by kernel_rfl) (by kernel_rfl) Try.type23 (by kernel_rfl) Try.type53 (by kernel_rfl), trivial⟩
theorem mixed : Try.prog.follows .mixedOrders = true := by kernel_rfl

def R01_Within_e : Ent := entOf [.tm (.sl (.int .i64)), .tm (.int .i64), .tm (.int .i64)] fun (v : (List Int) × Int × Int × Unit) n K => R01_Within v.1 v.2.1 v.2.2.1 (fun (r0 : Bool) => K (.t true .bool r0) [])
def R01_Within_f : List (Nat × Ent) := []
def R01_Within_C : Cfg := mkC tys R01_Within_f
def R01_Within_b : Code := match Try.f12.body with | some c => c | none => .skip
def R01_Within_y0 : Lay := ⟨28, [(0, .tm false (.sl (.int .i64))), (1, .tm true (.int .i64)), (2, .tm true (.int .i64)), (7, .tm true (.int .i64))], []⟩
def R01_Within_y1 : Lay := ⟨28, [(6, .tm true .bool)], []⟩
def R01_Within_y2 : Lay := ⟨28, [], []⟩
def R01_Within_l2_F (k : Nat) (v : ((List Int) × Int × Int × Int × Unit) × (Unit)) (K : KK) : Prop := R01_Within_l2 k v.1.1 v.1.2.1 v.1.2.2.1 v.1.2.2.2.1 (fun (y0 : Bool) => K .ret (st R01_Within_y1 ((y0, ()), (())))) (K (.exit 0) (st R01_Within_y2 ((()), (()))))
def R01_Within_l2_c : Cut := ⟨R01_Within_y0, fun o => match o with | .ret => some R01_Within_y1 | .exit 0 => some R01_Within_y2 | _ => none, fun (v : ((List Int) × Int × Int × Int × Unit) × (Unit)) K => ∃ k, R01_Within_l2_F k v K⟩
def R01_Within_L : Cuts := mkL [(2, R01_Within_l2_c)] []
theorem R01_Within_lo : LoopsOK R01_Within_C R01_Within_L R01_Within_b :=
  (show LoopsOK R01_Within_C R01_Within_L R01_Within_b = ((LoopOK R01_Within_C R01_Within_L R01_Within_l2_c (nthB (loopsOf R01_Within_b) 0) ∧ True) ∧ True) by kernel_rfl).mpr ⟨⟨⟨R01_Within_l2_F, fun v K => by kernel_rfl, fun v K => by kernel_rfl, fun k v K => by kernel_rfl⟩, trivial⟩, trivial⟩
theorem R01_Within_jo : JoinsOK R01_Within_C R01_Within_L R01_Within_b := (show JoinsOK R01_Within_C R01_Within_L R01_Within_b = True by kernel_rfl).mpr trivial
theorem R01_Within_ok : EntOK Try.prog 12 R01_Within_e :=
  entOf_ok (e := evFn R01_Within_C R01_Within_L Try.f12) (fun v n K => Eq.trans (R01_Within_def v.1 v.2.1 v.2.2.1 (fun (r0 : Bool) => K (.t true .bool r0) [])) (by kernel_rfl)) (evFn_ok (mkC_all (fns := R01_Within_f) tys_ok trivial mixed) Try.func12 (show Try.f12.body = some R01_Within_b by kernel_rfl) ⟨R01_Within_lo, R01_Within_jo, by kernel_rfl⟩)

def side_right_e : Ent := entOf [.tm (.sl (.int .i64)), .tm (.sl (.int .i64))] fun (v : (List Int) × (List Int) × Unit) n K => side_right v.1 v.2.1 (fun (r0 : Bool) => K (.t true .bool r0) [])
def side_right_f : List (Nat × Ent) := []
def side_right_C : Cfg := mkC tys side_right_f
def side_right_b : Code := match Try.f47.body with | some c => c | none => .skip
def side_right_y0 : Lay := ⟨41, [(0, .tm false (.sl (.int .i64))), (1, .tm false (.sl (.int .i64))), (11, .fx (.os 0)), (12, .tm true (.int .i64)), (13, .tm true (.int .i64)), (17, .tm false (.sl (.int .i64))), (18, .tm true (.int .i64)), (19, .tm true (.int .i64))], [.val true false 23 (.row (.sl (.int .i64)))]⟩
def side_right_y1 : Lay := ⟨41, [(4, .tm true .bool)], []⟩
def side_right_y2 : Lay := ⟨41, [(0, .tm false (.sl (.int .i64))), (1, .tm false (.sl (.int .i64))), (11, .fx (.os 0)), (12, .tm true (.int .i64)), (13, .tm true (.int .i64))], [.val true false 23 (.row (.sl (.int .i64)))]⟩
def side_right_l5_F (k : Nat) (v : ((List Int) × (List Int) × Int × Int × (List Int) × Int × Int × Unit) × ((List (List Int)) × Unit)) (K : KK) : Prop := side_right_l5 k v.1.1 v.1.2.1 v.1.2.2.1 v.1.2.2.2.1 v.1.2.2.2.2.1 v.1.2.2.2.2.2.1 v.1.2.2.2.2.2.2.1 v.2.1 (fun (y0 : Bool) => K .ret (st side_right_y1 ((y0, ()), (())))) (fun (y0 : (List Int)) (y1 : (List Int)) (y2 : Int) (y3 : Int) (y4 : (List (List Int))) => K (.exit 2) (st side_right_y2 ((y0, y1, y2, y3, ()), (y4, ()))))
def side_right_l5_c : Cut := ⟨side_right_y0, fun o => match o with | .ret => some side_right_y1 | .exit 2 => some side_right_y2 | _ => none, fun (v : ((List Int) × (List Int) × Int × Int × (List Int) × Int × Int × Unit) × ((List (List Int)) × Unit)) K => ∃ k, side_right_l5_F k v K⟩
def side_right_y3 : Lay := ⟨41, [(0, .tm false (.sl (.int .i64))), (1, .tm false (.sl (.int .i64)))], []⟩
def side_right_l2_F (k : Nat) (v : ((List Int) × (List Int) × Int × Int × Unit) × ((List (List Int)) × Unit)) (K : KK) : Prop := side_right_l2 k v.1.1 v.1.2.1 v.1.2.2.1 v.1.2.2.2.1 v.2.1 (fun (y0 : Bool) => K .ret (st side_right_y1 ((y0, ()), (())))) (fun (y0 : (List Int)) (y1 : (List Int)) => K (.exit 0) (st side_right_y3 ((y0, y1, ()), (()))))
def side_right_l2_c : Cut := ⟨side_right_y2, fun o => match o with | .ret => some side_right_y1 | .exit 0 => some side_right_y3 | _ => none, fun (v : ((List Int) × (List Int) × Int × Int × Unit) × ((List (List Int)) × Unit)) K => ∃ k, side_right_l2_F k v K⟩
def side_right_L : Cuts := mkL [(5, side_right_l5_c), (2, side_right_l2_c)] []
theorem side_right_lo : LoopsOK side_right_C side_right_L side_right_b :=
  (show LoopsOK side_right_C side_right_L side_right_b = ((LoopOK side_right_C side_right_L side_right_l2_c (nthB (loopsOf side_right_b) 0) ∧ True) ∧ (LoopOK side_right_C side_right_L side_right_l5_c (nthB (loopsOf side_right_b) 1) ∧ True) ∧ True) by kernel_rfl).mpr ⟨⟨⟨side_right_l2_F, fun v K => by kernel_rfl, fun v K => by kernel_rfl, fun k v K => by kernel_rfl⟩, trivial⟩, ⟨⟨side_right_l5_F, fun v K => by kernel_rfl, fun v K => by kernel_rfl, fun k v K => by kernel_rfl⟩, trivial⟩, trivial⟩
theorem side_right_jo : JoinsOK side_right_C side_right_L side_right_b := (show JoinsOK side_right_C side_right_L side_right_b = True by kernel_rfl).mpr trivial
theorem side_right_ok : EntOK Try.prog 47 side_right_e :=
  entOf_ok (e := evFn side_right_C side_right_L Try.f47) (fun v n K => Eq.trans (side_right_def v.1 v.2.1 (fun (r0 : Bool) => K (.t true .bool r0) [])) (by kernel_rfl)) (evFn_ok (mkC_all (fns := side_right_f) tys_ok trivial mixed) Try.func47 (show Try.f47.body = some side_right_b by kernel_rfl) ⟨side_right_lo, side_right_jo, by kernel_rfl⟩)

def side_Merge_1_e : Ent := entOf [.tm (.int .i64), .tm (.int .i64)] fun (v : Int × Int × Unit) n K => side_Merge_1 v.1 v.2.1 (fun (r0 : Int) (r1 : Int) => K (.tu [.t true (.int .i64) r0, .t true (.int .i64) r1]) [])
def side_Merge_1_f : List (Nat × Ent) := []
def side_Merge_1_C : Cfg := mkC tys side_Merge_1_f
def side_Merge_1_b : Code := match Try.f35.body with | some c => c | none => .skip
def side_Merge_1_L : Cuts := mkL [] []
theorem side_Merge_1_lo : LoopsOK side_Merge_1_C side_Merge_1_L side_Merge_1_b := (show LoopsOK side_Merge_1_C side_Merge_1_L side_Merge_1_b = True by kernel_rfl).mpr trivial
theorem side_Merge_1_jo : JoinsOK side_Merge_1_C side_Merge_1_L side_Merge_1_b := (show JoinsOK side_Merge_1_C side_Merge_1_L side_Merge_1_b = True by kernel_rfl).mpr trivial
theorem side_Merge_1_ok : EntOK Try.prog 35 side_Merge_1_e :=
  entOf_ok (e := evFn side_Merge_1_C side_Merge_1_L Try.f35) (fun v n K => Eq.trans (side_Merge_1_def v.1 v.2.1 (fun (r0 : Int) (r1 : Int) => K (.tu [.t true (.int .i64) r0, .t true (.int .i64) r1]) [])) (by kernel_rfl)) (evFn_ok (mkC_all (fns := side_Merge_1_f) tys_ok trivial mixed) Try.func35 (show Try.f35.body = some side_Merge_1_b by kernel_rfl) ⟨side_Merge_1_lo, side_Merge_1_jo, by kernel_rfl⟩)

def side_both__side_Merge_1_e : Ent := entOf [.tm (.sl (.int .i64)), .tm (.sl (.int .i64)), .fn 35 []] fun (v : (List Int) × (List Int) × (Unit) × Unit) n K => side_both__side_Merge_1 v.1 v.2.1 (K (.tu [.ns, .ns]) []) (fun (r0 : (List Int)) (r1 : (List Int)) => K (.tu [.os (n + 0), .os (n + 1)]) [.val true true 3 (.row (.int .i64)) r0, .val true true 3 (.row (.int .i64)) r1])
def side_both__side_Merge_1_f : List (Nat × Ent) := [(47, side_right_e), (35, side_Merge_1_e)]
def side_both__side_Merge_1_C : Cfg := mkC tys side_both__side_Merge_1_f
def side_both__side_Merge_1_b : Code := match Try.f34.body with | some c => c | none => .skip
def side_both__side_Merge_1_y0 : Lay := ⟨48, [(1, .tm false (.sl (.int .i64))), (2, .fx (.fn 35 [])), (8, .fx (.os 0)), (9, .fx (.os 1)), (22, .tm false (.sl (.int .i64))), (23, .tm true (.int .i64)), (24, .tm true (.int .i64))], [.val true true 3 (.row (.int .i64)), .val true true 3 (.row (.int .i64))]⟩
def side_both__side_Merge_1_y1 : Lay := ⟨48, [(8, .fx (.os 0)), (9, .fx (.os 1))], [.val true true 3 (.row (.int .i64)), .val true true 3 (.row (.int .i64))]⟩
def side_both__side_Merge_1_l5_F (k : Nat) (v : ((List Int) × (List Int) × Int × Int × Unit) × ((List Int) × (List Int) × Unit)) (K : KK) : Prop := side_both__side_Merge_1_l5 k v.1.1 v.1.2.1 v.1.2.2.1 v.1.2.2.2.1 v.2.1 v.2.2.1 (fun (y0 : (List Int)) (y1 : (List Int)) => K (.exit 0) (st side_both__side_Merge_1_y1 ((()), (y0, y1, ()))))
def side_both__side_Merge_1_l5_c : Cut := ⟨side_both__side_Merge_1_y0, fun o => match o with | .exit 0 => some side_both__side_Merge_1_y1 | _ => none, fun (v : ((List Int) × (List Int) × Int × Int × Unit) × ((List Int) × (List Int) × Unit)) K => ∃ k, side_both__side_Merge_1_l5_F k v K⟩
def side_both__side_Merge_1_L : Cuts := mkL [(5, side_both__side_Merge_1_l5_c)] []
theorem side_both__side_Merge_1_lo : LoopsOK side_both__side_Merge_1_C side_both__side_Merge_1_L side_both__side_Merge_1_b :=
  (show LoopsOK side_both__side_Merge_1_C side_both__side_Merge_1_L side_both__side_Merge_1_b = ((LoopOK side_both__side_Merge_1_C side_both__side_Merge_1_L side_both__side_Merge_1_l5_c (nthB (loopsOf side_both__side_Merge_1_b) 0) ∧ True) ∧ True) by kernel_rfl).mpr ⟨⟨⟨side_both__side_Merge_1_l5_F, fun v K => by kernel_rfl, fun v K => by kernel_rfl, fun k v K => by kernel_rfl⟩, trivial⟩, trivial⟩
theorem side_both__side_Merge_1_jo : JoinsOK side_both__side_Merge_1_C side_both__side_Merge_1_L side_both__side_Merge_1_b := (show JoinsOK side_both__side_Merge_1_C side_both__side_Merge_1_L side_both__side_Merge_1_b = True by kernel_rfl).mpr trivial
theorem side_both__side_Merge_1_ok : EntOK Try.prog 34 side_both__side_Merge_1_e :=
  entOf_ok (e := evFn side_both__side_Merge_1_C side_both__side_Merge_1_L Try.f34) (fun v n K => Eq.trans (side_both__side_Merge_1_def v.1 v.2.1 (K (.tu [.ns, .ns]) []) (fun (r0 : (List Int)) (r1 : (List Int)) => K (.tu [.os (n + 0), .os (n + 1)]) [.val true true 3 (.row (.int .i64)) r0, .val true true 3 (.row (.int .i64)) r1])) (by kernel_rfl)) (evFn_ok (mkC_all (fns := side_both__side_Merge_1_f) tys_ok ⟨⟨side_right_ok, Try.call47⟩, ⟨side_Merge_1_ok, Try.call35⟩, trivial⟩ mixed) Try.func34 (show Try.f34.body = some side_both__side_Merge_1_b by kernel_rfl) ⟨side_both__side_Merge_1_lo, side_both__side_Merge_1_jo, by kernel_rfl⟩)

def side_Merge_e : Ent := entOf [.tm (.sl (.int .i64)), .tm (.sl (.int .i64))] fun (v : (List Int) × (List Int) × Unit) n K => side_Merge v.1 v.2.1 (K (.tu [.ns, .ns]) []) (fun (r0 : (List Int)) (r1 : (List Int)) => K (.tu [.os (n + 0), .os (n + 1)]) [.val true true 3 (.row (.int .i64)) r0, .val true true 3 (.row (.int .i64)) r1])
def side_Merge_f : List (Nat × Ent) := [(34, side_both__side_Merge_1_e)]
def side_Merge_C : Cfg := mkC tys side_Merge_f
def side_Merge_b : Code := match Try.f16.body with | some c => c | none => .skip
def side_Merge_L : Cuts := mkL [] []
theorem side_Merge_lo : LoopsOK side_Merge_C side_Merge_L side_Merge_b := (show LoopsOK side_Merge_C side_Merge_L side_Merge_b = True by kernel_rfl).mpr trivial
theorem side_Merge_jo : JoinsOK side_Merge_C side_Merge_L side_Merge_b := (show JoinsOK side_Merge_C side_Merge_L side_Merge_b = True by kernel_rfl).mpr trivial
theorem side_Merge_ok : EntOK Try.prog 16 side_Merge_e :=
  entOf_ok (e := evFn side_Merge_C side_Merge_L Try.f16) (fun v n K => Eq.trans (side_Merge_def v.1 v.2.1 (K (.tu [.ns, .ns]) []) (fun (r0 : (List Int)) (r1 : (List Int)) => K (.tu [.os (n + 0), .os (n + 1)]) [.val true true 3 (.row (.int .i64)) r0, .val true true 3 (.row (.int .i64)) r1])) (by kernel_rfl)) (evFn_ok (mkC_all (fns := side_Merge_f) tys_ok ⟨⟨side_both__side_Merge_1_ok, Try.call34⟩, trivial⟩ mixed) Try.func16 (show Try.f16.body = some side_Merge_b by kernel_rfl) ⟨side_Merge_lo, side_Merge_jo, by kernel_rfl⟩)

def num_within_e : Ent := entOf [.tm (.int .i64), .tm (.sl (.int .i64))] fun (v : Int × (List Int) × Unit) n K => num_within v.1 v.2.1 (fun (r0 : Bool) => K (.t true .bool r0) [])
def num_within_f : List (Nat × Ent) := []
def num_within_C : Cfg := mkC tys num_within_f
def num_within_b : Code := match Try.f48.body with | some c => c | none => .skip
def num_within_y0 : Lay := ⟨23, [(0, .tm true (.int .i64)), (7, .tm false (.sl (.int .i64))), (8, .tm true (.int .i64)), (9, .tm true (.int .i64))], []⟩
def num_within_y1 : Lay := ⟨23, [(4, .tm true .bool)], []⟩
def num_within_y2 : Lay := ⟨23, [], []⟩
def num_within_l2_F (k : Nat) (v : (Int × (List Int) × Int × Int × Unit) × (Unit)) (K : KK) : Prop := num_within_l2 k v.1.1 v.1.2.1 v.1.2.2.1 v.1.2.2.2.1 (fun (y0 : Bool) => K .ret (st num_within_y1 ((y0, ()), (())))) (K (.exit 0) (st num_within_y2 ((()), (()))))
def num_within_l2_c : Cut := ⟨num_within_y0, fun o => match o with | .ret => some num_within_y1 | .exit 0 => some num_within_y2 | _ => none, fun (v : (Int × (List Int) × Int × Int × Unit) × (Unit)) K => ∃ k, num_within_l2_F k v K⟩
def num_within_L : Cuts := mkL [(2, num_within_l2_c)] []
theorem num_within_lo : LoopsOK num_within_C num_within_L num_within_b :=
  (show LoopsOK num_within_C num_within_L num_within_b = ((LoopOK num_within_C num_within_L num_within_l2_c (nthB (loopsOf num_within_b) 0) ∧ True) ∧ True) by kernel_rfl).mpr ⟨⟨⟨num_within_l2_F, fun v K => by kernel_rfl, fun v K => by kernel_rfl, fun k v K => by kernel_rfl⟩, trivial⟩, trivial⟩
theorem num_within_jo : JoinsOK num_within_C num_within_L num_within_b := (show JoinsOK num_within_C num_within_L num_within_b = True by kernel_rfl).mpr trivial
theorem num_within_ok : EntOK Try.prog 48 num_within_e :=
  entOf_ok (e := evFn num_within_C num_within_L Try.f48) (fun v n K => Eq.trans (num_within_def v.1 v.2.1 (fun (r0 : Bool) => K (.t true .bool r0) [])) (by kernel_rfl)) (evFn_ok (mkC_all (fns := num_within_f) tys_ok trivial mixed) Try.func48 (show Try.f48.body = some num_within_b by kernel_rfl) ⟨num_within_lo, num_within_jo, by kernel_rfl⟩)

def num_Shr_e : Ent := entOf [.tm (.int .i64), .tm (.int .i64)] fun (v : Int × Int × Unit) n K => num_Shr v.1 v.2.1 (fun (r0 : Int) => K (.t true (.int .i64) r0) [])
def num_Shr_f : List (Nat × Ent) := [(48, num_within_e)]
def num_Shr_C : Cfg := mkC tys num_Shr_f
def num_Shr_b : Code := match Try.f38.body with | some c => c | none => .skip
def num_Shr_y0 : Lay := ⟨29, [(0, .tm true (.int .i64)), (1, .tm true (.int .i64)), (5, .tm true .bool)], []⟩
def num_Shr_y1 : Lay := ⟨29, [(4, .tm true (.int .i64))], []⟩
def num_Shr_y2 : Lay := ⟨29, [(0, .tm true (.int .i64)), (1, .tm true (.int .i64))], []⟩
def num_Shr_j2_c : Cut := ⟨num_Shr_y0, fun o => match o with | .ret => some num_Shr_y1 | .nrm => some num_Shr_y2 | _ => none, fun (v : (Int × Int × Bool × Unit) × (Unit)) (K : KK) => num_Shr_j2 v.1.1 v.1.2.1 v.1.2.2.1 (fun (y0 : Int) => K .ret (st num_Shr_y1 ((y0, ()), (())))) (fun (y0 : Int) (y1 : Int) => K .nrm (st num_Shr_y2 ((y0, y1, ()), (()))))⟩
def num_Shr_j5_c : Cut := ⟨num_Shr_y2, fun o => match o with | .ret => some num_Shr_y1 | _ => none, fun (v : (Int × Int × Unit) × (Unit)) (K : KK) => num_Shr_j5 v.1.1 v.1.2.1 (fun (y0 : Int) => K .ret (st num_Shr_y1 ((y0, ()), (()))))⟩
def num_Shr_L : Cuts := mkL [] [(2, num_Shr_j2_c), (5, num_Shr_j5_c)]
theorem num_Shr_lo : LoopsOK num_Shr_C num_Shr_L num_Shr_b := (show LoopsOK num_Shr_C num_Shr_L num_Shr_b = True by kernel_rfl).mpr trivial
theorem num_Shr_jo : JoinsOK num_Shr_C num_Shr_L num_Shr_b :=
  (show JoinsOK num_Shr_C num_Shr_L num_Shr_b = ((JoinOK num_Shr_C num_Shr_L num_Shr_j5_c (nthB (joinsOf num_Shr_L num_Shr_b) 0) ∧ True) ∧ (JoinOK num_Shr_C num_Shr_L num_Shr_j2_c (nthB (joinsOf num_Shr_L num_Shr_b) 1) ∧ True) ∧ True) by kernel_rfl).mpr ⟨⟨fun v K => by kernel_rfl, trivial⟩, ⟨fun v K => by kernel_rfl, trivial⟩, trivial⟩
theorem num_Shr_ok : EntOK Try.prog 38 num_Shr_e :=
  entOf_ok (e := evFn num_Shr_C num_Shr_L Try.f38) (fun v n K => Eq.trans (num_Shr_def v.1 v.2.1 (fun (r0 : Int) => K (.t true (.int .i64) r0) [])) (by kernel_rfl)) (evFn_ok (mkC_all (fns := num_Shr_f) tys_ok ⟨⟨num_within_ok, Try.call48⟩, trivial⟩ mixed) Try.func38 (show Try.f38.body = some num_Shr_b by kernel_rfl) ⟨num_Shr_lo, num_Shr_jo, by kernel_rfl⟩)

end
end Go.Eng.A
