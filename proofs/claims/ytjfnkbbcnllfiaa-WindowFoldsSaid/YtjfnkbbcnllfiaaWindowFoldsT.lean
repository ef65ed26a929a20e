/- Each of these functions is what the program computes: printed by program. -/
import Derived.Test.YtjfnkbbcnllfiaaEngT
import Derived.Test.YtjfnkbbcnllfiaaWindowFoldsP
import Derived.Test.YtjfnkbbcnllfiaaProg
set_option linter.unusedVariables false
set_option maxRecDepth 100000
namespace Go.Eng.A
open Go Go.Eng Go.Proofs
noncomputable section

def tys : List Ty := [.no, .no, .no, .sc (.int .i64), .no, .no, .no, .no, .no, .no, .no, .no, .no, .no, .no, .no, .no, .no, .no, .no, .no, .no, .sl 3 (.int .i64) 8, .no, .no, .no, .no, .no, .no, .no, .no, .no, .no, .no, .no, .no, .no, .no, .no, .arr 8 3 (.int .i64)]
theorem tok3 : TOK Try.prog 3 (.int .i64) := tok_mk Try.type3 Try.underlying3 (by kernel_rfl) (by kernel_rfl) (by kernel_rfl) (.inr (by kernel_rfl))
theorem tok22 : TOK Try.prog 22 (.sl (.int .i64)) := tok_mk Try.type22 Try.underlying22 (by kernel_rfl) (by kernel_rfl) (by kernel_rfl) (.inr (by kernel_rfl))
theorem tok39 : TOK Try.prog 39 (.arr 8 (.int .i64)) := tok_mk Try.type39 Try.underlying39 (by kernel_rfl) (by kernel_rfl) (by kernel_rfl) (.inr (by kernel_rfl))
theorem tys_ok : TysOK Try.prog 0 tys := ⟨trivial, trivial, trivial, tyok_int tok3 Try.underlying3, trivial, trivial, trivial, trivial, trivial, trivial, trivial, trivial, trivial, trivial, trivial, trivial, trivial, trivial, trivial, trivial, trivial, trivial, tyok_sl tok22 Try.underlying22 tok3 (by kernel_rfl) (by kernel_rfl) (by kernel_rfl) Try.type3 (by kernel_rfl) Try.type22 (by kernel_rfl), trivial, trivial, trivial, trivial, trivial, trivial, trivial, trivial, trivial, trivial, trivial, trivial, trivial, trivial, trivial, trivial, tyok_arr tok39 Try.underlying39 tok3 (by kernel_rfl), trivial⟩
theorem mixed : Try.prog.follows .mixedOrders = true := by kernel_rfl

def window_within_e : Ent := entOf [.tm (.sl (.int .i64)), .tm (.int .i64), .tm (.int .i64)] fun (v : (List Int) × Int × Int × Unit) n K => window_within v.1 v.2.1 v.2.2.1 (fun (r0 : Bool) => K (.t true .bool r0) [])
def window_within_f : List (Nat × Ent) := []
def window_within_C : Cfg := mkC tys window_within_f
def window_within_b : Code := match Try.f49.body with | some c => c | none => .skip
def window_within_y0 : Lay := ⟨36, [(2, .tm true (.int .i64)), (20, .tm false (.sl (.int .i64))), (21, .tm true (.int .i64)), (22, .tm true (.int .i64))], []⟩
def window_within_y1 : Lay := ⟨36, [(6, .tm true .bool)], []⟩
def window_within_y2 : Lay := ⟨36, [], []⟩
def window_within_l5_F (k : Nat) (v : (Int × (List Int) × Int × Int × Unit) × (Unit)) (K : KK) : Prop := window_within_l5 k v.1.1 v.1.2.1 v.1.2.2.1 v.1.2.2.2.1 (fun (y0 : Bool) => K .ret (st window_within_y1 ((y0, ()), (())))) (K (.exit 0) (st window_within_y2 ((()), (()))))
def window_within_l5_c : Cut := ⟨window_within_y0, fun o => match o with | .ret => some window_within_y1 | .exit 0 => some window_within_y2 | _ => none, fun (v : (Int × (List Int) × Int × Int × Unit) × (Unit)) K => ∃ k, window_within_l5_F k v K⟩
def window_within_y3 : Lay := ⟨36, [(0, .tm false (.sl (.int .i64))), (2, .tm true (.int .i64))], []⟩
def window_within_j4_c : Cut := ⟨window_within_y3, fun o => match o with | .ret => some window_within_y1 | _ => none, fun (v : ((List Int) × Int × Unit) × (Unit)) (K : KK) => window_within_j4 v.1.1 v.1.2.1 (fun (y0 : Bool) => K .ret (st window_within_y1 ((y0, ()), (()))))⟩
def window_within_L : Cuts := mkL [(5, window_within_l5_c)] [(4, window_within_j4_c)]
theorem window_within_lo : LoopsOK window_within_C window_within_L window_within_b :=
  (show LoopsOK window_within_C window_within_L window_within_b = ((∀ cut, window_within_L.loop 5 = some cut → LoopOK window_within_C window_within_L cut (nthB (loopsOf window_within_b) 0)) ∧ True) by kernel_rfl).mpr ⟨of_some (a := window_within_l5_c) (by kernel_rfl) ⟨window_within_l5_F, fun v K => by kernel_rfl, fun v K => by kernel_rfl, fun k v K => by kernel_rfl⟩, trivial⟩
theorem window_within_jo : JoinsOK window_within_C window_within_L window_within_b :=
  (show JoinsOK window_within_C window_within_L window_within_b = ((∀ cut, window_within_L.join 4 = some cut → JoinOK window_within_C window_within_L cut (nthB (joinsOf window_within_L window_within_b) 0)) ∧ True) by kernel_rfl).mpr ⟨of_some (a := window_within_j4_c) (by kernel_rfl) (fun v K => by kernel_rfl), trivial⟩
theorem window_within_ok : EntOK Try.prog 49 window_within_e :=
  entOf_ok (e := evFn window_within_C window_within_L Try.f49) (fun v n K => by kernel_rfl) (evFn_ok (mkC_all (fns := window_within_f) tys_ok trivial mixed) Try.func49 (show Try.f49.body = some window_within_b by kernel_rfl) ⟨window_within_lo, window_within_jo, by kernel_rfl⟩)

def window_Slope_e : Ent := entOf [] fun (v : Unit) n K => window_Slope (fun (r0 : (List Int)) => K (.t true (.arr 8 (.int .i64)) r0) [])
def window_Slope_f : List (Nat × Ent) := []
def window_Slope_C : Cfg := mkC tys window_Slope_f
def window_Slope_b : Code := match Try.f30.body with | some c => c | none => .skip
def window_Slope_L : Cuts := mkL [] []
theorem window_Slope_lo : LoopsOK window_Slope_C window_Slope_L window_Slope_b := (show LoopsOK window_Slope_C window_Slope_L window_Slope_b = True by kernel_rfl).mpr trivial
theorem window_Slope_jo : JoinsOK window_Slope_C window_Slope_L window_Slope_b := (show JoinsOK window_Slope_C window_Slope_L window_Slope_b = True by kernel_rfl).mpr trivial
theorem window_Slope_ok : EntOK Try.prog 30 window_Slope_e :=
  entOf_ok (e := evFn window_Slope_C window_Slope_L Try.f30) (fun v n K => by kernel_rfl) (evFn_ok (mkC_all (fns := window_Slope_f) tys_ok trivial mixed) Try.func30 (show Try.f30.body = some window_Slope_b by kernel_rfl) ⟨window_Slope_lo, window_Slope_jo, by kernel_rfl⟩)

def num_within_e : Ent := entOf [.tm (.int .i64), .tm (.sl (.int .i64))] fun (v : Int × (List Int) × Unit) n K => num_within v.1 v.2.1 (fun (r0 : Bool) => K (.t true .bool r0) [])
def num_within_f : List (Nat × Ent) := []
def num_within_C : Cfg := mkC tys num_within_f
def num_within_b : Code := match Try.f57.body with | some c => c | none => .skip
def num_within_y0 : Lay := ⟨23, [(0, .tm true (.int .i64)), (7, .tm false (.sl (.int .i64))), (8, .tm true (.int .i64)), (9, .tm true (.int .i64))], []⟩
def num_within_y1 : Lay := ⟨23, [(4, .tm true .bool)], []⟩
def num_within_y2 : Lay := ⟨23, [], []⟩
def num_within_l2_F (k : Nat) (v : (Int × (List Int) × Int × Int × Unit) × (Unit)) (K : KK) : Prop := num_within_l2 k v.1.1 v.1.2.1 v.1.2.2.1 v.1.2.2.2.1 (fun (y0 : Bool) => K .ret (st num_within_y1 ((y0, ()), (())))) (K (.exit 0) (st num_within_y2 ((()), (()))))
def num_within_l2_c : Cut := ⟨num_within_y0, fun o => match o with | .ret => some num_within_y1 | .exit 0 => some num_within_y2 | _ => none, fun (v : (Int × (List Int) × Int × Int × Unit) × (Unit)) K => ∃ k, num_within_l2_F k v K⟩
def num_within_L : Cuts := mkL [(2, num_within_l2_c)] []
theorem num_within_lo : LoopsOK num_within_C num_within_L num_within_b :=
  (show LoopsOK num_within_C num_within_L num_within_b = ((∀ cut, num_within_L.loop 2 = some cut → LoopOK num_within_C num_within_L cut (nthB (loopsOf num_within_b) 0)) ∧ True) by kernel_rfl).mpr ⟨of_some (a := num_within_l2_c) (by kernel_rfl) ⟨num_within_l2_F, fun v K => by kernel_rfl, fun v K => by kernel_rfl, fun k v K => by kernel_rfl⟩, trivial⟩
theorem num_within_jo : JoinsOK num_within_C num_within_L num_within_b := (show JoinsOK num_within_C num_within_L num_within_b = True by kernel_rfl).mpr trivial
theorem num_within_ok : EntOK Try.prog 57 num_within_e :=
  entOf_ok (e := evFn num_within_C num_within_L Try.f57) (fun v n K => by kernel_rfl) (evFn_ok (mkC_all (fns := num_within_f) tys_ok trivial mixed) Try.func57 (show Try.f57.body = some num_within_b by kernel_rfl) ⟨num_within_lo, num_within_jo, by kernel_rfl⟩)

def num_Shr_e : Ent := entOf [.tm (.int .i64), .tm (.int .i64)] fun (v : Int × Int × Unit) n K => num_Shr v.1 v.2.1 (fun (r0 : Int) => K (.t true (.int .i64) r0) [])
def num_Shr_f : List (Nat × Ent) := [(57, num_within_e)]
def num_Shr_C : Cfg := mkC tys num_Shr_f
def num_Shr_b : Code := match Try.f50.body with | some c => c | none => .skip
def num_Shr_y0 : Lay := ⟨29, [(0, .tm true (.int .i64)), (1, .tm true (.int .i64)), (5, .tm true .bool)], []⟩
def num_Shr_y1 : Lay := ⟨29, [(4, .tm true (.int .i64))], []⟩
def num_Shr_y2 : Lay := ⟨29, [(0, .tm true (.int .i64)), (1, .tm true (.int .i64))], []⟩
def num_Shr_j2_c : Cut := ⟨num_Shr_y0, fun o => match o with | .ret => some num_Shr_y1 | .nrm => some num_Shr_y2 | _ => none, fun (v : (Int × Int × Bool × Unit) × (Unit)) (K : KK) => num_Shr_j2 v.1.1 v.1.2.1 v.1.2.2.1 (fun (y0 : Int) => K .ret (st num_Shr_y1 ((y0, ()), (())))) (fun (y0 : Int) (y1 : Int) => K .nrm (st num_Shr_y2 ((y0, y1, ()), (()))))⟩
def num_Shr_j5_c : Cut := ⟨num_Shr_y2, fun o => match o with | .ret => some num_Shr_y1 | _ => none, fun (v : (Int × Int × Unit) × (Unit)) (K : KK) => num_Shr_j5 v.1.1 v.1.2.1 (fun (y0 : Int) => K .ret (st num_Shr_y1 ((y0, ()), (()))))⟩
def num_Shr_L : Cuts := mkL [] [(2, num_Shr_j2_c), (5, num_Shr_j5_c)]
theorem num_Shr_lo : LoopsOK num_Shr_C num_Shr_L num_Shr_b := (show LoopsOK num_Shr_C num_Shr_L num_Shr_b = True by kernel_rfl).mpr trivial
theorem num_Shr_jo : JoinsOK num_Shr_C num_Shr_L num_Shr_b :=
  (show JoinsOK num_Shr_C num_Shr_L num_Shr_b = ((∀ cut, num_Shr_L.join 5 = some cut → JoinOK num_Shr_C num_Shr_L cut (nthB (joinsOf num_Shr_L num_Shr_b) 0)) ∧ (∀ cut, num_Shr_L.join 2 = some cut → JoinOK num_Shr_C num_Shr_L cut (nthB (joinsOf num_Shr_L num_Shr_b) 1)) ∧ True) by kernel_rfl).mpr ⟨of_some (a := num_Shr_j5_c) (by kernel_rfl) (fun v K => by kernel_rfl), of_some (a := num_Shr_j2_c) (by kernel_rfl) (fun v K => by kernel_rfl), trivial⟩
theorem num_Shr_ok : EntOK Try.prog 50 num_Shr_e :=
  entOf_ok (e := evFn num_Shr_C num_Shr_L Try.f50) (fun v n K => by kernel_rfl) (evFn_ok (mkC_all (fns := num_Shr_f) tys_ok ⟨⟨num_within_ok, Try.call57⟩, trivial⟩ mixed) Try.func50 (show Try.f50.body = some num_Shr_b by kernel_rfl) ⟨num_Shr_lo, num_Shr_jo, by kernel_rfl⟩)

def window_Fold_e : Ent := entOf [.tm (.sl (.int .i64))] fun (v : (List Int) × Unit) n K => window_Fold v.1 (K (.ns) []) (fun (r0 : (List Int)) => K (.os (n + 0)) [.val true false 3 (.row (.int .i64)) r0])
def window_Fold_f : List (Nat × Ent) := [(49, window_within_e), (30, window_Slope_e), (50, num_Shr_e)]
def window_Fold_C : Cfg := mkC tys window_Fold_f
def window_Fold_b : Code := match Try.f31.body with | some c => c | none => .skip
def window_Fold_y0 : Lay := ⟨81, [(0, .tm false (.sl (.int .i64))), (3, .tm true (.int .i64)), (4, .fx (.os 0)), (5, .fx (.op 1 (.arr 8 (.int .i64)) [])), (22, .tm true (.int .i64))], [.val true false 3 (.row (.int .i64)), .val true true 39 (.arr 8 (.int .i64))]⟩
def window_Fold_y1 : Lay := ⟨81, [(4, .fx (.os 0))], [.val true false 3 (.row (.int .i64))]⟩
def window_Fold_l8_F (k : Nat) (v : ((List Int) × Int × Int × Unit) × ((List Int) × (List Int) × Unit)) (K : KK) : Prop := window_Fold_l8 k v.1.1 v.1.2.1 v.1.2.2.1 v.2.1 v.2.2.1 (fun (y0 : (List Int)) => K (.exit 0) (st window_Fold_y1 ((()), (y0, ()))))
def window_Fold_l8_c : Cut := ⟨window_Fold_y0, fun o => match o with | .exit 0 => some window_Fold_y1 | _ => none, fun (v : ((List Int) × Int × Int × Unit) × ((List Int) × (List Int) × Unit)) K => ∃ k, window_Fold_l8_F k v K⟩
def window_Fold_L : Cuts := mkL [(8, window_Fold_l8_c)] []
theorem window_Fold_lo : LoopsOK window_Fold_C window_Fold_L window_Fold_b :=
  (show LoopsOK window_Fold_C window_Fold_L window_Fold_b = ((∀ cut, window_Fold_L.loop 8 = some cut → LoopOK window_Fold_C window_Fold_L cut (nthB (loopsOf window_Fold_b) 0)) ∧ True) by kernel_rfl).mpr ⟨of_some (a := window_Fold_l8_c) (by kernel_rfl) ⟨window_Fold_l8_F, fun v K => by kernel_rfl, fun v K => by kernel_rfl, fun k v K => by kernel_rfl⟩, trivial⟩
theorem window_Fold_jo : JoinsOK window_Fold_C window_Fold_L window_Fold_b := (show JoinsOK window_Fold_C window_Fold_L window_Fold_b = True by kernel_rfl).mpr trivial
theorem window_Fold_ok : EntOK Try.prog 31 window_Fold_e :=
  entOf_ok (e := evFn window_Fold_C window_Fold_L Try.f31) (fun v n K => by kernel_rfl) (evFn_ok (mkC_all (fns := window_Fold_f) tys_ok ⟨⟨window_within_ok, Try.call49⟩, ⟨window_Slope_ok, Try.call30⟩, ⟨num_Shr_ok, Try.call50⟩, trivial⟩ mixed) Try.func31 (show Try.f31.body = some window_Fold_b by kernel_rfl) ⟨window_Fold_lo, window_Fold_jo, by kernel_rfl⟩)

def R01_Same_e : Ent := entOf [.tm (.sl (.int .i64)), .tm (.sl (.int .i64))] fun (v : (List Int) × (List Int) × Unit) n K => R01_Same v.1 v.2.1 (fun (r0 : Bool) => K (.t true .bool r0) [])
def R01_Same_f : List (Nat × Ent) := []
def R01_Same_C : Cfg := mkC tys R01_Same_f
def R01_Same_b : Code := match Try.f14.body with | some c => c | none => .skip
def R01_Same_y0 : Lay := ⟨26, [(0, .tm false (.sl (.int .i64))), (1, .tm false (.sl (.int .i64))), (5, .tm true (.int .i64))], []⟩
def R01_Same_y1 : Lay := ⟨26, [(4, .tm true .bool)], []⟩
def R01_Same_y2 : Lay := ⟨26, [], []⟩
def R01_Same_l4_F (k : Nat) (v : ((List Int) × (List Int) × Int × Unit) × (Unit)) (K : KK) : Prop := R01_Same_l4 k v.1.1 v.1.2.1 v.1.2.2.1 (fun (y0 : Bool) => K .ret (st R01_Same_y1 ((y0, ()), (())))) (K (.exit 0) (st R01_Same_y2 ((()), (()))))
def R01_Same_l4_c : Cut := ⟨R01_Same_y0, fun o => match o with | .ret => some R01_Same_y1 | .exit 0 => some R01_Same_y2 | _ => none, fun (v : ((List Int) × (List Int) × Int × Unit) × (Unit)) K => ∃ k, R01_Same_l4_F k v K⟩
def R01_Same_L : Cuts := mkL [(4, R01_Same_l4_c)] []
theorem R01_Same_lo : LoopsOK R01_Same_C R01_Same_L R01_Same_b :=
  (show LoopsOK R01_Same_C R01_Same_L R01_Same_b = ((∀ cut, R01_Same_L.loop 4 = some cut → LoopOK R01_Same_C R01_Same_L cut (nthB (loopsOf R01_Same_b) 0)) ∧ True) by kernel_rfl).mpr ⟨of_some (a := R01_Same_l4_c) (by kernel_rfl) ⟨R01_Same_l4_F, fun v K => by kernel_rfl, fun v K => by kernel_rfl, fun k v K => by kernel_rfl⟩, trivial⟩
theorem R01_Same_jo : JoinsOK R01_Same_C R01_Same_L R01_Same_b := (show JoinsOK R01_Same_C R01_Same_L R01_Same_b = True by kernel_rfl).mpr trivial
theorem R01_Same_ok : EntOK Try.prog 14 R01_Same_e :=
  entOf_ok (e := evFn R01_Same_C R01_Same_L Try.f14) (fun v n K => by kernel_rfl) (evFn_ok (mkC_all (fns := R01_Same_f) tys_ok trivial mixed) Try.func14 (show Try.f14.body = some R01_Same_b by kernel_rfl) ⟨R01_Same_lo, R01_Same_jo, by kernel_rfl⟩)

def L11_awake_e : Ent := entOf [] fun (v : Unit) n K => L11_awake (fun (r0 : Bool) => K (.t true .bool r0) [])
def L11_awake_f : List (Nat × Ent) := [(31, window_Fold_e), (14, R01_Same_e), (30, window_Slope_e)]
def L11_awake_C : Cfg := mkC tys L11_awake_f
def L11_awake_b : Code := match Try.f29.body with | some c => c | none => .skip
def L11_awake_y0 : Lay := ⟨35, [(2, .fx (.os 0)), (3, .fx (.os 1))], [.val true false 3 (.row (.int .i64)), .val true false 3 (.row (.int .i64))]⟩
def L11_awake_y1 : Lay := ⟨35, [(0, .tm true .bool)], []⟩
def L11_awake_j5_c : Cut := ⟨L11_awake_y0, fun o => match o with | .ret => some L11_awake_y1 | _ => none, fun (v : (Unit) × ((List Int) × (List Int) × Unit)) (K : KK) => L11_awake_j5 v.2.1 v.2.2.1 (fun (y0 : Bool) => K .ret (st L11_awake_y1 ((y0, ()), (()))))⟩
def L11_awake_y2 : Lay := ⟨35, [(1, .fx (.os 0)), (2, .fx (.os 1))], [.val true true 3 (.row (.int .i64)), .val true false 3 (.row (.int .i64))]⟩
def L11_awake_j3_c : Cut := ⟨L11_awake_y2, fun o => match o with | .ret => some L11_awake_y1 | _ => none, fun (v : (Unit) × ((List Int) × (List Int) × Unit)) (K : KK) => L11_awake_j3 v.2.1 v.2.2.1 (fun (y0 : Bool) => K .ret (st L11_awake_y1 ((y0, ()), (()))))⟩
def L11_awake_L : Cuts := mkL [] [(5, L11_awake_j5_c), (3, L11_awake_j3_c)]
theorem L11_awake_lo : LoopsOK L11_awake_C L11_awake_L L11_awake_b := (show LoopsOK L11_awake_C L11_awake_L L11_awake_b = True by kernel_rfl).mpr trivial
theorem L11_awake_jo : JoinsOK L11_awake_C L11_awake_L L11_awake_b :=
  (show JoinsOK L11_awake_C L11_awake_L L11_awake_b = ((∀ cut, L11_awake_L.join 3 = some cut → JoinOK L11_awake_C L11_awake_L cut (nthB (joinsOf L11_awake_L L11_awake_b) 0)) ∧ (∀ cut, L11_awake_L.join 5 = some cut → JoinOK L11_awake_C L11_awake_L cut (nthB (joinsOf L11_awake_L L11_awake_b) 1)) ∧ True) by kernel_rfl).mpr ⟨of_some (a := L11_awake_j3_c) (by kernel_rfl) (fun v K => by kernel_rfl), of_some (a := L11_awake_j5_c) (by kernel_rfl) (fun v K => by kernel_rfl), trivial⟩
theorem L11_awake_ok : EntOK Try.prog 29 L11_awake_e :=
  entOf_ok (e := evFn L11_awake_C L11_awake_L Try.f29) (fun v n K => by kernel_rfl) (evFn_ok (mkC_all (fns := L11_awake_f) tys_ok ⟨⟨window_Fold_ok, Try.call31⟩, ⟨R01_Same_ok, Try.call14⟩, ⟨window_Slope_ok, Try.call30⟩, trivial⟩ mixed) Try.func29 (show Try.f29.body = some L11_awake_b by kernel_rfl) ⟨L11_awake_lo, L11_awake_jo, by kernel_rfl⟩)

def R01_Within_e : Ent := entOf [.tm (.sl (.int .i64)), .tm (.int .i64), .tm (.int .i64)] fun (v : (List Int) × Int × Int × Unit) n K => R01_Within v.1 v.2.1 v.2.2.1 (fun (r0 : Bool) => K (.t true .bool r0) [])
def R01_Within_f : List (Nat × Ent) := []
def R01_Within_C : Cfg := mkC tys R01_Within_f
def R01_Within_b : Code := match Try.f51.body with | some c => c | none => .skip
def R01_Within_y0 : Lay := ⟨28, [(0, .tm false (.sl (.int .i64))), (1, .tm true (.int .i64)), (2, .tm true (.int .i64)), (7, .tm true (.int .i64))], []⟩
def R01_Within_y1 : Lay := ⟨28, [(6, .tm true .bool)], []⟩
def R01_Within_y2 : Lay := ⟨28, [], []⟩
def R01_Within_l2_F (k : Nat) (v : ((List Int) × Int × Int × Int × Unit) × (Unit)) (K : KK) : Prop := R01_Within_l2 k v.1.1 v.1.2.1 v.1.2.2.1 v.1.2.2.2.1 (fun (y0 : Bool) => K .ret (st R01_Within_y1 ((y0, ()), (())))) (K (.exit 0) (st R01_Within_y2 ((()), (()))))
def R01_Within_l2_c : Cut := ⟨R01_Within_y0, fun o => match o with | .ret => some R01_Within_y1 | .exit 0 => some R01_Within_y2 | _ => none, fun (v : ((List Int) × Int × Int × Int × Unit) × (Unit)) K => ∃ k, R01_Within_l2_F k v K⟩
def R01_Within_L : Cuts := mkL [(2, R01_Within_l2_c)] []
theorem R01_Within_lo : LoopsOK R01_Within_C R01_Within_L R01_Within_b :=
  (show LoopsOK R01_Within_C R01_Within_L R01_Within_b = ((∀ cut, R01_Within_L.loop 2 = some cut → LoopOK R01_Within_C R01_Within_L cut (nthB (loopsOf R01_Within_b) 0)) ∧ True) by kernel_rfl).mpr ⟨of_some (a := R01_Within_l2_c) (by kernel_rfl) ⟨R01_Within_l2_F, fun v K => by kernel_rfl, fun v K => by kernel_rfl, fun k v K => by kernel_rfl⟩, trivial⟩
theorem R01_Within_jo : JoinsOK R01_Within_C R01_Within_L R01_Within_b := (show JoinsOK R01_Within_C R01_Within_L R01_Within_b = True by kernel_rfl).mpr trivial
theorem R01_Within_ok : EntOK Try.prog 51 R01_Within_e :=
  entOf_ok (e := evFn R01_Within_C R01_Within_L Try.f51) (fun v n K => by kernel_rfl) (evFn_ok (mkC_all (fns := R01_Within_f) tys_ok trivial mixed) Try.func51 (show Try.f51.body = some R01_Within_b by kernel_rfl) ⟨R01_Within_lo, R01_Within_jo, by kernel_rfl⟩)

def R11_W_e : Ent := entOf [] fun (v : Unit) n K => R11_W (fun (r0 : (List Int)) => K (.os (n + 0)) [.val true true 3 (.row (.int .i64)) r0])
def R11_W_f : List (Nat × Ent) := []
def R11_W_C : Cfg := mkC tys R11_W_f
def R11_W_b : Code := match Try.f33.body with | some c => c | none => .skip
def R11_W_L : Cuts := mkL [] []
theorem R11_W_lo : LoopsOK R11_W_C R11_W_L R11_W_b := (show LoopsOK R11_W_C R11_W_L R11_W_b = True by kernel_rfl).mpr trivial
theorem R11_W_jo : JoinsOK R11_W_C R11_W_L R11_W_b := (show JoinsOK R11_W_C R11_W_L R11_W_b = True by kernel_rfl).mpr trivial
theorem R11_W_ok : EntOK Try.prog 33 R11_W_e :=
  entOf_ok (e := evFn R11_W_C R11_W_L Try.f33) (fun v n K => by kernel_rfl) (evFn_ok (mkC_all (fns := R11_W_f) tys_ok trivial mixed) Try.func33 (show Try.f33.body = some R11_W_b by kernel_rfl) ⟨R11_W_lo, R11_W_jo, by kernel_rfl⟩)

def R01_Mod_e : Ent := entOf [.tm (.int .i64), .tm (.int .i64)] fun (v : Int × Int × Unit) n K => R01_Mod v.1 v.2.1 (fun (r0 : Int) (r1 : Int) => K (.tu [.t true (.int .i64) r0, .t true (.int .i64) r1]) [])
def R01_Mod_f : List (Nat × Ent) := []
def R01_Mod_C : Cfg := mkC tys R01_Mod_f
def R01_Mod_b : Code := match Try.f58.body with | some c => c | none => .skip
def R01_Mod_L : Cuts := mkL [] []
theorem R01_Mod_lo : LoopsOK R01_Mod_C R01_Mod_L R01_Mod_b := (show LoopsOK R01_Mod_C R01_Mod_L R01_Mod_b = True by kernel_rfl).mpr trivial
theorem R01_Mod_jo : JoinsOK R01_Mod_C R01_Mod_L R01_Mod_b := (show JoinsOK R01_Mod_C R01_Mod_L R01_Mod_b = True by kernel_rfl).mpr trivial
theorem R01_Mod_ok : EntOK Try.prog 58 R01_Mod_e :=
  entOf_ok (e := evFn R01_Mod_C R01_Mod_L Try.f58) (fun v n K => by kernel_rfl) (evFn_ok (mkC_all (fns := R01_Mod_f) tys_ok trivial mixed) Try.func58 (show Try.f58.body = some R01_Mod_b by kernel_rfl) ⟨R01_Mod_lo, R01_Mod_jo, by kernel_rfl⟩)

def R01_Shr_e : Ent := entOf [.tm (.int .i64), .tm (.int .i64)] fun (v : Int × Int × Unit) n K => R01_Shr v.1 v.2.1 (fun (r0 : Int) => K (.t true (.int .i64) r0) [])
def R01_Shr_f : List (Nat × Ent) := [(58, R01_Mod_e)]
def R01_Shr_C : Cfg := mkC tys R01_Shr_f
def R01_Shr_b : Code := match Try.f52.body with | some c => c | none => .skip
def R01_Shr_L : Cuts := mkL [] []
theorem R01_Shr_lo : LoopsOK R01_Shr_C R01_Shr_L R01_Shr_b := (show LoopsOK R01_Shr_C R01_Shr_L R01_Shr_b = True by kernel_rfl).mpr trivial
theorem R01_Shr_jo : JoinsOK R01_Shr_C R01_Shr_L R01_Shr_b := (show JoinsOK R01_Shr_C R01_Shr_L R01_Shr_b = True by kernel_rfl).mpr trivial
theorem R01_Shr_ok : EntOK Try.prog 52 R01_Shr_e :=
  entOf_ok (e := evFn R01_Shr_C R01_Shr_L Try.f52) (fun v n K => by kernel_rfl) (evFn_ok (mkC_all (fns := R01_Shr_f) tys_ok ⟨⟨R01_Mod_ok, Try.call58⟩, trivial⟩ mixed) Try.func52 (show Try.f52.body = some R01_Shr_b by kernel_rfl) ⟨R01_Shr_lo, R01_Shr_jo, by kernel_rfl⟩)

def R11_Fold_e : Ent := entOf [.tm (.sl (.int .i64))] fun (v : (List Int) × Unit) n K => R11_Fold v.1 (K (.ns) []) (fun (r0 : (List Int)) => K (.os (n + 0)) [.val true true 3 (.row (.int .i64)) r0])
def R11_Fold_f : List (Nat × Ent) := [(51, R01_Within_e), (33, R11_W_e), (52, R01_Shr_e)]
def R11_Fold_C : Cfg := mkC tys R11_Fold_f
def R11_Fold_b : Code := match Try.f32.body with | some c => c | none => .skip
def R11_Fold_y0 : Lay := ⟨107, [(0, .tm false (.sl (.int .i64))), (3, .tm true (.int .i64)), (4, .fx (.os 0)), (5, .fx (.os 1)), (6, .tm true (.int .i64))], [.val true true 3 (.row (.int .i64)), .val true true 3 (.row (.int .i64))]⟩
def R11_Fold_y1 : Lay := ⟨107, [(5, .fx (.os 0))], [.val true true 3 (.row (.int .i64))]⟩
def R11_Fold_l7_F (k : Nat) (v : ((List Int) × Int × Int × Unit) × ((List Int) × (List Int) × Unit)) (K : KK) : Prop := R11_Fold_l7 k v.1.1 v.1.2.1 v.1.2.2.1 v.2.1 v.2.2.1 (fun (y0 : (List Int)) => K (.exit 0) (st R11_Fold_y1 ((()), (y0, ()))))
def R11_Fold_l7_c : Cut := ⟨R11_Fold_y0, fun o => match o with | .exit 0 => some R11_Fold_y1 | _ => none, fun (v : ((List Int) × Int × Int × Unit) × ((List Int) × (List Int) × Unit)) K => ∃ k, R11_Fold_l7_F k v K⟩
def R11_Fold_y2 : Lay := ⟨107, [(0, .tm false (.sl (.int .i64))), (3, .tm true (.int .i64))], []⟩
def R11_Fold_y3 : Lay := ⟨107, [(2, .fx (.os 0))], [.val true true 3 (.row (.int .i64))]⟩
def R11_Fold_j4_c : Cut := ⟨R11_Fold_y2, fun o => match o with | .ret => some R11_Fold_y3 | _ => none, fun (v : ((List Int) × Int × Unit) × (Unit)) (K : KK) => R11_Fold_j4 v.1.1 v.1.2.1 (fun (y0 : (List Int)) => K .ret (st R11_Fold_y3 ((()), (y0, ()))))⟩
def R11_Fold_L : Cuts := mkL [(7, R11_Fold_l7_c)] [(4, R11_Fold_j4_c)]
theorem R11_Fold_lo : LoopsOK R11_Fold_C R11_Fold_L R11_Fold_b :=
  (show LoopsOK R11_Fold_C R11_Fold_L R11_Fold_b = ((∀ cut, R11_Fold_L.loop 7 = some cut → LoopOK R11_Fold_C R11_Fold_L cut (nthB (loopsOf R11_Fold_b) 0)) ∧ True) by kernel_rfl).mpr ⟨of_some (a := R11_Fold_l7_c) (by kernel_rfl) ⟨R11_Fold_l7_F, fun v K => by kernel_rfl, fun v K => by kernel_rfl, fun k v K => by kernel_rfl⟩, trivial⟩
theorem R11_Fold_jo : JoinsOK R11_Fold_C R11_Fold_L R11_Fold_b :=
  (show JoinsOK R11_Fold_C R11_Fold_L R11_Fold_b = ((∀ cut, R11_Fold_L.join 4 = some cut → JoinOK R11_Fold_C R11_Fold_L cut (nthB (joinsOf R11_Fold_L R11_Fold_b) 0)) ∧ True) by kernel_rfl).mpr ⟨of_some (a := R11_Fold_j4_c) (by kernel_rfl) (fun v K => by kernel_rfl), trivial⟩
theorem R11_Fold_ok : EntOK Try.prog 32 R11_Fold_e :=
  entOf_ok (e := evFn R11_Fold_C R11_Fold_L Try.f32) (fun v n K => by kernel_rfl) (evFn_ok (mkC_all (fns := R11_Fold_f) tys_ok ⟨⟨R01_Within_ok, Try.call51⟩, ⟨R11_W_ok, Try.call33⟩, ⟨R01_Shr_ok, Try.call52⟩, trivial⟩ mixed) Try.func32 (show Try.f32.body = some R11_Fold_b by kernel_rfl) ⟨R11_Fold_lo, R11_Fold_jo, by kernel_rfl⟩)

def L11_WindowFolds_e : Ent := entOf [.tm (.sl (.int .i64))] fun (v : (List Int) × Unit) n K => L11_WindowFolds v.1 (fun (r0 : Bool) => K (.t true .bool r0) [])
def L11_WindowFolds_f : List (Nat × Ent) := [(29, L11_awake_e), (30, window_Slope_e), (31, window_Fold_e), (32, R11_Fold_e), (14, R01_Same_e), (33, R11_W_e)]
def L11_WindowFolds_C : Cfg := mkC tys L11_WindowFolds_f
def L11_WindowFolds_b : Code := match Try.f9.body with | some c => c | none => .skip
def L11_WindowFolds_L : Cuts := mkL [] []
theorem L11_WindowFolds_lo : LoopsOK L11_WindowFolds_C L11_WindowFolds_L L11_WindowFolds_b := (show LoopsOK L11_WindowFolds_C L11_WindowFolds_L L11_WindowFolds_b = True by kernel_rfl).mpr trivial
theorem L11_WindowFolds_jo : JoinsOK L11_WindowFolds_C L11_WindowFolds_L L11_WindowFolds_b := (show JoinsOK L11_WindowFolds_C L11_WindowFolds_L L11_WindowFolds_b = True by kernel_rfl).mpr trivial
theorem L11_WindowFolds_ok : EntOK Try.prog 9 L11_WindowFolds_e :=
  entOf_ok (e := evFn L11_WindowFolds_C L11_WindowFolds_L Try.f9) (fun v n K => by kernel_rfl) (evFn_ok (mkC_all (fns := L11_WindowFolds_f) tys_ok ⟨⟨L11_awake_ok, Try.call29⟩, ⟨window_Slope_ok, Try.call30⟩, ⟨window_Fold_ok, Try.call31⟩, ⟨R11_Fold_ok, Try.call32⟩, ⟨R01_Same_ok, Try.call14⟩, ⟨R11_W_ok, Try.call33⟩, trivial⟩ mixed) Try.func9 (show Try.f9.body = some L11_WindowFolds_b by kernel_rfl) ⟨L11_WindowFolds_lo, L11_WindowFolds_jo, by kernel_rfl⟩)

end
end Go.Eng.A
