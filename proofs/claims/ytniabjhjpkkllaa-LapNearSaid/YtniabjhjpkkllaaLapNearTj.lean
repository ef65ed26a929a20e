/- Each of these functions is what the program computes: printed by program. -/
import Derived.Test.YtniabjhjpkkllaaEngT
import Derived.Test.YtniabjhjpkkllaaLapNearP
import Derived.Test.YtniabjhjpkkllaaProg
import Derived.Test.YtniabjhjpkkllaaLapNearTi
set_option linter.unusedVariables false
set_option maxRecDepth 100000
namespace Go.Eng.A
open Go Go.Eng Go.Proofs
noncomputable section

noncomputable def R12_Exact_e : Ent := entOf [.tm (.sl (.int .i64)), .tm (.sl (.int .i64))] fun (v : (List Int) × (List Int) × Unit) n K => R12_Exact v.1 v.2.1 (fun (r0 : (List Int)) => K (.os (n + 0)) [.val true true 3 (.row (.int .i64)) r0])
noncomputable def R12_Exact_f : List (Nat × Ent) := [(71, R12_sums_e), (72, R11_W_e), (73, R12_parts_e)]
noncomputable def R12_Exact_C : Cfg := mkCE tys eqs R12_Exact_f
noncomputable def R12_Exact_b : Code := match Try.f35.body with | some c => c | none => .skip
def R12_Exact_y0 : Lay := ⟨111, [(0, .tm false (.sl (.int .i64))), (1, .tm false (.sl (.int .i64))), (5, .fx (.os 0)), (6, .tm true (.int .i64)), (7, .fx (.os 1)), (8, .tm true (.int .i64)), (9, .fx (.os 2)), (10, .fx (.os 3)), (11, .tm true (.int .i64))], [.val true true 3 (.row (.int .i64)), .val true true 3 (.row (.int .i64)), .val true true 3 (.row (.int .i64)), .val true true 3 (.row (.int .i64))]⟩
def R12_Exact_y1 : Lay := ⟨111, [(0, .tm false (.sl (.int .i64))), (1, .tm false (.sl (.int .i64))), (5, .fx (.os 0)), (6, .tm true (.int .i64)), (7, .fx (.os 1)), (8, .tm true (.int .i64)), (9, .fx (.os 2)), (10, .fx (.os 3))], [.val true true 3 (.row (.int .i64)), .val true true 3 (.row (.int .i64)), .val true true 3 (.row (.int .i64)), .val true true 3 (.row (.int .i64))]⟩
noncomputable def R12_Exact_l6_F (k : Nat) (v : ((List Int) × (List Int) × Int × Int × Int × Unit) × ((List Int) × (List Int) × (List Int) × (List Int) × Unit)) (K : KK) : Prop := R12_Exact_l6 k v.1.1 v.1.2.1 v.1.2.2.1 v.1.2.2.2.1 v.1.2.2.2.2.1 v.2.1 v.2.2.1 v.2.2.2.1 v.2.2.2.2.1 (fun (y0 : (List Int)) (y1 : (List Int)) (y2 : Int) (y3 : Int) (y4 : (List Int)) (y5 : (List Int)) (y6 : (List Int)) (y7 : (List Int)) => K (.exit 0) (st R12_Exact_y1 ((y0, y1, y2, y3, ()), (y4, y5, y6, y7, ()))))
noncomputable def R12_Exact_l6_c : Cut := ⟨R12_Exact_y0, fun o => match o with | .exit 0 => some R12_Exact_y1 | _ => none, fun (v : ((List Int) × (List Int) × Int × Int × Int × Unit) × ((List Int) × (List Int) × (List Int) × (List Int) × Unit)) K => ∃ k, R12_Exact_l6_F k v K⟩
def R12_Exact_y2 : Lay := ⟨111, [(0, .tm false (.sl (.int .i64))), (1, .tm false (.sl (.int .i64))), (5, .fx (.os 0)), (6, .tm true (.int .i64)), (7, .fx (.os 1)), (8, .tm true (.int .i64)), (9, .fx (.os 2)), (10, .fx (.os 3)), (12, .tm true (.int .i64))], [.val true true 3 (.row (.int .i64)), .val true true 3 (.row (.int .i64)), .val true true 3 (.row (.int .i64)), .val true true 3 (.row (.int .i64))]⟩
def R12_Exact_y3 : Lay := ⟨111, [(1, .tm false (.sl (.int .i64))), (7, .fx (.os 0)), (8, .tm true (.int .i64)), (10, .fx (.os 1))], [.val true true 3 (.row (.int .i64)), .val true true 3 (.row (.int .i64))]⟩
noncomputable def R12_Exact_l10_F (k : Nat) (v : ((List Int) × (List Int) × Int × Int × Int × Unit) × ((List Int) × (List Int) × (List Int) × (List Int) × Unit)) (K : KK) : Prop := R12_Exact_l10 k v.1.1 v.1.2.1 v.1.2.2.1 v.1.2.2.2.1 v.1.2.2.2.2.1 v.2.1 v.2.2.1 v.2.2.2.1 v.2.2.2.2.1 (fun (y0 : (List Int)) (y1 : Int) (y2 : (List Int)) (y3 : (List Int)) => K (.exit 2) (st R12_Exact_y3 ((y0, y1, ()), (y2, y3, ()))))
noncomputable def R12_Exact_l10_c : Cut := ⟨R12_Exact_y2, fun o => match o with | .exit 2 => some R12_Exact_y3 | _ => none, fun (v : ((List Int) × (List Int) × Int × Int × Int × Unit) × ((List Int) × (List Int) × (List Int) × (List Int) × Unit)) K => ∃ k, R12_Exact_l10_F k v K⟩
def R12_Exact_y4 : Lay := ⟨111, [(1, .tm false (.sl (.int .i64))), (7, .fx (.os 0)), (8, .tm true (.int .i64)), (10, .fx (.os 1)), (13, .tm true (.int .i64))], [.val true true 3 (.row (.int .i64)), .val true true 3 (.row (.int .i64))]⟩
def R12_Exact_y5 : Lay := ⟨111, [(10, .fx (.os 0))], [.val true true 3 (.row (.int .i64))]⟩
noncomputable def R12_Exact_l14_F (k : Nat) (v : ((List Int) × Int × Int × Unit) × ((List Int) × (List Int) × Unit)) (K : KK) : Prop := R12_Exact_l14 k v.1.1 v.1.2.1 v.1.2.2.1 v.2.1 v.2.2.1 (fun (y0 : (List Int)) => K (.exit 4) (st R12_Exact_y5 ((()), (y0, ()))))
noncomputable def R12_Exact_l14_c : Cut := ⟨R12_Exact_y4, fun o => match o with | .exit 4 => some R12_Exact_y5 | _ => none, fun (v : ((List Int) × Int × Int × Unit) × ((List Int) × (List Int) × Unit)) K => ∃ k, R12_Exact_l14_F k v K⟩
noncomputable def R12_Exact_L : Cuts := mkL [(6, R12_Exact_l6_c), (10, R12_Exact_l10_c), (14, R12_Exact_l14_c)] []
theorem R12_Exact_lo : LoopsOK R12_Exact_C R12_Exact_L R12_Exact_b :=
  (show LoopsOK R12_Exact_C R12_Exact_L R12_Exact_b = ((LoopOK R12_Exact_C R12_Exact_L R12_Exact_l6_c (nthB (loopsOf R12_Exact_b) 0) ∧ True) ∧ (LoopOK R12_Exact_C R12_Exact_L R12_Exact_l10_c (nthB (loopsOf R12_Exact_b) 1) ∧ True) ∧ (LoopOK R12_Exact_C R12_Exact_L R12_Exact_l14_c (nthB (loopsOf R12_Exact_b) 2) ∧ True) ∧ True) by kernel_rfl).mpr ⟨⟨⟨R12_Exact_l6_F, fun v K => by kernel_rfl, fun v K => by kernel_rfl, fun k v K => by kernel_rfl⟩, trivial⟩, ⟨⟨R12_Exact_l10_F, fun v K => by kernel_rfl, fun v K => by kernel_rfl, fun k v K => by kernel_rfl⟩, trivial⟩, ⟨⟨R12_Exact_l14_F, fun v K => by kernel_rfl, fun v K => by kernel_rfl, fun k v K => by kernel_rfl⟩, trivial⟩, trivial⟩
theorem R12_Exact_jo : JoinsOK R12_Exact_C R12_Exact_L R12_Exact_b := (show JoinsOK R12_Exact_C R12_Exact_L R12_Exact_b = True by kernel_rfl).mpr trivial
theorem R12_Exact_ro : RngsOK R12_Exact_C R12_Exact_L R12_Exact_b :=
  (show RngsOK R12_Exact_C R12_Exact_L R12_Exact_b = (True) by kernel_rfl).mpr trivial
theorem R12_Exact_ok : EntOK Try.prog 35 R12_Exact_e :=
  entOf_ok (e := evFn R12_Exact_C R12_Exact_L Try.f35) (fun v n K => Eq.trans (R12_Exact_def v.1 v.2.1 (fun (r0 : (List Int)) => K (.os (n + 0)) [.val true true 3 (.row (.int .i64)) r0])) (by kernel_rfl)) (evFn_ok (mkCE_all (fns := R12_Exact_f) tys_ok eqs_ok ⟨⟨R12_sums_ok, Try.call71⟩, ⟨R11_W_ok, Try.call72⟩, ⟨R12_parts_ok, Try.call73⟩, trivial⟩ mixed) Try.func35 (show Try.f35.body = some R12_Exact_b by kernel_rfl) ⟨R12_Exact_lo, R12_Exact_jo, by kernel_rfl, R12_Exact_ro⟩)

noncomputable def R01_Sat_e : Ent := entOf [.tm (.int .i64)] fun (v : Int × Unit) n K => R01_Sat v.1 (fun (r0 : Int) => K (.t true (.int .i64) r0) [])
noncomputable def R01_Sat_f : List (Nat × Ent) := []
noncomputable def R01_Sat_C : Cfg := mkCE tys eqs R01_Sat_f
noncomputable def R01_Sat_b : Code := match Try.f75.body with | some c => c | none => .skip
noncomputable def R01_Sat_L : Cuts := mkL [] []
theorem R01_Sat_lo : LoopsOK R01_Sat_C R01_Sat_L R01_Sat_b := (show LoopsOK R01_Sat_C R01_Sat_L R01_Sat_b = True by kernel_rfl).mpr trivial
theorem R01_Sat_jo : JoinsOK R01_Sat_C R01_Sat_L R01_Sat_b := (show JoinsOK R01_Sat_C R01_Sat_L R01_Sat_b = True by kernel_rfl).mpr trivial
theorem R01_Sat_ro : RngsOK R01_Sat_C R01_Sat_L R01_Sat_b :=
  (show RngsOK R01_Sat_C R01_Sat_L R01_Sat_b = (True) by kernel_rfl).mpr trivial
theorem R01_Sat_ok : EntOK Try.prog 75 R01_Sat_e :=
  entOf_ok (e := evFn R01_Sat_C R01_Sat_L Try.f75) (fun v n K => Eq.trans (R01_Sat_def v.1 (fun (r0 : Int) => K (.t true (.int .i64) r0) [])) (by kernel_rfl)) (evFn_ok (mkCE_all (fns := R01_Sat_f) tys_ok eqs_ok trivial mixed) Try.func75 (show Try.f75.body = some R01_Sat_b by kernel_rfl) ⟨R01_Sat_lo, R01_Sat_jo, by kernel_rfl, R01_Sat_ro⟩)

noncomputable def L12_near_e : Ent := entOf [.tm (.sl (.int .i64)), .tm (.sl (.int .i64))] fun (v : (List Int) × (List Int) × Unit) n K => L12_near v.1 v.2.1 (fun (r0 : Bool) => K (.t true .bool r0) [])
noncomputable def L12_near_f : List (Nat × Ent) := [(74, R01_Mod_e), (75, R01_Sat_e)]
noncomputable def L12_near_C : Cfg := mkCE tys eqs L12_near_f
noncomputable def L12_near_b : Code := match Try.f36.body with | some c => c | none => .skip
def L12_near_y0 : Lay := ⟨41, [(0, .tm false (.sl (.int .i64))), (1, .tm false (.sl (.int .i64))), (5, .tm true (.int .i64))], []⟩
def L12_near_y1 : Lay := ⟨41, [(4, .tm true .bool)], []⟩
def L12_near_y2 : Lay := ⟨41, [], []⟩
noncomputable def L12_near_l4_F (k : Nat) (v : ((List Int) × (List Int) × Int × Unit) × (Unit)) (K : KK) : Prop := L12_near_l4 k v.1.1 v.1.2.1 v.1.2.2.1 (fun (y0 : Bool) => K .ret (st L12_near_y1 ((y0, ()), (())))) (K (.exit 0) (st L12_near_y2 ((()), (()))))
noncomputable def L12_near_l4_c : Cut := ⟨L12_near_y0, fun o => match o with | .ret => some L12_near_y1 | .exit 0 => some L12_near_y2 | _ => none, fun (v : ((List Int) × (List Int) × Int × Unit) × (Unit)) K => ∃ k, L12_near_l4_F k v K⟩
noncomputable def L12_near_L : Cuts := mkL [(4, L12_near_l4_c)] []
theorem L12_near_lo : LoopsOK L12_near_C L12_near_L L12_near_b :=
  (show LoopsOK L12_near_C L12_near_L L12_near_b = ((LoopOK L12_near_C L12_near_L L12_near_l4_c (nthB (loopsOf L12_near_b) 0) ∧ True) ∧ True) by kernel_rfl).mpr ⟨⟨⟨L12_near_l4_F, fun v K => by kernel_rfl, fun v K => by kernel_rfl, fun k v K => by kernel_rfl⟩, trivial⟩, trivial⟩
theorem L12_near_jo : JoinsOK L12_near_C L12_near_L L12_near_b := (show JoinsOK L12_near_C L12_near_L L12_near_b = True by kernel_rfl).mpr trivial
theorem L12_near_ro : RngsOK L12_near_C L12_near_L L12_near_b :=
  (show RngsOK L12_near_C L12_near_L L12_near_b = (True) by kernel_rfl).mpr trivial
theorem L12_near_ok : EntOK Try.prog 36 L12_near_e :=
  entOf_ok (e := evFn L12_near_C L12_near_L Try.f36) (fun v n K => Eq.trans (L12_near_def v.1 v.2.1 (fun (r0 : Bool) => K (.t true .bool r0) [])) (by kernel_rfl)) (evFn_ok (mkCE_all (fns := L12_near_f) tys_ok eqs_ok ⟨⟨R01_Mod_ok, Try.call74⟩, ⟨R01_Sat_ok, Try.call75⟩, trivial⟩ mixed) Try.func36 (show Try.f36.body = some L12_near_b by kernel_rfl) ⟨L12_near_lo, L12_near_jo, by kernel_rfl, L12_near_ro⟩)

end
end Go.Eng.A
