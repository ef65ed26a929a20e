/- Each of these functions is what the program computes: printed by program. -/
import Derived.Test.YtampmpiapdegcaaEngT
import Derived.Test.YtampmpiapdegcaaAccountGoesP
import Derived.Test.YtampmpiapdegcaaProg
import Derived.Test.YtampmpiapdegcaaAccountGoesTc
set_option linter.unusedVariables false
set_option maxRecDepth 100000
namespace Go.Eng.A
open Go Go.Eng Go.Proofs
noncomputable section

noncomputable def R20_Fit_e : Ent := entOf [.tm (.cons .bool (.cons .bool (.cons .bool (.cons (.int .i64) (.cons (.sl (.cons (.sl (.cons (.int .i64) (.cons (.int .i64) (.cons (.sl (.int .i64)) .nil)))) .nil)) .nil))))), .tm (.int .i64), .tm (.int .i64)] fun (v : (Bool × (Bool × (Bool × (Int × ((List ((List (Int × (Int × ((List Int) × Unit)))) × Unit)) × Unit))))) × Int × Int × Unit) n K => R20_Fit v.1 v.2.1 v.2.2.1 (fun (r0 : Bool) => K (.t true .bool r0) [])
noncomputable def R20_Fit_f : List (Nat × Ent) := [(66, R13_Width_e), (65, R20_Band_e)]
noncomputable def R20_Fit_C : Cfg := mkC tys R20_Fit_f
noncomputable def R20_Fit_b : Code := match Try.f21.body with | some c => c | none => .skip
def R20_Fit_y0 : Lay := ⟨79, [(1, .tm true (.int .i64)), (2, .tm true (.int .i64)), (3, .fx (.op 0 (.cons .bool (.cons .bool (.cons .bool (.cons (.int .i64) (.cons (.sl (.cons (.sl (.cons (.int .i64) (.cons (.int .i64) (.cons (.sl (.int .i64)) .nil)))) .nil)) .nil))))) [])), (7, .tm true (.int .i64)), (8, .tm true (.int .i64))], [.val true false 37 (.cons .bool (.cons .bool (.cons .bool (.cons (.int .i64) (.cons (.sl (.cons (.sl (.cons (.int .i64) (.cons (.int .i64) (.cons (.sl (.int .i64)) .nil)))) .nil)) .nil)))))]⟩
def R20_Fit_y1 : Lay := ⟨79, [(6, .tm true .bool)], []⟩
def R20_Fit_y2 : Lay := ⟨79, [(1, .tm true (.int .i64)), (2, .tm true (.int .i64)), (3, .fx (.op 0 (.cons .bool (.cons .bool (.cons .bool (.cons (.int .i64) (.cons (.sl (.cons (.sl (.cons (.int .i64) (.cons (.int .i64) (.cons (.sl (.int .i64)) .nil)))) .nil)) .nil))))) [])), (7, .tm true (.int .i64))], [.val true false 37 (.cons .bool (.cons .bool (.cons .bool (.cons (.int .i64) (.cons (.sl (.cons (.sl (.cons (.int .i64) (.cons (.int .i64) (.cons (.sl (.int .i64)) .nil)))) .nil)) .nil)))))]⟩
noncomputable def R20_Fit_l9_F (k : Nat) (v : (Int × Int × Int × Int × Unit) × ((Bool × (Bool × (Bool × (Int × ((List ((List (Int × (Int × ((List Int) × Unit)))) × Unit)) × Unit))))) × Unit)) (K : KK) : Prop := R20_Fit_l9 k v.1.1 v.1.2.1 v.1.2.2.1 v.1.2.2.2.1 v.2.1 (fun (y0 : Bool) => K .ret (st R20_Fit_y1 ((y0, ()), (())))) (fun (y0 : Int) (y1 : Int) (y2 : Int) (y3 : (Bool × (Bool × (Bool × (Int × ((List ((List (Int × (Int × ((List Int) × Unit)))) × Unit)) × Unit)))))) => K (.exit 2) (st R20_Fit_y2 ((y0, y1, y2, ()), (y3, ()))))
noncomputable def R20_Fit_l9_c : Cut := ⟨R20_Fit_y0, fun o => match o with | .ret => some R20_Fit_y1 | .exit 2 => some R20_Fit_y2 | _ => none, fun (v : (Int × Int × Int × Int × Unit) × ((Bool × (Bool × (Bool × (Int × ((List ((List (Int × (Int × ((List Int) × Unit)))) × Unit)) × Unit))))) × Unit)) K => ∃ k, R20_Fit_l9_F k v K⟩
def R20_Fit_y3 : Lay := ⟨79, [], []⟩
noncomputable def R20_Fit_l4_F (k : Nat) (v : (Int × Int × Int × Unit) × ((Bool × (Bool × (Bool × (Int × ((List ((List (Int × (Int × ((List Int) × Unit)))) × Unit)) × Unit))))) × Unit)) (K : KK) : Prop := R20_Fit_l4 k v.1.1 v.1.2.1 v.1.2.2.1 v.2.1 (fun (y0 : Bool) => K .ret (st R20_Fit_y1 ((y0, ()), (())))) (K (.exit 0) (st R20_Fit_y3 ((()), (()))))
noncomputable def R20_Fit_l4_c : Cut := ⟨R20_Fit_y2, fun o => match o with | .ret => some R20_Fit_y1 | .exit 0 => some R20_Fit_y3 | _ => none, fun (v : (Int × Int × Int × Unit) × ((Bool × (Bool × (Bool × (Int × ((List ((List (Int × (Int × ((List Int) × Unit)))) × Unit)) × Unit))))) × Unit)) K => ∃ k, R20_Fit_l4_F k v K⟩
def R20_Fit_y4 : Lay := ⟨79, [(1, .tm true (.int .i64)), (2, .tm true (.int .i64)), (3, .fx (.op 0 (.cons .bool (.cons .bool (.cons .bool (.cons (.int .i64) (.cons (.sl (.cons (.sl (.cons (.int .i64) (.cons (.int .i64) (.cons (.sl (.int .i64)) .nil)))) .nil)) .nil))))) []))], [.val true false 37 (.cons .bool (.cons .bool (.cons .bool (.cons (.int .i64) (.cons (.sl (.cons (.sl (.cons (.int .i64) (.cons (.int .i64) (.cons (.sl (.int .i64)) .nil)))) .nil)) .nil)))))]⟩
noncomputable def R20_Fit_j3_c : Cut := ⟨R20_Fit_y4, fun o => match o with | .ret => some R20_Fit_y1 | _ => none, fun (v : (Int × Int × Unit) × ((Bool × (Bool × (Bool × (Int × ((List ((List (Int × (Int × ((List Int) × Unit)))) × Unit)) × Unit))))) × Unit)) (K : KK) => R20_Fit_j3 v.1.1 v.1.2.1 v.2.1 (fun (y0 : Bool) => K .ret (st R20_Fit_y1 ((y0, ()), (()))))⟩
noncomputable def R20_Fit_L : Cuts := mkL [(9, R20_Fit_l9_c), (4, R20_Fit_l4_c)] [(3, R20_Fit_j3_c)]
theorem R20_Fit_lo : LoopsOK R20_Fit_C R20_Fit_L R20_Fit_b :=
  (show LoopsOK R20_Fit_C R20_Fit_L R20_Fit_b = ((LoopOK R20_Fit_C R20_Fit_L R20_Fit_l4_c (nthB (loopsOf R20_Fit_b) 0) ∧ True) ∧ (LoopOK R20_Fit_C R20_Fit_L R20_Fit_l9_c (nthB (loopsOf R20_Fit_b) 1) ∧ True) ∧ True) by kernel_rfl).mpr ⟨⟨⟨R20_Fit_l4_F, fun v K => by kernel_rfl, fun v K => by kernel_rfl, fun k v K => by kernel_rfl⟩, trivial⟩, ⟨⟨R20_Fit_l9_F, fun v K => by kernel_rfl, fun v K => by kernel_rfl, fun k v K => by kernel_rfl⟩, trivial⟩, trivial⟩
theorem R20_Fit_jo : JoinsOK R20_Fit_C R20_Fit_L R20_Fit_b :=
  (show JoinsOK R20_Fit_C R20_Fit_L R20_Fit_b = ((JoinOK R20_Fit_C R20_Fit_L R20_Fit_j3_c (nthB (joinsOf R20_Fit_L R20_Fit_b) 0) ∧ True) ∧ True) by kernel_rfl).mpr ⟨⟨fun v K => by kernel_rfl, trivial⟩, trivial⟩
theorem R20_Fit_ro : RngsOK R20_Fit_C R20_Fit_L R20_Fit_b :=
  (show RngsOK R20_Fit_C R20_Fit_L R20_Fit_b = (True) by kernel_rfl).mpr trivial
theorem R20_Fit_ok : EntOK Try.prog 21 R20_Fit_e :=
  entOf_ok (e := evFn R20_Fit_C R20_Fit_L Try.f21) (fun v n K => Eq.trans (R20_Fit_def v.1 v.2.1 v.2.2.1 (fun (r0 : Bool) => K (.t true .bool r0) [])) (by kernel_rfl)) (evFn_ok (mkC_all (fns := R20_Fit_f) tys_ok ⟨⟨R13_Width_ok, Try.call66⟩, ⟨R20_Band_ok, Try.call65⟩, trivial⟩ mixed) Try.func21 (show Try.f21.body = some R20_Fit_b by kernel_rfl) ⟨R20_Fit_lo, R20_Fit_jo, by kernel_rfl, R20_Fit_ro⟩)

noncomputable def R28_page_e : Ent := entOf [.tm (.sl (.cons (.cons .bool (.cons .bool (.cons .bool (.cons (.int .i64) (.cons (.sl (.cons (.sl (.cons (.int .i64) (.cons (.int .i64) (.cons (.sl (.int .i64)) .nil)))) .nil)) .nil))))) (.cons (.int .i64) (.cons (.int .i64) .nil)))), .tm (.cons (.int .i64) (.cons (.int .i64) (.cons (.int .i64) (.cons (.int .i64) (.cons (.int .i64) (.cons (.int .i64) .nil))))))] fun (v : (List ((Bool × (Bool × (Bool × (Int × ((List ((List (Int × (Int × ((List Int) × Unit)))) × Unit)) × Unit))))) × (Int × (Int × Unit)))) × (Int × (Int × (Int × (Int × (Int × (Int × Unit)))))) × Unit) n K => R28_page v.1 v.2.1 (fun (r0 : Bool) => K (.t true .bool r0) [])
noncomputable def R28_page_f : List (Nat × Ent) := [(35, R28_Unit_e), (21, R20_Fit_e)]
noncomputable def R28_page_C : Cfg := mkC tys R28_page_f
noncomputable def R28_page_b : Code := match Try.f57.body with | some c => c | none => .skip
def R28_page_y0 : Lay := ⟨46, [(0, .tm false (.sl (.cons (.cons .bool (.cons .bool (.cons .bool (.cons (.int .i64) (.cons (.sl (.cons (.sl (.cons (.int .i64) (.cons (.int .i64) (.cons (.sl (.int .i64)) .nil)))) .nil)) .nil))))) (.cons (.int .i64) (.cons (.int .i64) .nil))))), (3, .fx (.op 0 (.cons (.int .i64) (.cons (.int .i64) (.cons (.int .i64) (.cons (.int .i64) (.cons (.int .i64) (.cons (.int .i64) .nil)))))) [])), (5, .tm true (.int .i64))], [.val true true 23 (.cons (.int .i64) (.cons (.int .i64) (.cons (.int .i64) (.cons (.int .i64) (.cons (.int .i64) (.cons (.int .i64) .nil))))))]⟩
def R28_page_y1 : Lay := ⟨46, [(4, .tm true .bool)], []⟩
def R28_page_y2 : Lay := ⟨46, [(0, .tm false (.sl (.cons (.cons .bool (.cons .bool (.cons .bool (.cons (.int .i64) (.cons (.sl (.cons (.sl (.cons (.int .i64) (.cons (.int .i64) (.cons (.sl (.int .i64)) .nil)))) .nil)) .nil))))) (.cons (.int .i64) (.cons (.int .i64) .nil)))))], []⟩
noncomputable def R28_page_l2_F (k : Nat) (v : ((List ((Bool × (Bool × (Bool × (Int × ((List ((List (Int × (Int × ((List Int) × Unit)))) × Unit)) × Unit))))) × (Int × (Int × Unit)))) × Int × Unit) × ((Int × (Int × (Int × (Int × (Int × (Int × Unit)))))) × Unit)) (K : KK) : Prop := R28_page_l2 k v.1.1 v.1.2.1 v.2.1 (fun (y0 : Bool) => K .ret (st R28_page_y1 ((y0, ()), (())))) (fun (y0 : (List ((Bool × (Bool × (Bool × (Int × ((List ((List (Int × (Int × ((List Int) × Unit)))) × Unit)) × Unit))))) × (Int × (Int × Unit))))) => K (.exit 0) (st R28_page_y2 ((y0, ()), (()))))
noncomputable def R28_page_l2_c : Cut := ⟨R28_page_y0, fun o => match o with | .ret => some R28_page_y1 | .exit 0 => some R28_page_y2 | _ => none, fun (v : ((List ((Bool × (Bool × (Bool × (Int × ((List ((List (Int × (Int × ((List Int) × Unit)))) × Unit)) × Unit))))) × (Int × (Int × Unit)))) × Int × Unit) × ((Int × (Int × (Int × (Int × (Int × (Int × Unit)))))) × Unit)) K => ∃ k, R28_page_l2_F k v K⟩
noncomputable def R28_page_L : Cuts := mkL [(2, R28_page_l2_c)] []
theorem R28_page_lo : LoopsOK R28_page_C R28_page_L R28_page_b :=
  (show LoopsOK R28_page_C R28_page_L R28_page_b = ((LoopOK R28_page_C R28_page_L R28_page_l2_c (nthB (loopsOf R28_page_b) 0) ∧ True) ∧ True) by kernel_rfl).mpr ⟨⟨⟨R28_page_l2_F, fun v K => by kernel_rfl, fun v K => by kernel_rfl, fun k v K => by kernel_rfl⟩, trivial⟩, trivial⟩
theorem R28_page_jo : JoinsOK R28_page_C R28_page_L R28_page_b := (show JoinsOK R28_page_C R28_page_L R28_page_b = True by kernel_rfl).mpr trivial
theorem R28_page_ro : RngsOK R28_page_C R28_page_L R28_page_b :=
  (show RngsOK R28_page_C R28_page_L R28_page_b = (True) by kernel_rfl).mpr trivial
theorem R28_page_ok : EntOK Try.prog 57 R28_page_e :=
  entOf_ok (e := evFn R28_page_C R28_page_L Try.f57) (fun v n K => Eq.trans (R28_page_def v.1 v.2.1 (fun (r0 : Bool) => K (.t true .bool r0) [])) (by kernel_rfl)) (evFn_ok (mkC_all (fns := R28_page_f) tys_ok ⟨⟨R28_Unit_ok, Try.call35⟩, ⟨R20_Fit_ok, Try.call21⟩, trivial⟩ mixed) Try.func57 (show Try.f57.body = some R28_page_b by kernel_rfl) ⟨R28_page_lo, R28_page_jo, by kernel_rfl, R28_page_ro⟩)

noncomputable def R28_Keeps_e : Ent := entOf [.tm (.cons (.cons .bool (.cons .bool (.cons .bool (.cons (.int .i64) (.cons (.sl (.cons (.sl (.cons (.int .i64) (.cons (.int .i64) (.cons (.sl (.int .i64)) .nil)))) .nil)) .nil))))) (.cons (.int .i64) (.cons (.int .i64) .nil)))] fun (v : ((Bool × (Bool × (Bool × (Int × ((List ((List (Int × (Int × ((List Int) × Unit)))) × Unit)) × Unit))))) × (Int × (Int × Unit))) × Unit) n K => R28_Keeps v.1 (fun (r0 : Int) => K (.t true (.int .i64) r0) [])
noncomputable def R28_Keeps_f : List (Nat × Ent) := [(35, R28_Unit_e)]
noncomputable def R28_Keeps_C : Cfg := mkC tys R28_Keeps_f
noncomputable def R28_Keeps_b : Code := match Try.f36.body with | some c => c | none => .skip
noncomputable def R28_Keeps_L : Cuts := mkL [] []
theorem R28_Keeps_lo : LoopsOK R28_Keeps_C R28_Keeps_L R28_Keeps_b := (show LoopsOK R28_Keeps_C R28_Keeps_L R28_Keeps_b = True by kernel_rfl).mpr trivial
theorem R28_Keeps_jo : JoinsOK R28_Keeps_C R28_Keeps_L R28_Keeps_b := (show JoinsOK R28_Keeps_C R28_Keeps_L R28_Keeps_b = True by kernel_rfl).mpr trivial
theorem R28_Keeps_ro : RngsOK R28_Keeps_C R28_Keeps_L R28_Keeps_b :=
  (show RngsOK R28_Keeps_C R28_Keeps_L R28_Keeps_b = (True) by kernel_rfl).mpr trivial
theorem R28_Keeps_ok : EntOK Try.prog 36 R28_Keeps_e :=
  entOf_ok (e := evFn R28_Keeps_C R28_Keeps_L Try.f36) (fun v n K => Eq.trans (R28_Keeps_def v.1 (fun (r0 : Int) => K (.t true (.int .i64) r0) [])) (by kernel_rfl)) (evFn_ok (mkC_all (fns := R28_Keeps_f) tys_ok ⟨⟨R28_Unit_ok, Try.call35⟩, trivial⟩ mixed) Try.func36 (show Try.f36.body = some R28_Keeps_b by kernel_rfl) ⟨R28_Keeps_lo, R28_Keeps_jo, by kernel_rfl, R28_Keeps_ro⟩)

noncomputable def R28_Page_e : Ent := entOf [.tm (.sl (.cons (.cons .bool (.cons .bool (.cons .bool (.cons (.int .i64) (.cons (.sl (.cons (.sl (.cons (.int .i64) (.cons (.int .i64) (.cons (.sl (.int .i64)) .nil)))) .nil)) .nil))))) (.cons (.int .i64) (.cons (.int .i64) .nil))))] fun (v : (List ((Bool × (Bool × (Bool × (Int × ((List ((List (Int × (Int × ((List Int) × Unit)))) × Unit)) × Unit))))) × (Int × (Int × Unit)))) × Unit) n K => R28_Page v.1 (fun (r0 : Int) => K (.t true (.int .i64) r0) [])
noncomputable def R28_Page_f : List (Nat × Ent) := [(36, R28_Keeps_e)]
noncomputable def R28_Page_C : Cfg := mkC tys R28_Page_f
noncomputable def R28_Page_b : Code := match Try.f33.body with | some c => c | none => .skip
def R28_Page_y0 : Lay := ⟨19, [(0, .tm false (.sl (.cons (.cons .bool (.cons .bool (.cons .bool (.cons (.int .i64) (.cons (.sl (.cons (.sl (.cons (.int .i64) (.cons (.int .i64) (.cons (.sl (.int .i64)) .nil)))) .nil)) .nil))))) (.cons (.int .i64) (.cons (.int .i64) .nil))))), (3, .tm true (.int .i64)), (4, .tm true (.int .i64))], []⟩
def R28_Page_y1 : Lay := ⟨19, [(3, .tm true (.int .i64))], []⟩
noncomputable def R28_Page_l3_F (k : Nat) (v : ((List ((Bool × (Bool × (Bool × (Int × ((List ((List (Int × (Int × ((List Int) × Unit)))) × Unit)) × Unit))))) × (Int × (Int × Unit)))) × Int × Int × Unit) × (Unit)) (K : KK) : Prop := R28_Page_l3 k v.1.1 v.1.2.1 v.1.2.2.1 (fun (y0 : Int) => K (.exit 0) (st R28_Page_y1 ((y0, ()), (()))))
noncomputable def R28_Page_l3_c : Cut := ⟨R28_Page_y0, fun o => match o with | .exit 0 => some R28_Page_y1 | _ => none, fun (v : ((List ((Bool × (Bool × (Bool × (Int × ((List ((List (Int × (Int × ((List Int) × Unit)))) × Unit)) × Unit))))) × (Int × (Int × Unit)))) × Int × Int × Unit) × (Unit)) K => ∃ k, R28_Page_l3_F k v K⟩
noncomputable def R28_Page_L : Cuts := mkL [(3, R28_Page_l3_c)] []
theorem R28_Page_lo : LoopsOK R28_Page_C R28_Page_L R28_Page_b :=
  (show LoopsOK R28_Page_C R28_Page_L R28_Page_b = ((LoopOK R28_Page_C R28_Page_L R28_Page_l3_c (nthB (loopsOf R28_Page_b) 0) ∧ True) ∧ True) by kernel_rfl).mpr ⟨⟨⟨R28_Page_l3_F, fun v K => by kernel_rfl, fun v K => by kernel_rfl, fun k v K => by kernel_rfl⟩, trivial⟩, trivial⟩
theorem R28_Page_jo : JoinsOK R28_Page_C R28_Page_L R28_Page_b := (show JoinsOK R28_Page_C R28_Page_L R28_Page_b = True by kernel_rfl).mpr trivial
theorem R28_Page_ro : RngsOK R28_Page_C R28_Page_L R28_Page_b :=
  (show RngsOK R28_Page_C R28_Page_L R28_Page_b = (True) by kernel_rfl).mpr trivial
theorem R28_Page_ok : EntOK Try.prog 33 R28_Page_e :=
  entOf_ok (e := evFn R28_Page_C R28_Page_L Try.f33) (fun v n K => Eq.trans (R28_Page_def v.1 (fun (r0 : Int) => K (.t true (.int .i64) r0) [])) (by kernel_rfl)) (evFn_ok (mkC_all (fns := R28_Page_f) tys_ok ⟨⟨R28_Keeps_ok, Try.call36⟩, trivial⟩ mixed) Try.func33 (show Try.f33.body = some R28_Page_b by kernel_rfl) ⟨R28_Page_lo, R28_Page_jo, by kernel_rfl, R28_Page_ro⟩)

end
end Go.Eng.A
