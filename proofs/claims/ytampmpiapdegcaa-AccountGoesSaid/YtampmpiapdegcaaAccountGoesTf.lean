/- Each of these functions is what the program computes: printed by program. -/
import Derived.Test.YtampmpiapdegcaaEngT
import Derived.Test.YtampmpiapdegcaaAccountGoesP
import Derived.Test.YtampmpiapdegcaaProg
import Derived.Test.YtampmpiapdegcaaAccountGoesTe
set_option linter.unusedVariables false
set_option maxRecDepth 100000
namespace Go.Eng.A
open Go Go.Eng Go.Proofs
noncomputable section

noncomputable def R28_Fit_e : Ent := entOf [.tm (.cons (.cons (.int .i64) (.cons (.int .i64) (.cons (.int .i64) (.cons (.int .i64) (.cons (.int .i64) (.cons (.int .i64) .nil)))))) (.cons (.sl (.sl (.cons (.cons .bool (.cons .bool (.cons .bool (.cons (.int .i64) (.cons (.sl (.cons (.sl (.cons (.int .i64) (.cons (.int .i64) (.cons (.sl (.int .i64)) .nil)))) .nil)) .nil))))) (.cons (.int .i64) (.cons (.int .i64) .nil))))) .nil))] fun (v : ((Int × (Int × (Int × (Int × (Int × (Int × Unit)))))) × ((List (List ((Bool × (Bool × (Bool × (Int × ((List ((List (Int × (Int × ((List Int) × Unit)))) × Unit)) × Unit))))) × (Int × (Int × Unit))))) × Unit)) × Unit) n K => R28_Fit v.1 (fun (r0 : Bool) => K (.t true .bool r0) [])
noncomputable def R28_Fit_f : List (Nat × Ent) := [(56, R28_Head_e), (57, R28_page_e), (33, R28_Page_e), (39, R28_Length_e)]
noncomputable def R28_Fit_C : Cfg := mkC tys R28_Fit_f
noncomputable def R28_Fit_b : Code := match Try.f12.body with | some c => c | none => .skip
def R28_Fit_y0 : Lay := ⟨95, [(1, .fx (.op 0 (.cons (.cons (.int .i64) (.cons (.int .i64) (.cons (.int .i64) (.cons (.int .i64) (.cons (.int .i64) (.cons (.int .i64) .nil)))))) (.cons (.sl (.sl (.cons (.cons .bool (.cons .bool (.cons .bool (.cons (.int .i64) (.cons (.sl (.cons (.sl (.cons (.int .i64) (.cons (.int .i64) (.cons (.sl (.int .i64)) .nil)))) .nil)) .nil))))) (.cons (.int .i64) (.cons (.int .i64) .nil))))) .nil)) [])), (3, .fx (.op 1 (.cons (.int .i64) (.cons (.int .i64) (.cons (.int .i64) (.cons (.int .i64) (.cons (.int .i64) (.cons (.int .i64) .nil)))))) [])), (4, .tm true (.int .i64)), (5, .tm true (.int .i64))], [.val true false 26 (.cons (.cons (.int .i64) (.cons (.int .i64) (.cons (.int .i64) (.cons (.int .i64) (.cons (.int .i64) (.cons (.int .i64) .nil)))))) (.cons (.sl (.sl (.cons (.cons .bool (.cons .bool (.cons .bool (.cons (.int .i64) (.cons (.sl (.cons (.sl (.cons (.int .i64) (.cons (.int .i64) (.cons (.sl (.int .i64)) .nil)))) .nil)) .nil))))) (.cons (.int .i64) (.cons (.int .i64) .nil))))) .nil)), .val true true 23 (.cons (.int .i64) (.cons (.int .i64) (.cons (.int .i64) (.cons (.int .i64) (.cons (.int .i64) (.cons (.int .i64) .nil))))))]⟩
def R28_Fit_y1 : Lay := ⟨95, [(2, .tm true .bool)], []⟩
def R28_Fit_y2 : Lay := ⟨95, [(1, .fx (.op 0 (.cons (.cons (.int .i64) (.cons (.int .i64) (.cons (.int .i64) (.cons (.int .i64) (.cons (.int .i64) (.cons (.int .i64) .nil)))))) (.cons (.sl (.sl (.cons (.cons .bool (.cons .bool (.cons .bool (.cons (.int .i64) (.cons (.sl (.cons (.sl (.cons (.int .i64) (.cons (.int .i64) (.cons (.sl (.int .i64)) .nil)))) .nil)) .nil))))) (.cons (.int .i64) (.cons (.int .i64) .nil))))) .nil)) [])), (3, .fx (.op 1 (.cons (.int .i64) (.cons (.int .i64) (.cons (.int .i64) (.cons (.int .i64) (.cons (.int .i64) (.cons (.int .i64) .nil)))))) [])), (4, .tm true (.int .i64))], [.val true false 26 (.cons (.cons (.int .i64) (.cons (.int .i64) (.cons (.int .i64) (.cons (.int .i64) (.cons (.int .i64) (.cons (.int .i64) .nil)))))) (.cons (.sl (.sl (.cons (.cons .bool (.cons .bool (.cons .bool (.cons (.int .i64) (.cons (.sl (.cons (.sl (.cons (.int .i64) (.cons (.int .i64) (.cons (.sl (.int .i64)) .nil)))) .nil)) .nil))))) (.cons (.int .i64) (.cons (.int .i64) .nil))))) .nil)), .val true true 23 (.cons (.int .i64) (.cons (.int .i64) (.cons (.int .i64) (.cons (.int .i64) (.cons (.int .i64) (.cons (.int .i64) .nil))))))]⟩
noncomputable def R28_Fit_l6_F (k : Nat) (v : (Int × Int × Unit) × (((Int × (Int × (Int × (Int × (Int × (Int × Unit)))))) × ((List (List ((Bool × (Bool × (Bool × (Int × ((List ((List (Int × (Int × ((List Int) × Unit)))) × Unit)) × Unit))))) × (Int × (Int × Unit))))) × Unit)) × (Int × (Int × (Int × (Int × (Int × (Int × Unit)))))) × Unit)) (K : KK) : Prop := R28_Fit_l6 k v.1.1 v.1.2.1 v.2.1 v.2.2.1 (fun (y0 : Bool) => K .ret (st R28_Fit_y1 ((y0, ()), (())))) (fun (y0 : Int) (y1 : ((Int × (Int × (Int × (Int × (Int × (Int × Unit)))))) × ((List (List ((Bool × (Bool × (Bool × (Int × ((List ((List (Int × (Int × ((List Int) × Unit)))) × Unit)) × Unit))))) × (Int × (Int × Unit))))) × Unit))) (y2 : (Int × (Int × (Int × (Int × (Int × (Int × Unit))))))) => K (.exit 0) (st R28_Fit_y2 ((y0, ()), (y1, y2, ()))))
noncomputable def R28_Fit_l6_c : Cut := ⟨R28_Fit_y0, fun o => match o with | .ret => some R28_Fit_y1 | .exit 0 => some R28_Fit_y2 | _ => none, fun (v : (Int × Int × Unit) × (((Int × (Int × (Int × (Int × (Int × (Int × Unit)))))) × ((List (List ((Bool × (Bool × (Bool × (Int × ((List ((List (Int × (Int × ((List Int) × Unit)))) × Unit)) × Unit))))) × (Int × (Int × Unit))))) × Unit)) × (Int × (Int × (Int × (Int × (Int × (Int × Unit)))))) × Unit)) K => ∃ k, R28_Fit_l6_F k v K⟩
noncomputable def R28_Fit_L : Cuts := mkL [(6, R28_Fit_l6_c)] []
theorem R28_Fit_lo : LoopsOK R28_Fit_C R28_Fit_L R28_Fit_b :=
  (show LoopsOK R28_Fit_C R28_Fit_L R28_Fit_b = ((LoopOK R28_Fit_C R28_Fit_L R28_Fit_l6_c (nthB (loopsOf R28_Fit_b) 0) ∧ True) ∧ True) by kernel_rfl).mpr ⟨⟨⟨R28_Fit_l6_F, fun v K => by kernel_rfl, fun v K => by kernel_rfl, fun k v K => by kernel_rfl⟩, trivial⟩, trivial⟩
theorem R28_Fit_jo : JoinsOK R28_Fit_C R28_Fit_L R28_Fit_b := (show JoinsOK R28_Fit_C R28_Fit_L R28_Fit_b = True by kernel_rfl).mpr trivial
theorem R28_Fit_ro : RngsOK R28_Fit_C R28_Fit_L R28_Fit_b :=
  (show RngsOK R28_Fit_C R28_Fit_L R28_Fit_b = (True) by kernel_rfl).mpr trivial
theorem R28_Fit_ok : EntOK Try.prog 12 R28_Fit_e :=
  entOf_ok (e := evFn R28_Fit_C R28_Fit_L Try.f12) (fun v n K => Eq.trans (R28_Fit_def v.1 (fun (r0 : Bool) => K (.t true .bool r0) [])) (by kernel_rfl)) (evFn_ok (mkC_all (fns := R28_Fit_f) tys_ok ⟨⟨R28_Head_ok, Try.call56⟩, ⟨R28_page_ok, Try.call57⟩, ⟨R28_Page_ok, Try.call33⟩, ⟨R28_Length_ok, Try.call39⟩, trivial⟩ mixed) Try.func12 (show Try.f12.body = some R28_Fit_b by kernel_rfl) ⟨R28_Fit_lo, R28_Fit_jo, by kernel_rfl, R28_Fit_ro⟩)

noncomputable def account_Unit_e : Ent := entOf [.tm (.cons (.cons .bool (.cons .bool (.cons .bool (.cons (.int .i64) (.cons (.sl (.cons (.sl (.cons (.int .i64) (.cons (.int .i64) (.cons (.sl (.int .i64)) .nil)))) .nil)) .nil))))) (.cons (.int .i64) (.cons (.int .i64) .nil)))] fun (v : ((Bool × (Bool × (Bool × (Int × ((List ((List (Int × (Int × ((List Int) × Unit)))) × Unit)) × Unit))))) × (Int × (Int × Unit))) × Unit) n K => account_Unit v.1 (fun (r0 : Bool) => K (.t true .bool r0) [])
noncomputable def account_Unit_f : List (Nat × Ent) := []
noncomputable def account_Unit_C : Cfg := mkC tys account_Unit_f
noncomputable def account_Unit_b : Code := match Try.f34.body with | some c => c | none => .skip
noncomputable def account_Unit_L : Cuts := mkL [] []
theorem account_Unit_lo : LoopsOK account_Unit_C account_Unit_L account_Unit_b := (show LoopsOK account_Unit_C account_Unit_L account_Unit_b = True by kernel_rfl).mpr trivial
theorem account_Unit_jo : JoinsOK account_Unit_C account_Unit_L account_Unit_b := (show JoinsOK account_Unit_C account_Unit_L account_Unit_b = True by kernel_rfl).mpr trivial
theorem account_Unit_ro : RngsOK account_Unit_C account_Unit_L account_Unit_b :=
  (show RngsOK account_Unit_C account_Unit_L account_Unit_b = (True) by kernel_rfl).mpr trivial
theorem account_Unit_ok : EntOK Try.prog 34 account_Unit_e :=
  entOf_ok (e := evFn account_Unit_C account_Unit_L Try.f34) (fun v n K => Eq.trans (account_Unit_def v.1 (fun (r0 : Bool) => K (.t true .bool r0) [])) (by kernel_rfl)) (evFn_ok (mkC_all (fns := account_Unit_f) tys_ok trivial mixed) Try.func34 (show Try.f34.body = some account_Unit_b by kernel_rfl) ⟨account_Unit_lo, account_Unit_jo, by kernel_rfl, account_Unit_ro⟩)

noncomputable def account_Keeps_e : Ent := entOf [.tm (.cons (.cons .bool (.cons .bool (.cons .bool (.cons (.int .i64) (.cons (.sl (.cons (.sl (.cons (.int .i64) (.cons (.int .i64) (.cons (.sl (.int .i64)) .nil)))) .nil)) .nil))))) (.cons (.int .i64) (.cons (.int .i64) .nil)))] fun (v : ((Bool × (Bool × (Bool × (Int × ((List ((List (Int × (Int × ((List Int) × Unit)))) × Unit)) × Unit))))) × (Int × (Int × Unit))) × Unit) n K => account_Keeps v.1 (fun (r0 : Int) => K (.t true (.int .i64) r0) [])
noncomputable def account_Keeps_f : List (Nat × Ent) := [(34, account_Unit_e)]
noncomputable def account_Keeps_C : Cfg := mkC tys account_Keeps_f
noncomputable def account_Keeps_b : Code := match Try.f17.body with | some c => c | none => .skip
noncomputable def account_Keeps_L : Cuts := mkL [] []
theorem account_Keeps_lo : LoopsOK account_Keeps_C account_Keeps_L account_Keeps_b := (show LoopsOK account_Keeps_C account_Keeps_L account_Keeps_b = True by kernel_rfl).mpr trivial
theorem account_Keeps_jo : JoinsOK account_Keeps_C account_Keeps_L account_Keeps_b := (show JoinsOK account_Keeps_C account_Keeps_L account_Keeps_b = True by kernel_rfl).mpr trivial
theorem account_Keeps_ro : RngsOK account_Keeps_C account_Keeps_L account_Keeps_b :=
  (show RngsOK account_Keeps_C account_Keeps_L account_Keeps_b = (True) by kernel_rfl).mpr trivial
theorem account_Keeps_ok : EntOK Try.prog 17 account_Keeps_e :=
  entOf_ok (e := evFn account_Keeps_C account_Keeps_L Try.f17) (fun v n K => Eq.trans (account_Keeps_def v.1 (fun (r0 : Int) => K (.t true (.int .i64) r0) [])) (by kernel_rfl)) (evFn_ok (mkC_all (fns := account_Keeps_f) tys_ok ⟨⟨account_Unit_ok, Try.call34⟩, trivial⟩ mixed) Try.func17 (show Try.f17.body = some account_Keeps_b by kernel_rfl) ⟨account_Keeps_lo, account_Keeps_jo, by kernel_rfl, account_Keeps_ro⟩)

noncomputable def account_between_e : Ent := entOf [.tm (.int .i64), .tm (.int .i64), .tm (.int .i64)] fun (v : Int × Int × Int × Unit) n K => account_between v.1 v.2.1 v.2.2.1 (fun (r0 : Bool) => K (.t true .bool r0) [])
noncomputable def account_between_f : List (Nat × Ent) := []
noncomputable def account_between_C : Cfg := mkC tys account_between_f
noncomputable def account_between_b : Code := match Try.f61.body with | some c => c | none => .skip
noncomputable def account_between_L : Cuts := mkL [] []
theorem account_between_lo : LoopsOK account_between_C account_between_L account_between_b := (show LoopsOK account_between_C account_between_L account_between_b = True by kernel_rfl).mpr trivial
theorem account_between_jo : JoinsOK account_between_C account_between_L account_between_b := (show JoinsOK account_between_C account_between_L account_between_b = True by kernel_rfl).mpr trivial
theorem account_between_ro : RngsOK account_between_C account_between_L account_between_b :=
  (show RngsOK account_between_C account_between_L account_between_b = (True) by kernel_rfl).mpr trivial
theorem account_between_ok : EntOK Try.prog 61 account_between_e :=
  entOf_ok (e := evFn account_between_C account_between_L Try.f61) (fun v n K => Eq.trans (account_between_def v.1 v.2.1 v.2.2.1 (fun (r0 : Bool) => K (.t true .bool r0) [])) (by kernel_rfl)) (evFn_ok (mkC_all (fns := account_between_f) tys_ok trivial mixed) Try.func61 (show Try.f61.body = some account_between_b by kernel_rfl) ⟨account_between_lo, account_between_jo, by kernel_rfl, account_between_ro⟩)

noncomputable def account_head_e : Ent := entOf [.tm (.cons (.int .i64) (.cons (.int .i64) (.cons (.int .i64) (.cons (.int .i64) (.cons (.int .i64) (.cons (.int .i64) .nil))))))] fun (v : (Int × (Int × (Int × (Int × (Int × (Int × Unit)))))) × Unit) n K => account_head v.1 (fun (r0 : Bool) => K (.t true .bool r0) [])
noncomputable def account_head_f : List (Nat × Ent) := [(61, account_between_e)]
noncomputable def account_head_C : Cfg := mkC tys account_head_f
noncomputable def account_head_b : Code := match Try.f59.body with | some c => c | none => .skip
noncomputable def account_head_L : Cuts := mkL [] []
theorem account_head_lo : LoopsOK account_head_C account_head_L account_head_b := (show LoopsOK account_head_C account_head_L account_head_b = True by kernel_rfl).mpr trivial
theorem account_head_jo : JoinsOK account_head_C account_head_L account_head_b := (show JoinsOK account_head_C account_head_L account_head_b = True by kernel_rfl).mpr trivial
theorem account_head_ro : RngsOK account_head_C account_head_L account_head_b :=
  (show RngsOK account_head_C account_head_L account_head_b = (True) by kernel_rfl).mpr trivial
theorem account_head_ok : EntOK Try.prog 59 account_head_e :=
  entOf_ok (e := evFn account_head_C account_head_L Try.f59) (fun v n K => Eq.trans (account_head_def v.1 (fun (r0 : Bool) => K (.t true .bool r0) [])) (by kernel_rfl)) (evFn_ok (mkC_all (fns := account_head_f) tys_ok ⟨⟨account_between_ok, Try.call61⟩, trivial⟩ mixed) Try.func59 (show Try.f59.body = some account_head_b by kernel_rfl) ⟨account_head_lo, account_head_jo, by kernel_rfl, account_head_ro⟩)

noncomputable def layout_widths_e : Ent := entOf [] fun (v : Unit) n K => layout_widths (fun (r0 : (List Int)) => K (.t true (.arr 13 (.int .i64)) r0) [])
noncomputable def layout_widths_f : List (Nat × Ent) := []
noncomputable def layout_widths_C : Cfg := mkC tys layout_widths_f
noncomputable def layout_widths_b : Code := match Try.f116.body with | some c => c | none => .skip
noncomputable def layout_widths_L : Cuts := mkL [] []
theorem layout_widths_lo : LoopsOK layout_widths_C layout_widths_L layout_widths_b := (show LoopsOK layout_widths_C layout_widths_L layout_widths_b = True by kernel_rfl).mpr trivial
theorem layout_widths_jo : JoinsOK layout_widths_C layout_widths_L layout_widths_b := (show JoinsOK layout_widths_C layout_widths_L layout_widths_b = True by kernel_rfl).mpr trivial
theorem layout_widths_ro : RngsOK layout_widths_C layout_widths_L layout_widths_b :=
  (show RngsOK layout_widths_C layout_widths_L layout_widths_b = (True) by kernel_rfl).mpr trivial
theorem layout_widths_ok : EntOK Try.prog 116 layout_widths_e :=
  entOf_ok (e := evFn layout_widths_C layout_widths_L Try.f116) (fun v n K => Eq.trans (layout_widths_def (fun (r0 : (List Int)) => K (.t true (.arr 13 (.int .i64)) r0) [])) (by kernel_rfl)) (evFn_ok (mkC_all (fns := layout_widths_f) tys_ok trivial mixed) Try.func116 (show Try.f116.body = some layout_widths_b by kernel_rfl) ⟨layout_widths_lo, layout_widths_jo, by kernel_rfl, layout_widths_ro⟩)

end
end Go.Eng.A
