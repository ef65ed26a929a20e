/- Each of these functions is what the program computes: printed by program. -/
import Derived.Test.YtampmpiapdegcaaEngT
import Derived.Test.YtampmpiapdegcaaAccountGoesP
import Derived.Test.YtampmpiapdegcaaProg
import Derived.Test.YtampmpiapdegcaaAccountGoesTh
set_option linter.unusedVariables false
set_option maxRecDepth 100000
namespace Go.Eng.A
open Go Go.Eng Go.Proofs
noncomputable section

noncomputable def api_Unit___account_Fit_1_e : Ent := entOf [.tm (.sl (.cons (.cons .bool (.cons .bool (.cons .bool (.cons (.int .i64) (.cons (.sl (.cons (.sl (.cons (.int .i64) (.cons (.int .i64) (.cons (.sl (.int .i64)) .nil)))) .nil)) .nil))))) (.cons (.int .i64) (.cons (.int .i64) .nil)))), .fn 60 [.tm (.ptr (.cons (.cons (.int .i64) (.cons (.int .i64) (.cons (.int .i64) (.cons (.int .i64) (.cons (.int .i64) (.cons (.int .i64) .nil)))))) (.cons (.sl (.sl (.cons (.cons .bool (.cons .bool (.cons .bool (.cons (.int .i64) (.cons (.sl (.cons (.sl (.cons (.int .i64) (.cons (.int .i64) (.cons (.sl (.int .i64)) .nil)))) .nil)) .nil))))) (.cons (.int .i64) (.cons (.int .i64) .nil))))) .nil)))]] fun (v : (List ((Bool × (Bool × (Bool × (Int × ((List ((List (Int × (Int × ((List Int) × Unit)))) × Unit)) × Unit))))) × (Int × (Int × Unit)))) × (((Int × (Int × (Int × (Int × (Int × (Int × Unit)))))) × ((List (List ((Bool × (Bool × (Bool × (Int × ((List ((List (Int × (Int × ((List Int) × Unit)))) × Unit)) × Unit))))) × (Int × (Int × Unit))))) × Unit)) × Unit) × Unit) n K => api_Unit___account_Fit_1 v.1 v.2.1.1 (fun (r0 : Bool) => K (.t true .bool r0) [])
noncomputable def api_Unit___account_Fit_1_f : List (Nat × Ent) := [(110, api_Unit__110__account_Fit_1_e)]
noncomputable def api_Unit___account_Fit_1_C : Cfg := mkC tys api_Unit___account_Fit_1_f
noncomputable def api_Unit___account_Fit_1_b : Code := match Try.f62.body with | some c => c | none => .skip
noncomputable def api_Unit___account_Fit_1_L : Cuts := mkL [] []
theorem api_Unit___account_Fit_1_lo : LoopsOK api_Unit___account_Fit_1_C api_Unit___account_Fit_1_L api_Unit___account_Fit_1_b := (show LoopsOK api_Unit___account_Fit_1_C api_Unit___account_Fit_1_L api_Unit___account_Fit_1_b = True by kernel_rfl).mpr trivial
theorem api_Unit___account_Fit_1_jo : JoinsOK api_Unit___account_Fit_1_C api_Unit___account_Fit_1_L api_Unit___account_Fit_1_b := (show JoinsOK api_Unit___account_Fit_1_C api_Unit___account_Fit_1_L api_Unit___account_Fit_1_b = True by kernel_rfl).mpr trivial
theorem api_Unit___account_Fit_1_ro : RngsOK api_Unit___account_Fit_1_C api_Unit___account_Fit_1_L api_Unit___account_Fit_1_b :=
  (show RngsOK api_Unit___account_Fit_1_C api_Unit___account_Fit_1_L api_Unit___account_Fit_1_b = (True) by kernel_rfl).mpr trivial
theorem api_Unit___account_Fit_1_ok : EntOK Try.prog 62 api_Unit___account_Fit_1_e :=
  entOf_ok (e := evFn api_Unit___account_Fit_1_C api_Unit___account_Fit_1_L Try.f62) (fun v n K => Eq.trans (api_Unit___account_Fit_1_def v.1 v.2.1.1 (fun (r0 : Bool) => K (.t true .bool r0) [])) (by kernel_rfl)) (evFn_ok (mkC_all (fns := api_Unit___account_Fit_1_f) tys_ok ⟨⟨api_Unit__110__account_Fit_1_ok, Try.call110⟩, trivial⟩ mixed) Try.func62 (show Try.f62.body = some api_Unit___account_Fit_1_b by kernel_rfl) ⟨api_Unit___account_Fit_1_lo, api_Unit___account_Fit_1_jo, by kernel_rfl, api_Unit___account_Fit_1_ro⟩)

noncomputable def api_Unit__82__account_Keeps_e : Ent := entOf [.tm (.sl (.cons (.cons .bool (.cons .bool (.cons .bool (.cons (.int .i64) (.cons (.sl (.cons (.sl (.cons (.int .i64) (.cons (.int .i64) (.cons (.sl (.int .i64)) .nil)))) .nil)) .nil))))) (.cons (.int .i64) (.cons (.int .i64) .nil)))), .fn 17 []] fun (v : (List ((Bool × (Bool × (Bool × (Int × ((List ((List (Int × (Int × ((List Int) × Unit)))) × Unit)) × Unit))))) × (Int × (Int × Unit)))) × (Unit) × Unit) n K => api_Unit__82__account_Keeps v.1 (fun (r0 : Int) => K (.t true (.int .i64) r0) [])
noncomputable def api_Unit__82__account_Keeps_f : List (Nat × Ent) := [(17, account_Keeps_e)]
noncomputable def api_Unit__82__account_Keeps_C : Cfg := mkC tys api_Unit__82__account_Keeps_f
noncomputable def api_Unit__82__account_Keeps_b : Code := match Try.f82.body with | some c => c | none => .skip
def api_Unit__82__account_Keeps_y0 : Lay := ⟨21, [(1, .fx (.fn 17 [])), (5, .tm true (.int .i64)), (8, .tm false (.sl (.cons (.cons .bool (.cons .bool (.cons .bool (.cons (.int .i64) (.cons (.sl (.cons (.sl (.cons (.int .i64) (.cons (.int .i64) (.cons (.sl (.int .i64)) .nil)))) .nil)) .nil))))) (.cons (.int .i64) (.cons (.int .i64) .nil))))), (9, .tm true (.int .i64)), (10, .tm true (.int .i64))], []⟩
def api_Unit__82__account_Keeps_y1 : Lay := ⟨21, [(5, .tm true (.int .i64))], []⟩
noncomputable def api_Unit__82__account_Keeps_l3_F (k : Nat) (v : (Int × (List ((Bool × (Bool × (Bool × (Int × ((List ((List (Int × (Int × ((List Int) × Unit)))) × Unit)) × Unit))))) × (Int × (Int × Unit)))) × Int × Int × Unit) × (Unit)) (K : KK) : Prop := api_Unit__82__account_Keeps_l3 k v.1.1 v.1.2.1 v.1.2.2.1 v.1.2.2.2.1 (fun (y0 : Int) => K (.exit 0) (st api_Unit__82__account_Keeps_y1 ((y0, ()), (()))))
noncomputable def api_Unit__82__account_Keeps_l3_c : Cut := ⟨api_Unit__82__account_Keeps_y0, fun o => match o with | .exit 0 => some api_Unit__82__account_Keeps_y1 | _ => none, fun (v : (Int × (List ((Bool × (Bool × (Bool × (Int × ((List ((List (Int × (Int × ((List Int) × Unit)))) × Unit)) × Unit))))) × (Int × (Int × Unit)))) × Int × Int × Unit) × (Unit)) K => ∃ k, api_Unit__82__account_Keeps_l3_F k v K⟩
noncomputable def api_Unit__82__account_Keeps_L : Cuts := mkL [(3, api_Unit__82__account_Keeps_l3_c)] []
theorem api_Unit__82__account_Keeps_lo : LoopsOK api_Unit__82__account_Keeps_C api_Unit__82__account_Keeps_L api_Unit__82__account_Keeps_b :=
  (show LoopsOK api_Unit__82__account_Keeps_C api_Unit__82__account_Keeps_L api_Unit__82__account_Keeps_b = ((LoopOK api_Unit__82__account_Keeps_C api_Unit__82__account_Keeps_L api_Unit__82__account_Keeps_l3_c (nthB (loopsOf api_Unit__82__account_Keeps_b) 0) ∧ True) ∧ True) by kernel_rfl).mpr ⟨⟨⟨api_Unit__82__account_Keeps_l3_F, fun v K => by kernel_rfl, fun v K => by kernel_rfl, fun k v K => by kernel_rfl⟩, trivial⟩, trivial⟩
theorem api_Unit__82__account_Keeps_jo : JoinsOK api_Unit__82__account_Keeps_C api_Unit__82__account_Keeps_L api_Unit__82__account_Keeps_b := (show JoinsOK api_Unit__82__account_Keeps_C api_Unit__82__account_Keeps_L api_Unit__82__account_Keeps_b = True by kernel_rfl).mpr trivial
theorem api_Unit__82__account_Keeps_ro : RngsOK api_Unit__82__account_Keeps_C api_Unit__82__account_Keeps_L api_Unit__82__account_Keeps_b :=
  (show RngsOK api_Unit__82__account_Keeps_C api_Unit__82__account_Keeps_L api_Unit__82__account_Keeps_b = (True) by kernel_rfl).mpr trivial
theorem api_Unit__82__account_Keeps_ok : EntOK Try.prog 82 api_Unit__82__account_Keeps_e :=
  entOf_ok (e := evFn api_Unit__82__account_Keeps_C api_Unit__82__account_Keeps_L Try.f82) (fun v n K => Eq.trans (api_Unit__82__account_Keeps_def v.1 (fun (r0 : Int) => K (.t true (.int .i64) r0) [])) (by kernel_rfl)) (evFn_ok (mkC_all (fns := api_Unit__82__account_Keeps_f) tys_ok ⟨⟨account_Keeps_ok, Try.call17⟩, trivial⟩ mixed) Try.func82 (show Try.f82.body = some api_Unit__82__account_Keeps_b by kernel_rfl) ⟨api_Unit__82__account_Keeps_lo, api_Unit__82__account_Keeps_jo, by kernel_rfl, api_Unit__82__account_Keeps_ro⟩)

noncomputable def account_Page_e : Ent := entOf [.tm (.sl (.cons (.cons .bool (.cons .bool (.cons .bool (.cons (.int .i64) (.cons (.sl (.cons (.sl (.cons (.int .i64) (.cons (.int .i64) (.cons (.sl (.int .i64)) .nil)))) .nil)) .nil))))) (.cons (.int .i64) (.cons (.int .i64) .nil))))] fun (v : (List ((Bool × (Bool × (Bool × (Int × ((List ((List (Int × (Int × ((List Int) × Unit)))) × Unit)) × Unit))))) × (Int × (Int × Unit)))) × Unit) n K => account_Page v.1 (fun (r0 : Int) => K (.t true (.int .i64) r0) [])
noncomputable def account_Page_f : List (Nat × Ent) := [(82, api_Unit__82__account_Keeps_e)]
noncomputable def account_Page_C : Cfg := mkC tys account_Page_f
noncomputable def account_Page_b : Code := match Try.f32.body with | some c => c | none => .skip
noncomputable def account_Page_L : Cuts := mkL [] []
theorem account_Page_lo : LoopsOK account_Page_C account_Page_L account_Page_b := (show LoopsOK account_Page_C account_Page_L account_Page_b = True by kernel_rfl).mpr trivial
theorem account_Page_jo : JoinsOK account_Page_C account_Page_L account_Page_b := (show JoinsOK account_Page_C account_Page_L account_Page_b = True by kernel_rfl).mpr trivial
theorem account_Page_ro : RngsOK account_Page_C account_Page_L account_Page_b :=
  (show RngsOK account_Page_C account_Page_L account_Page_b = (True) by kernel_rfl).mpr trivial
theorem account_Page_ok : EntOK Try.prog 32 account_Page_e :=
  entOf_ok (e := evFn account_Page_C account_Page_L Try.f32) (fun v n K => Eq.trans (account_Page_def v.1 (fun (r0 : Int) => K (.t true (.int .i64) r0) [])) (by kernel_rfl)) (evFn_ok (mkC_all (fns := account_Page_f) tys_ok ⟨⟨api_Unit__82__account_Keeps_ok, Try.call82⟩, trivial⟩ mixed) Try.func32 (show Try.f32.body = some account_Page_b by kernel_rfl) ⟨account_Page_lo, account_Page_jo, by kernel_rfl, account_Page_ro⟩)

noncomputable def account_ends_e : Ent := entOf [.tm (.cons (.cons (.int .i64) (.cons (.int .i64) (.cons (.int .i64) (.cons (.int .i64) (.cons (.int .i64) (.cons (.int .i64) .nil)))))) (.cons (.sl (.sl (.cons (.cons .bool (.cons .bool (.cons .bool (.cons (.int .i64) (.cons (.sl (.cons (.sl (.cons (.int .i64) (.cons (.int .i64) (.cons (.sl (.int .i64)) .nil)))) .nil)) .nil))))) (.cons (.int .i64) (.cons (.int .i64) .nil))))) .nil))] fun (v : ((Int × (Int × (Int × (Int × (Int × (Int × Unit)))))) × ((List (List ((Bool × (Bool × (Bool × (Int × ((List ((List (Int × (Int × ((List Int) × Unit)))) × Unit)) × Unit))))) × (Int × (Int × Unit))))) × Unit)) × Unit) n K => account_ends v.1 (fun (r0 : Bool) => K (.t true .bool r0) [])
noncomputable def account_ends_f : List (Nat × Ent) := [(32, account_Page_e)]
noncomputable def account_ends_C : Cfg := mkC tys account_ends_f
noncomputable def account_ends_b : Code := match Try.f63.body with | some c => c | none => .skip
noncomputable def account_ends_L : Cuts := { loop := lpL [], join := lpL [], rng := rcL [], bad := fun i => nmem i [], mix := fun i => nmem i [1], stl := none }
theorem account_ends_lo : LoopsOK account_ends_C account_ends_L account_ends_b := (show LoopsOK account_ends_C account_ends_L account_ends_b = True by kernel_rfl).mpr trivial
theorem account_ends_jo : JoinsOK account_ends_C account_ends_L account_ends_b := (show JoinsOK account_ends_C account_ends_L account_ends_b = True by kernel_rfl).mpr trivial
theorem account_ends_ro : RngsOK account_ends_C account_ends_L account_ends_b :=
  (show RngsOK account_ends_C account_ends_L account_ends_b = (True) by kernel_rfl).mpr trivial
theorem account_ends_ok : EntOK Try.prog 63 account_ends_e :=
  entOf_ok (e := evFn account_ends_C account_ends_L Try.f63) (fun v n K => Eq.trans (account_ends_def v.1 (fun (r0 : Bool) => K (.t true .bool r0) [])) (by kernel_rfl)) (evFn_ok (mkC_all (fns := account_ends_f) tys_ok ⟨⟨account_Page_ok, Try.call32⟩, trivial⟩ mixed) Try.func63 (show Try.f63.body = some account_ends_b by kernel_rfl) ⟨account_ends_lo, account_ends_jo, by kernel_rfl, account_ends_ro⟩)

noncomputable def api_Unit__58__account_Page_e : Ent := entOf [.tm (.sl (.sl (.cons (.cons .bool (.cons .bool (.cons .bool (.cons (.int .i64) (.cons (.sl (.cons (.sl (.cons (.int .i64) (.cons (.int .i64) (.cons (.sl (.int .i64)) .nil)))) .nil)) .nil))))) (.cons (.int .i64) (.cons (.int .i64) .nil))))), .fn 32 []] fun (v : (List (List ((Bool × (Bool × (Bool × (Int × ((List ((List (Int × (Int × ((List Int) × Unit)))) × Unit)) × Unit))))) × (Int × (Int × Unit))))) × (Unit) × Unit) n K => api_Unit__58__account_Page v.1 (fun (r0 : Int) => K (.t true (.int .i64) r0) [])
noncomputable def api_Unit__58__account_Page_f : List (Nat × Ent) := [(32, account_Page_e)]
noncomputable def api_Unit__58__account_Page_C : Cfg := mkC tys api_Unit__58__account_Page_f
noncomputable def api_Unit__58__account_Page_b : Code := match Try.f58.body with | some c => c | none => .skip
def api_Unit__58__account_Page_y0 : Lay := ⟨21, [(1, .fx (.fn 32 [])), (5, .tm true (.int .i64)), (8, .tm false (.sl (.sl (.cons (.cons .bool (.cons .bool (.cons .bool (.cons (.int .i64) (.cons (.sl (.cons (.sl (.cons (.int .i64) (.cons (.int .i64) (.cons (.sl (.int .i64)) .nil)))) .nil)) .nil))))) (.cons (.int .i64) (.cons (.int .i64) .nil)))))), (9, .tm true (.int .i64)), (10, .tm true (.int .i64))], []⟩
def api_Unit__58__account_Page_y1 : Lay := ⟨21, [(5, .tm true (.int .i64))], []⟩
noncomputable def api_Unit__58__account_Page_l3_F (k : Nat) (v : (Int × (List (List ((Bool × (Bool × (Bool × (Int × ((List ((List (Int × (Int × ((List Int) × Unit)))) × Unit)) × Unit))))) × (Int × (Int × Unit))))) × Int × Int × Unit) × (Unit)) (K : KK) : Prop := api_Unit__58__account_Page_l3 k v.1.1 v.1.2.1 v.1.2.2.1 v.1.2.2.2.1 (fun (y0 : Int) => K (.exit 0) (st api_Unit__58__account_Page_y1 ((y0, ()), (()))))
noncomputable def api_Unit__58__account_Page_l3_c : Cut := ⟨api_Unit__58__account_Page_y0, fun o => match o with | .exit 0 => some api_Unit__58__account_Page_y1 | _ => none, fun (v : (Int × (List (List ((Bool × (Bool × (Bool × (Int × ((List ((List (Int × (Int × ((List Int) × Unit)))) × Unit)) × Unit))))) × (Int × (Int × Unit))))) × Int × Int × Unit) × (Unit)) K => ∃ k, api_Unit__58__account_Page_l3_F k v K⟩
noncomputable def api_Unit__58__account_Page_L : Cuts := mkL [(3, api_Unit__58__account_Page_l3_c)] []
theorem api_Unit__58__account_Page_lo : LoopsOK api_Unit__58__account_Page_C api_Unit__58__account_Page_L api_Unit__58__account_Page_b :=
  (show LoopsOK api_Unit__58__account_Page_C api_Unit__58__account_Page_L api_Unit__58__account_Page_b = ((LoopOK api_Unit__58__account_Page_C api_Unit__58__account_Page_L api_Unit__58__account_Page_l3_c (nthB (loopsOf api_Unit__58__account_Page_b) 0) ∧ True) ∧ True) by kernel_rfl).mpr ⟨⟨⟨api_Unit__58__account_Page_l3_F, fun v K => by kernel_rfl, fun v K => by kernel_rfl, fun k v K => by kernel_rfl⟩, trivial⟩, trivial⟩
theorem api_Unit__58__account_Page_jo : JoinsOK api_Unit__58__account_Page_C api_Unit__58__account_Page_L api_Unit__58__account_Page_b := (show JoinsOK api_Unit__58__account_Page_C api_Unit__58__account_Page_L api_Unit__58__account_Page_b = True by kernel_rfl).mpr trivial
theorem api_Unit__58__account_Page_ro : RngsOK api_Unit__58__account_Page_C api_Unit__58__account_Page_L api_Unit__58__account_Page_b :=
  (show RngsOK api_Unit__58__account_Page_C api_Unit__58__account_Page_L api_Unit__58__account_Page_b = (True) by kernel_rfl).mpr trivial
theorem api_Unit__58__account_Page_ok : EntOK Try.prog 58 api_Unit__58__account_Page_e :=
  entOf_ok (e := evFn api_Unit__58__account_Page_C api_Unit__58__account_Page_L Try.f58) (fun v n K => Eq.trans (api_Unit__58__account_Page_def v.1 (fun (r0 : Int) => K (.t true (.int .i64) r0) [])) (by kernel_rfl)) (evFn_ok (mkC_all (fns := api_Unit__58__account_Page_f) tys_ok ⟨⟨account_Page_ok, Try.call32⟩, trivial⟩ mixed) Try.func58 (show Try.f58.body = some api_Unit__58__account_Page_b by kernel_rfl) ⟨api_Unit__58__account_Page_lo, api_Unit__58__account_Page_jo, by kernel_rfl, api_Unit__58__account_Page_ro⟩)

noncomputable def account_Length_e : Ent := entOf [.tm (.cons (.cons (.int .i64) (.cons (.int .i64) (.cons (.int .i64) (.cons (.int .i64) (.cons (.int .i64) (.cons (.int .i64) .nil)))))) (.cons (.sl (.sl (.cons (.cons .bool (.cons .bool (.cons .bool (.cons (.int .i64) (.cons (.sl (.cons (.sl (.cons (.int .i64) (.cons (.int .i64) (.cons (.sl (.int .i64)) .nil)))) .nil)) .nil))))) (.cons (.int .i64) (.cons (.int .i64) .nil))))) .nil))] fun (v : ((Int × (Int × (Int × (Int × (Int × (Int × Unit)))))) × ((List (List ((Bool × (Bool × (Bool × (Int × ((List ((List (Int × (Int × ((List Int) × Unit)))) × Unit)) × Unit))))) × (Int × (Int × Unit))))) × Unit)) × Unit) n K => account_Length v.1 (fun (r0 : Int) => K (.t true (.int .i64) r0) [])
noncomputable def account_Length_f : List (Nat × Ent) := [(58, api_Unit__58__account_Page_e)]
noncomputable def account_Length_C : Cfg := mkC tys account_Length_f
noncomputable def account_Length_b : Code := match Try.f15.body with | some c => c | none => .skip
noncomputable def account_Length_L : Cuts := mkL [] []
theorem account_Length_lo : LoopsOK account_Length_C account_Length_L account_Length_b := (show LoopsOK account_Length_C account_Length_L account_Length_b = True by kernel_rfl).mpr trivial
theorem account_Length_jo : JoinsOK account_Length_C account_Length_L account_Length_b := (show JoinsOK account_Length_C account_Length_L account_Length_b = True by kernel_rfl).mpr trivial
theorem account_Length_ro : RngsOK account_Length_C account_Length_L account_Length_b :=
  (show RngsOK account_Length_C account_Length_L account_Length_b = (True) by kernel_rfl).mpr trivial
theorem account_Length_ok : EntOK Try.prog 15 account_Length_e :=
  entOf_ok (e := evFn account_Length_C account_Length_L Try.f15) (fun v n K => Eq.trans (account_Length_def v.1 (fun (r0 : Int) => K (.t true (.int .i64) r0) [])) (by kernel_rfl)) (evFn_ok (mkC_all (fns := account_Length_f) tys_ok ⟨⟨api_Unit__58__account_Page_ok, Try.call58⟩, trivial⟩ mixed) Try.func15 (show Try.f15.body = some account_Length_b by kernel_rfl) ⟨account_Length_lo, account_Length_jo, by kernel_rfl, account_Length_ro⟩)

end
end Go.Eng.A
