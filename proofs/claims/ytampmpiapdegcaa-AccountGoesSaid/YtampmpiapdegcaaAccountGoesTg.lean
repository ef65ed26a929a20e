/- Each of these functions is what the program computes: printed by program. -/
import Derived.Test.YtampmpiapdegcaaEngT
import Derived.Test.YtampmpiapdegcaaAccountGoesP
import Derived.Test.YtampmpiapdegcaaProg
import Derived.Test.YtampmpiapdegcaaAccountGoesTf
set_option linter.unusedVariables false
set_option maxRecDepth 100000
namespace Go.Eng.A
open Go Go.Eng Go.Proofs
noncomputable section

noncomputable def layout_Width_e : Ent := entOf [.tm (.int .i64)] fun (v : Int × Unit) n K => layout_Width v.1 (fun (r0 : Int) => K (.t true (.int .i64) r0) [])
noncomputable def layout_Width_f : List (Nat × Ent) := [(116, layout_widths_e)]
noncomputable def layout_Width_C : Cfg := mkC tys layout_Width_f
noncomputable def layout_Width_b : Code := match Try.f76.body with | some c => c | none => .skip
noncomputable def layout_Width_L : Cuts := mkL [] []
theorem layout_Width_lo : LoopsOK layout_Width_C layout_Width_L layout_Width_b := (show LoopsOK layout_Width_C layout_Width_L layout_Width_b = True by kernel_rfl).mpr trivial
theorem layout_Width_jo : JoinsOK layout_Width_C layout_Width_L layout_Width_b := (show JoinsOK layout_Width_C layout_Width_L layout_Width_b = True by kernel_rfl).mpr trivial
theorem layout_Width_ro : RngsOK layout_Width_C layout_Width_L layout_Width_b :=
  (show RngsOK layout_Width_C layout_Width_L layout_Width_b = (True) by kernel_rfl).mpr trivial
theorem layout_Width_ok : EntOK Try.prog 76 layout_Width_e :=
  entOf_ok (e := evFn layout_Width_C layout_Width_L Try.f76) (fun v n K => Eq.trans (layout_Width_def v.1 (fun (r0 : Int) => K (.t true (.int .i64) r0) [])) (by kernel_rfl)) (evFn_ok (mkC_all (fns := layout_Width_f) tys_ok ⟨⟨layout_widths_ok, Try.call116⟩, trivial⟩ mixed) Try.func76 (show Try.f76.body = some layout_Width_b by kernel_rfl) ⟨layout_Width_lo, layout_Width_jo, by kernel_rfl, layout_Width_ro⟩)

noncomputable def num_within_e : Ent := entOf [.tm (.int .i64), .tm (.sl (.int .i64))] fun (v : Int × (List Int) × Unit) n K => num_within v.1 v.2.1 (fun (r0 : Bool) => K (.t true .bool r0) [])
noncomputable def num_within_f : List (Nat × Ent) := []
noncomputable def num_within_C : Cfg := mkC tys num_within_f
noncomputable def num_within_b : Code := match Try.f131.body with | some c => c | none => .skip
def num_within_y0 : Lay := ⟨23, [(0, .tm true (.int .i64)), (7, .tm false (.sl (.int .i64))), (8, .tm true (.int .i64)), (9, .tm true (.int .i64))], []⟩
def num_within_y1 : Lay := ⟨23, [(4, .tm true .bool)], []⟩
def num_within_y2 : Lay := ⟨23, [], []⟩
noncomputable def num_within_l2_F (k : Nat) (v : (Int × (List Int) × Int × Int × Unit) × (Unit)) (K : KK) : Prop := num_within_l2 k v.1.1 v.1.2.1 v.1.2.2.1 v.1.2.2.2.1 (fun (y0 : Bool) => K .ret (st num_within_y1 ((y0, ()), (())))) (K (.exit 0) (st num_within_y2 ((()), (()))))
noncomputable def num_within_l2_c : Cut := ⟨num_within_y0, fun o => match o with | .ret => some num_within_y1 | .exit 0 => some num_within_y2 | _ => none, fun (v : (Int × (List Int) × Int × Int × Unit) × (Unit)) K => ∃ k, num_within_l2_F k v K⟩
noncomputable def num_within_L : Cuts := mkL [(2, num_within_l2_c)] []
theorem num_within_lo : LoopsOK num_within_C num_within_L num_within_b :=
  (show LoopsOK num_within_C num_within_L num_within_b = ((LoopOK num_within_C num_within_L num_within_l2_c (nthB (loopsOf num_within_b) 0) ∧ True) ∧ True) by kernel_rfl).mpr ⟨⟨⟨num_within_l2_F, fun v K => by kernel_rfl, fun v K => by kernel_rfl, fun k v K => by kernel_rfl⟩, trivial⟩, trivial⟩
theorem num_within_jo : JoinsOK num_within_C num_within_L num_within_b := (show JoinsOK num_within_C num_within_L num_within_b = True by kernel_rfl).mpr trivial
theorem num_within_ro : RngsOK num_within_C num_within_L num_within_b :=
  (show RngsOK num_within_C num_within_L num_within_b = (True) by kernel_rfl).mpr trivial
theorem num_within_ok : EntOK Try.prog 131 num_within_e :=
  entOf_ok (e := evFn num_within_C num_within_L Try.f131) (fun v n K => Eq.trans (num_within_def v.1 v.2.1 (fun (r0 : Bool) => K (.t true .bool r0) [])) (by kernel_rfl)) (evFn_ok (mkC_all (fns := num_within_f) tys_ok trivial mixed) Try.func131 (show Try.f131.body = some num_within_b by kernel_rfl) ⟨num_within_lo, num_within_jo, by kernel_rfl, num_within_ro⟩)

noncomputable def num_Abs_e : Ent := entOf [.tm (.int .i64)] fun (v : Int × Unit) n K => num_Abs v.1 (fun (r0 : Int) => K (.t true (.int .i64) r0) [])
noncomputable def num_Abs_f : List (Nat × Ent) := [(131, num_within_e)]
noncomputable def num_Abs_C : Cfg := mkC tys num_Abs_f
noncomputable def num_Abs_b : Code := match Try.f104.body with | some c => c | none => .skip
noncomputable def num_Abs_L : Cuts := mkL [] []
theorem num_Abs_lo : LoopsOK num_Abs_C num_Abs_L num_Abs_b := (show LoopsOK num_Abs_C num_Abs_L num_Abs_b = True by kernel_rfl).mpr trivial
theorem num_Abs_jo : JoinsOK num_Abs_C num_Abs_L num_Abs_b := (show JoinsOK num_Abs_C num_Abs_L num_Abs_b = True by kernel_rfl).mpr trivial
theorem num_Abs_ro : RngsOK num_Abs_C num_Abs_L num_Abs_b :=
  (show RngsOK num_Abs_C num_Abs_L num_Abs_b = (True) by kernel_rfl).mpr trivial
theorem num_Abs_ok : EntOK Try.prog 104 num_Abs_e :=
  entOf_ok (e := evFn num_Abs_C num_Abs_L Try.f104) (fun v n K => Eq.trans (num_Abs_def v.1 (fun (r0 : Int) => K (.t true (.int .i64) r0) [])) (by kernel_rfl)) (evFn_ok (mkC_all (fns := num_Abs_f) tys_ok ⟨⟨num_within_ok, Try.call131⟩, trivial⟩ mixed) Try.func104 (show Try.f104.body = some num_Abs_b by kernel_rfl) ⟨num_Abs_lo, num_Abs_jo, by kernel_rfl, num_Abs_ro⟩)

noncomputable def pvq_Size_e : Ent := entOf [.tm (.sl (.int .i64))] fun (v : (List Int) × Unit) n K => pvq_Size v.1 (fun (r0 : Int) (r1 : Bool) => K (.tu [.t true (.int .i64) r0, .t true .bool r1]) [])
noncomputable def pvq_Size_f : List (Nat × Ent) := [(104, num_Abs_e)]
noncomputable def pvq_Size_C : Cfg := mkC tys pvq_Size_f
noncomputable def pvq_Size_b : Code := match Try.f111.body with | some c => c | none => .skip
def pvq_Size_y0 : Lay := ⟨35, [(0, .tm false (.sl (.int .i64))), (14, .tm true .bool)], []⟩
def pvq_Size_y1 : Lay := ⟨35, [(2, .tm true (.int .i64)), (3, .tm true .bool)], []⟩
def pvq_Size_y2 : Lay := ⟨35, [(0, .tm false (.sl (.int .i64)))], []⟩
noncomputable def pvq_Size_j2_c : Cut := ⟨pvq_Size_y0, fun o => match o with | .ret => some pvq_Size_y1 | .nrm => some pvq_Size_y2 | _ => none, fun (v : ((List Int) × Bool × Unit) × (Unit)) (K : KK) => pvq_Size_j2 v.1.1 v.1.2.1 (fun (y0 : Int) (y1 : Bool) => K .ret (st pvq_Size_y1 ((y0, y1, ()), (())))) (fun (y0 : (List Int)) => K .nrm (st pvq_Size_y2 ((y0, ()), (()))))⟩
def pvq_Size_y3 : Lay := ⟨35, [(4, .tm true (.int .i64)), (6, .tm true (.int .i64)), (15, .tm false (.sl (.int .i64))), (16, .tm true (.int .i64)), (17, .tm true (.int .i64)), (26, .tm true .bool)], []⟩
def pvq_Size_y4 : Lay := ⟨35, [(4, .tm true (.int .i64)), (6, .tm true (.int .i64)), (15, .tm false (.sl (.int .i64))), (16, .tm true (.int .i64)), (17, .tm true (.int .i64))], []⟩
noncomputable def pvq_Size_j8_c : Cut := ⟨pvq_Size_y3, fun o => match o with | .ret => some pvq_Size_y1 | .nrm => some pvq_Size_y4 | _ => none, fun (v : (Int × Int × (List Int) × Int × Int × Bool × Unit) × (Unit)) (K : KK) => pvq_Size_j8 v.1.1 v.1.2.1 v.1.2.2.1 v.1.2.2.2.1 v.1.2.2.2.2.1 v.1.2.2.2.2.2.1 (fun (y0 : Int) (y1 : Bool) => K .ret (st pvq_Size_y1 ((y0, y1, ()), (())))) (fun (y0 : Int) (y1 : Int) (y2 : (List Int)) (y3 : Int) (y4 : Int) => K .nrm (st pvq_Size_y4 ((y0, y1, y2, y3, y4, ()), (()))))⟩
def pvq_Size_y5 : Lay := ⟨35, [(4, .tm true (.int .i64)), (15, .tm false (.sl (.int .i64))), (16, .tm true (.int .i64)), (17, .tm true (.int .i64))], []⟩
noncomputable def pvq_Size_j9_c : Cut := ⟨pvq_Size_y4, fun o => match o with | .nrm => some pvq_Size_y5 | _ => none, fun (v : (Int × Int × (List Int) × Int × Int × Unit) × (Unit)) (K : KK) => pvq_Size_j9 v.1.1 v.1.2.1 v.1.2.2.1 v.1.2.2.2.1 v.1.2.2.2.2.1 (fun (y0 : Int) (y1 : (List Int)) (y2 : Int) (y3 : Int) => K .nrm (st pvq_Size_y5 ((y0, y1, y2, y3, ()), (()))))⟩
def pvq_Size_y6 : Lay := ⟨35, [(4, .tm true (.int .i64))], []⟩
noncomputable def pvq_Size_l5_F (k : Nat) (v : (Int × (List Int) × Int × Int × Unit) × (Unit)) (K : KK) : Prop := pvq_Size_l5 k v.1.1 v.1.2.1 v.1.2.2.1 v.1.2.2.2.1 (fun (y0 : Int) (y1 : Bool) => K .ret (st pvq_Size_y1 ((y0, y1, ()), (())))) (fun (y0 : Int) => K (.exit 0) (st pvq_Size_y6 ((y0, ()), (()))))
noncomputable def pvq_Size_l5_c : Cut := ⟨pvq_Size_y5, fun o => match o with | .ret => some pvq_Size_y1 | .exit 0 => some pvq_Size_y6 | _ => none, fun (v : (Int × (List Int) × Int × Int × Unit) × (Unit)) K => ∃ k, pvq_Size_l5_F k v K⟩
noncomputable def pvq_Size_j3_c : Cut := ⟨pvq_Size_y2, fun o => match o with | .ret => some pvq_Size_y1 | _ => none, fun (v : ((List Int) × Unit) × (Unit)) (K : KK) => pvq_Size_j3 v.1.1 (fun (y0 : Int) (y1 : Bool) => K .ret (st pvq_Size_y1 ((y0, y1, ()), (()))))⟩
noncomputable def pvq_Size_L : Cuts := mkL [(5, pvq_Size_l5_c)] [(2, pvq_Size_j2_c), (8, pvq_Size_j8_c), (9, pvq_Size_j9_c), (3, pvq_Size_j3_c)]
theorem pvq_Size_lo : LoopsOK pvq_Size_C pvq_Size_L pvq_Size_b :=
  (show LoopsOK pvq_Size_C pvq_Size_L pvq_Size_b = ((LoopOK pvq_Size_C pvq_Size_L pvq_Size_l5_c (nthB (loopsOf pvq_Size_b) 0) ∧ True) ∧ True) by kernel_rfl).mpr ⟨⟨⟨pvq_Size_l5_F, fun v K => by kernel_rfl, fun v K => by kernel_rfl, fun k v K => by kernel_rfl⟩, trivial⟩, trivial⟩
theorem pvq_Size_jo : JoinsOK pvq_Size_C pvq_Size_L pvq_Size_b :=
  (show JoinsOK pvq_Size_C pvq_Size_L pvq_Size_b = ((JoinOK pvq_Size_C pvq_Size_L pvq_Size_j3_c (nthB (joinsOf pvq_Size_L pvq_Size_b) 0) ∧ True) ∧ (JoinOK pvq_Size_C pvq_Size_L pvq_Size_j2_c (nthB (joinsOf pvq_Size_L pvq_Size_b) 1) ∧ True) ∧ (JoinOK pvq_Size_C pvq_Size_L pvq_Size_j9_c (nthB (joinsOf pvq_Size_L pvq_Size_b) 2) ∧ True) ∧ (JoinOK pvq_Size_C pvq_Size_L pvq_Size_j8_c (nthB (joinsOf pvq_Size_L pvq_Size_b) 3) ∧ True) ∧ True) by kernel_rfl).mpr ⟨⟨fun v K => by kernel_rfl, trivial⟩, ⟨fun v K => by kernel_rfl, trivial⟩, ⟨fun v K => by kernel_rfl, trivial⟩, ⟨fun v K => by kernel_rfl, trivial⟩, trivial⟩
theorem pvq_Size_ro : RngsOK pvq_Size_C pvq_Size_L pvq_Size_b :=
  (show RngsOK pvq_Size_C pvq_Size_L pvq_Size_b = (True) by kernel_rfl).mpr trivial
theorem pvq_Size_ok : EntOK Try.prog 111 pvq_Size_e :=
  entOf_ok (e := evFn pvq_Size_C pvq_Size_L Try.f111) (fun v n K => Eq.trans (pvq_Size_def v.1 (fun (r0 : Int) (r1 : Bool) => K (.tu [.t true (.int .i64) r0, .t true .bool r1]) [])) (by kernel_rfl)) (evFn_ok (mkC_all (fns := pvq_Size_f) tys_ok ⟨⟨num_Abs_ok, Try.call104⟩, trivial⟩ mixed) Try.func111 (show Try.f111.body = some pvq_Size_b by kernel_rfl) ⟨pvq_Size_lo, pvq_Size_jo, by kernel_rfl, pvq_Size_ro⟩)

noncomputable def alloc_held_int__e : Ent := entOf [.tm (.int .i64), .tm (.int .i64), .tm (.int .i64)] fun (v : Int × Int × Int × Unit) n K => alloc_held_int_ v.1 v.2.1 v.2.2.1 (fun (r0 : Int) => K (.t true (.int .i64) r0) [])
noncomputable def alloc_held_int__f : List (Nat × Ent) := []
noncomputable def alloc_held_int__C : Cfg := mkC tys alloc_held_int__f
noncomputable def alloc_held_int__b : Code := match Try.f135.body with | some c => c | none => .skip
noncomputable def alloc_held_int__L : Cuts := mkL [] []
theorem alloc_held_int__lo : LoopsOK alloc_held_int__C alloc_held_int__L alloc_held_int__b := (show LoopsOK alloc_held_int__C alloc_held_int__L alloc_held_int__b = True by kernel_rfl).mpr trivial
theorem alloc_held_int__jo : JoinsOK alloc_held_int__C alloc_held_int__L alloc_held_int__b := (show JoinsOK alloc_held_int__C alloc_held_int__L alloc_held_int__b = True by kernel_rfl).mpr trivial
theorem alloc_held_int__ro : RngsOK alloc_held_int__C alloc_held_int__L alloc_held_int__b :=
  (show RngsOK alloc_held_int__C alloc_held_int__L alloc_held_int__b = (True) by kernel_rfl).mpr trivial
theorem alloc_held_int__ok : EntOK Try.prog 135 alloc_held_int__e :=
  entOf_ok (e := evFn alloc_held_int__C alloc_held_int__L Try.f135) (fun v n K => Eq.trans (alloc_held_int__def v.1 v.2.1 v.2.2.1 (fun (r0 : Int) => K (.t true (.int .i64) r0) [])) (by kernel_rfl)) (evFn_ok (mkC_all (fns := alloc_held_int__f) tys_ok trivial mixed) Try.func135 (show Try.f135.body = some alloc_held_int__b by kernel_rfl) ⟨alloc_held_int__lo, alloc_held_int__jo, by kernel_rfl, alloc_held_int__ro⟩)

noncomputable def alloc_good_e : Ent := entOf [.tm (.int .i64)] fun (v : Int × Unit) n K => alloc_good v.1 (fun (r0 : Bool) => K (.t true .bool r0) [])
noncomputable def alloc_good_f : List (Nat × Ent) := [(135, alloc_held_int__e)]
noncomputable def alloc_good_C : Cfg := mkC tys alloc_good_f
noncomputable def alloc_good_b : Code := match Try.f134.body with | some c => c | none => .skip
noncomputable def alloc_good_L : Cuts := mkL [] []
theorem alloc_good_lo : LoopsOK alloc_good_C alloc_good_L alloc_good_b := (show LoopsOK alloc_good_C alloc_good_L alloc_good_b = True by kernel_rfl).mpr trivial
theorem alloc_good_jo : JoinsOK alloc_good_C alloc_good_L alloc_good_b := (show JoinsOK alloc_good_C alloc_good_L alloc_good_b = True by kernel_rfl).mpr trivial
theorem alloc_good_ro : RngsOK alloc_good_C alloc_good_L alloc_good_b :=
  (show RngsOK alloc_good_C alloc_good_L alloc_good_b = (True) by kernel_rfl).mpr trivial
theorem alloc_good_ok : EntOK Try.prog 134 alloc_good_e :=
  entOf_ok (e := evFn alloc_good_C alloc_good_L Try.f134) (fun v n K => Eq.trans (alloc_good_def v.1 (fun (r0 : Bool) => K (.t true .bool r0) [])) (by kernel_rfl)) (evFn_ok (mkC_all (fns := alloc_good_f) tys_ok ⟨⟨alloc_held_int__ok, Try.call135⟩, trivial⟩ mixed) Try.func134 (show Try.f134.body = some alloc_good_b by kernel_rfl) ⟨alloc_good_lo, alloc_good_jo, by kernel_rfl, alloc_good_ro⟩)

noncomputable def alloc_times_e : Ent := entOf [.tm (.int .i64)] fun (v : Int × Unit) n K => alloc_times v.1 (fun (r0 : Int) => K (.t true (.int .i64) r0) [])
noncomputable def alloc_times_f : List (Nat × Ent) := []
noncomputable def alloc_times_C : Cfg := mkC tys alloc_times_f
noncomputable def alloc_times_b : Code := match Try.f136.body with | some c => c | none => .skip
noncomputable def alloc_times_L : Cuts := mkL [] []
theorem alloc_times_lo : LoopsOK alloc_times_C alloc_times_L alloc_times_b := (show LoopsOK alloc_times_C alloc_times_L alloc_times_b = True by kernel_rfl).mpr trivial
theorem alloc_times_jo : JoinsOK alloc_times_C alloc_times_L alloc_times_b := (show JoinsOK alloc_times_C alloc_times_L alloc_times_b = True by kernel_rfl).mpr trivial
theorem alloc_times_ro : RngsOK alloc_times_C alloc_times_L alloc_times_b :=
  (show RngsOK alloc_times_C alloc_times_L alloc_times_b = (True) by kernel_rfl).mpr trivial
theorem alloc_times_ok : EntOK Try.prog 136 alloc_times_e :=
  entOf_ok (e := evFn alloc_times_C alloc_times_L Try.f136) (fun v n K => Eq.trans (alloc_times_def v.1 (fun (r0 : Int) => K (.t true (.int .i64) r0) [])) (by kernel_rfl)) (evFn_ok (mkC_all (fns := alloc_times_f) tys_ok trivial mixed) Try.func136 (show Try.f136.body = some alloc_times_b by kernel_rfl) ⟨alloc_times_lo, alloc_times_jo, by kernel_rfl, alloc_times_ro⟩)

noncomputable def alloc_Band_e : Ent := entOf [.tm (.int .i64), .tm (.int .i64), .tm (.int .i64)] fun (v : Int × Int × Int × Unit) n K => alloc_Band v.1 v.2.1 v.2.2.1 (fun (r0 : Int) => K (.t true (.int .i64) r0) [])
noncomputable def alloc_Band_f : List (Nat × Ent) := [(134, alloc_good_e), (135, alloc_held_int__e), (136, alloc_times_e)]
noncomputable def alloc_Band_C : Cfg := mkC tys alloc_Band_f
noncomputable def alloc_Band_b : Code := match Try.f112.body with | some c => c | none => .skip
noncomputable def alloc_Band_L : Cuts := mkL [] []
theorem alloc_Band_lo : LoopsOK alloc_Band_C alloc_Band_L alloc_Band_b := (show LoopsOK alloc_Band_C alloc_Band_L alloc_Band_b = True by kernel_rfl).mpr trivial
theorem alloc_Band_jo : JoinsOK alloc_Band_C alloc_Band_L alloc_Band_b := (show JoinsOK alloc_Band_C alloc_Band_L alloc_Band_b = True by kernel_rfl).mpr trivial
theorem alloc_Band_ro : RngsOK alloc_Band_C alloc_Band_L alloc_Band_b :=
  (show RngsOK alloc_Band_C alloc_Band_L alloc_Band_b = (True) by kernel_rfl).mpr trivial
theorem alloc_Band_ok : EntOK Try.prog 112 alloc_Band_e :=
  entOf_ok (e := evFn alloc_Band_C alloc_Band_L Try.f112) (fun v n K => Eq.trans (alloc_Band_def v.1 v.2.1 v.2.2.1 (fun (r0 : Int) => K (.t true (.int .i64) r0) [])) (by kernel_rfl)) (evFn_ok (mkC_all (fns := alloc_Band_f) tys_ok ⟨⟨alloc_good_ok, Try.call134⟩, ⟨alloc_held_int__ok, Try.call135⟩, ⟨alloc_times_ok, Try.call136⟩, trivial⟩ mixed) Try.func112 (show Try.f112.body = some alloc_Band_b by kernel_rfl) ⟨alloc_Band_lo, alloc_Band_jo, by kernel_rfl, alloc_Band_ro⟩)

noncomputable def frame_fits_e : Ent := entOf [.tm (.cons (.int .i64) (.cons (.int .i64) (.cons (.sl (.int .i64)) .nil))), .tm (.int .i64), .tm (.int .i64)] fun (v : (Int × (Int × ((List Int) × Unit))) × Int × Int × Unit) n K => frame_fits v.1 v.2.1 v.2.2.1 (fun (r0 : Bool) => K (.t true .bool r0) [])
noncomputable def frame_fits_f : List (Nat × Ent) := [(76, layout_Width_e), (111, pvq_Size_e), (112, alloc_Band_e)]
noncomputable def frame_fits_C : Cfg := mkC tys frame_fits_f
noncomputable def frame_fits_b : Code := match Try.f64.body with | some c => c | none => .skip
noncomputable def frame_fits_L : Cuts := mkL [] []
theorem frame_fits_lo : LoopsOK frame_fits_C frame_fits_L frame_fits_b := (show LoopsOK frame_fits_C frame_fits_L frame_fits_b = True by kernel_rfl).mpr trivial
theorem frame_fits_jo : JoinsOK frame_fits_C frame_fits_L frame_fits_b := (show JoinsOK frame_fits_C frame_fits_L frame_fits_b = True by kernel_rfl).mpr trivial
theorem frame_fits_ro : RngsOK frame_fits_C frame_fits_L frame_fits_b :=
  (show RngsOK frame_fits_C frame_fits_L frame_fits_b = (True) by kernel_rfl).mpr trivial
theorem frame_fits_ok : EntOK Try.prog 64 frame_fits_e :=
  entOf_ok (e := evFn frame_fits_C frame_fits_L Try.f64) (fun v n K => Eq.trans (frame_fits_def v.1 v.2.1 v.2.2.1 (fun (r0 : Bool) => K (.t true .bool r0) [])) (by kernel_rfl)) (evFn_ok (mkC_all (fns := frame_fits_f) tys_ok ⟨⟨layout_Width_ok, Try.call76⟩, ⟨pvq_Size_ok, Try.call111⟩, ⟨alloc_Band_ok, Try.call112⟩, trivial⟩ mixed) Try.func64 (show Try.f64.body = some frame_fits_b by kernel_rfl) ⟨frame_fits_lo, frame_fits_jo, by kernel_rfl, frame_fits_ro⟩)

end
end Go.Eng.A
