/- Each of these functions is what the program computes: printed by program. -/
import Derived.Test.YtkgapcdnpcjcmaaEngT
import Derived.Test.YtkgapcdnpcjcmaaLayoutTellsP
import Derived.Test.YtkgapcdnpcjcmaaProg
set_option linter.unusedVariables false
set_option maxRecDepth 100000
namespace Go.Eng.A
open Go Go.Eng Go.Proofs
noncomputable section

def tys : List Ty := [.no, .no, .no, .sc (.int .i64), .no, .no, .no, .no, .no, .no, .no, .no, .no, .no, .no, .no, .no, .no, .no, .no, .no, .no, .sl 3 (.int .i64) 8, .no, .no, .no, .no, .no, .no, .no, .no, .no, .sl 22 (.sl (.int .i64)) 24, .no, .no, .no, .no, .no, .no, .no, .no, .no, .no, .no, .no, .no, .no, .no, .no, .no, .no, .no, .no, .no, .arr 13 3 (.int .i64), .no, .no, .no, .no, .no, .no, .no, .no, .no, .no, .no, .no, .no, .no, .fn]
theorem tok3 : TOK Try.prog 3 (.int .i64) := tok_mk Try.type3 Try.underlying3 (by kernel_rfl) (by kernel_rfl) (by kernel_rfl) (.inr (by kernel_rfl))
theorem tok22 : TOK Try.prog 22 (.sl (.int .i64)) := tok_mk Try.type22 Try.underlying22 (by kernel_rfl) (by kernel_rfl) (by kernel_rfl) (.inr (by kernel_rfl))
theorem tok32 : TOK Try.prog 32 (.sl (.sl (.int .i64))) := tok_mk Try.type32 Try.underlying32 (by kernel_rfl) (by kernel_rfl) (by kernel_rfl) (.inr (by kernel_rfl))
theorem tok54 : TOK Try.prog 54 (.arr 13 (.int .i64)) := tok_mk Try.type54 Try.underlying54 (by kernel_rfl) (by kernel_rfl) (by kernel_rfl) (.inr (by kernel_rfl))
theorem tys_ok : TysOK Try.prog 0 tys := ⟨trivial, trivial, trivial, tyok_int tok3 Try.underlying3, trivial, trivial, trivial, trivial, trivial, trivial, trivial, trivial, trivial, trivial, trivial, trivial, trivial, trivial, trivial, trivial, trivial, trivial, tyok_sl tok22 Try.underlying22 tok3 (by kernel_rfl) (by kernel_rfl) (by kernel_rfl) Try.type3 (by kernel_rfl) Try.type22 (by kernel_rfl), trivial, trivial, trivial, trivial, trivial, trivial, trivial, trivial, trivial, tyok_sl tok32 Try.underlying32 tok22 (by kernel_rfl) (by kernel_rfl) (by kernel_rfl) Try.type22 (by kernel_rfl) Try.type32 (by kernel_rfl), trivial, trivial, trivial, trivial, trivial, trivial, trivial, trivial, trivial, trivial, trivial, trivial, trivial, trivial, trivial, trivial, trivial, trivial, trivial, trivial, trivial, tyok_arr tok54 Try.underlying54 tok3 (by kernel_rfl), trivial, trivial, trivial, trivial, trivial, trivial, trivial, trivial, trivial, trivial, trivial, trivial, trivial, trivial, tyok_fn Try.underlying69 (by kernel_rfl) Try.type69 (by kernel_rfl), trivial⟩
theorem mixed : Try.prog.follows .mixedOrders = true := by kernel_rfl

noncomputable def layout_widths_e : Ent := entOf [] fun (v : Unit) n K => layout_widths (fun (r0 : (List Int)) => K (.t true (.arr 13 (.int .i64)) r0) [])
noncomputable def layout_widths_f : List (Nat × Ent) := []
noncomputable def layout_widths_C : Cfg := mkC tys layout_widths_f
noncomputable def layout_widths_b : Code := match Try.f48.body with | some c => c | none => .skip
noncomputable def layout_widths_L : Cuts := mkL [] []
theorem layout_widths_lo : LoopsOK layout_widths_C layout_widths_L layout_widths_b := (show LoopsOK layout_widths_C layout_widths_L layout_widths_b = True by kernel_rfl).mpr trivial
theorem layout_widths_jo : JoinsOK layout_widths_C layout_widths_L layout_widths_b := (show JoinsOK layout_widths_C layout_widths_L layout_widths_b = True by kernel_rfl).mpr trivial
theorem layout_widths_ro : RngsOK layout_widths_C layout_widths_L layout_widths_b :=
  (show RngsOK layout_widths_C layout_widths_L layout_widths_b = (True) by kernel_rfl).mpr trivial
theorem layout_widths_ok : EntOK Try.prog 48 layout_widths_e :=
  entOf_ok (e := evFn layout_widths_C layout_widths_L Try.f48) (fun v n K => Eq.trans (layout_widths_def (fun (r0 : (List Int)) => K (.t true (.arr 13 (.int .i64)) r0) [])) (by kernel_rfl)) (evFn_ok (mkC_all (fns := layout_widths_f) tys_ok trivial mixed) Try.func48 (show Try.f48.body = some layout_widths_b by kernel_rfl) ⟨layout_widths_lo, layout_widths_jo, by kernel_rfl, layout_widths_ro⟩)

noncomputable def layout_Width_e : Ent := entOf [.tm (.int .i64)] fun (v : Int × Unit) n K => layout_Width v.1 (fun (r0 : Int) => K (.t true (.int .i64) r0) [])
noncomputable def layout_Width_f : List (Nat × Ent) := [(48, layout_widths_e)]
noncomputable def layout_Width_C : Cfg := mkC tys layout_Width_f
noncomputable def layout_Width_b : Code := match Try.f20.body with | some c => c | none => .skip
noncomputable def layout_Width_L : Cuts := mkL [] []
theorem layout_Width_lo : LoopsOK layout_Width_C layout_Width_L layout_Width_b := (show LoopsOK layout_Width_C layout_Width_L layout_Width_b = True by kernel_rfl).mpr trivial
theorem layout_Width_jo : JoinsOK layout_Width_C layout_Width_L layout_Width_b := (show JoinsOK layout_Width_C layout_Width_L layout_Width_b = True by kernel_rfl).mpr trivial
theorem layout_Width_ro : RngsOK layout_Width_C layout_Width_L layout_Width_b :=
  (show RngsOK layout_Width_C layout_Width_L layout_Width_b = (True) by kernel_rfl).mpr trivial
theorem layout_Width_ok : EntOK Try.prog 20 layout_Width_e :=
  entOf_ok (e := evFn layout_Width_C layout_Width_L Try.f20) (fun v n K => Eq.trans (layout_Width_def v.1 (fun (r0 : Int) => K (.t true (.int .i64) r0) [])) (by kernel_rfl)) (evFn_ok (mkC_all (fns := layout_Width_f) tys_ok ⟨⟨layout_widths_ok, Try.call48⟩, trivial⟩ mixed) Try.func20 (show Try.f20.body = some layout_Width_b by kernel_rfl) ⟨layout_Width_lo, layout_Width_jo, by kernel_rfl, layout_Width_ro⟩)

noncomputable def layout_bands_e : Ent := entOf [] fun (v : Unit) n K => layout_bands (K (.fn 60 []) [])
noncomputable def layout_bands_f : List (Nat × Ent) := []
noncomputable def layout_bands_C : Cfg := mkC tys layout_bands_f
noncomputable def layout_bands_b : Code := match Try.f49.body with | some c => c | none => .skip
noncomputable def layout_bands_L : Cuts := mkL [] []
theorem layout_bands_lo : LoopsOK layout_bands_C layout_bands_L layout_bands_b := (show LoopsOK layout_bands_C layout_bands_L layout_bands_b = True by kernel_rfl).mpr trivial
theorem layout_bands_jo : JoinsOK layout_bands_C layout_bands_L layout_bands_b := (show JoinsOK layout_bands_C layout_bands_L layout_bands_b = True by kernel_rfl).mpr trivial
theorem layout_bands_ro : RngsOK layout_bands_C layout_bands_L layout_bands_b :=
  (show RngsOK layout_bands_C layout_bands_L layout_bands_b = (True) by kernel_rfl).mpr trivial
theorem layout_bands_ok : EntOK Try.prog 49 layout_bands_e :=
  entOf_ok (e := evFn layout_bands_C layout_bands_L Try.f49) (fun v n K => Eq.trans (layout_bands_def (K (.fn 60 []) [])) (by kernel_rfl)) (evFn_ok (mkC_all (fns := layout_bands_f) tys_ok trivial mixed) Try.func49 (show Try.f49.body = some layout_bands_b by kernel_rfl) ⟨layout_bands_lo, layout_bands_jo, by kernel_rfl, layout_bands_ro⟩)

noncomputable def It_layout_bands_1_e : ItE := itOf [] [(true, (.int .i64)), (true, (.int .i64))] fun (cv : Unit) (S : Type) (rd : (Int × Int × Unit) → S → (Bool → S → Prop) → Prop) (s : S) (K : S → Prop) => It_layout_bands_1 S rd s K
noncomputable def It_layout_bands_1_f : List (Nat × Ent) := [(48, layout_widths_e)]
noncomputable def It_layout_bands_1_C : Cfg := mkC tys It_layout_bands_1_f
noncomputable def It_layout_bands_1_b : Code := match Try.f60.body with | some c => c | none => .skip
def It_layout_bands_1_y0 : Lay := ⟨18, [(2, .tm true (.int .i64)), (5, .tm true (.arr 13 (.int .i64))), (6, .tm true (.int .i64))], []⟩
def It_layout_bands_1_y1 : Lay := ⟨18, [], []⟩
noncomputable def It_layout_bands_1_l2_F (k : Nat) (v : (Int × (List Int) × Int × Unit) × (Unit)) (S : Type) (rd : Rnd S) (s : S) (K : KI S) : Prop := It_layout_bands_1_l2 S (fun x => rd (clV [(true, (.int .i64)), (true, (.int .i64))] x)) k v.1.1 v.1.2.1 v.1.2.2.1 s (fun  (s1 : S) => K .ret (st It_layout_bands_1_y1 ((()), (()))) s1) (fun  (s1 : S) => K (.exit 0) (st It_layout_bands_1_y1 ((()), (()))) s1)
noncomputable def It_layout_bands_1_l2_c : ICut := ⟨It_layout_bands_1_y0, fun o => match o with | .ret => some It_layout_bands_1_y1 | .exit 0 => some It_layout_bands_1_y1 | _ => none, fun (v : (Int × (List Int) × Int × Unit) × (Unit)) S rd s K => ∃ k, It_layout_bands_1_l2_F k v S rd s K⟩
noncomputable def It_layout_bands_1_L : ICuts := icL [(2, It_layout_bands_1_l2_c)]
theorem It_layout_bands_1_lo : AllL (fun p => ∀ cut, It_layout_bands_1_L p.1 = some cut → IterOK It_layout_bands_1_C It_layout_bands_1_L cut p.2) (loopsOf It_layout_bands_1_b) :=
  (show AllL (fun p => ∀ cut, It_layout_bands_1_L p.1 = some cut → IterOK It_layout_bands_1_C It_layout_bands_1_L cut p.2) (loopsOf It_layout_bands_1_b) = ((∀ cut, It_layout_bands_1_L 2 = some cut → IterOK It_layout_bands_1_C It_layout_bands_1_L cut (nthB (loopsOf It_layout_bands_1_b) 0)) ∧ True) by kernel_rfl).mpr ⟨of_some (a := It_layout_bands_1_l2_c) (by kernel_rfl) ⟨It_layout_bands_1_l2_F, fun v S rd s K => by kernel_rfl, fun v S rd s K => by kernel_rfl, fun k v S rd s K => by kernel_rfl⟩, trivial⟩
theorem It_layout_bands_1_ok : ItAll Try.prog 60 It_layout_bands_1_e :=
  itOf_ok (e := evItFn It_layout_bands_1_C It_layout_bands_1_L Try.f60) (fun cv S rd s K => Eq.trans (It_layout_bands_1_def S (fun x => rd (clV [(true, (.int .i64)), (true, (.int .i64))] x)) s K) (by kernel_rfl)) (itFn_ok (mkC_all (fns := It_layout_bands_1_f) tys_ok ⟨⟨layout_widths_ok, Try.call48⟩, trivial⟩ mixed) Try.func60 (show Try.f60.body = some It_layout_bands_1_b by kernel_rfl) (by kernel_rfl) ⟨It_layout_bands_1_lo, by kernel_rfl, by kernel_rfl⟩)

noncomputable def layout_Start_e : Ent := entOf [.tm (.int .i64)] fun (v : Int × Unit) n K => layout_Start v.1 (fun (r0 : Int) => K (.t true (.int .i64) r0) [])
noncomputable def layout_Start_f : List (Nat × Ent) := [(49, layout_bands_e)]
noncomputable def layout_Start_i : List (Nat × ItE) := [(60, It_layout_bands_1_e)]
noncomputable def layout_Start_C : Cfg := mkCI tys [] layout_Start_i layout_Start_f
noncomputable def layout_Start_b : Code := match Try.f22.body with | some c => c | none => .skip
def layout_Start_y0 : Lay := ⟨12, [(1, .fx (.op 0 (.int .i64) [])), (2, .fx (.op 1 (.int .i64) []))], [.val true true 3 (.int .i64), .val true true 3 (.int .i64)]⟩
def layout_Start_y1 : Lay := ⟨12, [(2, .fx (.op 0 (.int .i64) []))], [.val true true 3 (.int .i64)]⟩
noncomputable def layout_Start_r2_c : RCut := ⟨60, [], [(true, (.int .i64)), (true, (.int .i64))], layout_Start_y0, [(.ret, layout_Start_y1)], fun (cv : Unit) (v : (Unit) × (Int × Int × Unit)) (K : KK) => layout_Start_r2 v.2.1 v.2.2.1 (fun (y0 : Int) (y1 : Int) => K .nrm (st layout_Start_y0 ((()), (y0, y1, ())))) (fun (y0 : Int) => K .ret (st layout_Start_y1 ((()), (y0, ()))))⟩
noncomputable def layout_Start_L : Cuts := { loop := lpL [], join := lpL [], rng := rcL [(2, layout_Start_r2_c)], bad := fun i => nmem i [], stl := none }
theorem layout_Start_lo : LoopsOK layout_Start_C layout_Start_L layout_Start_b := (show LoopsOK layout_Start_C layout_Start_L layout_Start_b = True by kernel_rfl).mpr trivial
theorem layout_Start_jo : JoinsOK layout_Start_C layout_Start_L layout_Start_b := (show JoinsOK layout_Start_C layout_Start_L layout_Start_b = True by kernel_rfl).mpr trivial
theorem layout_Start_ro : RngsOK layout_Start_C layout_Start_L layout_Start_b :=
  (show RngsOK layout_Start_C layout_Start_L layout_Start_b = ((∀ cut, layout_Start_L.rng 2 = some cut → RngOK layout_Start_C layout_Start_L cut (nthR (rangesOf layout_Start_b) 0).1 (nthR (rangesOf layout_Start_b) 0).2.1 (nthR (rangesOf layout_Start_b) 0).2.2) ∧ True) by kernel_rfl).mpr ⟨of_some (a := layout_Start_r2_c) (by kernel_rfl) ⟨by kernel_rfl, fun cv v K => by kernel_rfl⟩, trivial⟩
theorem layout_Start_ok : EntOK Try.prog 22 layout_Start_e :=
  entOf_ok (e := evFn layout_Start_C layout_Start_L Try.f22) (fun v n K => Eq.trans (layout_Start_def v.1 (fun (r0 : Int) => K (.t true (.int .i64) r0) [])) (by kernel_rfl)) (evFn_ok (mkCI_all (eqs := []) (its := layout_Start_i) (fns := layout_Start_f) tys_ok trivial ⟨⟨It_layout_bands_1_ok, Try.call60⟩, trivial⟩ ⟨⟨layout_bands_ok, Try.call49⟩, trivial⟩ mixed) Try.func22 (show Try.f22.body = some layout_Start_b by kernel_rfl) ⟨layout_Start_lo, layout_Start_jo, by kernel_rfl, layout_Start_ro⟩)

noncomputable def layout_Of_e : Ent := entOf [.tm (.int .i64)] fun (v : Int × Unit) n K => layout_Of v.1 (fun (r0 : Int) => K (.t true (.int .i64) r0) [])
noncomputable def layout_Of_f : List (Nat × Ent) := [(49, layout_bands_e)]
noncomputable def layout_Of_i : List (Nat × ItE) := [(60, It_layout_bands_1_e)]
noncomputable def layout_Of_C : Cfg := mkCI tys [] layout_Of_i layout_Of_f
noncomputable def layout_Of_b : Code := match Try.f24.body with | some c => c | none => .skip
def layout_Of_y0 : Lay := ⟨22, [(1, .fx (.op 0 (.int .i64) [])), (2, .fx (.op 1 (.int .i64) [])), (3, .fx (.op 2 (.int .i64) [])), (18, .tm true .bool)], [.val true true 3 (.int .i64), .val true true 3 (.int .i64), .val true true 3 (.int .i64)]⟩
def layout_Of_y1 : Lay := ⟨22, [(2, .fx (.op 0 (.int .i64) []))], [.val true true 3 (.int .i64)]⟩
def layout_Of_y2 : Lay := ⟨22, [(1, .fx (.op 0 (.int .i64) [])), (2, .fx (.op 1 (.int .i64) [])), (3, .fx (.op 2 (.int .i64) []))], [.val true true 3 (.int .i64), .val true true 3 (.int .i64), .val true true 3 (.int .i64)]⟩
noncomputable def layout_Of_j6_c : Cut := ⟨layout_Of_y0, fun o => match o with | .ret => some layout_Of_y1 | .nrm => some layout_Of_y2 | _ => none, fun (v : (Bool × Unit) × (Int × Int × Int × Unit)) (K : KK) => layout_Of_j6 v.1.1 v.2.1 v.2.2.1 v.2.2.2.1 (fun (y0 : Int) => K .ret (st layout_Of_y1 ((()), (y0, ())))) (fun (y0 : Int) (y1 : Int) (y2 : Int) => K .nrm (st layout_Of_y2 ((()), (y0, y1, y2, ()))))⟩
noncomputable def layout_Of_r3_c : RCut := ⟨60, [], [(true, (.int .i64)), (true, (.int .i64))], layout_Of_y2, [(.ret, layout_Of_y1)], fun (cv : Unit) (v : (Unit) × (Int × Int × Int × Unit)) (K : KK) => layout_Of_r3 v.2.1 v.2.2.1 v.2.2.2.1 (fun (y0 : Int) (y1 : Int) (y2 : Int) => K .nrm (st layout_Of_y2 ((()), (y0, y1, y2, ())))) (fun (y0 : Int) => K .ret (st layout_Of_y1 ((()), (y0, ()))))⟩
noncomputable def layout_Of_L : Cuts := { loop := lpL [], join := lpL [(6, layout_Of_j6_c)], rng := rcL [(3, layout_Of_r3_c)], bad := fun i => nmem i [], stl := none }
theorem layout_Of_lo : LoopsOK layout_Of_C layout_Of_L layout_Of_b := (show LoopsOK layout_Of_C layout_Of_L layout_Of_b = True by kernel_rfl).mpr trivial
theorem layout_Of_jo : JoinsOK layout_Of_C layout_Of_L layout_Of_b :=
  (show JoinsOK layout_Of_C layout_Of_L layout_Of_b = ((JoinOK layout_Of_C layout_Of_L layout_Of_j6_c (nthB (joinsOf layout_Of_L layout_Of_b) 0) ∧ True) ∧ True) by kernel_rfl).mpr ⟨⟨fun v K => by kernel_rfl, trivial⟩, trivial⟩
theorem layout_Of_ro : RngsOK layout_Of_C layout_Of_L layout_Of_b :=
  (show RngsOK layout_Of_C layout_Of_L layout_Of_b = ((∀ cut, layout_Of_L.rng 3 = some cut → RngOK layout_Of_C layout_Of_L cut (nthR (rangesOf layout_Of_b) 0).1 (nthR (rangesOf layout_Of_b) 0).2.1 (nthR (rangesOf layout_Of_b) 0).2.2) ∧ True) by kernel_rfl).mpr ⟨of_some (a := layout_Of_r3_c) (by kernel_rfl) ⟨by kernel_rfl, fun cv v K => by kernel_rfl⟩, trivial⟩
theorem layout_Of_ok : EntOK Try.prog 24 layout_Of_e :=
  entOf_ok (e := evFn layout_Of_C layout_Of_L Try.f24) (fun v n K => Eq.trans (layout_Of_def v.1 (fun (r0 : Int) => K (.t true (.int .i64) r0) [])) (by kernel_rfl)) (evFn_ok (mkCI_all (eqs := []) (its := layout_Of_i) (fns := layout_Of_f) tys_ok trivial ⟨⟨It_layout_bands_1_ok, Try.call60⟩, trivial⟩ ⟨⟨layout_bands_ok, Try.call49⟩, trivial⟩ mixed) Try.func24 (show Try.f24.body = some layout_Of_b by kernel_rfl) ⟨layout_Of_lo, layout_Of_jo, by kernel_rfl, layout_Of_ro⟩)

noncomputable def slices_Clone___int_int__e : Ent := entOf [.tm (.sl (.int .i64))] fun (v : (List Int) × Unit) n K => slices_Clone___int_int_ v.1 (fun (r0 : (List Int)) => K (.os (n + 0)) [.val true true 3 (.row (.int .i64)) r0])
noncomputable def slices_Clone___int_int__f : List (Nat × Ent) := []
noncomputable def slices_Clone___int_int__C : Cfg := mkC tys slices_Clone___int_int__f
noncomputable def slices_Clone___int_int__b : Code := match Try.f50.body with | some c => c | none => .skip
noncomputable def slices_Clone___int_int__L : Cuts := mkL [] []
theorem slices_Clone___int_int__lo : LoopsOK slices_Clone___int_int__C slices_Clone___int_int__L slices_Clone___int_int__b := (show LoopsOK slices_Clone___int_int__C slices_Clone___int_int__L slices_Clone___int_int__b = True by kernel_rfl).mpr trivial
theorem slices_Clone___int_int__jo : JoinsOK slices_Clone___int_int__C slices_Clone___int_int__L slices_Clone___int_int__b := (show JoinsOK slices_Clone___int_int__C slices_Clone___int_int__L slices_Clone___int_int__b = True by kernel_rfl).mpr trivial
theorem slices_Clone___int_int__ro : RngsOK slices_Clone___int_int__C slices_Clone___int_int__L slices_Clone___int_int__b :=
  (show RngsOK slices_Clone___int_int__C slices_Clone___int_int__L slices_Clone___int_int__b = (True) by kernel_rfl).mpr trivial
theorem slices_Clone___int_int__ok : EntOK Try.prog 50 slices_Clone___int_int__e :=
  entOf_ok (e := evFn slices_Clone___int_int__C slices_Clone___int_int__L Try.f50) (fun v n K => Eq.trans (slices_Clone___int_int__def v.1 (fun (r0 : (List Int)) => K (.os (n + 0)) [.val true true 3 (.row (.int .i64)) r0])) (by kernel_rfl)) (evFn_ok (mkC_all (fns := slices_Clone___int_int__f) tys_ok trivial mixed) Try.func50 (show Try.f50.body = some slices_Clone___int_int__b by kernel_rfl) ⟨slices_Clone___int_int__lo, slices_Clone___int_int__jo, by kernel_rfl, slices_Clone___int_int__ro⟩)

noncomputable def layout_Cut_e : Ent := entOf [.tm (.sl (.int .i64))] fun (v : (List Int) × Unit) n K => layout_Cut v.1 (K (.ns) []) (fun (r0 : (List (List Int))) => K (.os (n + 0)) [.val true true 22 (.row (.sl (.int .i64))) r0])
noncomputable def layout_Cut_f : List (Nat × Ent) := [(49, layout_bands_e), (50, slices_Clone___int_int__e)]
noncomputable def layout_Cut_i : List (Nat × ItE) := [(60, It_layout_bands_1_e)]
noncomputable def layout_Cut_C : Cfg := mkCI tys [] layout_Cut_i layout_Cut_f
noncomputable def layout_Cut_b : Code := match Try.f27.body with | some c => c | none => .skip
def layout_Cut_y0 : Lay := ⟨23, [(1, .fx (.op 0 (.sl (.int .i64)) [])), (3, .fx (.op 1 (.sl (.sl (.int .i64))) []))], [.val true false 22 (.sl (.int .i64)), .av (.os 2), .val true true 22 (.row (.sl (.int .i64)))]⟩
noncomputable def layout_Cut_r5_c : RCut := ⟨60, [], [(true, (.int .i64)), (true, (.int .i64))], layout_Cut_y0, [], fun (cv : Unit) (v : (Unit) × ((List Int) × (List (List Int)) × Unit)) (K : KK) => layout_Cut_r5 v.2.1 v.2.2.1 (fun (y0 : (List Int)) (y1 : (List (List Int))) => K .nrm (st layout_Cut_y0 ((()), (y0, y1, ()))))⟩
noncomputable def layout_Cut_L : Cuts := { loop := lpL [], join := lpL [], rng := rcL [(5, layout_Cut_r5_c)], bad := fun i => nmem i [], stl := none }
theorem layout_Cut_lo : LoopsOK layout_Cut_C layout_Cut_L layout_Cut_b := (show LoopsOK layout_Cut_C layout_Cut_L layout_Cut_b = True by kernel_rfl).mpr trivial
theorem layout_Cut_jo : JoinsOK layout_Cut_C layout_Cut_L layout_Cut_b := (show JoinsOK layout_Cut_C layout_Cut_L layout_Cut_b = True by kernel_rfl).mpr trivial
theorem layout_Cut_ro : RngsOK layout_Cut_C layout_Cut_L layout_Cut_b :=
  (show RngsOK layout_Cut_C layout_Cut_L layout_Cut_b = ((∀ cut, layout_Cut_L.rng 5 = some cut → RngOK layout_Cut_C layout_Cut_L cut (nthR (rangesOf layout_Cut_b) 0).1 (nthR (rangesOf layout_Cut_b) 0).2.1 (nthR (rangesOf layout_Cut_b) 0).2.2) ∧ True) by kernel_rfl).mpr ⟨of_some (a := layout_Cut_r5_c) (by kernel_rfl) ⟨by kernel_rfl, fun cv v K => by kernel_rfl⟩, trivial⟩
theorem layout_Cut_ok : EntOK Try.prog 27 layout_Cut_e :=
  entOf_ok (e := evFn layout_Cut_C layout_Cut_L Try.f27) (fun v n K => Eq.trans (layout_Cut_def v.1 (K (.ns) []) (fun (r0 : (List (List Int))) => K (.os (n + 0)) [.val true true 22 (.row (.sl (.int .i64))) r0])) (by kernel_rfl)) (evFn_ok (mkCI_all (eqs := []) (its := layout_Cut_i) (fns := layout_Cut_f) tys_ok trivial ⟨⟨It_layout_bands_1_ok, Try.call60⟩, trivial⟩ ⟨⟨layout_bands_ok, Try.call49⟩, ⟨slices_Clone___int_int__ok, Try.call50⟩, trivial⟩ mixed) Try.func27 (show Try.f27.body = some layout_Cut_b by kernel_rfl) ⟨layout_Cut_lo, layout_Cut_jo, by kernel_rfl, layout_Cut_ro⟩)

end
end Go.Eng.A
