/- Each of these functions is what the program computes: printed by program. -/
import Derived.Test.YtkgapcdnpcjcmaaEngT
import Derived.Test.YtkgapcdnpcjcmaaLayoutTellsP
import Derived.Test.YtkgapcdnpcjcmaaProg
import Derived.Test.YtkgapcdnpcjcmaaLayoutTellsTb
set_option linter.unusedVariables false
set_option maxRecDepth 100000
namespace Go.Eng.A
open Go Go.Eng Go.Proofs
noncomputable section

noncomputable def slices_Concat___int_int__e : Ent := entOf [.tm (.sl (.sl (.int .i64)))] fun (v : (List (List Int)) × Unit) n K => slices_Concat___int_int_ v.1 (fun (r0 : (List Int)) => K (.os (n + 0)) [.val true true 3 (.row (.int .i64)) r0])
noncomputable def slices_Concat___int_int__f : List (Nat × Ent) := [(61, slices_Grow___int_int___nil0_e)]
noncomputable def slices_Concat___int_int__C : Cfg := mkCR tys [] [] [61] false slices_Concat___int_int__f
noncomputable def slices_Concat___int_int__b : Code := match Try.f51.body with | some c => c | none => .skip
def slices_Concat___int_int__y0 : Lay := ⟨36, [(0, .tm false (.sl (.sl (.int .i64)))), (3, .tm true (.int .i64)), (9, .tm false (.sl (.sl (.int .i64)))), (10, .tm true (.int .i64)), (11, .tm true (.int .i64))], []⟩
def slices_Concat___int_int__y1 : Lay := ⟨36, [(0, .tm false (.sl (.sl (.int .i64)))), (3, .tm true (.int .i64))], []⟩
noncomputable def slices_Concat___int_int__l3_F (k : Nat) (v : ((List (List Int)) × Int × (List (List Int)) × Int × Int × Unit) × (Unit)) (K : KK) : Prop := slices_Concat___int_int__l3 k v.1.1 v.1.2.1 v.1.2.2.1 v.1.2.2.2.1 v.1.2.2.2.2.1 (fun (y0 : (List (List Int))) (y1 : Int) => K (.exit 0) (st slices_Concat___int_int__y1 ((y0, y1, ()), (()))))
noncomputable def slices_Concat___int_int__l3_c : Cut := ⟨slices_Concat___int_int__y0, fun o => match o with | .exit 0 => some slices_Concat___int_int__y1 | _ => none, fun (v : ((List (List Int)) × Int × (List (List Int)) × Int × Int × Unit) × (Unit)) K => ∃ k, slices_Concat___int_int__l3_F k v K⟩
def slices_Concat___int_int__y2 : Lay := ⟨36, [(6, .fx (.os 0)), (25, .tm false (.sl (.sl (.int .i64)))), (26, .tm true (.int .i64)), (27, .tm true (.int .i64))], [.val true true 3 (.row (.int .i64))]⟩
def slices_Concat___int_int__y3 : Lay := ⟨36, [(6, .fx (.os 0))], [.val true true 3 (.row (.int .i64))]⟩
noncomputable def slices_Concat___int_int__l11_F (k : Nat) (v : ((List (List Int)) × Int × Int × Unit) × ((List Int) × Unit)) (K : KK) : Prop := slices_Concat___int_int__l11 k v.1.1 v.1.2.1 v.1.2.2.1 v.2.1 (fun (y0 : (List Int)) => K (.exit 2) (st slices_Concat___int_int__y3 ((()), (y0, ()))))
noncomputable def slices_Concat___int_int__l11_c : Cut := ⟨slices_Concat___int_int__y2, fun o => match o with | .exit 2 => some slices_Concat___int_int__y3 | _ => none, fun (v : ((List (List Int)) × Int × Int × Unit) × ((List Int) × Unit)) K => ∃ k, slices_Concat___int_int__l11_F k v K⟩
def slices_Concat___int_int__y4 : Lay := ⟨36, [(0, .tm false (.sl (.sl (.int .i64)))), (6, .fx (.os 0))], [.val true true 3 (.row (.int .i64))]⟩
def slices_Concat___int_int__y5 : Lay := ⟨36, [(2, .fx (.os 0))], [.val true true 3 (.row (.int .i64))]⟩
noncomputable def slices_Concat___int_int__j10_c : Cut := ⟨slices_Concat___int_int__y4, fun o => match o with | .ret => some slices_Concat___int_int__y5 | _ => none, fun (v : ((List (List Int)) × Unit) × ((List Int) × Unit)) (K : KK) => slices_Concat___int_int__j10 v.1.1 v.2.1 (fun (y0 : (List Int)) => K .ret (st slices_Concat___int_int__y5 ((()), (y0, ()))))⟩
noncomputable def slices_Concat___int_int__L : Cuts := { loop := lpL [(3, slices_Concat___int_int__l3_c), (11, slices_Concat___int_int__l11_c)], join := lpL [(10, slices_Concat___int_int__j10_c)], rng := rcL [], bad := fun i => nmem i [7], stl := none }
theorem slices_Concat___int_int__lo : LoopsOK slices_Concat___int_int__C slices_Concat___int_int__L slices_Concat___int_int__b :=
  (show LoopsOK slices_Concat___int_int__C slices_Concat___int_int__L slices_Concat___int_int__b = ((LoopOK slices_Concat___int_int__C slices_Concat___int_int__L slices_Concat___int_int__l3_c (nthB (loopsOf slices_Concat___int_int__b) 0) ∧ True) ∧ (LoopOK slices_Concat___int_int__C slices_Concat___int_int__L slices_Concat___int_int__l11_c (nthB (loopsOf slices_Concat___int_int__b) 1) ∧ True) ∧ True) by kernel_rfl).mpr ⟨⟨⟨slices_Concat___int_int__l3_F, fun v K => by kernel_rfl, fun v K => by kernel_rfl, fun k v K => by kernel_rfl⟩, trivial⟩, ⟨⟨slices_Concat___int_int__l11_F, fun v K => by kernel_rfl, fun v K => by kernel_rfl, fun k v K => by kernel_rfl⟩, trivial⟩, trivial⟩
theorem slices_Concat___int_int__jo : JoinsOK slices_Concat___int_int__C slices_Concat___int_int__L slices_Concat___int_int__b :=
  (show JoinsOK slices_Concat___int_int__C slices_Concat___int_int__L slices_Concat___int_int__b = ((JoinOK slices_Concat___int_int__C slices_Concat___int_int__L slices_Concat___int_int__j10_c (nthB (joinsOf slices_Concat___int_int__L slices_Concat___int_int__b) 0) ∧ True) ∧ True) by kernel_rfl).mpr ⟨⟨fun v K => by kernel_rfl, trivial⟩, trivial⟩
theorem slices_Concat___int_int__ro : RngsOK slices_Concat___int_int__C slices_Concat___int_int__L slices_Concat___int_int__b :=
  (show RngsOK slices_Concat___int_int__C slices_Concat___int_int__L slices_Concat___int_int__b = (True) by kernel_rfl).mpr trivial
theorem slices_Concat___int_int__ok : EntOK Try.prog 51 slices_Concat___int_int__e :=
  entOf_ok (e := evFn slices_Concat___int_int__C slices_Concat___int_int__L Try.f51) (fun v n K => Eq.trans (slices_Concat___int_int__def v.1 (fun (r0 : (List Int)) => K (.os (n + 0)) [.val true true 3 (.row (.int .i64)) r0])) (by kernel_rfl)) (evFn_ok (mkCR_all (eqs := []) (its := []) (raws := [61]) (tr := false) (fns := slices_Concat___int_int__f) tys_ok trivial trivial ⟨⟨slices_Grow___int_int___nil0_ok, Try.call61⟩, trivial⟩ mixed) Try.func51 (show Try.f51.body = some slices_Concat___int_int__b by kernel_rfl) ⟨slices_Concat___int_int__lo, slices_Concat___int_int__jo, by kernel_rfl, slices_Concat___int_int__ro⟩)

noncomputable def layout_Join_e : Ent := entOf [.tm (.sl (.sl (.int .i64)))] fun (v : (List (List Int)) × Unit) n K => layout_Join v.1 (K (.ns) []) (fun (r0 : (List Int)) => K (.os (n + 0)) [.val true true 3 (.row (.int .i64)) r0])
noncomputable def layout_Join_f : List (Nat × Ent) := [(20, layout_Width_e), (51, slices_Concat___int_int__e)]
noncomputable def layout_Join_C : Cfg := mkC tys layout_Join_f
noncomputable def layout_Join_b : Code := match Try.f30.body with | some c => c | none => .skip
def layout_Join_y0 : Lay := ⟨23, [(0, .tm false (.sl (.sl (.int .i64)))), (8, .tm false (.sl (.sl (.int .i64)))), (9, .tm true (.int .i64)), (10, .tm true (.int .i64))], []⟩
def layout_Join_y1 : Lay := ⟨23, [(2, .fx .ns)], []⟩
def layout_Join_y2 : Lay := ⟨23, [(0, .tm false (.sl (.sl (.int .i64))))], []⟩
noncomputable def layout_Join_l4_F (k : Nat) (v : ((List (List Int)) × (List (List Int)) × Int × Int × Unit) × (Unit)) (K : KK) : Prop := layout_Join_l4 k v.1.1 v.1.2.1 v.1.2.2.1 v.1.2.2.2.1 (K .ret (st layout_Join_y1 ((()), (())))) (fun (y0 : (List (List Int))) => K (.exit 0) (st layout_Join_y2 ((y0, ()), (()))))
noncomputable def layout_Join_l4_c : Cut := ⟨layout_Join_y0, fun o => match o with | .ret => some layout_Join_y1 | .exit 0 => some layout_Join_y2 | _ => none, fun (v : ((List (List Int)) × (List (List Int)) × Int × Int × Unit) × (Unit)) K => ∃ k, layout_Join_l4_F k v K⟩
noncomputable def layout_Join_L : Cuts := mkL [(4, layout_Join_l4_c)] []
theorem layout_Join_lo : LoopsOK layout_Join_C layout_Join_L layout_Join_b :=
  (show LoopsOK layout_Join_C layout_Join_L layout_Join_b = ((LoopOK layout_Join_C layout_Join_L layout_Join_l4_c (nthB (loopsOf layout_Join_b) 0) ∧ True) ∧ True) by kernel_rfl).mpr ⟨⟨⟨layout_Join_l4_F, fun v K => by kernel_rfl, fun v K => by kernel_rfl, fun k v K => by kernel_rfl⟩, trivial⟩, trivial⟩
theorem layout_Join_jo : JoinsOK layout_Join_C layout_Join_L layout_Join_b := (show JoinsOK layout_Join_C layout_Join_L layout_Join_b = True by kernel_rfl).mpr trivial
theorem layout_Join_ro : RngsOK layout_Join_C layout_Join_L layout_Join_b :=
  (show RngsOK layout_Join_C layout_Join_L layout_Join_b = (True) by kernel_rfl).mpr trivial
theorem layout_Join_ok : EntOK Try.prog 30 layout_Join_e :=
  entOf_ok (e := evFn layout_Join_C layout_Join_L Try.f30) (fun v n K => Eq.trans (layout_Join_def v.1 (K (.ns) []) (fun (r0 : (List Int)) => K (.os (n + 0)) [.val true true 3 (.row (.int .i64)) r0])) (by kernel_rfl)) (evFn_ok (mkC_all (fns := layout_Join_f) tys_ok ⟨⟨layout_Width_ok, Try.call20⟩, ⟨slices_Concat___int_int__ok, Try.call51⟩, trivial⟩ mixed) Try.func30 (show Try.f30.body = some layout_Join_b by kernel_rfl) ⟨layout_Join_lo, layout_Join_jo, by kernel_rfl, layout_Join_ro⟩)

noncomputable def R13_Join_e : Ent := entOf [.tm (.sl (.sl (.int .i64)))] fun (v : (List (List Int)) × Unit) n K => R13_Join v.1 (K (.ns) []) (fun (r0 : (List Int)) => K (.os (n + 0)) [.val true true 3 (.row (.int .i64)) r0])
noncomputable def R13_Join_f : List (Nat × Ent) := [(21, R13_Width_e)]
noncomputable def R13_Join_C : Cfg := mkC tys R13_Join_f
noncomputable def R13_Join_b : Code := match Try.f31.body with | some c => c | none => .skip
def R13_Join_y0 : Lay := ⟨27, [(0, .tm false (.sl (.sl (.int .i64)))), (3, .fx (.os 0)), (4, .tm true (.int .i64))], [.val true true 3 (.row (.int .i64))]⟩
def R13_Join_y1 : Lay := ⟨27, [(2, .fx .ns)], []⟩
def R13_Join_y2 : Lay := ⟨27, [(3, .fx (.os 0))], [.val true true 3 (.row (.int .i64))]⟩
noncomputable def R13_Join_l5_F (k : Nat) (v : ((List (List Int)) × Int × Unit) × ((List Int) × Unit)) (K : KK) : Prop := R13_Join_l5 k v.1.1 v.1.2.1 v.2.1 (K .ret (st R13_Join_y1 ((()), (())))) (fun (y0 : (List Int)) => K (.exit 0) (st R13_Join_y2 ((()), (y0, ()))))
noncomputable def R13_Join_l5_c : Cut := ⟨R13_Join_y0, fun o => match o with | .ret => some R13_Join_y1 | .exit 0 => some R13_Join_y2 | _ => none, fun (v : ((List (List Int)) × Int × Unit) × ((List Int) × Unit)) K => ∃ k, R13_Join_l5_F k v K⟩
noncomputable def R13_Join_L : Cuts := mkL [(5, R13_Join_l5_c)] []
theorem R13_Join_lo : LoopsOK R13_Join_C R13_Join_L R13_Join_b :=
  (show LoopsOK R13_Join_C R13_Join_L R13_Join_b = ((LoopOK R13_Join_C R13_Join_L R13_Join_l5_c (nthB (loopsOf R13_Join_b) 0) ∧ True) ∧ True) by kernel_rfl).mpr ⟨⟨⟨R13_Join_l5_F, fun v K => by kernel_rfl, fun v K => by kernel_rfl, fun k v K => by kernel_rfl⟩, trivial⟩, trivial⟩
theorem R13_Join_jo : JoinsOK R13_Join_C R13_Join_L R13_Join_b := (show JoinsOK R13_Join_C R13_Join_L R13_Join_b = True by kernel_rfl).mpr trivial
theorem R13_Join_ro : RngsOK R13_Join_C R13_Join_L R13_Join_b :=
  (show RngsOK R13_Join_C R13_Join_L R13_Join_b = (True) by kernel_rfl).mpr trivial
theorem R13_Join_ok : EntOK Try.prog 31 R13_Join_e :=
  entOf_ok (e := evFn R13_Join_C R13_Join_L Try.f31) (fun v n K => Eq.trans (R13_Join_def v.1 (K (.ns) []) (fun (r0 : (List Int)) => K (.os (n + 0)) [.val true true 3 (.row (.int .i64)) r0])) (by kernel_rfl)) (evFn_ok (mkC_all (fns := R13_Join_f) tys_ok ⟨⟨R13_Width_ok, Try.call21⟩, trivial⟩ mixed) Try.func31 (show Try.f31.body = some R13_Join_b by kernel_rfl) ⟨R13_Join_lo, R13_Join_jo, by kernel_rfl, R13_Join_ro⟩)

end
end Go.Eng.A
