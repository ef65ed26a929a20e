/- Each of these functions is what the program computes: printed by program. -/
import Derived.Test.YtniabjhjpkkllaaEngT
import Derived.Test.YtniabjhjpkkllaaDctBackP
import Derived.Test.YtniabjhjpkkllaaProg
import Derived.Test.YtniabjhjpkkllaaDctBackTc
set_option linter.unusedVariables false
set_option maxRecDepth 100000
namespace Go.Eng.A
open Go Go.Eng Go.Proofs
noncomputable section

noncomputable def dct_shifted_e : Ent := entOf [.tm (.ptr (.arr 512 (.int .i64))), .tm (.sl (.int .i64)), .tm (.int .i64)] fun (v : (List Int) × (List Int) × Int × Unit) n K => dct_shifted v.1 v.2.1 v.2.2.1 (fun (r0 : (List Int)) => K (.os (n + 0)) [.val true true 3 (.row (.int .i64)) r0])
noncomputable def dct_shifted_f : List (Nat × Ent) := [(79, dct_angles_e), (80, trig_Table__Cos_e), (81, num_Shr_e)]
noncomputable def dct_shifted_i : List (Nat × ItE) := [(96, It_dct_angles_1_e)]
noncomputable def dct_shifted_C : Cfg := mkCI tys [] dct_shifted_i dct_shifted_f
noncomputable def dct_shifted_b : Code := match Try.f43.body with | some c => c | none => .skip
def dct_shifted_y0 : Lay := ⟨40, [(1, .tm false (.sl (.int .i64))), (2, .tm true (.int .i64)), (3, .fx (.op 0 (.ptr (.arr 512 (.int .i64))) [])), (7, .fx (.os 1)), (8, .tm true (.int .i64)), (9, .fx (.op 2 (.int .i64) [])), (16, .tm true (.int .i64)), (17, .tm true (.int .i64))], [.val true false 25 (.ptr (.arr 512 (.int .i64))), .val true true 3 (.row (.int .i64)), .val true true 3 (.int .i64)]⟩
noncomputable def dct_shifted_r7_c : RCut := ⟨96, [(false, (.ptr (.sl (.int .i64)))), (true, (.ptr (.int .i64)))], [(true, (.int .i64)), (true, (.int .i64))], dct_shifted_y0, [], fun (cv : (List Int) × Int × Unit) (v : ((List Int) × Int × Int × Int × Int × Unit) × ((List Int) × (List Int) × Int × Unit)) (K : KK) => dct_shifted_r7 cv.1 cv.2.1 v.1.1 v.1.2.1 v.1.2.2.1 v.1.2.2.2.1 v.1.2.2.2.2.1 v.2.1 v.2.2.1 v.2.2.2.1 (fun (y0 : (List Int)) (y1 : Int) (y2 : Int) (y3 : Int) (y4 : Int) (y5 : (List Int)) (y6 : (List Int)) (y7 : Int) => K .nrm (st dct_shifted_y0 ((y0, y1, y2, y3, y4, ()), (y5, y6, y7, ()))))⟩
def dct_shifted_y1 : Lay := ⟨40, [(1, .tm false (.sl (.int .i64))), (2, .tm true (.int .i64)), (3, .fx (.op 0 (.ptr (.arr 512 (.int .i64))) [])), (7, .fx (.os 1)), (16, .tm true (.int .i64)), (17, .tm true (.int .i64))], [.val true false 25 (.ptr (.arr 512 (.int .i64))), .val true true 3 (.row (.int .i64))]⟩
def dct_shifted_y2 : Lay := ⟨40, [(7, .fx (.os 0))], [.val true true 3 (.row (.int .i64))]⟩
noncomputable def dct_shifted_l3_F (k : Nat) (v : ((List Int) × Int × Int × Int × Unit) × ((List Int) × (List Int) × Unit)) (K : KK) : Prop := dct_shifted_l3 k v.1.1 v.1.2.1 v.1.2.2.1 v.1.2.2.2.1 v.2.1 v.2.2.1 (fun (y0 : (List Int)) => K (.exit 0) (st dct_shifted_y2 ((()), (y0, ()))))
noncomputable def dct_shifted_l3_c : Cut := ⟨dct_shifted_y1, fun o => match o with | .exit 0 => some dct_shifted_y2 | _ => none, fun (v : ((List Int) × Int × Int × Int × Unit) × ((List Int) × (List Int) × Unit)) K => ∃ k, dct_shifted_l3_F k v K⟩
noncomputable def dct_shifted_L : Cuts := { loop := lpL [(3, dct_shifted_l3_c)], join := lpL [], rng := rcL [(7, dct_shifted_r7_c)], bad := fun i => nmem i [], stl := none }
theorem dct_shifted_lo : LoopsOK dct_shifted_C dct_shifted_L dct_shifted_b :=
  (show LoopsOK dct_shifted_C dct_shifted_L dct_shifted_b = ((LoopOK dct_shifted_C dct_shifted_L dct_shifted_l3_c (nthB (loopsOf dct_shifted_b) 0) ∧ True) ∧ True) by kernel_rfl).mpr ⟨⟨⟨dct_shifted_l3_F, fun v K => by kernel_rfl, fun v K => by kernel_rfl, fun k v K => by kernel_rfl⟩, trivial⟩, trivial⟩
theorem dct_shifted_jo : JoinsOK dct_shifted_C dct_shifted_L dct_shifted_b := (show JoinsOK dct_shifted_C dct_shifted_L dct_shifted_b = True by kernel_rfl).mpr trivial
theorem dct_shifted_ro : RngsOK dct_shifted_C dct_shifted_L dct_shifted_b :=
  (show RngsOK dct_shifted_C dct_shifted_L dct_shifted_b = ((∀ cut, dct_shifted_L.rng 7 = some cut → RngOK dct_shifted_C dct_shifted_L cut (nthR (rangesOf dct_shifted_b) 0).1 (nthR (rangesOf dct_shifted_b) 0).2.1 (nthR (rangesOf dct_shifted_b) 0).2.2) ∧ True) by kernel_rfl).mpr ⟨of_some (a := dct_shifted_r7_c) (by kernel_rfl) ⟨by kernel_rfl, fun cv v K => by kernel_rfl⟩, trivial⟩
theorem dct_shifted_ok : EntOK Try.prog 43 dct_shifted_e :=
  entOf_ok (e := evFn dct_shifted_C dct_shifted_L Try.f43) (fun v n K => Eq.trans (dct_shifted_def v.1 v.2.1 v.2.2.1 (fun (r0 : (List Int)) => K (.os (n + 0)) [.val true true 3 (.row (.int .i64)) r0])) (by kernel_rfl)) (evFn_ok (mkCI_all (eqs := []) (its := dct_shifted_i) (fns := dct_shifted_f) tys_ok trivial ⟨⟨It_dct_angles_1_ok, Try.call96⟩, trivial⟩ ⟨⟨dct_angles_ok, Try.call79⟩, ⟨trig_Table__Cos_ok, Try.call80⟩, ⟨num_Shr_ok, Try.call81⟩, trivial⟩ mixed) Try.func43 (show Try.f43.body = some dct_shifted_b by kernel_rfl) ⟨dct_shifted_lo, dct_shifted_jo, by kernel_rfl, dct_shifted_ro⟩)

noncomputable def dct_Four_e : Ent := entOf [.tm (.ptr (.arr 512 (.int .i64))), .tm (.sl (.int .i64))] fun (v : (List Int) × (List Int) × Unit) n K => dct_Four v.1 v.2.1 (K (.ns) []) (fun (r0 : (List Int)) => K (.os (n + 0)) [.val true true 3 (.row (.int .i64)) r0])
noncomputable def dct_Four_f : List (Nat × Ent) := [(42, dct_right_e), (43, dct_shifted_e)]
noncomputable def dct_Four_C : Cfg := mkC tys dct_Four_f
noncomputable def dct_Four_b : Code := match Try.f14.body with | some c => c | none => .skip
noncomputable def dct_Four_L : Cuts := mkL [] []
theorem dct_Four_lo : LoopsOK dct_Four_C dct_Four_L dct_Four_b := (show LoopsOK dct_Four_C dct_Four_L dct_Four_b = True by kernel_rfl).mpr trivial
theorem dct_Four_jo : JoinsOK dct_Four_C dct_Four_L dct_Four_b := (show JoinsOK dct_Four_C dct_Four_L dct_Four_b = True by kernel_rfl).mpr trivial
theorem dct_Four_ro : RngsOK dct_Four_C dct_Four_L dct_Four_b :=
  (show RngsOK dct_Four_C dct_Four_L dct_Four_b = (True) by kernel_rfl).mpr trivial
theorem dct_Four_ok : EntOK Try.prog 14 dct_Four_e :=
  entOf_ok (e := evFn dct_Four_C dct_Four_L Try.f14) (fun v n K => Eq.trans (dct_Four_def v.1 v.2.1 (K (.ns) []) (fun (r0 : (List Int)) => K (.os (n + 0)) [.val true true 3 (.row (.int .i64)) r0])) (by kernel_rfl)) (evFn_ok (mkC_all (fns := dct_Four_f) tys_ok ⟨⟨dct_right_ok, Try.call42⟩, ⟨dct_shifted_ok, Try.call43⟩, trivial⟩ mixed) Try.func14 (show Try.f14.body = some dct_Four_b by kernel_rfl) ⟨dct_Four_lo, dct_Four_jo, by kernel_rfl, dct_Four_ro⟩)

noncomputable def dct_Back_e : Ent := entOf [.tm (.ptr (.arr 512 (.int .i64))), .tm (.sl (.int .i64))] fun (v : (List Int) × (List Int) × Unit) n K => dct_Back v.1 v.2.1 (K (.ns) []) (fun (r0 : (List Int)) => K (.os (n + 0)) [.val true true 3 (.row (.int .i64)) r0])
noncomputable def dct_Back_f : List (Nat × Ent) := [(42, dct_right_e), (43, dct_shifted_e)]
noncomputable def dct_Back_C : Cfg := mkC tys dct_Back_f
noncomputable def dct_Back_b : Code := match Try.f15.body with | some c => c | none => .skip
noncomputable def dct_Back_L : Cuts := mkL [] []
theorem dct_Back_lo : LoopsOK dct_Back_C dct_Back_L dct_Back_b := (show LoopsOK dct_Back_C dct_Back_L dct_Back_b = True by kernel_rfl).mpr trivial
theorem dct_Back_jo : JoinsOK dct_Back_C dct_Back_L dct_Back_b := (show JoinsOK dct_Back_C dct_Back_L dct_Back_b = True by kernel_rfl).mpr trivial
theorem dct_Back_ro : RngsOK dct_Back_C dct_Back_L dct_Back_b :=
  (show RngsOK dct_Back_C dct_Back_L dct_Back_b = (True) by kernel_rfl).mpr trivial
theorem dct_Back_ok : EntOK Try.prog 15 dct_Back_e :=
  entOf_ok (e := evFn dct_Back_C dct_Back_L Try.f15) (fun v n K => Eq.trans (dct_Back_def v.1 v.2.1 (K (.ns) []) (fun (r0 : (List Int)) => K (.os (n + 0)) [.val true true 3 (.row (.int .i64)) r0])) (by kernel_rfl)) (evFn_ok (mkC_all (fns := dct_Back_f) tys_ok ⟨⟨dct_right_ok, Try.call42⟩, ⟨dct_shifted_ok, Try.call43⟩, trivial⟩ mixed) Try.func15 (show Try.f15.body = some dct_Back_b by kernel_rfl) ⟨dct_Back_lo, dct_Back_jo, by kernel_rfl, dct_Back_ro⟩)

noncomputable def R01_Same_e : Ent := entOf [.tm (.sl (.int .i64)), .tm (.sl (.int .i64))] fun (v : (List Int) × (List Int) × Unit) n K => R01_Same v.1 v.2.1 (fun (r0 : Bool) => K (.t true .bool r0) [])
noncomputable def R01_Same_f : List (Nat × Ent) := []
noncomputable def R01_Same_C : Cfg := mkC tys R01_Same_f
noncomputable def R01_Same_b : Code := match Try.f19.body with | some c => c | none => .skip
def R01_Same_y0 : Lay := ⟨26, [(0, .tm false (.sl (.int .i64))), (1, .tm false (.sl (.int .i64))), (5, .tm true (.int .i64))], []⟩
def R01_Same_y1 : Lay := ⟨26, [(4, .tm true .bool)], []⟩
def R01_Same_y2 : Lay := ⟨26, [], []⟩
noncomputable def R01_Same_l4_F (k : Nat) (v : ((List Int) × (List Int) × Int × Unit) × (Unit)) (K : KK) : Prop := R01_Same_l4 k v.1.1 v.1.2.1 v.1.2.2.1 (fun (y0 : Bool) => K .ret (st R01_Same_y1 ((y0, ()), (())))) (K (.exit 0) (st R01_Same_y2 ((()), (()))))
noncomputable def R01_Same_l4_c : Cut := ⟨R01_Same_y0, fun o => match o with | .ret => some R01_Same_y1 | .exit 0 => some R01_Same_y2 | _ => none, fun (v : ((List Int) × (List Int) × Int × Unit) × (Unit)) K => ∃ k, R01_Same_l4_F k v K⟩
noncomputable def R01_Same_L : Cuts := mkL [(4, R01_Same_l4_c)] []
theorem R01_Same_lo : LoopsOK R01_Same_C R01_Same_L R01_Same_b :=
  (show LoopsOK R01_Same_C R01_Same_L R01_Same_b = ((LoopOK R01_Same_C R01_Same_L R01_Same_l4_c (nthB (loopsOf R01_Same_b) 0) ∧ True) ∧ True) by kernel_rfl).mpr ⟨⟨⟨R01_Same_l4_F, fun v K => by kernel_rfl, fun v K => by kernel_rfl, fun k v K => by kernel_rfl⟩, trivial⟩, trivial⟩
theorem R01_Same_jo : JoinsOK R01_Same_C R01_Same_L R01_Same_b := (show JoinsOK R01_Same_C R01_Same_L R01_Same_b = True by kernel_rfl).mpr trivial
theorem R01_Same_ro : RngsOK R01_Same_C R01_Same_L R01_Same_b :=
  (show RngsOK R01_Same_C R01_Same_L R01_Same_b = (True) by kernel_rfl).mpr trivial
theorem R01_Same_ok : EntOK Try.prog 19 R01_Same_e :=
  entOf_ok (e := evFn R01_Same_C R01_Same_L Try.f19) (fun v n K => Eq.trans (R01_Same_def v.1 v.2.1 (fun (r0 : Bool) => K (.t true .bool r0) [])) (by kernel_rfl)) (evFn_ok (mkC_all (fns := R01_Same_f) tys_ok trivial mixed) Try.func19 (show Try.f19.body = some R01_Same_b by kernel_rfl) ⟨R01_Same_lo, R01_Same_jo, by kernel_rfl, R01_Same_ro⟩)

end
end Go.Eng.A
