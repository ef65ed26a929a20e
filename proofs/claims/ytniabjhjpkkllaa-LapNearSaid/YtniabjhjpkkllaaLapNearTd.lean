/- Each of these functions is what the program computes: printed by program. -/
import Derived.Test.YtniabjhjpkkllaaEngT
import Derived.Test.YtniabjhjpkkllaaLapNearP
import Derived.Test.YtniabjhjpkkllaaProg
import Derived.Test.YtniabjhjpkkllaaLapNearTc
set_option linter.unusedVariables false
set_option maxRecDepth 100000
namespace Go.Eng.A
open Go Go.Eng Go.Proofs
noncomputable section

noncomputable def num_within_e : Ent := entOf [.tm (.int .i64), .tm (.sl (.int .i64))] fun (v : Int × (List Int) × Unit) n K => num_within v.1 v.2.1 (fun (r0 : Bool) => K (.t true .bool r0) [])
noncomputable def num_within_f : List (Nat × Ent) := []
noncomputable def num_within_C : Cfg := mkCE tys eqs num_within_f
noncomputable def num_within_b : Code := match Try.f90.body with | some c => c | none => .skip
def num_within_y0 : Lay := ⟨23, [(0, .tm true (.int .i64)), (7, .tm false (.sl (.int .i64))), (8, .tm true (.int .i64)), (9, .tm true (.int .i64))], []⟩
def num_within_y1 : Lay := ⟨23, [(4, .tm true .bool)], []⟩
def num_within_y2 : Lay := ⟨23, [], []⟩
noncomputable def num_within_l2_F (k : Nat) (v : (Int × (List Int) × Int × Int × Unit) × (Unit)) (K : KK) : Prop := num_within_l2 k v.1.1 v.1.2.1 v.1.2.2.1 v.1.2.2.2.1 (fun (y0 : Bool) => K .ret (st num_within_y1 ((y0, ()), (())))) (K (.exit 0) (st num_within_y2 ((()), (()))))
noncomputable def num_within_l2_c : Cut := ⟨num_within_y0, fun o => match o with | .ret => some num_within_y1 | .exit 0 => some num_within_y2 | _ => none, fun (v : (Int × (List Int) × Int × Int × Unit) × (Unit)) K => ∃ k, num_within_l2_F k v K⟩
noncomputable def num_within_L : Cuts := mkL [(2, num_within_l2_c)] []
theorem num_within_lo : LoopsOK num_within_C num_within_L num_within_b :=
  (show LoopsOK num_within_C num_within_L num_within_b = ((LoopOK num_within_C num_within_L num_within_l2_c (nthB (loopsOf num_within_b) 0) ∧ True) ∧ True) by kernel_rfl).mpr ⟨⟨⟨num_within_l2_F, fun v K => by kernel_rfl, fun v K => by kernel_rfl, fun k v K => by kernel_rfl⟩, trivial⟩, trivial⟩
theorem num_within_jo : JoinsOK num_within_C num_within_L num_within_b := (show JoinsOK num_within_C num_within_L num_within_b = True by kernel_rfl).mpr trivial
theorem num_within_ro : RngsOK num_within_C num_within_L num_within_b :=
  (show RngsOK num_within_C num_within_L num_within_b = (True) by kernel_rfl).mpr trivial
theorem num_within_ok : EntOK Try.prog 90 num_within_e :=
  entOf_ok (e := evFn num_within_C num_within_L Try.f90) (fun v n K => Eq.trans (num_within_def v.1 v.2.1 (fun (r0 : Bool) => K (.t true .bool r0) [])) (by kernel_rfl)) (evFn_ok (mkCE_all (fns := num_within_f) tys_ok eqs_ok trivial mixed) Try.func90 (show Try.f90.body = some num_within_b by kernel_rfl) ⟨num_within_lo, num_within_jo, by kernel_rfl, num_within_ro⟩)

noncomputable def num_Shr_e : Ent := entOf [.tm (.int .i64), .tm (.int .i64)] fun (v : Int × Int × Unit) n K => num_Shr v.1 v.2.1 (fun (r0 : Int) => K (.t true (.int .i64) r0) [])
noncomputable def num_Shr_f : List (Nat × Ent) := [(90, num_within_e)]
noncomputable def num_Shr_C : Cfg := mkCE tys eqs num_Shr_f
noncomputable def num_Shr_b : Code := match Try.f81.body with | some c => c | none => .skip
def num_Shr_y0 : Lay := ⟨29, [(0, .tm true (.int .i64)), (1, .tm true (.int .i64)), (5, .tm true .bool)], []⟩
def num_Shr_y1 : Lay := ⟨29, [(4, .tm true (.int .i64))], []⟩
def num_Shr_y2 : Lay := ⟨29, [(0, .tm true (.int .i64)), (1, .tm true (.int .i64))], []⟩
noncomputable def num_Shr_j2_c : Cut := ⟨num_Shr_y0, fun o => match o with | .ret => some num_Shr_y1 | .nrm => some num_Shr_y2 | _ => none, fun (v : (Int × Int × Bool × Unit) × (Unit)) (K : KK) => num_Shr_j2 v.1.1 v.1.2.1 v.1.2.2.1 (fun (y0 : Int) => K .ret (st num_Shr_y1 ((y0, ()), (())))) (fun (y0 : Int) (y1 : Int) => K .nrm (st num_Shr_y2 ((y0, y1, ()), (()))))⟩
noncomputable def num_Shr_j5_c : Cut := ⟨num_Shr_y2, fun o => match o with | .ret => some num_Shr_y1 | _ => none, fun (v : (Int × Int × Unit) × (Unit)) (K : KK) => num_Shr_j5 v.1.1 v.1.2.1 (fun (y0 : Int) => K .ret (st num_Shr_y1 ((y0, ()), (()))))⟩
noncomputable def num_Shr_L : Cuts := mkL [] [(2, num_Shr_j2_c), (5, num_Shr_j5_c)]
theorem num_Shr_lo : LoopsOK num_Shr_C num_Shr_L num_Shr_b := (show LoopsOK num_Shr_C num_Shr_L num_Shr_b = True by kernel_rfl).mpr trivial
theorem num_Shr_jo : JoinsOK num_Shr_C num_Shr_L num_Shr_b :=
  (show JoinsOK num_Shr_C num_Shr_L num_Shr_b = ((JoinOK num_Shr_C num_Shr_L num_Shr_j5_c (nthB (joinsOf num_Shr_L num_Shr_b) 0) ∧ True) ∧ (JoinOK num_Shr_C num_Shr_L num_Shr_j2_c (nthB (joinsOf num_Shr_L num_Shr_b) 1) ∧ True) ∧ True) by kernel_rfl).mpr ⟨⟨fun v K => by kernel_rfl, trivial⟩, ⟨fun v K => by kernel_rfl, trivial⟩, trivial⟩
theorem num_Shr_ro : RngsOK num_Shr_C num_Shr_L num_Shr_b :=
  (show RngsOK num_Shr_C num_Shr_L num_Shr_b = (True) by kernel_rfl).mpr trivial
theorem num_Shr_ok : EntOK Try.prog 81 num_Shr_e :=
  entOf_ok (e := evFn num_Shr_C num_Shr_L Try.f81) (fun v n K => Eq.trans (num_Shr_def v.1 v.2.1 (fun (r0 : Int) => K (.t true (.int .i64) r0) [])) (by kernel_rfl)) (evFn_ok (mkCE_all (fns := num_Shr_f) tys_ok eqs_ok ⟨⟨num_within_ok, Try.call90⟩, trivial⟩ mixed) Try.func81 (show Try.f81.body = some num_Shr_b by kernel_rfl) ⟨num_Shr_lo, num_Shr_jo, by kernel_rfl, num_Shr_ro⟩)

noncomputable def dct_shifted_e : Ent := entOf [.tm (.ptr (.arr 512 (.int .i64))), .tm (.sl (.int .i64)), .tm (.int .i64)] fun (v : (List Int) × (List Int) × Int × Unit) n K => dct_shifted v.1 v.2.1 v.2.2.1 (fun (r0 : (List Int)) => K (.os (n + 0)) [.val true true 3 (.row (.int .i64)) r0])
noncomputable def dct_shifted_f : List (Nat × Ent) := [(79, dct_angles_e), (80, trig_Table__Cos_e), (81, num_Shr_e)]
noncomputable def dct_shifted_i : List (Nat × ItE) := [(96, It_dct_angles_1_e)]
noncomputable def dct_shifted_C : Cfg := mkCI tys eqs dct_shifted_i dct_shifted_f
noncomputable def dct_shifted_b : Code := match Try.f43.body with | some c => c | none => .skip
def dct_shifted_y0 : Lay := ⟨40, [(1, .tm false (.sl (.int .i64))), (2, .tm true (.int .i64)), (3, .fx (.op 0 (.ptr (.arr 512 (.int .i64))) [])), (7, .fx (.os 1)), (8, .tm true (.int .i64)), (9, .fx (.op 2 (.int .i64) [])), (16, .tm true (.int .i64)), (17, .tm true (.int .i64))], [.val true false 25 (.ptr (.arr 512 (.int .i64))), .val true true 3 (.row (.int .i64)), .val true true 3 (.int .i64)]⟩
noncomputable def dct_shifted_r7_c : RCut := ⟨96, [(false, (.ptr (.sl (.int .i64)))), (true, (.ptr (.int .i64)))], [(true, (.int .i64)), (true, (.int .i64))], dct_shifted_y0, [], fun (cv : (List Int) × Int × Unit) (v : ((List Int) × Int × Int × Int × Int × Unit) × ((List Int) × (List Int) × Int × Unit)) (K : KK) => dct_shifted_r7 cv.1 cv.2.1 v.1.1 v.1.2.1 v.1.2.2.1 v.1.2.2.2.1 v.1.2.2.2.2.1 v.2.1 v.2.2.1 v.2.2.2.1 (fun (y0 : (List Int)) (y1 : Int) (y2 : Int) (y3 : Int) (y4 : Int) (y5 : (List Int)) (y6 : (List Int)) (y7 : Int) => K .nrm (st dct_shifted_y0 ((y0, y1, y2, y3, y4, ()), (y5, y6, y7, ()))))⟩
def dct_shifted_y1 : Lay := ⟨40, [(1, .tm false (.sl (.int .i64))), (2, .tm true (.int .i64)), (3, .fx (.op 0 (.ptr (.arr 512 (.int .i64))) [])), (7, .fx (.os 1)), (16, .tm true (.int .i64)), (17, .tm true (.int .i64))], [.val true false 25 (.ptr (.arr 512 (.int .i64))), .val true true 3 (.row (.int .i64))]⟩
def dct_shifted_y2 : Lay := ⟨40, [(7, .fx (.os 0))], [.val true true 3 (.row (.int .i64))]⟩
noncomputable def dct_shifted_l3_F (k : Nat) (v : ((List Int) × Int × Int × Int × Unit) × ((List Int) × (List Int) × Unit)) (K : KK) : Prop := dct_shifted_l3 k v.1.1 v.1.2.1 v.1.2.2.1 v.1.2.2.2.1 v.2.1 v.2.2.1 (fun (y0 : (List Int)) => K (.exit 0) (st dct_shifted_y2 ((()), (y0, ()))))
noncomputable def dct_shifted_l3_c : Cut := ⟨dct_shifted_y1, fun o => match o with | .exit 0 => some dct_shifted_y2 | _ => none, fun (v : ((List Int) × Int × Int × Int × Unit) × ((List Int) × (List Int) × Unit)) K => ∃ k, dct_shifted_l3_F k v K⟩
noncomputable def dct_shifted_L : Cuts := { loop := lpL [(3, dct_shifted_l3_c)], join := lpL [], rng := rcL [(7, dct_shifted_r7_c)], bad := fun i => nmem i [], mix := fun i => nmem i [], stl := none }
theorem dct_shifted_lo : LoopsOK dct_shifted_C dct_shifted_L dct_shifted_b :=
  (show LoopsOK dct_shifted_C dct_shifted_L dct_shifted_b = ((LoopOK dct_shifted_C dct_shifted_L dct_shifted_l3_c (nthB (loopsOf dct_shifted_b) 0) ∧ True) ∧ True) by kernel_rfl).mpr ⟨⟨⟨dct_shifted_l3_F, fun v K => by kernel_rfl, fun v K => by kernel_rfl, fun k v K => by kernel_rfl⟩, trivial⟩, trivial⟩
theorem dct_shifted_jo : JoinsOK dct_shifted_C dct_shifted_L dct_shifted_b := (show JoinsOK dct_shifted_C dct_shifted_L dct_shifted_b = True by kernel_rfl).mpr trivial
theorem dct_shifted_ro : RngsOK dct_shifted_C dct_shifted_L dct_shifted_b :=
  (show RngsOK dct_shifted_C dct_shifted_L dct_shifted_b = ((∀ cut, dct_shifted_L.rng 7 = some cut → RngOK dct_shifted_C dct_shifted_L cut (nthR (rangesOf dct_shifted_b) 0).1 (nthR (rangesOf dct_shifted_b) 0).2.1 (nthR (rangesOf dct_shifted_b) 0).2.2) ∧ True) by kernel_rfl).mpr ⟨of_some (a := dct_shifted_r7_c) (by kernel_rfl) ⟨by kernel_rfl, fun cv v K => by kernel_rfl⟩, trivial⟩
theorem dct_shifted_ok : EntOK Try.prog 43 dct_shifted_e :=
  entOf_ok (e := evFn dct_shifted_C dct_shifted_L Try.f43) (fun v n K => Eq.trans (dct_shifted_def v.1 v.2.1 v.2.2.1 (fun (r0 : (List Int)) => K (.os (n + 0)) [.val true true 3 (.row (.int .i64)) r0])) (by kernel_rfl)) (evFn_ok (mkCI_all (eqs := eqs) (its := dct_shifted_i) (fns := dct_shifted_f) tys_ok eqs_ok ⟨⟨It_dct_angles_1_ok, Try.call96⟩, trivial⟩ ⟨⟨dct_angles_ok, Try.call79⟩, ⟨trig_Table__Cos_ok, Try.call80⟩, ⟨num_Shr_ok, Try.call81⟩, trivial⟩ mixed) Try.func43 (show Try.f43.body = some dct_shifted_b by kernel_rfl) ⟨dct_shifted_lo, dct_shifted_jo, by kernel_rfl, dct_shifted_ro⟩)

noncomputable def dct_Back_e : Ent := entOf [.tm (.ptr (.arr 512 (.int .i64))), .tm (.sl (.int .i64))] fun (v : (List Int) × (List Int) × Unit) n K => dct_Back v.1 v.2.1 (K (.ns) []) (fun (r0 : (List Int)) => K (.os (n + 0)) [.val true true 3 (.row (.int .i64)) r0])
noncomputable def dct_Back_f : List (Nat × Ent) := [(42, dct_right_e), (43, dct_shifted_e)]
noncomputable def dct_Back_C : Cfg := mkCE tys eqs dct_Back_f
noncomputable def dct_Back_b : Code := match Try.f15.body with | some c => c | none => .skip
noncomputable def dct_Back_L : Cuts := mkL [] []
theorem dct_Back_lo : LoopsOK dct_Back_C dct_Back_L dct_Back_b := (show LoopsOK dct_Back_C dct_Back_L dct_Back_b = True by kernel_rfl).mpr trivial
theorem dct_Back_jo : JoinsOK dct_Back_C dct_Back_L dct_Back_b := (show JoinsOK dct_Back_C dct_Back_L dct_Back_b = True by kernel_rfl).mpr trivial
theorem dct_Back_ro : RngsOK dct_Back_C dct_Back_L dct_Back_b :=
  (show RngsOK dct_Back_C dct_Back_L dct_Back_b = (True) by kernel_rfl).mpr trivial
theorem dct_Back_ok : EntOK Try.prog 15 dct_Back_e :=
  entOf_ok (e := evFn dct_Back_C dct_Back_L Try.f15) (fun v n K => Eq.trans (dct_Back_def v.1 v.2.1 (K (.ns) []) (fun (r0 : (List Int)) => K (.os (n + 0)) [.val true true 3 (.row (.int .i64)) r0])) (by kernel_rfl)) (evFn_ok (mkCE_all (fns := dct_Back_f) tys_ok eqs_ok ⟨⟨dct_right_ok, Try.call42⟩, ⟨dct_shifted_ok, Try.call43⟩, trivial⟩ mixed) Try.func15 (show Try.f15.body = some dct_Back_b by kernel_rfl) ⟨dct_Back_lo, dct_Back_jo, by kernel_rfl, dct_Back_ro⟩)

noncomputable def lap_Pick_e : Ent := entOf [.tm (.sl (.int .i64)), .tm (.int .i64)] fun (v : (List Int) × Int × Unit) n K => lap_Pick v.1 v.2.1 (K (.ns) []) (fun (r0 : (List Int)) => K (.os (n + 0)) [.val true true 3 (.row (.int .i64)) r0])
noncomputable def lap_Pick_f : List (Nat × Ent) := []
noncomputable def lap_Pick_C : Cfg := mkCE tys eqs lap_Pick_f
noncomputable def lap_Pick_b : Code := match Try.f93.body with | some c => c | none => .skip
def lap_Pick_y0 : Lay := ⟨36, [(0, .tm false (.sl (.int .i64))), (1, .tm true (.int .i64)), (5, .fx (.os 0)), (20, .tm true (.int .i64)), (21, .tm true (.int .i64))], [.val true true 3 (.row (.int .i64))]⟩
def lap_Pick_y1 : Lay := ⟨36, [(5, .fx (.os 0))], [.val true true 3 (.row (.int .i64))]⟩
noncomputable def lap_Pick_l5_F (k : Nat) (v : ((List Int) × Int × Int × Int × Unit) × ((List Int) × Unit)) (K : KK) : Prop := lap_Pick_l5 k v.1.1 v.1.2.1 v.1.2.2.1 v.1.2.2.2.1 v.2.1 (fun (y0 : (List Int)) => K (.exit 0) (st lap_Pick_y1 ((()), (y0, ()))))
noncomputable def lap_Pick_l5_c : Cut := ⟨lap_Pick_y0, fun o => match o with | .exit 0 => some lap_Pick_y1 | _ => none, fun (v : ((List Int) × Int × Int × Int × Unit) × ((List Int) × Unit)) K => ∃ k, lap_Pick_l5_F k v K⟩
noncomputable def lap_Pick_L : Cuts := mkL [(5, lap_Pick_l5_c)] []
theorem lap_Pick_lo : LoopsOK lap_Pick_C lap_Pick_L lap_Pick_b :=
  (show LoopsOK lap_Pick_C lap_Pick_L lap_Pick_b = ((LoopOK lap_Pick_C lap_Pick_L lap_Pick_l5_c (nthB (loopsOf lap_Pick_b) 0) ∧ True) ∧ True) by kernel_rfl).mpr ⟨⟨⟨lap_Pick_l5_F, fun v K => by kernel_rfl, fun v K => by kernel_rfl, fun k v K => by kernel_rfl⟩, trivial⟩, trivial⟩
theorem lap_Pick_jo : JoinsOK lap_Pick_C lap_Pick_L lap_Pick_b := (show JoinsOK lap_Pick_C lap_Pick_L lap_Pick_b = True by kernel_rfl).mpr trivial
theorem lap_Pick_ro : RngsOK lap_Pick_C lap_Pick_L lap_Pick_b :=
  (show RngsOK lap_Pick_C lap_Pick_L lap_Pick_b = (True) by kernel_rfl).mpr trivial
theorem lap_Pick_ok : EntOK Try.prog 93 lap_Pick_e :=
  entOf_ok (e := evFn lap_Pick_C lap_Pick_L Try.f93) (fun v n K => Eq.trans (lap_Pick_def v.1 v.2.1 (K (.ns) []) (fun (r0 : (List Int)) => K (.os (n + 0)) [.val true true 3 (.row (.int .i64)) r0])) (by kernel_rfl)) (evFn_ok (mkCE_all (fns := lap_Pick_f) tys_ok eqs_ok trivial mixed) Try.func93 (show Try.f93.body = some lap_Pick_b by kernel_rfl) ⟨lap_Pick_lo, lap_Pick_jo, by kernel_rfl, lap_Pick_ro⟩)

end
end Go.Eng.A
