/- Each of these functions is what the program computes: printed by program. -/
import Derived.Test.YtniabjhjpkkllaaEngT
import Derived.Test.YtniabjhjpkkllaaLapNearP
import Derived.Test.YtniabjhjpkkllaaProg
import Derived.Test.YtniabjhjpkkllaaLapNearTf
set_option linter.unusedVariables false
set_option maxRecDepth 100000
namespace Go.Eng.A
open Go Go.Eng Go.Proofs
noncomputable section

noncomputable def lap_Frame_e : Ent := entOf [.tm (.ptr (.arr 512 (.int .i64))), .tm (.arr 8 (.int .i64)), .tm (.sl (.int .i64)), .tm .bool] fun (v : (List Int) × (List Int) × (List Int) × Bool × Unit) n K => lap_Frame v.1 v.2.1 v.2.2.1 v.2.2.2.1 (fun (r0 : (List Int)) => K (.tu [.ns, .t true (.arr 8 (.int .i64)) r0]) []) (fun (r0 : (List Int)) (r1 : (List Int)) => K (.tu [.os (n + 0), .t true (.arr 8 (.int .i64)) r0]) [.val true true 3 (.row (.int .i64)) r1])
noncomputable def lap_Frame_f : List (Nat × Ent) := [(64, lap_right_e), (65, lap_blocks_e), (67, window_Left_e), (66, window_Meet_e), (68, window_Right_e), (69, num_Sat_e)]
noncomputable def lap_Frame_i : List (Nat × ItE) := [(92, It_lap_blocks_1_e)]
noncomputable def lap_Frame_C : Cfg := mkCI tys eqs lap_Frame_i lap_Frame_f
noncomputable def lap_Frame_b : Code := match Try.f33.body with | some c => c | none => .skip
def lap_Frame_y0 : Lay := ⟨61, [(5, .fx (.op 0 (.arr 8 (.int .i64)) [])), (9, .fx (.op 1 (.arr 8 (.int .i64)) [])), (10, .fx (.op 2 (.sl (.int .i64)) []))], [.val true true 45 (.arr 8 (.int .i64)), .val true true 45 (.arr 8 (.int .i64)), .av (.os 3), .val true true 3 (.row (.int .i64))]⟩
noncomputable def lap_Frame_r5_c : RCut := ⟨92, [(true, (.ptr .bool)), (false, (.ptr (.ptr (.arr 512 (.int .i64))))), (false, (.ptr (.sl (.int .i64))))], [(true, (.sl (.int .i64)))], lap_Frame_y0, [], fun (cv : Bool × (List Int) × (List Int) × Unit) (v : (Unit) × ((List Int) × (List Int) × (List Int) × Unit)) (K : KK) => lap_Frame_r5 cv.1 cv.2.1 cv.2.2.1 v.2.1 v.2.2.1 v.2.2.2.1 (fun (y0 : (List Int)) (y1 : (List Int)) (y2 : (List Int)) => K .nrm (st lap_Frame_y0 ((()), (y0, y1, y2, ()))))⟩
def lap_Frame_y1 : Lay := ⟨61, [(5, .fx (.op 0 (.arr 8 (.int .i64)) [])), (9, .fx (.op 1 (.arr 8 (.int .i64)) [])), (10, .fx (.op 2 (.sl (.int .i64)) [])), (46, .fx (.os 3)), (47, .tm true (.int .i64)), (48, .tm true (.int .i64))], [.val true true 45 (.arr 8 (.int .i64)), .val true true 45 (.arr 8 (.int .i64)), .av (.os 3), .val true true 3 (.row (.int .i64))]⟩
noncomputable def lap_Frame_l11_F (k : Nat) (v : (Int × Int × Unit) × ((List Int) × (List Int) × (List Int) × Unit)) (K : KK) : Prop := lap_Frame_l11 k v.1.1 v.1.2.1 v.2.1 v.2.2.1 v.2.2.2.1 (fun (y0 : (List Int)) (y1 : (List Int)) (y2 : (List Int)) => K (.exit 2) (st lap_Frame_y0 ((()), (y0, y1, y2, ()))))
noncomputable def lap_Frame_l11_c : Cut := ⟨lap_Frame_y1, fun o => match o with | .exit 2 => some lap_Frame_y0 | _ => none, fun (v : (Int × Int × Unit) × ((List Int) × (List Int) × (List Int) × Unit)) K => ∃ k, lap_Frame_l11_F k v K⟩
noncomputable def lap_Frame_L : Cuts := { loop := lpL [(11, lap_Frame_l11_c)], join := lpL [], rng := rcL [(5, lap_Frame_r5_c)], bad := fun i => nmem i [], mix := fun i => nmem i [], stl := none }
theorem lap_Frame_lo : LoopsOK lap_Frame_C lap_Frame_L lap_Frame_b :=
  (show LoopsOK lap_Frame_C lap_Frame_L lap_Frame_b = ((LoopOK lap_Frame_C lap_Frame_L lap_Frame_l11_c (nthB (loopsOf lap_Frame_b) 0) ∧ True) ∧ True) by kernel_rfl).mpr ⟨⟨⟨lap_Frame_l11_F, fun v K => by kernel_rfl, fun v K => by kernel_rfl, fun k v K => by kernel_rfl⟩, trivial⟩, trivial⟩
theorem lap_Frame_jo : JoinsOK lap_Frame_C lap_Frame_L lap_Frame_b := (show JoinsOK lap_Frame_C lap_Frame_L lap_Frame_b = True by kernel_rfl).mpr trivial
theorem lap_Frame_ro : RngsOK lap_Frame_C lap_Frame_L lap_Frame_b :=
  (show RngsOK lap_Frame_C lap_Frame_L lap_Frame_b = ((∀ cut, lap_Frame_L.rng 5 = some cut → RngOK lap_Frame_C lap_Frame_L cut (nthR (rangesOf lap_Frame_b) 0).1 (nthR (rangesOf lap_Frame_b) 0).2.1 (nthR (rangesOf lap_Frame_b) 0).2.2) ∧ True) by kernel_rfl).mpr ⟨of_some (a := lap_Frame_r5_c) (by kernel_rfl) ⟨by kernel_rfl, fun cv v K => by kernel_rfl⟩, trivial⟩
theorem lap_Frame_ok : EntOK Try.prog 33 lap_Frame_e :=
  entOf_ok (e := evFn lap_Frame_C lap_Frame_L Try.f33) (fun v n K => Eq.trans (lap_Frame_def v.1 v.2.1 v.2.2.1 v.2.2.2.1 (fun (r0 : (List Int)) => K (.tu [.ns, .t true (.arr 8 (.int .i64)) r0]) []) (fun (r0 : (List Int)) (r1 : (List Int)) => K (.tu [.os (n + 0), .t true (.arr 8 (.int .i64)) r0]) [.val true true 3 (.row (.int .i64)) r1])) (by kernel_rfl)) (evFn_ok (mkCI_all (eqs := eqs) (its := lap_Frame_i) (fns := lap_Frame_f) tys_ok eqs_ok ⟨⟨It_lap_blocks_1_ok, Try.call92⟩, trivial⟩ ⟨⟨lap_right_ok, Try.call64⟩, ⟨lap_blocks_ok, Try.call65⟩, ⟨window_Left_ok, Try.call67⟩, ⟨window_Meet_ok, Try.call66⟩, ⟨window_Right_ok, Try.call68⟩, ⟨num_Sat_ok, Try.call69⟩, trivial⟩ mixed) Try.func33 (show Try.f33.body = some lap_Frame_b by kernel_rfl) ⟨lap_Frame_lo, lap_Frame_jo, by kernel_rfl, lap_Frame_ro⟩)

noncomputable def R01_Same_e : Ent := entOf [.tm (.sl (.int .i64)), .tm (.sl (.int .i64))] fun (v : (List Int) × (List Int) × Unit) n K => R01_Same v.1 v.2.1 (fun (r0 : Bool) => K (.t true .bool r0) [])
noncomputable def R01_Same_f : List (Nat × Ent) := []
noncomputable def R01_Same_C : Cfg := mkCE tys eqs R01_Same_f
noncomputable def R01_Same_b : Code := match Try.f19.body with | some c => c | none => .skip
def R01_Same_y0 : Lay := ⟨26, [(0, .tm false (.sl (.int .i64))), (1, .tm false (.sl (.int .i64))), (5, .tm true (.int .i64))], []⟩
def R01_Same_y1 : Lay := ⟨26, [(4, .tm true .bool)], []⟩
def R01_Same_y2 : Lay := ⟨26, [], []⟩
noncomputable def R01_Same_l4_F (k : Nat) (v : ((List Int) × (List Int) × Int × Unit) × (Unit)) (K : KK) : Prop := R01_Same_l4 k v.1.1 v.1.2.1 v.1.2.2.1 (fun (y0 : Bool) => K .ret (st R01_Same_y1 ((y0, ()), (())))) (K (.exit 0) (st R01_Same_y2 ((()), (()))))
noncomputable def R01_Same_l4_c : Cut := ⟨R01_Same_y0, fun o => match o with | .ret => some R01_Same_y1 | .exit 0 => some R01_Same_y2 | _ => none, fun (v : ((List Int) × (List Int) × Int × Unit) × (Unit)) K => ∃ k, R01_Same_l4_F k v K⟩
noncomputable def R01_Same_L : Cuts := mkL [(4, R01_Same_l4_c)] []
theorem R01_Same_lo : LoopsOK R01_Same_C R01_Same_L R01_Same_b :=
  (show LoopsOK R01_Same_C R01_Same_L R01_Same_b = ((LoopOK R01_Same_C R01_Same_L R01_Same_l4_c (nthB (loopsOf R01_Same_b) 0) ∧ True) ∧ True) by kernel_rfl).mpr ⟨⟨⟨R01_Same_l4_F, fun v K => by kernel_rfl, fun v K => by kernel_rfl, fun k v K => by kernel_rfl⟩, trivial⟩, trivial⟩
theorem R01_Same_jo : JoinsOK R01_Same_C R01_Same_L R01_Same_b := (show JoinsOK R01_Same_C R01_Same_L R01_Same_b = True by kernel_rfl).mpr trivial
theorem R01_Same_ro : RngsOK R01_Same_C R01_Same_L R01_Same_b :=
  (show RngsOK R01_Same_C R01_Same_L R01_Same_b = (True) by kernel_rfl).mpr trivial
theorem R01_Same_ok : EntOK Try.prog 19 R01_Same_e :=
  entOf_ok (e := evFn R01_Same_C R01_Same_L Try.f19) (fun v n K => Eq.trans (R01_Same_def v.1 v.2.1 (fun (r0 : Bool) => K (.t true .bool r0) [])) (by kernel_rfl)) (evFn_ok (mkCE_all (fns := R01_Same_f) tys_ok eqs_ok trivial mixed) Try.func19 (show Try.f19.body = some R01_Same_b by kernel_rfl) ⟨R01_Same_lo, R01_Same_jo, by kernel_rfl, R01_Same_ro⟩)

noncomputable def L12_awake_e : Ent := entOf [] fun (v : Unit) n K => L12_awake (fun (r0 : Bool) => K (.t true .bool r0) [])
noncomputable def L12_awake_f : List (Nat × Ent) := [(13, trig_Make_e), (33, lap_Frame_e), (19, R01_Same_e)]
noncomputable def L12_awake_C : Cfg := mkCE tys eqs L12_awake_f
noncomputable def L12_awake_b : Code := match Try.f32.body with | some c => c | none => .skip
def L12_awake_y0 : Lay := ⟨60, [(3, .fx (.os 0)), (4, .fx (.op 1 (.arr 8 (.int .i64)) [])), (5, .fx (.os 2)), (6, .fx (.op 3 (.arr 8 (.int .i64)) []))], [.val true true 3 (.row (.int .i64)), .val true true 45 (.arr 8 (.int .i64)), .val true true 3 (.row (.int .i64)), .val true true 45 (.arr 8 (.int .i64))]⟩
def L12_awake_y1 : Lay := ⟨60, [(0, .tm true .bool)], []⟩
noncomputable def L12_awake_j6_c : Cut := ⟨L12_awake_y0, fun o => match o with | .ret => some L12_awake_y1 | _ => none, fun (v : (Unit) × ((List Int) × (List Int) × (List Int) × (List Int) × Unit)) (K : KK) => L12_awake_j6 v.2.1 v.2.2.1 v.2.2.2.1 v.2.2.2.2.1 (fun (y0 : Bool) => K .ret (st L12_awake_y1 ((y0, ()), (()))))⟩
def L12_awake_y2 : Lay := ⟨60, [(1, .tm true (.ptr (.arr 512 (.int .i64)))), (2, .fx (.os 0)), (3, .fx (.os 1)), (4, .fx (.op 2 (.arr 8 (.int .i64)) []))], [.val true true 3 (.row (.int .i64)), .val true true 3 (.row (.int .i64)), .val true true 45 (.arr 8 (.int .i64))]⟩
noncomputable def L12_awake_j4_c : Cut := ⟨L12_awake_y2, fun o => match o with | .ret => some L12_awake_y1 | _ => none, fun (v : ((List Int) × Unit) × ((List Int) × (List Int) × (List Int) × Unit)) (K : KK) => L12_awake_j4 v.1.1 v.2.1 v.2.2.1 v.2.2.2.1 (fun (y0 : Bool) => K .ret (st L12_awake_y1 ((y0, ()), (()))))⟩
noncomputable def L12_awake_L : Cuts := mkL [] [(6, L12_awake_j6_c), (4, L12_awake_j4_c)]
theorem L12_awake_lo : LoopsOK L12_awake_C L12_awake_L L12_awake_b := (show LoopsOK L12_awake_C L12_awake_L L12_awake_b = True by kernel_rfl).mpr trivial
theorem L12_awake_jo : JoinsOK L12_awake_C L12_awake_L L12_awake_b :=
  (show JoinsOK L12_awake_C L12_awake_L L12_awake_b = ((JoinOK L12_awake_C L12_awake_L L12_awake_j4_c (nthB (joinsOf L12_awake_L L12_awake_b) 0) ∧ True) ∧ (JoinOK L12_awake_C L12_awake_L L12_awake_j6_c (nthB (joinsOf L12_awake_L L12_awake_b) 1) ∧ True) ∧ True) by kernel_rfl).mpr ⟨⟨fun v K => by kernel_rfl, trivial⟩, ⟨fun v K => by kernel_rfl, trivial⟩, trivial⟩
theorem L12_awake_ro : RngsOK L12_awake_C L12_awake_L L12_awake_b :=
  (show RngsOK L12_awake_C L12_awake_L L12_awake_b = (True) by kernel_rfl).mpr trivial
theorem L12_awake_ok : EntOK Try.prog 32 L12_awake_e :=
  entOf_ok (e := evFn L12_awake_C L12_awake_L Try.f32) (fun v n K => Eq.trans (L12_awake_def (fun (r0 : Bool) => K (.t true .bool r0) [])) (by kernel_rfl)) (evFn_ok (mkCE_all (fns := L12_awake_f) tys_ok eqs_ok ⟨⟨trig_Make_ok, Try.call13⟩, ⟨lap_Frame_ok, Try.call33⟩, ⟨R01_Same_ok, Try.call19⟩, trivial⟩ mixed) Try.func32 (show Try.f32.body = some L12_awake_b by kernel_rfl) ⟨L12_awake_lo, L12_awake_jo, by kernel_rfl, L12_awake_ro⟩)

noncomputable def R12_Pick_e : Ent := entOf [.tm (.sl (.int .i64)), .tm (.int .i64)] fun (v : (List Int) × Int × Unit) n K => R12_Pick v.1 v.2.1 (K (.ns) []) (fun (r0 : (List Int)) => K (.os (n + 0)) [.val true true 3 (.row (.int .i64)) r0])
noncomputable def R12_Pick_f : List (Nat × Ent) := []
noncomputable def R12_Pick_C : Cfg := mkCE tys eqs R12_Pick_f
noncomputable def R12_Pick_b : Code := match Try.f70.body with | some c => c | none => .skip
def R12_Pick_y0 : Lay := ⟨33, [(0, .tm false (.sl (.int .i64))), (1, .tm true (.int .i64)), (5, .fx (.os 0)), (6, .tm true (.int .i64))], [.val true true 3 (.row (.int .i64))]⟩
def R12_Pick_y1 : Lay := ⟨33, [(5, .fx (.os 0))], [.val true true 3 (.row (.int .i64))]⟩
noncomputable def R12_Pick_l5_F (k : Nat) (v : ((List Int) × Int × Int × Unit) × ((List Int) × Unit)) (K : KK) : Prop := R12_Pick_l5 k v.1.1 v.1.2.1 v.1.2.2.1 v.2.1 (fun (y0 : (List Int)) => K (.exit 0) (st R12_Pick_y1 ((()), (y0, ()))))
noncomputable def R12_Pick_l5_c : Cut := ⟨R12_Pick_y0, fun o => match o with | .exit 0 => some R12_Pick_y1 | _ => none, fun (v : ((List Int) × Int × Int × Unit) × ((List Int) × Unit)) K => ∃ k, R12_Pick_l5_F k v K⟩
noncomputable def R12_Pick_L : Cuts := mkL [(5, R12_Pick_l5_c)] []
theorem R12_Pick_lo : LoopsOK R12_Pick_C R12_Pick_L R12_Pick_b :=
  (show LoopsOK R12_Pick_C R12_Pick_L R12_Pick_b = ((LoopOK R12_Pick_C R12_Pick_L R12_Pick_l5_c (nthB (loopsOf R12_Pick_b) 0) ∧ True) ∧ True) by kernel_rfl).mpr ⟨⟨⟨R12_Pick_l5_F, fun v K => by kernel_rfl, fun v K => by kernel_rfl, fun k v K => by kernel_rfl⟩, trivial⟩, trivial⟩
theorem R12_Pick_jo : JoinsOK R12_Pick_C R12_Pick_L R12_Pick_b := (show JoinsOK R12_Pick_C R12_Pick_L R12_Pick_b = True by kernel_rfl).mpr trivial
theorem R12_Pick_ro : RngsOK R12_Pick_C R12_Pick_L R12_Pick_b :=
  (show RngsOK R12_Pick_C R12_Pick_L R12_Pick_b = (True) by kernel_rfl).mpr trivial
theorem R12_Pick_ok : EntOK Try.prog 70 R12_Pick_e :=
  entOf_ok (e := evFn R12_Pick_C R12_Pick_L Try.f70) (fun v n K => Eq.trans (R12_Pick_def v.1 v.2.1 (K (.ns) []) (fun (r0 : (List Int)) => K (.os (n + 0)) [.val true true 3 (.row (.int .i64)) r0])) (by kernel_rfl)) (evFn_ok (mkCE_all (fns := R12_Pick_f) tys_ok eqs_ok trivial mixed) Try.func70 (show Try.f70.body = some R12_Pick_b by kernel_rfl) ⟨R12_Pick_lo, R12_Pick_jo, by kernel_rfl, R12_Pick_ro⟩)

noncomputable def R12_Spectra_e : Ent := entOf [.tm (.sl (.int .i64)), .tm .bool] fun (v : (List Int) × Bool × Unit) n K => R12_Spectra v.1 v.2.1 (fun (r0 : (List (List Int))) => K (.os (n + 0)) [.val true false 22 (.row (.sl (.int .i64))) r0]) (fun (r0 : (List (List Int))) => K (.os (n + 0)) [.val true true 22 (.row (.sl (.int .i64))) r0])
noncomputable def R12_Spectra_f : List (Nat × Ent) := [(70, R12_Pick_e)]
noncomputable def R12_Spectra_C : Cfg := mkCE tys eqs R12_Spectra_f
noncomputable def R12_Spectra_b : Code := match Try.f34.body with | some c => c | none => .skip
def R12_Spectra_y0 : Lay := ⟨22, [(0, .tm false (.sl (.int .i64))), (5, .fx (.os 0)), (6, .tm true (.int .i64))], [.val true true 22 (.row (.sl (.int .i64)))]⟩
def R12_Spectra_y1 : Lay := ⟨22, [(5, .fx (.os 0))], [.val true true 22 (.row (.sl (.int .i64)))]⟩
noncomputable def R12_Spectra_l5_F (k : Nat) (v : ((List Int) × Int × Unit) × ((List (List Int)) × Unit)) (K : KK) : Prop := R12_Spectra_l5 k v.1.1 v.1.2.1 v.2.1 (fun (y0 : (List (List Int))) => K (.exit 0) (st R12_Spectra_y1 ((()), (y0, ()))))
noncomputable def R12_Spectra_l5_c : Cut := ⟨R12_Spectra_y0, fun o => match o with | .exit 0 => some R12_Spectra_y1 | _ => none, fun (v : ((List Int) × Int × Unit) × ((List (List Int)) × Unit)) K => ∃ k, R12_Spectra_l5_F k v K⟩
noncomputable def R12_Spectra_L : Cuts := mkL [(5, R12_Spectra_l5_c)] []
theorem R12_Spectra_lo : LoopsOK R12_Spectra_C R12_Spectra_L R12_Spectra_b :=
  (show LoopsOK R12_Spectra_C R12_Spectra_L R12_Spectra_b = ((LoopOK R12_Spectra_C R12_Spectra_L R12_Spectra_l5_c (nthB (loopsOf R12_Spectra_b) 0) ∧ True) ∧ True) by kernel_rfl).mpr ⟨⟨⟨R12_Spectra_l5_F, fun v K => by kernel_rfl, fun v K => by kernel_rfl, fun k v K => by kernel_rfl⟩, trivial⟩, trivial⟩
theorem R12_Spectra_jo : JoinsOK R12_Spectra_C R12_Spectra_L R12_Spectra_b := (show JoinsOK R12_Spectra_C R12_Spectra_L R12_Spectra_b = True by kernel_rfl).mpr trivial
theorem R12_Spectra_ro : RngsOK R12_Spectra_C R12_Spectra_L R12_Spectra_b :=
  (show RngsOK R12_Spectra_C R12_Spectra_L R12_Spectra_b = (True) by kernel_rfl).mpr trivial
theorem R12_Spectra_ok : EntOK Try.prog 34 R12_Spectra_e :=
  entOf_ok (e := evFn R12_Spectra_C R12_Spectra_L Try.f34) (fun v n K => Eq.trans (R12_Spectra_def v.1 v.2.1 (fun (r0 : (List (List Int))) => K (.os (n + 0)) [.val true false 22 (.row (.sl (.int .i64))) r0]) (fun (r0 : (List (List Int))) => K (.os (n + 0)) [.val true true 22 (.row (.sl (.int .i64))) r0])) (by kernel_rfl)) (evFn_ok (mkCE_all (fns := R12_Spectra_f) tys_ok eqs_ok ⟨⟨R12_Pick_ok, Try.call70⟩, trivial⟩ mixed) Try.func34 (show Try.f34.body = some R12_Spectra_b by kernel_rfl) ⟨R12_Spectra_lo, R12_Spectra_jo, by kernel_rfl, R12_Spectra_ro⟩)

end
end Go.Eng.A
