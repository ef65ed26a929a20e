/- Each of these functions is what the program computes: printed by program. -/
import Derived.Test.YtniabjhjpkkllaaEngT
import Derived.Test.YtniabjhjpkkllaaLapNearP
import Derived.Test.YtniabjhjpkkllaaProg
import Derived.Test.YtniabjhjpkkllaaLapNearTb
set_option linter.unusedVariables false
set_option maxRecDepth 100000
namespace Go.Eng.A
open Go Go.Eng Go.Proofs
noncomputable section

noncomputable def trig_Make_e : Ent := entOf [] fun (v : Unit) n K => trig_Make (fun (r0 : (List Int)) => K (.t true (.ptr (.arr 512 (.int .i64))) r0) [])
noncomputable def trig_Make_f : List (Nat × Ent) := [(41, trig_first_e)]
noncomputable def trig_Make_C : Cfg := mkCE tys eqs trig_Make_f
noncomputable def trig_Make_b : Code := match Try.f13.body with | some c => c | none => .skip
def trig_Make_y0 : Lay := ⟨47, [(1, .fx (.op 0 (.arr 512 (.int .i64)) [])), (2, .fx (.op 1 (.arr 129 (.int .i64)) [])), (7, .tm true (.int .i64))], [.val true true 55 (.arr 512 (.int .i64)), .val true true 56 (.arr 129 (.int .i64))]⟩
def trig_Make_y1 : Lay := ⟨47, [(1, .fx (.op 0 (.arr 512 (.int .i64)) []))], [.val true true 55 (.arr 512 (.int .i64))]⟩
noncomputable def trig_Make_l3_F (k : Nat) (v : (Int × Unit) × ((List Int) × (List Int) × Unit)) (K : KK) : Prop := trig_Make_l3 k v.1.1 v.2.1 v.2.2.1 (fun (y0 : (List Int)) => K (.exit 0) (st trig_Make_y1 ((()), (y0, ()))))
noncomputable def trig_Make_l3_c : Cut := ⟨trig_Make_y0, fun o => match o with | .exit 0 => some trig_Make_y1 | _ => none, fun (v : (Int × Unit) × ((List Int) × (List Int) × Unit)) K => ∃ k, trig_Make_l3_F k v K⟩
noncomputable def trig_Make_L : Cuts := mkS ((.ptr (.arr 512 (.int .i64)))) [(3, trig_Make_l3_c)] []
theorem trig_Make_lo : LoopsOK trig_Make_C trig_Make_L trig_Make_b :=
  (show LoopsOK trig_Make_C trig_Make_L trig_Make_b = ((LoopOK trig_Make_C trig_Make_L trig_Make_l3_c (nthB (loopsOf trig_Make_b) 0) ∧ True) ∧ True) by kernel_rfl).mpr ⟨⟨⟨trig_Make_l3_F, fun v K => by kernel_rfl, fun v K => by kernel_rfl, fun k v K => by kernel_rfl⟩, trivial⟩, trivial⟩
theorem trig_Make_jo : JoinsOK trig_Make_C trig_Make_L trig_Make_b := (show JoinsOK trig_Make_C trig_Make_L trig_Make_b = True by kernel_rfl).mpr trivial
theorem trig_Make_ro : RngsOK trig_Make_C trig_Make_L trig_Make_b :=
  (show RngsOK trig_Make_C trig_Make_L trig_Make_b = (True) by kernel_rfl).mpr trivial
theorem trig_Make_ok : EntOK Try.prog 13 trig_Make_e :=
  entOf_ok (e := evFn trig_Make_C trig_Make_L Try.f13) (fun v n K => Eq.trans (trig_Make_def (fun (r0 : (List Int)) => K (.t true (.ptr (.arr 512 (.int .i64))) r0) [])) (by kernel_rfl)) (evFn_ok (mkCE_all (fns := trig_Make_f) tys_ok eqs_ok ⟨⟨trig_first_ok, Try.call41⟩, trivial⟩ mixed) Try.func13 (show Try.f13.body = some trig_Make_b by kernel_rfl) ⟨trig_Make_lo, trig_Make_jo, by kernel_rfl, trig_Make_ro⟩)

noncomputable def lap_right_e : Ent := entOf [.tm (.sl (.int .i64)), .tm (.arr 8 (.int .i64))] fun (v : (List Int) × (List Int) × Unit) n K => lap_right v.1 v.2.1 (fun (r0 : Bool) => K (.t true .bool r0) [])
noncomputable def lap_right_f : List (Nat × Ent) := []
noncomputable def lap_right_C : Cfg := mkCE tys eqs lap_right_f
noncomputable def lap_right_b : Code := match Try.f64.body with | some c => c | none => .skip
def lap_right_y0 : Lay := ⟨36, [(0, .tm false (.sl (.int .i64))), (3, .fx (.op 0 (.arr 8 (.int .i64)) [])), (9, .tm false (.sl (.int .i64))), (10, .tm true (.int .i64)), (11, .tm true (.int .i64))], [.val true true 45 (.arr 8 (.int .i64))]⟩
def lap_right_y1 : Lay := ⟨36, [(4, .tm true .bool)], []⟩
def lap_right_y2 : Lay := ⟨36, [(0, .tm false (.sl (.int .i64))), (3, .fx (.op 0 (.arr 8 (.int .i64)) []))], [.val true true 45 (.arr 8 (.int .i64))]⟩
noncomputable def lap_right_l2_F (k : Nat) (v : ((List Int) × (List Int) × Int × Int × Unit) × ((List Int) × Unit)) (K : KK) : Prop := lap_right_l2 k v.1.1 v.1.2.1 v.1.2.2.1 v.1.2.2.2.1 v.2.1 (fun (y0 : Bool) => K .ret (st lap_right_y1 ((y0, ()), (())))) (fun (y0 : (List Int)) (y1 : (List Int)) => K (.exit 0) (st lap_right_y2 ((y0, ()), (y1, ()))))
noncomputable def lap_right_l2_c : Cut := ⟨lap_right_y0, fun o => match o with | .ret => some lap_right_y1 | .exit 0 => some lap_right_y2 | _ => none, fun (v : ((List Int) × (List Int) × Int × Int × Unit) × ((List Int) × Unit)) K => ∃ k, lap_right_l2_F k v K⟩
def lap_right_y3 : Lay := ⟨36, [(0, .tm false (.sl (.int .i64))), (22, .tm true (.arr 8 (.int .i64))), (23, .tm true (.int .i64))], []⟩
def lap_right_y4 : Lay := ⟨36, [(0, .tm false (.sl (.int .i64)))], []⟩
noncomputable def lap_right_l8_F (k : Nat) (v : ((List Int) × (List Int) × Int × Unit) × (Unit)) (K : KK) : Prop := lap_right_l8 k v.1.1 v.1.2.1 v.1.2.2.1 (fun (y0 : Bool) => K .ret (st lap_right_y1 ((y0, ()), (())))) (fun (y0 : (List Int)) => K (.exit 2) (st lap_right_y4 ((y0, ()), (()))))
noncomputable def lap_right_l8_c : Cut := ⟨lap_right_y3, fun o => match o with | .ret => some lap_right_y1 | .exit 2 => some lap_right_y4 | _ => none, fun (v : ((List Int) × (List Int) × Int × Unit) × (Unit)) K => ∃ k, lap_right_l8_F k v K⟩
noncomputable def lap_right_L : Cuts := mkL [(2, lap_right_l2_c), (8, lap_right_l8_c)] []
theorem lap_right_lo : LoopsOK lap_right_C lap_right_L lap_right_b :=
  (show LoopsOK lap_right_C lap_right_L lap_right_b = ((LoopOK lap_right_C lap_right_L lap_right_l2_c (nthB (loopsOf lap_right_b) 0) ∧ True) ∧ (LoopOK lap_right_C lap_right_L lap_right_l8_c (nthB (loopsOf lap_right_b) 1) ∧ True) ∧ True) by kernel_rfl).mpr ⟨⟨⟨lap_right_l2_F, fun v K => by kernel_rfl, fun v K => by kernel_rfl, fun k v K => by kernel_rfl⟩, trivial⟩, ⟨⟨lap_right_l8_F, fun v K => by kernel_rfl, fun v K => by kernel_rfl, fun k v K => by kernel_rfl⟩, trivial⟩, trivial⟩
theorem lap_right_jo : JoinsOK lap_right_C lap_right_L lap_right_b := (show JoinsOK lap_right_C lap_right_L lap_right_b = True by kernel_rfl).mpr trivial
theorem lap_right_ro : RngsOK lap_right_C lap_right_L lap_right_b :=
  (show RngsOK lap_right_C lap_right_L lap_right_b = (True) by kernel_rfl).mpr trivial
theorem lap_right_ok : EntOK Try.prog 64 lap_right_e :=
  entOf_ok (e := evFn lap_right_C lap_right_L Try.f64) (fun v n K => Eq.trans (lap_right_def v.1 v.2.1 (fun (r0 : Bool) => K (.t true .bool r0) [])) (by kernel_rfl)) (evFn_ok (mkCE_all (fns := lap_right_f) tys_ok eqs_ok trivial mixed) Try.func64 (show Try.f64.body = some lap_right_b by kernel_rfl) ⟨lap_right_lo, lap_right_jo, by kernel_rfl, lap_right_ro⟩)

noncomputable def lap_blocks_e : Ent := entOf [.tm (.ptr (.arr 512 (.int .i64))), .tm (.sl (.int .i64)), .tm .bool] fun (v : (List Int) × (List Int) × Bool × Unit) n K => lap_blocks v.1 v.2.1 v.2.2.1 (fun (r0 : Bool) (r1 : (List Int)) (r2 : (List Int)) => K (.fn 92 [.op (n + 0) .bool [], .op (n + 1) (.ptr (.arr 512 (.int .i64))) [], .op (n + 2) (.sl (.int .i64)) []]) [.val true true 4 .bool r0, .val true false 25 (.ptr (.arr 512 (.int .i64))) r1, .val true false 22 (.sl (.int .i64)) r2])
noncomputable def lap_blocks_f : List (Nat × Ent) := []
noncomputable def lap_blocks_C : Cfg := mkCE tys eqs lap_blocks_f
noncomputable def lap_blocks_b : Code := match Try.f65.body with | some c => c | none => .skip
noncomputable def lap_blocks_L : Cuts := mkL [] []
theorem lap_blocks_lo : LoopsOK lap_blocks_C lap_blocks_L lap_blocks_b := (show LoopsOK lap_blocks_C lap_blocks_L lap_blocks_b = True by kernel_rfl).mpr trivial
theorem lap_blocks_jo : JoinsOK lap_blocks_C lap_blocks_L lap_blocks_b := (show JoinsOK lap_blocks_C lap_blocks_L lap_blocks_b = True by kernel_rfl).mpr trivial
theorem lap_blocks_ro : RngsOK lap_blocks_C lap_blocks_L lap_blocks_b :=
  (show RngsOK lap_blocks_C lap_blocks_L lap_blocks_b = (True) by kernel_rfl).mpr trivial
theorem lap_blocks_ok : EntOK Try.prog 65 lap_blocks_e :=
  entOf_ok (e := evFn lap_blocks_C lap_blocks_L Try.f65) (fun v n K => Eq.trans (lap_blocks_def v.1 v.2.1 v.2.2.1 (fun (r0 : Bool) (r1 : (List Int)) (r2 : (List Int)) => K (.fn 92 [.op (n + 0) .bool [], .op (n + 1) (.ptr (.arr 512 (.int .i64))) [], .op (n + 2) (.sl (.int .i64)) []]) [.val true true 4 .bool r0, .val true false 25 (.ptr (.arr 512 (.int .i64))) r1, .val true false 22 (.sl (.int .i64)) r2])) (by kernel_rfl)) (evFn_ok (mkCE_all (fns := lap_blocks_f) tys_ok eqs_ok trivial mixed) Try.func65 (show Try.f65.body = some lap_blocks_b by kernel_rfl) ⟨lap_blocks_lo, lap_blocks_jo, by kernel_rfl, lap_blocks_ro⟩)

noncomputable def dct_right_e : Ent := entOf [.tm (.sl (.int .i64)), .tm (.int .i64)] fun (v : (List Int) × Int × Unit) n K => dct_right v.1 v.2.1 (fun (r0 : Bool) => K (.t true .bool r0) [])
noncomputable def dct_right_f : List (Nat × Ent) := []
noncomputable def dct_right_C : Cfg := mkCE tys eqs dct_right_f
noncomputable def dct_right_b : Code := match Try.f42.body with | some c => c | none => .skip
def dct_right_y0 : Lay := ⟨31, [(1, .tm true (.int .i64)), (15, .tm false (.sl (.int .i64))), (16, .tm true (.int .i64)), (17, .tm true (.int .i64))], []⟩
def dct_right_y1 : Lay := ⟨31, [(4, .tm true .bool)], []⟩
def dct_right_y2 : Lay := ⟨31, [], []⟩
noncomputable def dct_right_l4_F (k : Nat) (v : (Int × (List Int) × Int × Int × Unit) × (Unit)) (K : KK) : Prop := dct_right_l4 k v.1.1 v.1.2.1 v.1.2.2.1 v.1.2.2.2.1 (fun (y0 : Bool) => K .ret (st dct_right_y1 ((y0, ()), (())))) (K (.exit 0) (st dct_right_y2 ((()), (()))))
noncomputable def dct_right_l4_c : Cut := ⟨dct_right_y0, fun o => match o with | .ret => some dct_right_y1 | .exit 0 => some dct_right_y2 | _ => none, fun (v : (Int × (List Int) × Int × Int × Unit) × (Unit)) K => ∃ k, dct_right_l4_F k v K⟩
def dct_right_y3 : Lay := ⟨31, [(0, .tm false (.sl (.int .i64))), (1, .tm true (.int .i64))], []⟩
noncomputable def dct_right_j3_c : Cut := ⟨dct_right_y3, fun o => match o with | .ret => some dct_right_y1 | _ => none, fun (v : ((List Int) × Int × Unit) × (Unit)) (K : KK) => dct_right_j3 v.1.1 v.1.2.1 (fun (y0 : Bool) => K .ret (st dct_right_y1 ((y0, ()), (()))))⟩
noncomputable def dct_right_L : Cuts := mkL [(4, dct_right_l4_c)] [(3, dct_right_j3_c)]
theorem dct_right_lo : LoopsOK dct_right_C dct_right_L dct_right_b :=
  (show LoopsOK dct_right_C dct_right_L dct_right_b = ((LoopOK dct_right_C dct_right_L dct_right_l4_c (nthB (loopsOf dct_right_b) 0) ∧ True) ∧ True) by kernel_rfl).mpr ⟨⟨⟨dct_right_l4_F, fun v K => by kernel_rfl, fun v K => by kernel_rfl, fun k v K => by kernel_rfl⟩, trivial⟩, trivial⟩
theorem dct_right_jo : JoinsOK dct_right_C dct_right_L dct_right_b :=
  (show JoinsOK dct_right_C dct_right_L dct_right_b = ((JoinOK dct_right_C dct_right_L dct_right_j3_c (nthB (joinsOf dct_right_L dct_right_b) 0) ∧ True) ∧ True) by kernel_rfl).mpr ⟨⟨fun v K => by kernel_rfl, trivial⟩, trivial⟩
theorem dct_right_ro : RngsOK dct_right_C dct_right_L dct_right_b :=
  (show RngsOK dct_right_C dct_right_L dct_right_b = (True) by kernel_rfl).mpr trivial
theorem dct_right_ok : EntOK Try.prog 42 dct_right_e :=
  entOf_ok (e := evFn dct_right_C dct_right_L Try.f42) (fun v n K => Eq.trans (dct_right_def v.1 v.2.1 (fun (r0 : Bool) => K (.t true .bool r0) [])) (by kernel_rfl)) (evFn_ok (mkCE_all (fns := dct_right_f) tys_ok eqs_ok trivial mixed) Try.func42 (show Try.f42.body = some dct_right_b by kernel_rfl) ⟨dct_right_lo, dct_right_jo, by kernel_rfl, dct_right_ro⟩)

noncomputable def dct_angles_e : Ent := entOf [.tm (.sl (.int .i64)), .tm (.int .i64)] fun (v : (List Int) × Int × Unit) n K => dct_angles v.1 v.2.1 (fun (r0 : (List Int)) (r1 : Int) => K (.fn 96 [.op (n + 0) (.sl (.int .i64)) [], .op (n + 1) (.int .i64) []]) [.val true false 22 (.sl (.int .i64)) r0, .val true true 3 (.int .i64) r1])
noncomputable def dct_angles_f : List (Nat × Ent) := []
noncomputable def dct_angles_C : Cfg := mkCE tys eqs dct_angles_f
noncomputable def dct_angles_b : Code := match Try.f79.body with | some c => c | none => .skip
noncomputable def dct_angles_L : Cuts := mkL [] []
theorem dct_angles_lo : LoopsOK dct_angles_C dct_angles_L dct_angles_b := (show LoopsOK dct_angles_C dct_angles_L dct_angles_b = True by kernel_rfl).mpr trivial
theorem dct_angles_jo : JoinsOK dct_angles_C dct_angles_L dct_angles_b := (show JoinsOK dct_angles_C dct_angles_L dct_angles_b = True by kernel_rfl).mpr trivial
theorem dct_angles_ro : RngsOK dct_angles_C dct_angles_L dct_angles_b :=
  (show RngsOK dct_angles_C dct_angles_L dct_angles_b = (True) by kernel_rfl).mpr trivial
theorem dct_angles_ok : EntOK Try.prog 79 dct_angles_e :=
  entOf_ok (e := evFn dct_angles_C dct_angles_L Try.f79) (fun v n K => Eq.trans (dct_angles_def v.1 v.2.1 (fun (r0 : (List Int)) (r1 : Int) => K (.fn 96 [.op (n + 0) (.sl (.int .i64)) [], .op (n + 1) (.int .i64) []]) [.val true false 22 (.sl (.int .i64)) r0, .val true true 3 (.int .i64) r1])) (by kernel_rfl)) (evFn_ok (mkCE_all (fns := dct_angles_f) tys_ok eqs_ok trivial mixed) Try.func79 (show Try.f79.body = some dct_angles_b by kernel_rfl) ⟨dct_angles_lo, dct_angles_jo, by kernel_rfl, dct_angles_ro⟩)

noncomputable def It_dct_angles_1_e : ItE := itOf [(false, (.ptr (.sl (.int .i64)))), (true, (.ptr (.int .i64)))] [(true, (.int .i64)), (true, (.int .i64))] fun (cv : (List Int) × Int × Unit) (S : Type) (rd : (Int × Int × Unit) → S → (Bool → S → Prop) → Prop) (s : S) (K : S → Prop) => It_dct_angles_1 cv.1 cv.2.1 S rd s K
noncomputable def It_dct_angles_1_f : List (Nat × Ent) := []
noncomputable def It_dct_angles_1_C : Cfg := mkCE tys eqs It_dct_angles_1_f
noncomputable def It_dct_angles_1_b : Code := match Try.f96.body with | some c => c | none => .skip
def It_dct_angles_1_y0 : Lay := ⟨32, [(4, .tm true (.int .i64)), (5, .tm true (.int .i64)), (16, .tm false (.sl (.int .i64))), (17, .tm true (.int .i64)), (18, .tm true (.int .i64))], []⟩
def It_dct_angles_1_y1 : Lay := ⟨32, [], []⟩
noncomputable def It_dct_angles_1_l3_F (k : Nat) (v : (Int × Int × (List Int) × Int × Int × Unit) × (Unit)) (S : Type) (rd : Rnd S) (s : S) (K : KI S) : Prop := It_dct_angles_1_l3 S (fun x => rd (clV [(true, (.int .i64)), (true, (.int .i64))] x)) k v.1.1 v.1.2.1 v.1.2.2.1 v.1.2.2.2.1 v.1.2.2.2.2.1 s (fun  (s1 : S) => K .ret (st It_dct_angles_1_y1 ((()), (()))) s1) (fun  (s1 : S) => K (.exit 0) (st It_dct_angles_1_y1 ((()), (()))) s1)
noncomputable def It_dct_angles_1_l3_c : ICut := ⟨It_dct_angles_1_y0, fun o => match o with | .ret => some It_dct_angles_1_y1 | .exit 0 => some It_dct_angles_1_y1 | _ => none, fun (v : (Int × Int × (List Int) × Int × Int × Unit) × (Unit)) S rd s K => ∃ k, It_dct_angles_1_l3_F k v S rd s K⟩
noncomputable def It_dct_angles_1_L : ICuts := icL [(3, It_dct_angles_1_l3_c)]
theorem It_dct_angles_1_lo : AllL (fun p => ∀ cut, It_dct_angles_1_L p.1 = some cut → IterOK It_dct_angles_1_C It_dct_angles_1_L cut p.2) (loopsOf It_dct_angles_1_b) :=
  (show AllL (fun p => ∀ cut, It_dct_angles_1_L p.1 = some cut → IterOK It_dct_angles_1_C It_dct_angles_1_L cut p.2) (loopsOf It_dct_angles_1_b) = ((∀ cut, It_dct_angles_1_L 3 = some cut → IterOK It_dct_angles_1_C It_dct_angles_1_L cut (nthB (loopsOf It_dct_angles_1_b) 0)) ∧ True) by kernel_rfl).mpr ⟨of_some (a := It_dct_angles_1_l3_c) (by kernel_rfl) ⟨It_dct_angles_1_l3_F, fun v S rd s K => by kernel_rfl, fun v S rd s K => by kernel_rfl, fun k v S rd s K => by kernel_rfl⟩, trivial⟩
theorem It_dct_angles_1_ok : ItAll Try.prog 96 It_dct_angles_1_e :=
  itOf_ok (e := evItFn It_dct_angles_1_C It_dct_angles_1_L Try.f96) (fun cv S rd s K => Eq.trans (It_dct_angles_1_def cv.1 cv.2.1 S (fun x => rd (clV [(true, (.int .i64)), (true, (.int .i64))] x)) s K) (by kernel_rfl)) (itFn_ok (mkCE_all (fns := It_dct_angles_1_f) tys_ok eqs_ok trivial mixed) Try.func96 (show Try.f96.body = some It_dct_angles_1_b by kernel_rfl) (by kernel_rfl) ⟨It_dct_angles_1_lo, by kernel_rfl, by kernel_rfl⟩)

noncomputable def trig_Table__Cos_e : Ent := entOf [.tm (.ptr (.arr 512 (.int .i64))), .tm (.int .i64)] fun (v : (List Int) × Int × Unit) n K => trig_Table__Cos v.1 v.2.1 (fun (r0 : Int) => K (.t true (.int .i64) r0) [])
noncomputable def trig_Table__Cos_f : List (Nat × Ent) := []
noncomputable def trig_Table__Cos_C : Cfg := mkCE tys eqs trig_Table__Cos_f
noncomputable def trig_Table__Cos_b : Code := match Try.f80.body with | some c => c | none => .skip
noncomputable def trig_Table__Cos_L : Cuts := mkL [] []
theorem trig_Table__Cos_lo : LoopsOK trig_Table__Cos_C trig_Table__Cos_L trig_Table__Cos_b := (show LoopsOK trig_Table__Cos_C trig_Table__Cos_L trig_Table__Cos_b = True by kernel_rfl).mpr trivial
theorem trig_Table__Cos_jo : JoinsOK trig_Table__Cos_C trig_Table__Cos_L trig_Table__Cos_b := (show JoinsOK trig_Table__Cos_C trig_Table__Cos_L trig_Table__Cos_b = True by kernel_rfl).mpr trivial
theorem trig_Table__Cos_ro : RngsOK trig_Table__Cos_C trig_Table__Cos_L trig_Table__Cos_b :=
  (show RngsOK trig_Table__Cos_C trig_Table__Cos_L trig_Table__Cos_b = (True) by kernel_rfl).mpr trivial
theorem trig_Table__Cos_ok : EntOK Try.prog 80 trig_Table__Cos_e :=
  entOf_ok (e := evFn trig_Table__Cos_C trig_Table__Cos_L Try.f80) (fun v n K => Eq.trans (trig_Table__Cos_def v.1 v.2.1 (fun (r0 : Int) => K (.t true (.int .i64) r0) [])) (by kernel_rfl)) (evFn_ok (mkCE_all (fns := trig_Table__Cos_f) tys_ok eqs_ok trivial mixed) Try.func80 (show Try.f80.body = some trig_Table__Cos_b by kernel_rfl) ⟨trig_Table__Cos_lo, trig_Table__Cos_jo, by kernel_rfl, trig_Table__Cos_ro⟩)

end
end Go.Eng.A
