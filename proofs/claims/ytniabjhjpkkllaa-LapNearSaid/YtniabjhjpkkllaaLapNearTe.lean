/- Each of these functions is what the program computes: printed by program. -/
import Derived.Test.YtniabjhjpkkllaaEngT
import Derived.Test.YtniabjhjpkkllaaLapNearP
import Derived.Test.YtniabjhjpkkllaaProg
import Derived.Test.YtniabjhjpkkllaaLapNearTd
set_option linter.unusedVariables false
set_option maxRecDepth 100000
namespace Go.Eng.A
open Go Go.Eng Go.Proofs
noncomputable section

noncomputable def It_lap_blocks_1_e : ItE := itOf [(true, (.ptr .bool)), (false, (.ptr (.ptr (.arr 512 (.int .i64))))), (false, (.ptr (.sl (.int .i64))))] [(true, (.sl (.int .i64)))] fun (cv : Bool × (List Int) × (List Int) × Unit) (S : Type) (rd : ((List Int) × Unit) → S → (Bool → S → Prop) → Prop) (s : S) (K : S → Prop) => It_lap_blocks_1 cv.1 cv.2.1 cv.2.2.1 S rd s K
noncomputable def It_lap_blocks_1_f : List (Nat × Ent) := [(15, dct_Back_e), (93, lap_Pick_e)]
noncomputable def It_lap_blocks_1_C : Cfg := mkCE tys eqs It_lap_blocks_1_f
noncomputable def It_lap_blocks_1_b : Code := match Try.f92.body with | some c => c | none => .skip
def It_lap_blocks_1_y0 : Lay := ⟨25, [(2, .tm false (.ptr (.ptr (.arr 512 (.int .i64))))), (3, .tm false (.ptr (.sl (.int .i64)))), (13, .tm true (.int .i64))], []⟩
def It_lap_blocks_1_y1 : Lay := ⟨25, [], []⟩
noncomputable def It_lap_blocks_1_l3_F (k : Nat) (v : ((List Int) × (List Int) × Int × Unit) × (Unit)) (S : Type) (rd : Rnd S) (s : S) (K : KI S) : Prop := It_lap_blocks_1_l3 S (fun x => rd (clV [(true, (.sl (.int .i64)))] x)) k v.1.1 v.1.2.1 v.1.2.2.1 s (fun  (s1 : S) => K .ret (st It_lap_blocks_1_y1 ((()), (()))) s1) (fun  (s1 : S) => K (.exit 0) (st It_lap_blocks_1_y1 ((()), (()))) s1)
noncomputable def It_lap_blocks_1_l3_c : ICut := ⟨It_lap_blocks_1_y0, fun o => match o with | .ret => some It_lap_blocks_1_y1 | .exit 0 => some It_lap_blocks_1_y1 | _ => none, fun (v : ((List Int) × (List Int) × Int × Unit) × (Unit)) S rd s K => ∃ k, It_lap_blocks_1_l3_F k v S rd s K⟩
noncomputable def It_lap_blocks_1_L : ICuts := icL [(3, It_lap_blocks_1_l3_c)]
theorem It_lap_blocks_1_lo : AllL (fun p => ∀ cut, It_lap_blocks_1_L p.1 = some cut → IterOK It_lap_blocks_1_C It_lap_blocks_1_L cut p.2) (loopsOf It_lap_blocks_1_b) :=
  (show AllL (fun p => ∀ cut, It_lap_blocks_1_L p.1 = some cut → IterOK It_lap_blocks_1_C It_lap_blocks_1_L cut p.2) (loopsOf It_lap_blocks_1_b) = ((∀ cut, It_lap_blocks_1_L 3 = some cut → IterOK It_lap_blocks_1_C It_lap_blocks_1_L cut (nthB (loopsOf It_lap_blocks_1_b) 0)) ∧ True) by kernel_rfl).mpr ⟨of_some (a := It_lap_blocks_1_l3_c) (by kernel_rfl) ⟨It_lap_blocks_1_l3_F, fun v S rd s K => by kernel_rfl, fun v S rd s K => by kernel_rfl, fun k v S rd s K => by kernel_rfl⟩, trivial⟩
theorem It_lap_blocks_1_ok : ItAll Try.prog 92 It_lap_blocks_1_e :=
  itOf_ok (e := evItFn It_lap_blocks_1_C It_lap_blocks_1_L Try.f92) (fun cv S rd s K => Eq.trans (It_lap_blocks_1_def cv.1 cv.2.1 cv.2.2.1 S (fun x => rd (clV [(true, (.sl (.int .i64)))] x)) s K) (by kernel_rfl)) (itFn_ok (mkCE_all (fns := It_lap_blocks_1_f) tys_ok eqs_ok ⟨⟨dct_Back_ok, Try.call15⟩, ⟨lap_Pick_ok, Try.call93⟩, trivial⟩ mixed) Try.func92 (show Try.f92.body = some It_lap_blocks_1_b by kernel_rfl) (by kernel_rfl) ⟨It_lap_blocks_1_lo, by kernel_rfl, by kernel_rfl⟩)

noncomputable def window_within_e : Ent := entOf [.tm (.sl (.int .i64)), .tm (.int .i64), .tm (.int .i64)] fun (v : (List Int) × Int × Int × Unit) n K => window_within v.1 v.2.1 v.2.2.1 (fun (r0 : Bool) => K (.t true .bool r0) [])
noncomputable def window_within_f : List (Nat × Ent) := []
noncomputable def window_within_C : Cfg := mkCE tys eqs window_within_f
noncomputable def window_within_b : Code := match Try.f94.body with | some c => c | none => .skip
def window_within_y0 : Lay := ⟨36, [(2, .tm true (.int .i64)), (20, .tm false (.sl (.int .i64))), (21, .tm true (.int .i64)), (22, .tm true (.int .i64))], []⟩
def window_within_y1 : Lay := ⟨36, [(6, .tm true .bool)], []⟩
def window_within_y2 : Lay := ⟨36, [], []⟩
noncomputable def window_within_l5_F (k : Nat) (v : (Int × (List Int) × Int × Int × Unit) × (Unit)) (K : KK) : Prop := window_within_l5 k v.1.1 v.1.2.1 v.1.2.2.1 v.1.2.2.2.1 (fun (y0 : Bool) => K .ret (st window_within_y1 ((y0, ()), (())))) (K (.exit 0) (st window_within_y2 ((()), (()))))
noncomputable def window_within_l5_c : Cut := ⟨window_within_y0, fun o => match o with | .ret => some window_within_y1 | .exit 0 => some window_within_y2 | _ => none, fun (v : (Int × (List Int) × Int × Int × Unit) × (Unit)) K => ∃ k, window_within_l5_F k v K⟩
def window_within_y3 : Lay := ⟨36, [(0, .tm false (.sl (.int .i64))), (2, .tm true (.int .i64))], []⟩
noncomputable def window_within_j4_c : Cut := ⟨window_within_y3, fun o => match o with | .ret => some window_within_y1 | _ => none, fun (v : ((List Int) × Int × Unit) × (Unit)) (K : KK) => window_within_j4 v.1.1 v.1.2.1 (fun (y0 : Bool) => K .ret (st window_within_y1 ((y0, ()), (()))))⟩
noncomputable def window_within_L : Cuts := mkL [(5, window_within_l5_c)] [(4, window_within_j4_c)]
theorem window_within_lo : LoopsOK window_within_C window_within_L window_within_b :=
  (show LoopsOK window_within_C window_within_L window_within_b = ((LoopOK window_within_C window_within_L window_within_l5_c (nthB (loopsOf window_within_b) 0) ∧ True) ∧ True) by kernel_rfl).mpr ⟨⟨⟨window_within_l5_F, fun v K => by kernel_rfl, fun v K => by kernel_rfl, fun k v K => by kernel_rfl⟩, trivial⟩, trivial⟩
theorem window_within_jo : JoinsOK window_within_C window_within_L window_within_b :=
  (show JoinsOK window_within_C window_within_L window_within_b = ((JoinOK window_within_C window_within_L window_within_j4_c (nthB (joinsOf window_within_L window_within_b) 0) ∧ True) ∧ True) by kernel_rfl).mpr ⟨⟨fun v K => by kernel_rfl, trivial⟩, trivial⟩
theorem window_within_ro : RngsOK window_within_C window_within_L window_within_b :=
  (show RngsOK window_within_C window_within_L window_within_b = (True) by kernel_rfl).mpr trivial
theorem window_within_ok : EntOK Try.prog 94 window_within_e :=
  entOf_ok (e := evFn window_within_C window_within_L Try.f94) (fun v n K => Eq.trans (window_within_def v.1 v.2.1 v.2.2.1 (fun (r0 : Bool) => K (.t true .bool r0) [])) (by kernel_rfl)) (evFn_ok (mkCE_all (fns := window_within_f) tys_ok eqs_ok trivial mixed) Try.func94 (show Try.f94.body = some window_within_b by kernel_rfl) ⟨window_within_lo, window_within_jo, by kernel_rfl, window_within_ro⟩)

noncomputable def window_Slope_e : Ent := entOf [] fun (v : Unit) n K => window_Slope (fun (r0 : (List Int)) => K (.t true (.arr 8 (.int .i64)) r0) [])
noncomputable def window_Slope_f : List (Nat × Ent) := []
noncomputable def window_Slope_C : Cfg := mkCE tys eqs window_Slope_f
noncomputable def window_Slope_b : Code := match Try.f95.body with | some c => c | none => .skip
noncomputable def window_Slope_L : Cuts := mkL [] []
theorem window_Slope_lo : LoopsOK window_Slope_C window_Slope_L window_Slope_b := (show LoopsOK window_Slope_C window_Slope_L window_Slope_b = True by kernel_rfl).mpr trivial
theorem window_Slope_jo : JoinsOK window_Slope_C window_Slope_L window_Slope_b := (show JoinsOK window_Slope_C window_Slope_L window_Slope_b = True by kernel_rfl).mpr trivial
theorem window_Slope_ro : RngsOK window_Slope_C window_Slope_L window_Slope_b :=
  (show RngsOK window_Slope_C window_Slope_L window_Slope_b = (True) by kernel_rfl).mpr trivial
theorem window_Slope_ok : EntOK Try.prog 95 window_Slope_e :=
  entOf_ok (e := evFn window_Slope_C window_Slope_L Try.f95) (fun v n K => Eq.trans (window_Slope_def (fun (r0 : (List Int)) => K (.t true (.arr 8 (.int .i64)) r0) [])) (by kernel_rfl)) (evFn_ok (mkCE_all (fns := window_Slope_f) tys_ok eqs_ok trivial mixed) Try.func95 (show Try.f95.body = some window_Slope_b by kernel_rfl) ⟨window_Slope_lo, window_Slope_jo, by kernel_rfl, window_Slope_ro⟩)

noncomputable def window_Left_e : Ent := entOf [.tm (.sl (.int .i64))] fun (v : (List Int) × Unit) n K => window_Left v.1 (fun (r0 : (List Int)) => K (.t true (.arr 8 (.int .i64)) r0) [])
noncomputable def window_Left_f : List (Nat × Ent) := [(94, window_within_e), (95, window_Slope_e)]
noncomputable def window_Left_C : Cfg := mkCE tys eqs window_Left_f
noncomputable def window_Left_b : Code := match Try.f67.body with | some c => c | none => .skip
def window_Left_y0 : Lay := ⟨40, [(0, .tm false (.sl (.int .i64))), (2, .fx (.op 0 (.arr 8 (.int .i64)) [])), (3, .fx (.op 1 (.arr 8 (.int .i64)) [])), (4, .fx (.op 2 (.arr 8 (.int .i64)) [])), (11, .tm true (.int .i64))], [.val true true 45 (.arr 8 (.int .i64)), .val true true 45 (.arr 8 (.int .i64)), .val true true 45 (.arr 8 (.int .i64))]⟩
def window_Left_y1 : Lay := ⟨40, [(2, .fx (.op 0 (.arr 8 (.int .i64)) [])), (3, .fx (.op 1 (.arr 8 (.int .i64)) []))], [.val true true 45 (.arr 8 (.int .i64)), .val true true 45 (.arr 8 (.int .i64))]⟩
noncomputable def window_Left_l6_F (k : Nat) (v : ((List Int) × Int × Unit) × ((List Int) × (List Int) × (List Int) × Unit)) (K : KK) : Prop := window_Left_l6 k v.1.1 v.1.2.1 v.2.1 v.2.2.1 v.2.2.2.1 (fun (y0 : (List Int)) (y1 : (List Int)) => K (.exit 0) (st window_Left_y1 ((()), (y0, y1, ()))))
noncomputable def window_Left_l6_c : Cut := ⟨window_Left_y0, fun o => match o with | .exit 0 => some window_Left_y1 | _ => none, fun (v : ((List Int) × Int × Unit) × ((List Int) × (List Int) × (List Int) × Unit)) K => ∃ k, window_Left_l6_F k v K⟩
noncomputable def window_Left_L : Cuts := mkL [(6, window_Left_l6_c)] []
theorem window_Left_lo : LoopsOK window_Left_C window_Left_L window_Left_b :=
  (show LoopsOK window_Left_C window_Left_L window_Left_b = ((LoopOK window_Left_C window_Left_L window_Left_l6_c (nthB (loopsOf window_Left_b) 0) ∧ True) ∧ True) by kernel_rfl).mpr ⟨⟨⟨window_Left_l6_F, fun v K => by kernel_rfl, fun v K => by kernel_rfl, fun k v K => by kernel_rfl⟩, trivial⟩, trivial⟩
theorem window_Left_jo : JoinsOK window_Left_C window_Left_L window_Left_b := (show JoinsOK window_Left_C window_Left_L window_Left_b = True by kernel_rfl).mpr trivial
theorem window_Left_ro : RngsOK window_Left_C window_Left_L window_Left_b :=
  (show RngsOK window_Left_C window_Left_L window_Left_b = (True) by kernel_rfl).mpr trivial
theorem window_Left_ok : EntOK Try.prog 67 window_Left_e :=
  entOf_ok (e := evFn window_Left_C window_Left_L Try.f67) (fun v n K => Eq.trans (window_Left_def v.1 (fun (r0 : (List Int)) => K (.t true (.arr 8 (.int .i64)) r0) [])) (by kernel_rfl)) (evFn_ok (mkCE_all (fns := window_Left_f) tys_ok eqs_ok ⟨⟨window_within_ok, Try.call94⟩, ⟨window_Slope_ok, Try.call95⟩, trivial⟩ mixed) Try.func67 (show Try.f67.body = some window_Left_b by kernel_rfl) ⟨window_Left_lo, window_Left_jo, by kernel_rfl, window_Left_ro⟩)

noncomputable def window_Meet_e : Ent := entOf [.tm (.arr 8 (.int .i64)), .tm (.arr 8 (.int .i64))] fun (v : (List Int) × (List Int) × Unit) n K => window_Meet v.1 v.2.1 (fun (r0 : (List Int)) => K (.t true (.arr 8 (.int .i64)) r0) [])
noncomputable def window_Meet_f : List (Nat × Ent) := [(81, num_Shr_e)]
noncomputable def window_Meet_C : Cfg := mkCE tys eqs window_Meet_f
noncomputable def window_Meet_b : Code := match Try.f66.body with | some c => c | none => .skip
def window_Meet_y0 : Lay := ⟨40, [(2, .fx (.op 0 (.arr 8 (.int .i64)) [])), (3, .fx (.op 1 (.arr 8 (.int .i64)) [])), (4, .fx (.op 2 (.arr 8 (.int .i64)) [])), (5, .fx (.op 3 (.arr 8 (.int .i64)) [])), (6, .tm true (.int .i64)), (7, .tm true (.int .i64)), (27, .tm true .bool)], [.val true true 45 (.arr 8 (.int .i64)), .val true true 45 (.arr 8 (.int .i64)), .val true true 45 (.arr 8 (.int .i64)), .val true true 45 (.arr 8 (.int .i64))]⟩
def window_Meet_y1 : Lay := ⟨40, [(2, .fx (.op 0 (.arr 8 (.int .i64)) [])), (3, .fx (.op 1 (.arr 8 (.int .i64)) [])), (4, .fx (.op 2 (.arr 8 (.int .i64)) [])), (5, .fx (.op 3 (.arr 8 (.int .i64)) [])), (7, .tm true (.int .i64))], [.val true true 45 (.arr 8 (.int .i64)), .val true true 45 (.arr 8 (.int .i64)), .val true true 45 (.arr 8 (.int .i64)), .val true true 45 (.arr 8 (.int .i64))]⟩
noncomputable def window_Meet_j6_c : Cut := ⟨window_Meet_y0, fun o => match o with | .nrm => some window_Meet_y1 | _ => none, fun (v : (Int × Int × Bool × Unit) × ((List Int) × (List Int) × (List Int) × (List Int) × Unit)) (K : KK) => window_Meet_j6 v.1.1 v.1.2.1 v.1.2.2.1 v.2.1 v.2.2.1 v.2.2.2.1 v.2.2.2.2.1 (fun (y0 : Int) (y1 : (List Int)) (y2 : (List Int)) (y3 : (List Int)) (y4 : (List Int)) => K .nrm (st window_Meet_y1 ((y0, ()), (y1, y2, y3, y4, ()))))⟩
def window_Meet_y2 : Lay := ⟨40, [(4, .fx (.op 0 (.arr 8 (.int .i64)) [])), (5, .fx (.op 1 (.arr 8 (.int .i64)) []))], [.val true true 45 (.arr 8 (.int .i64)), .val true true 45 (.arr 8 (.int .i64))]⟩
noncomputable def window_Meet_l3_F (k : Nat) (v : (Int × Unit) × ((List Int) × (List Int) × (List Int) × (List Int) × Unit)) (K : KK) : Prop := window_Meet_l3 k v.1.1 v.2.1 v.2.2.1 v.2.2.2.1 v.2.2.2.2.1 (fun (y0 : (List Int)) (y1 : (List Int)) => K (.exit 0) (st window_Meet_y2 ((()), (y0, y1, ()))))
noncomputable def window_Meet_l3_c : Cut := ⟨window_Meet_y1, fun o => match o with | .exit 0 => some window_Meet_y2 | _ => none, fun (v : (Int × Unit) × ((List Int) × (List Int) × (List Int) × (List Int) × Unit)) K => ∃ k, window_Meet_l3_F k v K⟩
noncomputable def window_Meet_L : Cuts := mkL [(3, window_Meet_l3_c)] [(6, window_Meet_j6_c)]
theorem window_Meet_lo : LoopsOK window_Meet_C window_Meet_L window_Meet_b :=
  (show LoopsOK window_Meet_C window_Meet_L window_Meet_b = ((LoopOK window_Meet_C window_Meet_L window_Meet_l3_c (nthB (loopsOf window_Meet_b) 0) ∧ True) ∧ True) by kernel_rfl).mpr ⟨⟨⟨window_Meet_l3_F, fun v K => by kernel_rfl, fun v K => by kernel_rfl, fun k v K => by kernel_rfl⟩, trivial⟩, trivial⟩
theorem window_Meet_jo : JoinsOK window_Meet_C window_Meet_L window_Meet_b :=
  (show JoinsOK window_Meet_C window_Meet_L window_Meet_b = ((JoinOK window_Meet_C window_Meet_L window_Meet_j6_c (nthB (joinsOf window_Meet_L window_Meet_b) 0) ∧ True) ∧ True) by kernel_rfl).mpr ⟨⟨fun v K => by kernel_rfl, trivial⟩, trivial⟩
theorem window_Meet_ro : RngsOK window_Meet_C window_Meet_L window_Meet_b :=
  (show RngsOK window_Meet_C window_Meet_L window_Meet_b = (True) by kernel_rfl).mpr trivial
theorem window_Meet_ok : EntOK Try.prog 66 window_Meet_e :=
  entOf_ok (e := evFn window_Meet_C window_Meet_L Try.f66) (fun v n K => Eq.trans (window_Meet_def v.1 v.2.1 (fun (r0 : (List Int)) => K (.t true (.arr 8 (.int .i64)) r0) [])) (by kernel_rfl)) (evFn_ok (mkCE_all (fns := window_Meet_f) tys_ok eqs_ok ⟨⟨num_Shr_ok, Try.call81⟩, trivial⟩ mixed) Try.func66 (show Try.f66.body = some window_Meet_b by kernel_rfl) ⟨window_Meet_lo, window_Meet_jo, by kernel_rfl, window_Meet_ro⟩)

end
end Go.Eng.A
