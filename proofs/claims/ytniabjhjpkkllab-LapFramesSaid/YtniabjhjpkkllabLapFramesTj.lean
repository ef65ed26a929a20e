/- Each of these functions is what the program computes: printed by program. -/
import Derived.Test.YtniabjhjpkkllabEngT
import Derived.Test.YtniabjhjpkkllabLapFramesP
import Derived.Test.YtniabjhjpkkllabProg
import Derived.Test.YtniabjhjpkkllabLapFramesTi
set_option linter.unusedVariables false
set_option maxRecDepth 100000
namespace Go.Eng.A
open Go Go.Eng Go.Proofs
noncomputable section

noncomputable def R11_Meet_e : Ent := entOf [.tm (.arr 8 (.int .i64)), .tm (.arr 8 (.int .i64))] fun (v : (List Int) × (List Int) × Unit) n K => R11_Meet v.1 v.2.1 (fun (r0 : (List Int)) => K (.t true (.arr 8 (.int .i64)) r0) [])
noncomputable def R11_Meet_f : List (Nat × Ent) := [(28, R01_Shr_e)]
noncomputable def R11_Meet_C : Cfg := mkCE tys eqs R11_Meet_f
noncomputable def R11_Meet_b : Code := match Try.f39.body with | some c => c | none => .skip
def R11_Meet_y0 : Lay := ⟨45, [(2, .fx (.op 0 (.arr 8 (.int .i64)) [])), (3, .fx (.op 1 (.arr 8 (.int .i64)) [])), (4, .fx (.op 2 (.arr 8 (.int .i64)) [])), (5, .fx (.op 3 (.arr 8 (.int .i64)) [])), (6, .tm true (.int .i64)), (33, .tm true .bool)], [.val true true 31 (.arr 8 (.int .i64)), .val true true 31 (.arr 8 (.int .i64)), .val true true 31 (.arr 8 (.int .i64)), .val true true 31 (.arr 8 (.int .i64))]⟩
def R11_Meet_y1 : Lay := ⟨45, [(2, .fx (.op 0 (.arr 8 (.int .i64)) [])), (3, .fx (.op 1 (.arr 8 (.int .i64)) [])), (4, .fx (.op 2 (.arr 8 (.int .i64)) [])), (5, .fx (.op 3 (.arr 8 (.int .i64)) [])), (6, .tm true (.int .i64))], [.val true true 31 (.arr 8 (.int .i64)), .val true true 31 (.arr 8 (.int .i64)), .val true true 31 (.arr 8 (.int .i64)), .val true true 31 (.arr 8 (.int .i64))]⟩
noncomputable def R11_Meet_j6_c : Cut := ⟨R11_Meet_y0, fun o => match o with | .nrm => some R11_Meet_y1 | _ => none, fun (v : (Int × Bool × Unit) × ((List Int) × (List Int) × (List Int) × (List Int) × Unit)) (K : KK) => R11_Meet_j6 v.1.1 v.1.2.1 v.2.1 v.2.2.1 v.2.2.2.1 v.2.2.2.2.1 (fun (y0 : Int) (y1 : (List Int)) (y2 : (List Int)) (y3 : (List Int)) (y4 : (List Int)) => K .nrm (st R11_Meet_y1 ((y0, ()), (y1, y2, y3, y4, ()))))⟩
def R11_Meet_y2 : Lay := ⟨45, [(4, .fx (.op 0 (.arr 8 (.int .i64)) [])), (5, .fx (.op 1 (.arr 8 (.int .i64)) []))], [.val true true 31 (.arr 8 (.int .i64)), .val true true 31 (.arr 8 (.int .i64))]⟩
noncomputable def R11_Meet_l3_F (k : Nat) (v : (Int × Unit) × ((List Int) × (List Int) × (List Int) × (List Int) × Unit)) (K : KK) : Prop := R11_Meet_l3 k v.1.1 v.2.1 v.2.2.1 v.2.2.2.1 v.2.2.2.2.1 (fun (y0 : (List Int)) (y1 : (List Int)) => K (.exit 0) (st R11_Meet_y2 ((()), (y0, y1, ()))))
noncomputable def R11_Meet_l3_c : Cut := ⟨R11_Meet_y1, fun o => match o with | .exit 0 => some R11_Meet_y2 | _ => none, fun (v : (Int × Unit) × ((List Int) × (List Int) × (List Int) × (List Int) × Unit)) K => ∃ k, R11_Meet_l3_F k v K⟩
noncomputable def R11_Meet_L : Cuts := mkL [(3, R11_Meet_l3_c)] [(6, R11_Meet_j6_c)]
theorem R11_Meet_lo : LoopsOK R11_Meet_C R11_Meet_L R11_Meet_b :=
  (show LoopsOK R11_Meet_C R11_Meet_L R11_Meet_b = ((LoopOK R11_Meet_C R11_Meet_L R11_Meet_l3_c (nthB (loopsOf R11_Meet_b) 0) ∧ True) ∧ True) by kernel_rfl).mpr ⟨⟨⟨R11_Meet_l3_F, fun v K => by kernel_rfl, fun v K => by kernel_rfl, fun k v K => by kernel_rfl⟩, trivial⟩, trivial⟩
theorem R11_Meet_jo : JoinsOK R11_Meet_C R11_Meet_L R11_Meet_b :=
  (show JoinsOK R11_Meet_C R11_Meet_L R11_Meet_b = ((JoinOK R11_Meet_C R11_Meet_L R11_Meet_j6_c (nthB (joinsOf R11_Meet_L R11_Meet_b) 0) ∧ True) ∧ True) by kernel_rfl).mpr ⟨⟨fun v K => by kernel_rfl, trivial⟩, trivial⟩
theorem R11_Meet_ro : RngsOK R11_Meet_C R11_Meet_L R11_Meet_b :=
  (show RngsOK R11_Meet_C R11_Meet_L R11_Meet_b = (True) by kernel_rfl).mpr trivial
theorem R11_Meet_ok : EntOK Try.prog 39 R11_Meet_e :=
  entOf_ok (e := evFn R11_Meet_C R11_Meet_L Try.f39) (fun v n K => Eq.trans (R11_Meet_def v.1 v.2.1 (fun (r0 : (List Int)) => K (.t true (.arr 8 (.int .i64)) r0) [])) (by kernel_rfl)) (evFn_ok (mkCE_all (fns := R11_Meet_f) tys_ok eqs_ok ⟨⟨R01_Shr_ok, Try.call28⟩, trivial⟩ mixed) Try.func39 (show Try.f39.body = some R11_Meet_b by kernel_rfl) ⟨R11_Meet_lo, R11_Meet_jo, by kernel_rfl, R11_Meet_ro⟩)

noncomputable def R01_Sat_e : Ent := entOf [.tm (.int .i64)] fun (v : Int × Unit) n K => R01_Sat v.1 (fun (r0 : Int) => K (.t true (.int .i64) r0) [])
noncomputable def R01_Sat_f : List (Nat × Ent) := []
noncomputable def R01_Sat_C : Cfg := mkCE tys eqs R01_Sat_f
noncomputable def R01_Sat_b : Code := match Try.f41.body with | some c => c | none => .skip
noncomputable def R01_Sat_L : Cuts := mkL [] []
theorem R01_Sat_lo : LoopsOK R01_Sat_C R01_Sat_L R01_Sat_b := (show LoopsOK R01_Sat_C R01_Sat_L R01_Sat_b = True by kernel_rfl).mpr trivial
theorem R01_Sat_jo : JoinsOK R01_Sat_C R01_Sat_L R01_Sat_b := (show JoinsOK R01_Sat_C R01_Sat_L R01_Sat_b = True by kernel_rfl).mpr trivial
theorem R01_Sat_ro : RngsOK R01_Sat_C R01_Sat_L R01_Sat_b :=
  (show RngsOK R01_Sat_C R01_Sat_L R01_Sat_b = (True) by kernel_rfl).mpr trivial
theorem R01_Sat_ok : EntOK Try.prog 41 R01_Sat_e :=
  entOf_ok (e := evFn R01_Sat_C R01_Sat_L Try.f41) (fun v n K => Eq.trans (R01_Sat_def v.1 (fun (r0 : Int) => K (.t true (.int .i64) r0) [])) (by kernel_rfl)) (evFn_ok (mkCE_all (fns := R01_Sat_f) tys_ok eqs_ok trivial mixed) Try.func41 (show Try.f41.body = some R01_Sat_b by kernel_rfl) ⟨R01_Sat_lo, R01_Sat_jo, by kernel_rfl, R01_Sat_ro⟩)

noncomputable def R11_Right_e : Ent := entOf [.tm (.sl (.int .i64))] fun (v : (List Int) × Unit) n K => R11_Right v.1 (fun (r0 : (List Int)) => K (.t true (.arr 8 (.int .i64)) r0) [])
noncomputable def R11_Right_f : List (Nat × Ent) := [(59, R11_Block_e), (60, R11_W_e)]
noncomputable def R11_Right_C : Cfg := mkCE tys eqs R11_Right_f
noncomputable def R11_Right_b : Code := match Try.f42.body with | some c => c | none => .skip
def R11_Right_y0 : Lay := ⟨52, [(0, .tm false (.sl (.int .i64))), (2, .fx (.op 0 (.arr 8 (.int .i64)) [])), (3, .fx (.op 1 (.arr 8 (.int .i64)) [])), (4, .fx (.os 2)), (5, .tm true (.int .i64))], [.val true true 31 (.arr 8 (.int .i64)), .val true true 31 (.arr 8 (.int .i64)), .val true true 3 (.row (.int .i64))]⟩
def R11_Right_y1 : Lay := ⟨52, [(2, .fx (.op 0 (.arr 8 (.int .i64)) [])), (3, .fx (.op 1 (.arr 8 (.int .i64)) []))], [.val true true 31 (.arr 8 (.int .i64)), .val true true 31 (.arr 8 (.int .i64))]⟩
noncomputable def R11_Right_l6_F (k : Nat) (v : ((List Int) × Int × Unit) × ((List Int) × (List Int) × (List Int) × Unit)) (K : KK) : Prop := R11_Right_l6 k v.1.1 v.1.2.1 v.2.1 v.2.2.1 v.2.2.2.1 (fun (y0 : (List Int)) (y1 : (List Int)) => K (.exit 0) (st R11_Right_y1 ((()), (y0, y1, ()))))
noncomputable def R11_Right_l6_c : Cut := ⟨R11_Right_y0, fun o => match o with | .exit 0 => some R11_Right_y1 | _ => none, fun (v : ((List Int) × Int × Unit) × ((List Int) × (List Int) × (List Int) × Unit)) K => ∃ k, R11_Right_l6_F k v K⟩
noncomputable def R11_Right_L : Cuts := mkL [(6, R11_Right_l6_c)] []
theorem R11_Right_lo : LoopsOK R11_Right_C R11_Right_L R11_Right_b :=
  (show LoopsOK R11_Right_C R11_Right_L R11_Right_b = ((LoopOK R11_Right_C R11_Right_L R11_Right_l6_c (nthB (loopsOf R11_Right_b) 0) ∧ True) ∧ True) by kernel_rfl).mpr ⟨⟨⟨R11_Right_l6_F, fun v K => by kernel_rfl, fun v K => by kernel_rfl, fun k v K => by kernel_rfl⟩, trivial⟩, trivial⟩
theorem R11_Right_jo : JoinsOK R11_Right_C R11_Right_L R11_Right_b := (show JoinsOK R11_Right_C R11_Right_L R11_Right_b = True by kernel_rfl).mpr trivial
theorem R11_Right_ro : RngsOK R11_Right_C R11_Right_L R11_Right_b :=
  (show RngsOK R11_Right_C R11_Right_L R11_Right_b = (True) by kernel_rfl).mpr trivial
theorem R11_Right_ok : EntOK Try.prog 42 R11_Right_e :=
  entOf_ok (e := evFn R11_Right_C R11_Right_L Try.f42) (fun v n K => Eq.trans (R11_Right_def v.1 (fun (r0 : (List Int)) => K (.t true (.arr 8 (.int .i64)) r0) [])) (by kernel_rfl)) (evFn_ok (mkCE_all (fns := R11_Right_f) tys_ok eqs_ok ⟨⟨R11_Block_ok, Try.call59⟩, ⟨R11_W_ok, Try.call60⟩, trivial⟩ mixed) Try.func42 (show Try.f42.body = some R11_Right_b by kernel_rfl) ⟨R11_Right_lo, R11_Right_jo, by kernel_rfl, R11_Right_ro⟩)

end
end Go.Eng.A
