/- Each of these functions is what the program computes: printed by program. -/
import Derived.Test.YtniabjhjpkkllaaEngT
import Derived.Test.YtniabjhjpkkllaaLapNearP
import Derived.Test.YtniabjhjpkkllaaProg
import Derived.Test.YtniabjhjpkkllaaLapNearTe
set_option linter.unusedVariables false
set_option maxRecDepth 100000
namespace Go.Eng.A
open Go Go.Eng Go.Proofs
noncomputable section

noncomputable def window_Right_e : Ent := entOf [.tm (.sl (.int .i64))] fun (v : (List Int) × Unit) n K => window_Right v.1 (fun (r0 : (List Int)) => K (.t true (.arr 8 (.int .i64)) r0) [])
noncomputable def window_Right_f : List (Nat × Ent) := [(94, window_within_e), (95, window_Slope_e)]
noncomputable def window_Right_C : Cfg := mkCE tys eqs window_Right_f
noncomputable def window_Right_b : Code := match Try.f68.body with | some c => c | none => .skip
def window_Right_y0 : Lay := ⟨44, [(0, .tm false (.sl (.int .i64))), (2, .fx (.op 0 (.arr 8 (.int .i64)) [])), (3, .fx (.op 1 (.arr 8 (.int .i64)) [])), (4, .fx (.op 2 (.arr 8 (.int .i64)) [])), (12, .tm true (.int .i64))], [.val true true 45 (.arr 8 (.int .i64)), .val true true 45 (.arr 8 (.int .i64)), .val true true 45 (.arr 8 (.int .i64))]⟩
def window_Right_y1 : Lay := ⟨44, [(2, .fx (.op 0 (.arr 8 (.int .i64)) [])), (3, .fx (.op 1 (.arr 8 (.int .i64)) []))], [.val true true 45 (.arr 8 (.int .i64)), .val true true 45 (.arr 8 (.int .i64))]⟩
noncomputable def window_Right_l6_F (k : Nat) (v : ((List Int) × Int × Unit) × ((List Int) × (List Int) × (List Int) × Unit)) (K : KK) : Prop := window_Right_l6 k v.1.1 v.1.2.1 v.2.1 v.2.2.1 v.2.2.2.1 (fun (y0 : (List Int)) (y1 : (List Int)) => K (.exit 0) (st window_Right_y1 ((()), (y0, y1, ()))))
noncomputable def window_Right_l6_c : Cut := ⟨window_Right_y0, fun o => match o with | .exit 0 => some window_Right_y1 | _ => none, fun (v : ((List Int) × Int × Unit) × ((List Int) × (List Int) × (List Int) × Unit)) K => ∃ k, window_Right_l6_F k v K⟩
noncomputable def window_Right_L : Cuts := mkL [(6, window_Right_l6_c)] []
theorem window_Right_lo : LoopsOK window_Right_C window_Right_L window_Right_b :=
  (show LoopsOK window_Right_C window_Right_L window_Right_b = ((LoopOK window_Right_C window_Right_L window_Right_l6_c (nthB (loopsOf window_Right_b) 0) ∧ True) ∧ True) by kernel_rfl).mpr ⟨⟨⟨window_Right_l6_F, fun v K => by kernel_rfl, fun v K => by kernel_rfl, fun k v K => by kernel_rfl⟩, trivial⟩, trivial⟩
theorem window_Right_jo : JoinsOK window_Right_C window_Right_L window_Right_b := (show JoinsOK window_Right_C window_Right_L window_Right_b = True by kernel_rfl).mpr trivial
theorem window_Right_ro : RngsOK window_Right_C window_Right_L window_Right_b :=
  (show RngsOK window_Right_C window_Right_L window_Right_b = (True) by kernel_rfl).mpr trivial
theorem window_Right_ok : EntOK Try.prog 68 window_Right_e :=
  entOf_ok (e := evFn window_Right_C window_Right_L Try.f68) (fun v n K => Eq.trans (window_Right_def v.1 (fun (r0 : (List Int)) => K (.t true (.arr 8 (.int .i64)) r0) [])) (by kernel_rfl)) (evFn_ok (mkCE_all (fns := window_Right_f) tys_ok eqs_ok ⟨⟨window_within_ok, Try.call94⟩, ⟨window_Slope_ok, Try.call95⟩, trivial⟩ mixed) Try.func68 (show Try.f68.body = some window_Right_b by kernel_rfl) ⟨window_Right_lo, window_Right_jo, by kernel_rfl, window_Right_ro⟩)

noncomputable def num_Sat_e : Ent := entOf [.tm (.int .i64)] fun (v : Int × Unit) n K => num_Sat v.1 (fun (r0 : Int) => K (.t true (.int .i64) r0) [])
noncomputable def num_Sat_f : List (Nat × Ent) := []
noncomputable def num_Sat_C : Cfg := mkCE tys eqs num_Sat_f
noncomputable def num_Sat_b : Code := match Try.f69.body with | some c => c | none => .skip
noncomputable def num_Sat_L : Cuts := mkL [] []
theorem num_Sat_lo : LoopsOK num_Sat_C num_Sat_L num_Sat_b := (show LoopsOK num_Sat_C num_Sat_L num_Sat_b = True by kernel_rfl).mpr trivial
theorem num_Sat_jo : JoinsOK num_Sat_C num_Sat_L num_Sat_b := (show JoinsOK num_Sat_C num_Sat_L num_Sat_b = True by kernel_rfl).mpr trivial
theorem num_Sat_ro : RngsOK num_Sat_C num_Sat_L num_Sat_b :=
  (show RngsOK num_Sat_C num_Sat_L num_Sat_b = (True) by kernel_rfl).mpr trivial
theorem num_Sat_ok : EntOK Try.prog 69 num_Sat_e :=
  entOf_ok (e := evFn num_Sat_C num_Sat_L Try.f69) (fun v n K => Eq.trans (num_Sat_def v.1 (fun (r0 : Int) => K (.t true (.int .i64) r0) [])) (by kernel_rfl)) (evFn_ok (mkCE_all (fns := num_Sat_f) tys_ok eqs_ok trivial mixed) Try.func69 (show Try.f69.body = some num_Sat_b by kernel_rfl) ⟨num_Sat_lo, num_Sat_jo, by kernel_rfl, num_Sat_ro⟩)

end
end Go.Eng.A
