/- Each of these functions is what the program computes: printed by program. -/
import Derived.Test.YtniabjhjpkkllaaEngT
import Derived.Test.YtniabjhjpkkllaaLapNearP
import Derived.Test.YtniabjhjpkkllaaProg
import Derived.Test.YtniabjhjpkkllaaLapNearTa
set_option linter.unusedVariables false
set_option maxRecDepth 100000
namespace Go.Eng.A
open Go Go.Eng Go.Proofs
noncomputable section

noncomputable def trig_first_e : Ent := entOf [] fun (v : Unit) n K => trig_first (fun (r0 : (List Int)) => K (.t true (.arr 129 (.int .i64)) r0) [])
noncomputable def trig_first_f : List (Nat × Ent) := []
noncomputable def trig_first_C : Cfg := mkCE tys eqs trig_first_f
noncomputable def trig_first_b : Code := match Try.f41.body with | some c => c | none => .skip
noncomputable def trig_first_L : Cuts := mkL [] []
theorem trig_first_lo : LoopsOK trig_first_C trig_first_L trig_first_b := (show LoopsOK trig_first_C trig_first_L trig_first_b = True by kernel_rfl).mpr trivial
theorem trig_first_jo : JoinsOK trig_first_C trig_first_L trig_first_b := (show JoinsOK trig_first_C trig_first_L trig_first_b = True by kernel_rfl).mpr trivial
theorem trig_first_ro : RngsOK trig_first_C trig_first_L trig_first_b :=
  (show RngsOK trig_first_C trig_first_L trig_first_b = (True) by kernel_rfl).mpr trivial
theorem trig_first_ok : EntOK Try.prog 41 trig_first_e :=
  entOf_ok (e := evFn trig_first_C trig_first_L Try.f41) (fun v n K => Eq.trans (trig_first_def (fun (r0 : (List Int)) => K (.t true (.arr 129 (.int .i64)) r0) [])) (by kernel_rfl)) (evFn_ok (mkCE_all (fns := trig_first_f) tys_ok eqs_ok trivial mixed) Try.func41 (show Try.f41.body = some trig_first_b by kernel_rfl) ⟨trig_first_lo, trig_first_jo, by kernel_rfl, trig_first_ro⟩)

end
end Go.Eng.A
