/- Each of these functions is what the program computes: printed by program. -/
import Derived.Test.YtniabjhjpkkllaaEngT
import Derived.Test.YtniabjhjpkkllaaLapNearP
import Derived.Test.YtniabjhjpkkllaaProg
import Derived.Test.YtniabjhjpkkllaaLapNearTg
set_option linter.unusedVariables false
set_option maxRecDepth 100000
namespace Go.Eng.A
open Go Go.Eng Go.Proofs
noncomputable section

noncomputable def R07_quarter_e : Ent := entOf [] fun (v : Unit) n K => R07_quarter (fun (r0 : (List Int)) => K (.os (n + 0)) [.val true true 3 (.row (.int .i64)) r0])
noncomputable def R07_quarter_f : List (Nat × Ent) := []
noncomputable def R07_quarter_C : Cfg := mkCE tys eqs R07_quarter_f
noncomputable def R07_quarter_b : Code := match Try.f88.body with | some c => c | none => .skip
noncomputable def R07_quarter_L : Cuts := mkL [] []
theorem R07_quarter_lo : LoopsOK R07_quarter_C R07_quarter_L R07_quarter_b := (show LoopsOK R07_quarter_C R07_quarter_L R07_quarter_b = True by kernel_rfl).mpr trivial
theorem R07_quarter_jo : JoinsOK R07_quarter_C R07_quarter_L R07_quarter_b := (show JoinsOK R07_quarter_C R07_quarter_L R07_quarter_b = True by kernel_rfl).mpr trivial
theorem R07_quarter_ro : RngsOK R07_quarter_C R07_quarter_L R07_quarter_b :=
  (show RngsOK R07_quarter_C R07_quarter_L R07_quarter_b = (True) by kernel_rfl).mpr trivial
theorem R07_quarter_ok : EntOK Try.prog 88 R07_quarter_e :=
  entOf_ok (e := evFn R07_quarter_C R07_quarter_L Try.f88) (fun v n K => Eq.trans (R07_quarter_def (fun (r0 : (List Int)) => K (.os (n + 0)) [.val true true 3 (.row (.int .i64)) r0])) (by kernel_rfl)) (evFn_ok (mkCE_all (fns := R07_quarter_f) tys_ok eqs_ok trivial mixed) Try.func88 (show Try.f88.body = some R07_quarter_b by kernel_rfl) ⟨R07_quarter_lo, R07_quarter_jo, by kernel_rfl, R07_quarter_ro⟩)

end
end Go.Eng.A
