/- Each of these functions is what the program computes: printed by program. -/
import Derived.Test.YtjfnkbbcnllfiabEngT
import Derived.Test.YtjfnkbbcnllfiabSideBackP
import Derived.Test.YtjfnkbbcnllfiabProg
import Derived.Test.YtjfnkbbcnllfiabSideBackTb
set_option linter.unusedVariables false
set_option maxRecDepth 100000
namespace Go.Eng.A
open Go Go.Eng Go.Proofs
noncomputable section

def R01_Abs_e : Ent := entOf [.tm (.int .i64)] fun (v : Int × Unit) n K => R01_Abs v.1 (fun (r0 : Int) => K (.t true (.int .i64) r0) [])
def R01_Abs_f : List (Nat × Ent) := []
def R01_Abs_C : Cfg := mkC tys R01_Abs_f
def R01_Abs_b : Code := match Try.f22.body with | some c => c | none => .skip
def R01_Abs_L : Cuts := mkL [] []
theorem R01_Abs_lo : LoopsOK R01_Abs_C R01_Abs_L R01_Abs_b := (show LoopsOK R01_Abs_C R01_Abs_L R01_Abs_b = True by kernel_rfl).mpr trivial
theorem R01_Abs_jo : JoinsOK R01_Abs_C R01_Abs_L R01_Abs_b := (show JoinsOK R01_Abs_C R01_Abs_L R01_Abs_b = True by kernel_rfl).mpr trivial
theorem R01_Abs_ok : EntOK Try.prog 22 R01_Abs_e :=
  entOf_ok (e := evFn R01_Abs_C R01_Abs_L Try.f22) (fun v n K => Eq.trans (R01_Abs_def v.1 (fun (r0 : Int) => K (.t true (.int .i64) r0) [])) (by kernel_rfl)) (evFn_ok (mkC_all (fns := R01_Abs_f) tys_ok trivial mixed) Try.func22 (show Try.f22.body = some R01_Abs_b by kernel_rfl) ⟨R01_Abs_lo, R01_Abs_jo, by kernel_rfl⟩)

end
end Go.Eng.A
