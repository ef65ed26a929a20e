/- Each of these functions is what the program computes: printed by program. -/
import Derived.Test.YtjfnkbbcnllfiabEngT
import Derived.Test.YtjfnkbbcnllfiabTrigTellsP
import Derived.Test.YtjfnkbbcnllfiabProg
import Derived.Test.YtjfnkbbcnllfiabTrigTellsTb
set_option linter.unusedVariables false
set_option maxRecDepth 100000
namespace Go.Eng.A
open Go Go.Eng Go.Proofs
noncomputable section

def R01_Mod_e : Ent := entOf [.tm (.int .i64), .tm (.int .i64)] fun (v : Int × Int × Unit) n K => R01_Mod v.1 v.2.1 (fun (r0 : Int) (r1 : Int) => K (.tu [.t true (.int .i64) r0, .t true (.int .i64) r1]) [])
def R01_Mod_f : List (Nat × Ent) := []
def R01_Mod_C : Cfg := mkC tys R01_Mod_f
def R01_Mod_b : Code := match Try.f43.body with | some c => c | none => .skip
def R01_Mod_L : Cuts := mkL [] []
theorem R01_Mod_lo : LoopsOK R01_Mod_C R01_Mod_L R01_Mod_b := (show LoopsOK R01_Mod_C R01_Mod_L R01_Mod_b = True by kernel_rfl).mpr trivial
theorem R01_Mod_jo : JoinsOK R01_Mod_C R01_Mod_L R01_Mod_b := (show JoinsOK R01_Mod_C R01_Mod_L R01_Mod_b = True by kernel_rfl).mpr trivial
theorem R01_Mod_ok : EntOK Try.prog 43 R01_Mod_e :=
  entOf_ok (e := evFn R01_Mod_C R01_Mod_L Try.f43) (fun v n K => Eq.trans (R01_Mod_def v.1 v.2.1 (fun (r0 : Int) (r1 : Int) => K (.tu [.t true (.int .i64) r0, .t true (.int .i64) r1]) [])) (by kernel_rfl)) (evFn_ok (mkC_all (fns := R01_Mod_f) tys_ok trivial mixed) Try.func43 (show Try.f43.body = some R01_Mod_b by kernel_rfl) ⟨R01_Mod_lo, R01_Mod_jo, by kernel_rfl⟩)

end
end Go.Eng.A
