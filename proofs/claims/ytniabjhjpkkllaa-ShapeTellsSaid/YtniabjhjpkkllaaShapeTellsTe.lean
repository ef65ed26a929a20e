/- Each of these functions is what the program computes: printed by program. -/
import Derived.Test.YtniabjhjpkkllaaEngT
import Derived.Test.YtniabjhjpkkllaaShapeTellsP
import Derived.Test.YtniabjhjpkkllaaProg
import Derived.Test.YtniabjhjpkkllaaShapeTellsTd
set_option linter.unusedVariables false
set_option maxRecDepth 100000
namespace Go.Eng.A
open Go Go.Eng Go.Proofs
noncomputable section

def R01_Div_e : Ent := entOf [.tm (.int .i64), .tm (.int .i64)] fun (v : Int × Int × Unit) n K => R01_Div v.1 v.2.1 (fun (r0 : Int) => K (.t true (.int .i64) r0) [])
def R01_Div_f : List (Nat × Ent) := [(74, R01_Mod_e)]
def R01_Div_C : Cfg := mkC tys R01_Div_f
def R01_Div_b : Code := match Try.f59.body with | some c => c | none => .skip
def R01_Div_L : Cuts := mkL [] []
theorem R01_Div_lo : LoopsOK R01_Div_C R01_Div_L R01_Div_b := (show LoopsOK R01_Div_C R01_Div_L R01_Div_b = True by kernel_rfl).mpr trivial
theorem R01_Div_jo : JoinsOK R01_Div_C R01_Div_L R01_Div_b := (show JoinsOK R01_Div_C R01_Div_L R01_Div_b = True by kernel_rfl).mpr trivial
theorem R01_Div_ok : EntOK Try.prog 59 R01_Div_e :=
  entOf_ok (e := evFn R01_Div_C R01_Div_L Try.f59) (fun v n K => Eq.trans (R01_Div_def v.1 v.2.1 (fun (r0 : Int) => K (.t true (.int .i64) r0) [])) (by kernel_rfl)) (evFn_ok (mkC_all (fns := R01_Div_f) tys_ok ⟨⟨R01_Mod_ok, Try.call74⟩, trivial⟩ mixed) Try.func59 (show Try.f59.body = some R01_Div_b by kernel_rfl) ⟨R01_Div_lo, R01_Div_jo, by kernel_rfl⟩)

end
end Go.Eng.A
