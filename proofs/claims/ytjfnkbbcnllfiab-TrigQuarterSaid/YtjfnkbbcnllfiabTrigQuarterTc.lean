/- Each of these functions is what the program computes: printed by program. -/
import Derived.Test.YtjfnkbbcnllfiabEngT
import Derived.Test.YtjfnkbbcnllfiabTrigQuarterP
import Derived.Test.YtjfnkbbcnllfiabProg
import Derived.Test.YtjfnkbbcnllfiabTrigQuarterTb
set_option linter.unusedVariables false
set_option maxRecDepth 100000
namespace Go.Eng.A
open Go Go.Eng Go.Proofs
noncomputable section

def L07_awake_e : Ent := entOf [] fun (v : Unit) n K => L07_awake (fun (r0 : Bool) => K (.t true .bool r0) [])
def L07_awake_f : List (Nat × Ent) := [(23, trig_Make_e), (24, trig_Table__Turn_e), (26, trig_Table__Cos_e), (28, trig_Table__Sin_e)]
def L07_awake_C : Cfg := mkC tys L07_awake_f
def L07_awake_b : Code := match Try.f30.body with | some c => c | none => .skip
def L07_awake_L : Cuts := mkL [] []
theorem L07_awake_lo : LoopsOK L07_awake_C L07_awake_L L07_awake_b := (show LoopsOK L07_awake_C L07_awake_L L07_awake_b = True by kernel_rfl).mpr trivial
theorem L07_awake_jo : JoinsOK L07_awake_C L07_awake_L L07_awake_b := (show JoinsOK L07_awake_C L07_awake_L L07_awake_b = True by kernel_rfl).mpr trivial
theorem L07_awake_ok : EntOK Try.prog 30 L07_awake_e :=
  entOf_ok (e := evFn L07_awake_C L07_awake_L Try.f30) (fun v n K => Eq.trans (L07_awake_def (fun (r0 : Bool) => K (.t true .bool r0) [])) (by kernel_rfl)) (evFn_ok (mkC_all (fns := L07_awake_f) tys_ok ⟨⟨trig_Make_ok, Try.call23⟩, ⟨trig_Table__Turn_ok, Try.call24⟩, ⟨trig_Table__Cos_ok, Try.call26⟩, ⟨trig_Table__Sin_ok, Try.call28⟩, trivial⟩ mixed) Try.func30 (show Try.f30.body = some L07_awake_b by kernel_rfl) ⟨L07_awake_lo, L07_awake_jo, by kernel_rfl⟩)

end
end Go.Eng.A
