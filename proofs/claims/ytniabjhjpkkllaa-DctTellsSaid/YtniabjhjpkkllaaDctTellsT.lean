/- Each of these functions is what the program computes: printed by program. -/
import Derived.Test.YtniabjhjpkkllaaEngT
import Derived.Test.YtniabjhjpkkllaaDctTellsP
import Derived.Test.YtniabjhjpkkllaaProg
import Derived.Test.YtniabjhjpkkllaaDctTellsTf
set_option linter.unusedVariables false
set_option maxRecDepth 100000
namespace Go.Eng.A
open Go Go.Eng Go.Proofs
noncomputable section

noncomputable def L10_DctTells_e : Ent := entOf [.tm (.sl (.int .i64))] fun (v : (List Int) × Unit) n K => L10_DctTells v.1 (fun (r0 : Bool) => K (.t true .bool r0) [])
noncomputable def L10_DctTells_f : List (Nat × Ent) := [(12, L10_awake_e), (13, trig_Make_e), (14, (altE [.tm (.ptr (.arr 512 (.int .i64))), .tm (.sl (.int .i64))] dct_Four_e dct_Four__nil0_e)), (37, R10_Four_e), (19, R01_Same_e), (15, (altE [.tm (.ptr (.arr 512 (.int .i64))), .tm (.sl (.int .i64))] dct_Back_e dct_Back__nil0_e)), (38, R10_Back_e), (39, dct_Fast__nil0_e)]
noncomputable def L10_DctTells_C : Cfg := mkC tys L10_DctTells_f
noncomputable def L10_DctTells_b : Code := match Try.f10.body with | some c => c | none => .skip
noncomputable def L10_DctTells_L : Cuts := mkL [] []
theorem L10_DctTells_lo : LoopsOK L10_DctTells_C L10_DctTells_L L10_DctTells_b := (show LoopsOK L10_DctTells_C L10_DctTells_L L10_DctTells_b = True by kernel_rfl).mpr trivial
theorem L10_DctTells_jo : JoinsOK L10_DctTells_C L10_DctTells_L L10_DctTells_b := (show JoinsOK L10_DctTells_C L10_DctTells_L L10_DctTells_b = True by kernel_rfl).mpr trivial
theorem L10_DctTells_ro : RngsOK L10_DctTells_C L10_DctTells_L L10_DctTells_b :=
  (show RngsOK L10_DctTells_C L10_DctTells_L L10_DctTells_b = (True) by kernel_rfl).mpr trivial
theorem L10_DctTells_ok : EntOK Try.prog 10 L10_DctTells_e :=
  entOf_ok (e := evFn L10_DctTells_C L10_DctTells_L Try.f10) (fun v n K => Eq.trans (L10_DctTells_def v.1 (fun (r0 : Bool) => K (.t true .bool r0) [])) (by kernel_rfl)) (evFn_ok (mkC_all (fns := L10_DctTells_f) tys_ok ⟨⟨L10_awake_ok, Try.call12⟩, ⟨trig_Make_ok, Try.call13⟩, ⟨(altE_ok dct_Four_ok dct_Four__nil0_ok), Try.call14⟩, ⟨R10_Four_ok, Try.call37⟩, ⟨R01_Same_ok, Try.call19⟩, ⟨(altE_ok dct_Back_ok dct_Back__nil0_ok), Try.call15⟩, ⟨R10_Back_ok, Try.call38⟩, ⟨dct_Fast__nil0_ok, Try.call39⟩, trivial⟩ mixed) Try.func10 (show Try.f10.body = some L10_DctTells_b by kernel_rfl) ⟨L10_DctTells_lo, L10_DctTells_jo, by kernel_rfl, L10_DctTells_ro⟩)

end
end Go.Eng.A
