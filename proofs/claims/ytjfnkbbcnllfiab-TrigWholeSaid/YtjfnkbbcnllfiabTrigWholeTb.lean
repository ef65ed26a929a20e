/- Each of these functions is what the program computes: printed by program. -/
import Derived.Test.YtjfnkbbcnllfiabEngT
import Derived.Test.YtjfnkbbcnllfiabTrigWholeP
import Derived.Test.YtjfnkbbcnllfiabProg
import Derived.Test.YtjfnkbbcnllfiabTrigWholeTa
set_option linter.unusedVariables false
set_option maxRecDepth 100000
namespace Go.Eng.A
open Go Go.Eng Go.Proofs
noncomputable section

def trig_Make_e : Ent := entOf [] fun (v : Unit) n K => trig_Make (fun (r0 : (List Int)) => K (.op (n + 0) (.arr 512 (.int .i64)) []) [.val true true 49 (.arr 512 (.int .i64)) r0])
def trig_Make_f : List (Nat × Ent) := [(42, trig_first_e)]
def trig_Make_C : Cfg := mkC tys trig_Make_f
def trig_Make_b : Code := match Try.f23.body with | some c => c | none => .skip
def trig_Make_y0 : Lay := ⟨47, [(1, .fx (.op 0 (.arr 512 (.int .i64)) [])), (2, .fx (.op 1 (.arr 129 (.int .i64)) [])), (7, .tm true (.int .i64))], [.val true true 49 (.arr 512 (.int .i64)), .val true true 50 (.arr 129 (.int .i64))]⟩
def trig_Make_y1 : Lay := ⟨47, [(1, .fx (.op 0 (.arr 512 (.int .i64)) []))], [.val true true 49 (.arr 512 (.int .i64))]⟩
def trig_Make_l3_F (k : Nat) (v : (Int × Unit) × ((List Int) × (List Int) × Unit)) (K : KK) : Prop := trig_Make_l3 k v.1.1 v.2.1 v.2.2.1 (fun (y0 : (List Int)) => K (.exit 0) (st trig_Make_y1 ((()), (y0, ()))))
def trig_Make_l3_c : Cut := ⟨trig_Make_y0, fun o => match o with | .exit 0 => some trig_Make_y1 | _ => none, fun (v : (Int × Unit) × ((List Int) × (List Int) × Unit)) K => ∃ k, trig_Make_l3_F k v K⟩
def trig_Make_L : Cuts := mkL [(3, trig_Make_l3_c)] []
theorem trig_Make_lo : LoopsOK trig_Make_C trig_Make_L trig_Make_b :=
  (show LoopsOK trig_Make_C trig_Make_L trig_Make_b = ((LoopOK trig_Make_C trig_Make_L trig_Make_l3_c (nthB (loopsOf trig_Make_b) 0) ∧ True) ∧ True) by kernel_rfl).mpr ⟨⟨⟨trig_Make_l3_F, fun v K => by kernel_rfl, fun v K => by kernel_rfl, fun k v K => by kernel_rfl⟩, trivial⟩, trivial⟩
theorem trig_Make_jo : JoinsOK trig_Make_C trig_Make_L trig_Make_b := (show JoinsOK trig_Make_C trig_Make_L trig_Make_b = True by kernel_rfl).mpr trivial
theorem trig_Make_ok : EntOK Try.prog 23 trig_Make_e :=
  entOf_ok (e := evFn trig_Make_C trig_Make_L Try.f23) (fun v n K => Eq.trans (trig_Make_def (fun (r0 : (List Int)) => K (.op (n + 0) (.arr 512 (.int .i64)) []) [.val true true 49 (.arr 512 (.int .i64)) r0])) (by kernel_rfl)) (evFn_ok (mkC_all (fns := trig_Make_f) tys_ok ⟨⟨trig_first_ok, Try.call42⟩, trivial⟩ mixed) Try.func23 (show Try.f23.body = some trig_Make_b by kernel_rfl) ⟨trig_Make_lo, trig_Make_jo, by kernel_rfl⟩)

end
end Go.Eng.A
