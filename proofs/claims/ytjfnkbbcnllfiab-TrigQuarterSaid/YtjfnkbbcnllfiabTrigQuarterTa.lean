/- Each of these functions is what the program computes: printed by program. -/
import Derived.Test.YtjfnkbbcnllfiabEngT
import Derived.Test.YtjfnkbbcnllfiabTrigQuarterP
import Derived.Test.YtjfnkbbcnllfiabProg
set_option linter.unusedVariables false
set_option maxRecDepth 100000
namespace Go.Eng.A
open Go Go.Eng Go.Proofs
noncomputable section

def tys : List Ty := [.no, .no, .no, .sc (.int .i64), .no, .no, .no, .no, .no, .no, .no, .no, .no, .no, .no, .no, .no, .no, .no, .no, .no, .no, .no, .sl 3 (.int .i64) 8, .no, .no, .no, .no, .no, .no, .no, .no, .no, .no, .pt 49 (.arr 512 (.int .i64)), .no, .no, .no, .no, .no, .no, .no, .no, .no, .no, .no, .no, .no, .no, .arr 512 3 (.int .i64), .arr 129 3 (.int .i64)]
theorem tok3 : TOK Try.prog 3 (.int .i64) := tok_mk Try.type3 Try.underlying3 (by kernel_rfl) (by kernel_rfl) (by kernel_rfl) (.inr (by kernel_rfl))
theorem tok23 : TOK Try.prog 23 (.sl (.int .i64)) := tok_mk Try.type23 Try.underlying23 (by kernel_rfl) (by kernel_rfl) (by kernel_rfl) (.inr (by kernel_rfl))
theorem tok49 : TOK Try.prog 49 (.arr 512 (.int .i64)) := tok_mk Try.type49 Try.underlying49 (by kernel_rfl) (by kernel_rfl) (by kernel_rfl) (.inr (by kernel_rfl))
theorem tok50 : TOK Try.prog 50 (.arr 129 (.int .i64)) := tok_mk Try.type50 Try.underlying50 (by kernel_rfl) (by kernel_rfl) (by kernel_rfl) (.inr (by kernel_rfl))
theorem tys_ok : TysOK Try.prog 0 tys := ⟨trivial, trivial, trivial, tyok_int tok3 Try.underlying3, trivial, trivial, trivial, trivial, trivial, trivial, trivial, trivial, trivial, trivial, trivial, trivial, trivial, trivial, trivial, trivial, trivial, trivial, trivial, tyok_sl tok23 Try.underlying23 tok3 (by kernel_rfl) (by kernel_rfl) (by kernel_rfl) Try.type3 (by kernel_rfl) Try.type23 (by kernel_rfl), trivial, trivial, trivial, trivial, trivial, trivial, trivial, trivial, trivial, trivial, tyok_pt Try.underlying34 (by kernel_rfl) Try.type34 (by kernel_rfl), trivial, trivial, trivial, trivial, trivial, trivial, trivial, trivial, trivial, trivial, trivial, trivial, trivial, trivial, tyok_arr tok49 Try.underlying49 tok3 (by kernel_rfl), tyok_arr tok50 Try.underlying50 tok3 (by kernel_rfl), trivial⟩
theorem mixed : Try.prog.follows .mixedOrders = true := by kernel_rfl

def trig_first_e : Ent := entOf [] fun (v : Unit) n K => trig_first (fun (r0 : (List Int)) => K (.t true (.arr 129 (.int .i64)) r0) [])
def trig_first_f : List (Nat × Ent) := []
def trig_first_C : Cfg := mkC tys trig_first_f
def trig_first_b : Code := match Try.f42.body with | some c => c | none => .skip
def trig_first_L : Cuts := mkL [] []
theorem trig_first_lo : LoopsOK trig_first_C trig_first_L trig_first_b := (show LoopsOK trig_first_C trig_first_L trig_first_b = True by kernel_rfl).mpr trivial
theorem trig_first_jo : JoinsOK trig_first_C trig_first_L trig_first_b := (show JoinsOK trig_first_C trig_first_L trig_first_b = True by kernel_rfl).mpr trivial
theorem trig_first_ok : EntOK Try.prog 42 trig_first_e :=
  entOf_ok (e := evFn trig_first_C trig_first_L Try.f42) (fun v n K => Eq.trans (trig_first_def (fun (r0 : (List Int)) => K (.t true (.arr 129 (.int .i64)) r0) [])) (by kernel_rfl)) (evFn_ok (mkC_all (fns := trig_first_f) tys_ok trivial mixed) Try.func42 (show Try.f42.body = some trig_first_b by kernel_rfl) ⟨trig_first_lo, trig_first_jo, by kernel_rfl⟩)

end
end Go.Eng.A
