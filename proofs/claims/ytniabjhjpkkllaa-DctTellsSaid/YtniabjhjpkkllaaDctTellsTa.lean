/- Each of these functions is what the program computes: printed by program. -/
import Derived.Test.YtniabjhjpkkllaaEngT
import Derived.Test.YtniabjhjpkkllaaDctTellsP
import Derived.Test.YtniabjhjpkkllaaProg
set_option linter.unusedVariables false
set_option maxRecDepth 100000
namespace Go.Eng.A
open Go Go.Eng Go.Proofs
noncomputable section

def tys : List Ty := [.no, .no, .no, .sc (.int .i64), .no, .no, .no, .no, .no, .no, .no, .no, .no, .no, .no, .no, .no, .no, .no, .no, .no, .no, .sl 3 (.int .i64) 8, .no, .no, .pt 55 (.arr 512 (.int .i64)), .no, .no, .no, .no, .no, .no, .no, .no, .no, .no, .no, .no, .no, .no, .no, .no, .no, .no, .no, .no, .no, .no, .no, .no, .no, .no, .no, .no, .no, .arr 512 3 (.int .i64), .arr 129 3 (.int .i64), .no, .no, .no, .no, .no, .no, .no, .no, .no, .no, .no, .no, .no, .no, .no, .no, .no, .no, .no, .no, .no, .no, .no, .no, .no, .no, .no, .no, .no, .no, .fn]
theorem tok3 : TOK Try.prog 3 (.int .i64) := tok_mk Try.type3 Try.underlying3 (by kernel_rfl) (by kernel_rfl) (by kernel_rfl) (.inr (by kernel_rfl))
theorem tok22 : TOK Try.prog 22 (.sl (.int .i64)) := tok_mk Try.type22 Try.underlying22 (by kernel_rfl) (by kernel_rfl) (by kernel_rfl) (.inr (by kernel_rfl))
theorem tok55 : TOK Try.prog 55 (.arr 512 (.int .i64)) := tok_mk Try.type55 Try.underlying55 (by kernel_rfl) (by kernel_rfl) (by kernel_rfl) (.inr (by kernel_rfl))
theorem tok56 : TOK Try.prog 56 (.arr 129 (.int .i64)) := tok_mk Try.type56 Try.underlying56 (by kernel_rfl) (by kernel_rfl) (by kernel_rfl) (.inr (by kernel_rfl))
theorem tys_ok : TysOK Try.prog 0 tys := ⟨trivial, trivial, trivial, tyok_int tok3 Try.underlying3, trivial, trivial, trivial, trivial, trivial, trivial, trivial, trivial, trivial, trivial, trivial, trivial, trivial, trivial, trivial, trivial, trivial, trivial, tyok_sl tok22 Try.underlying22 tok3 (by kernel_rfl) (by kernel_rfl) (by kernel_rfl) Try.type3 (by kernel_rfl) Try.type22 (by kernel_rfl), trivial, trivial, tyok_pt Try.underlying25 (by kernel_rfl) Try.type25 (by kernel_rfl), trivial, trivial, trivial, trivial, trivial, trivial, trivial, trivial, trivial, trivial, trivial, trivial, trivial, trivial, trivial, trivial, trivial, trivial, trivial, trivial, trivial, trivial, trivial, trivial, trivial, trivial, trivial, trivial, trivial, tyok_arr tok55 Try.underlying55 tok3 (by kernel_rfl), tyok_arr tok56 Try.underlying56 tok3 (by kernel_rfl), trivial, trivial, trivial, trivial, trivial, trivial, trivial, trivial, trivial, trivial, trivial, trivial, trivial, trivial, trivial, trivial, trivial, trivial, trivial, trivial, trivial, trivial, trivial, trivial, trivial, trivial, trivial, trivial, trivial, trivial, tyok_fn Try.underlying87 (by kernel_rfl) Try.type87 (by kernel_rfl), trivial⟩
theorem mixed : Try.prog.follows .mixedOrders = true := by kernel_rfl

noncomputable def trig_first_e : Ent := entOf [] fun (v : Unit) n K => trig_first (fun (r0 : (List Int)) => K (.t true (.arr 129 (.int .i64)) r0) [])
noncomputable def trig_first_f : List (Nat × Ent) := []
noncomputable def trig_first_C : Cfg := mkC tys trig_first_f
noncomputable def trig_first_b : Code := match Try.f41.body with | some c => c | none => .skip
noncomputable def trig_first_L : Cuts := mkL [] []
theorem trig_first_lo : LoopsOK trig_first_C trig_first_L trig_first_b := (show LoopsOK trig_first_C trig_first_L trig_first_b = True by kernel_rfl).mpr trivial
theorem trig_first_jo : JoinsOK trig_first_C trig_first_L trig_first_b := (show JoinsOK trig_first_C trig_first_L trig_first_b = True by kernel_rfl).mpr trivial
theorem trig_first_ro : RngsOK trig_first_C trig_first_L trig_first_b :=
  (show RngsOK trig_first_C trig_first_L trig_first_b = (True) by kernel_rfl).mpr trivial
theorem trig_first_ok : EntOK Try.prog 41 trig_first_e :=
  entOf_ok (e := evFn trig_first_C trig_first_L Try.f41) (fun v n K => Eq.trans (trig_first_def (fun (r0 : (List Int)) => K (.t true (.arr 129 (.int .i64)) r0) [])) (by kernel_rfl)) (evFn_ok (mkC_all (fns := trig_first_f) tys_ok trivial mixed) Try.func41 (show Try.f41.body = some trig_first_b by kernel_rfl) ⟨trig_first_lo, trig_first_jo, by kernel_rfl, trig_first_ro⟩)

end
end Go.Eng.A
