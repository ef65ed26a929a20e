/- Each of these functions is what the program computes: printed by program. -/
import Derived.Test.YtniabjhjpkkllabEngT
import Derived.Test.YtniabjhjpkkllabLapFramesP
import Derived.Test.YtniabjhjpkkllabProg
set_option linter.unusedVariables false
set_option maxRecDepth 100000
namespace Go.Eng.A
open Go Go.Eng Go.Proofs
noncomputable section

def tys : List Ty := [.no, .no, .no, .sc (.int .i64), .sc .bool, .no, .no, .no, .no, .no, .no, .no, .no, .no, .no, .no, .no, .no, .no, .no, .no, .no, .sl 3 (.int .i64) 8, .no, .no, .pt 44 (.arr 512 (.int .i64)), .no, .no, .no, .no, .fn, .arr 8 3 (.int .i64), .sl 22 (.sl (.int .i64)) 24, .no, .no, .no, .no, .no, .no, .no, .no, .no, .no, .no, .arr 512 3 (.int .i64), .arr 129 3 (.int .i64), .no, .no, .no, .no, .no, .no, .no, .no, .no, .no, .no, .no, .no, .no, .no, .no, .no, .no, .no, .no, .no, .no, .no, .no, .no, .fn]
theorem tok3 : TOK Try.prog 3 (.int .i64) := tok_mk Try.type3 Try.underlying3 (by kernel_rfl) (by kernel_rfl) (by kernel_rfl) (.inr (by kernel_rfl))
theorem tok4 : TOK Try.prog 4 .bool := tok_mk Try.type4 Try.underlying4 (by kernel_rfl) (by kernel_rfl) (by kernel_rfl) (.inr (by kernel_rfl))
theorem tok22 : TOK Try.prog 22 (.sl (.int .i64)) := tok_mk Try.type22 Try.underlying22 (by kernel_rfl) (by kernel_rfl) (by kernel_rfl) (.inr (by kernel_rfl))
theorem tok31 : TOK Try.prog 31 (.arr 8 (.int .i64)) := tok_mk Try.type31 Try.underlying31 (by kernel_rfl) (by kernel_rfl) (by kernel_rfl) (.inr (by kernel_rfl))
theorem tok32 : TOK Try.prog 32 (.sl (.sl (.int .i64))) := tok_mk Try.type32 Try.underlying32 (by kernel_rfl) (by kernel_rfl) (by kernel_rfl) (.inr (by kernel_rfl))
theorem tok44 : TOK Try.prog 44 (.arr 512 (.int .i64)) := tok_mk Try.type44 Try.underlying44 (by kernel_rfl) (by kernel_rfl) (by kernel_rfl) (.inr (by kernel_rfl))
theorem tok45 : TOK Try.prog 45 (.arr 129 (.int .i64)) := tok_mk Try.type45 Try.underlying45 (by kernel_rfl) (by kernel_rfl) (by kernel_rfl) (.inr (by kernel_rfl))
theorem tys_ok : TysOK Try.prog 0 tys := ⟨trivial, trivial, trivial, tyok_int tok3 Try.underlying3, tyok_bool tok4 Try.underlying4, trivial, trivial, trivial, trivial, trivial, trivial, trivial, trivial, trivial, trivial, trivial, trivial, trivial, trivial, trivial, trivial, trivial, tyok_sl tok22 Try.underlying22 tok3 (by kernel_rfl) (by kernel_rfl) (by kernel_rfl) Try.type3 (by kernel_rfl) Try.type22 (by kernel_rfl), trivial, trivial, tyok_pt Try.underlying25 (by kernel_rfl) Try.type25 (by kernel_rfl), trivial, trivial, trivial, trivial, tyok_fn Try.underlying30 (by kernel_rfl) Try.type30 (by kernel_rfl), tyok_arr tok31 Try.underlying31 tok3 (by kernel_rfl), tyok_sl tok32 Try.underlying32 tok22 (by kernel_rfl) (by kernel_rfl) (by kernel_rfl) Try.type22 (by kernel_rfl) Try.type32 (by kernel_rfl), trivial, trivial, trivial, trivial, trivial, trivial, trivial, trivial, trivial, trivial, trivial, tyok_arr tok44 Try.underlying44 tok3 (by kernel_rfl), tyok_arr tok45 Try.underlying45 tok3 (by kernel_rfl), trivial, trivial, trivial, trivial, trivial, trivial, trivial, trivial, trivial, trivial, trivial, trivial, trivial, trivial, trivial, trivial, trivial, trivial, trivial, trivial, trivial, trivial, trivial, trivial, trivial, tyok_fn Try.underlying71 (by kernel_rfl) Try.type71 (by kernel_rfl), trivial⟩
def eqs : List (Nat × Cd) := [(31, (.arr 8 (.int .i64)))]
theorem eqs_ok : EqsOK Try.prog eqs := ⟨⟨by kernel_rfl, (eqs_arr Try.underlying31 tok3 (eqs_int Try.underlying3)), by kernel_rfl, Nat.le_of_ble_eq_true (by kernel_rfl)⟩, trivial⟩
theorem mixed : Try.prog.follows .mixedOrders = true := by kernel_rfl

noncomputable def trig_first_e : Ent := entOf [] fun (v : Unit) n K => trig_first (fun (r0 : (List Int)) => K (.t true (.arr 129 (.int .i64)) r0) [])
noncomputable def trig_first_f : List (Nat × Ent) := []
noncomputable def trig_first_C : Cfg := mkCE tys eqs trig_first_f
noncomputable def trig_first_b : Code := match Try.f25.body with | some c => c | none => .skip
noncomputable def trig_first_L : Cuts := mkL [] []
theorem trig_first_lo : LoopsOK trig_first_C trig_first_L trig_first_b := (show LoopsOK trig_first_C trig_first_L trig_first_b = True by kernel_rfl).mpr trivial
theorem trig_first_jo : JoinsOK trig_first_C trig_first_L trig_first_b := (show JoinsOK trig_first_C trig_first_L trig_first_b = True by kernel_rfl).mpr trivial
theorem trig_first_ro : RngsOK trig_first_C trig_first_L trig_first_b :=
  (show RngsOK trig_first_C trig_first_L trig_first_b = (True) by kernel_rfl).mpr trivial
theorem trig_first_ok : EntOK Try.prog 25 trig_first_e :=
  entOf_ok (e := evFn trig_first_C trig_first_L Try.f25) (fun v n K => Eq.trans (trig_first_def (fun (r0 : (List Int)) => K (.t true (.arr 129 (.int .i64)) r0) [])) (by kernel_rfl)) (evFn_ok (mkCE_all (fns := trig_first_f) tys_ok eqs_ok trivial mixed) Try.func25 (show Try.f25.body = some trig_first_b by kernel_rfl) ⟨trig_first_lo, trig_first_jo, by kernel_rfl, trig_first_ro⟩)

end
end Go.Eng.A
