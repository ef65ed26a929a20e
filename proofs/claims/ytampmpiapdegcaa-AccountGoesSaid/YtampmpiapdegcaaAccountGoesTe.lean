/- Each of these functions is what the program computes: printed by program. -/
import Derived.Test.YtampmpiapdegcaaEngT
import Derived.Test.YtampmpiapdegcaaAccountGoesP
import Derived.Test.YtampmpiapdegcaaProg
import Derived.Test.YtampmpiapdegcaaAccountGoesTd
set_option linter.unusedVariables false
set_option maxRecDepth 100000
namespace Go.Eng.A
open Go Go.Eng Go.Proofs
noncomputable section

noncomputable def R28_Length_e : Ent := entOf [.tm (.cons (.cons (.int .i64) (.cons (.int .i64) (.cons (.int .i64) (.cons (.int .i64) (.cons (.int .i64) (.cons (.int .i64) .nil)))))) (.cons (.sl (.sl (.cons (.cons .bool (.cons .bool (.cons .bool (.cons (.int .i64) (.cons (.sl (.cons (.sl (.cons (.int .i64) (.cons (.int .i64) (.cons (.sl (.int .i64)) .nil)))) .nil)) .nil))))) (.cons (.int .i64) (.cons (.int .i64) .nil))))) .nil))] fun (v : ((Int × (Int × (Int × (Int × (Int × (Int × Unit)))))) × ((List (List ((Bool × (Bool × (Bool × (Int × ((List ((List (Int × (Int × ((List Int) × Unit)))) × Unit)) × Unit))))) × (Int × (Int × Unit))))) × Unit)) × Unit) n K => R28_Length v.1 (fun (r0 : Int) => K (.t true (.int .i64) r0) [])
noncomputable def R28_Length_f : List (Nat × Ent) := [(33, R28_Page_e)]
noncomputable def R28_Length_C : Cfg := mkC tys R28_Length_f
noncomputable def R28_Length_b : Code := match Try.f39.body with | some c => c | none => .skip
def R28_Length_y0 : Lay := ⟨29, [(1, .fx (.op 0 (.cons (.cons (.int .i64) (.cons (.int .i64) (.cons (.int .i64) (.cons (.int .i64) (.cons (.int .i64) (.cons (.int .i64) .nil)))))) (.cons (.sl (.sl (.cons (.cons .bool (.cons .bool (.cons .bool (.cons (.int .i64) (.cons (.sl (.cons (.sl (.cons (.int .i64) (.cons (.int .i64) (.cons (.sl (.int .i64)) .nil)))) .nil)) .nil))))) (.cons (.int .i64) (.cons (.int .i64) .nil))))) .nil)) [])), (3, .tm true (.int .i64)), (4, .tm true (.int .i64))], [.val true false 26 (.cons (.cons (.int .i64) (.cons (.int .i64) (.cons (.int .i64) (.cons (.int .i64) (.cons (.int .i64) (.cons (.int .i64) .nil)))))) (.cons (.sl (.sl (.cons (.cons .bool (.cons .bool (.cons .bool (.cons (.int .i64) (.cons (.sl (.cons (.sl (.cons (.int .i64) (.cons (.int .i64) (.cons (.sl (.int .i64)) .nil)))) .nil)) .nil))))) (.cons (.int .i64) (.cons (.int .i64) .nil))))) .nil))]⟩
def R28_Length_y1 : Lay := ⟨29, [(1, .fx (.op 0 (.cons (.cons (.int .i64) (.cons (.int .i64) (.cons (.int .i64) (.cons (.int .i64) (.cons (.int .i64) (.cons (.int .i64) .nil)))))) (.cons (.sl (.sl (.cons (.cons .bool (.cons .bool (.cons .bool (.cons (.int .i64) (.cons (.sl (.cons (.sl (.cons (.int .i64) (.cons (.int .i64) (.cons (.sl (.int .i64)) .nil)))) .nil)) .nil))))) (.cons (.int .i64) (.cons (.int .i64) .nil))))) .nil)) [])), (3, .tm true (.int .i64))], [.val true false 26 (.cons (.cons (.int .i64) (.cons (.int .i64) (.cons (.int .i64) (.cons (.int .i64) (.cons (.int .i64) (.cons (.int .i64) .nil)))))) (.cons (.sl (.sl (.cons (.cons .bool (.cons .bool (.cons .bool (.cons (.int .i64) (.cons (.sl (.cons (.sl (.cons (.int .i64) (.cons (.int .i64) (.cons (.sl (.int .i64)) .nil)))) .nil)) .nil))))) (.cons (.int .i64) (.cons (.int .i64) .nil))))) .nil))]⟩
noncomputable def R28_Length_l3_F (k : Nat) (v : (Int × Int × Unit) × (((Int × (Int × (Int × (Int × (Int × (Int × Unit)))))) × ((List (List ((Bool × (Bool × (Bool × (Int × ((List ((List (Int × (Int × ((List Int) × Unit)))) × Unit)) × Unit))))) × (Int × (Int × Unit))))) × Unit)) × Unit)) (K : KK) : Prop := R28_Length_l3 k v.1.1 v.1.2.1 v.2.1 (fun (y0 : Int) (y1 : ((Int × (Int × (Int × (Int × (Int × (Int × Unit)))))) × ((List (List ((Bool × (Bool × (Bool × (Int × ((List ((List (Int × (Int × ((List Int) × Unit)))) × Unit)) × Unit))))) × (Int × (Int × Unit))))) × Unit))) => K (.exit 0) (st R28_Length_y1 ((y0, ()), (y1, ()))))
noncomputable def R28_Length_l3_c : Cut := ⟨R28_Length_y0, fun o => match o with | .exit 0 => some R28_Length_y1 | _ => none, fun (v : (Int × Int × Unit) × (((Int × (Int × (Int × (Int × (Int × (Int × Unit)))))) × ((List (List ((Bool × (Bool × (Bool × (Int × ((List ((List (Int × (Int × ((List Int) × Unit)))) × Unit)) × Unit))))) × (Int × (Int × Unit))))) × Unit)) × Unit)) K => ∃ k, R28_Length_l3_F k v K⟩
noncomputable def R28_Length_L : Cuts := mkL [(3, R28_Length_l3_c)] []
theorem R28_Length_lo : LoopsOK R28_Length_C R28_Length_L R28_Length_b :=
  (show LoopsOK R28_Length_C R28_Length_L R28_Length_b = ((LoopOK R28_Length_C R28_Length_L R28_Length_l3_c (nthB (loopsOf R28_Length_b) 0) ∧ True) ∧ True) by kernel_rfl).mpr ⟨⟨⟨R28_Length_l3_F, fun v K => by kernel_rfl, fun v K => by kernel_rfl, fun k v K => by kernel_rfl⟩, trivial⟩, trivial⟩
theorem R28_Length_jo : JoinsOK R28_Length_C R28_Length_L R28_Length_b := (show JoinsOK R28_Length_C R28_Length_L R28_Length_b = True by kernel_rfl).mpr trivial
theorem R28_Length_ro : RngsOK R28_Length_C R28_Length_L R28_Length_b :=
  (show RngsOK R28_Length_C R28_Length_L R28_Length_b = (True) by kernel_rfl).mpr trivial
theorem R28_Length_ok : EntOK Try.prog 39 R28_Length_e :=
  entOf_ok (e := evFn R28_Length_C R28_Length_L Try.f39) (fun v n K => Eq.trans (R28_Length_def v.1 (fun (r0 : Int) => K (.t true (.int .i64) r0) [])) (by kernel_rfl)) (evFn_ok (mkC_all (fns := R28_Length_f) tys_ok ⟨⟨R28_Page_ok, Try.call33⟩, trivial⟩ mixed) Try.func39 (show Try.f39.body = some R28_Length_b by kernel_rfl) ⟨R28_Length_lo, R28_Length_jo, by kernel_rfl, R28_Length_ro⟩)

end
end Go.Eng.A
