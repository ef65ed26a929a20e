/- Each of these functions is what the program computes: printed by program. -/
import Derived.Test.YtniabjhjpkkllabEngT
import Derived.Test.YtniabjhjpkkllabLapFramesP
import Derived.Test.YtniabjhjpkkllabProg
import Derived.Test.YtniabjhjpkkllabLapFramesTk
set_option linter.unusedVariables false
set_option maxRecDepth 100000
namespace Go.Eng.A
open Go Go.Eng Go.Proofs
noncomputable section

noncomputable def R12_Lay_e : Ent := entOf [.tm (.sl (.sl (.int .i64)))] fun (v : (List (List Int)) × Unit) n K => R12_Lay v.1 (K (.ns) []) (fun (r0 : (List Int)) => K (.os (n + 0)) [.val true true 3 (.row (.int .i64)) r0])
noncomputable def R12_Lay_f : List (Nat × Ent) := []
noncomputable def R12_Lay_C : Cfg := mkCE tys eqs R12_Lay_f
noncomputable def R12_Lay_b : Code := match Try.f16.body with | some c => c | none => .skip
def R12_Lay_y0 : Lay := ⟨38, [(0, .tm false (.sl (.sl (.int .i64)))), (3, .fx (.os 0)), (4, .tm true (.int .i64)), (5, .tm true (.int .i64))], [.val true true 3 (.row (.int .i64))]⟩
def R12_Lay_y1 : Lay := ⟨38, [(0, .tm false (.sl (.sl (.int .i64)))), (3, .fx (.os 0)), (4, .tm true (.int .i64))], [.val true true 3 (.row (.int .i64))]⟩
noncomputable def R12_Lay_l10_F (k : Nat) (v : ((List (List Int)) × Int × Int × Unit) × ((List Int) × Unit)) (K : KK) : Prop := R12_Lay_l10 k v.1.1 v.1.2.1 v.1.2.2.1 v.2.1 (fun (y0 : (List (List Int))) (y1 : Int) (y2 : (List Int)) => K (.exit 2) (st R12_Lay_y1 ((y0, y1, ()), (y2, ()))))
noncomputable def R12_Lay_l10_c : Cut := ⟨R12_Lay_y0, fun o => match o with | .exit 2 => some R12_Lay_y1 | _ => none, fun (v : ((List (List Int)) × Int × Int × Unit) × ((List Int) × Unit)) K => ∃ k, R12_Lay_l10_F k v K⟩
def R12_Lay_y2 : Lay := ⟨38, [(2, .fx .ns)], []⟩
def R12_Lay_y3 : Lay := ⟨38, [(3, .fx (.os 0))], [.val true true 3 (.row (.int .i64))]⟩
noncomputable def R12_Lay_l5_F (k : Nat) (v : ((List (List Int)) × Int × Unit) × ((List Int) × Unit)) (K : KK) : Prop := R12_Lay_l5 k v.1.1 v.1.2.1 v.2.1 (K .ret (st R12_Lay_y2 ((()), (())))) (fun (y0 : (List Int)) => K (.exit 0) (st R12_Lay_y3 ((()), (y0, ()))))
noncomputable def R12_Lay_l5_c : Cut := ⟨R12_Lay_y1, fun o => match o with | .ret => some R12_Lay_y2 | .exit 0 => some R12_Lay_y3 | _ => none, fun (v : ((List (List Int)) × Int × Unit) × ((List Int) × Unit)) K => ∃ k, R12_Lay_l5_F k v K⟩
noncomputable def R12_Lay_L : Cuts := mkL [(10, R12_Lay_l10_c), (5, R12_Lay_l5_c)] []
theorem R12_Lay_lo : LoopsOK R12_Lay_C R12_Lay_L R12_Lay_b :=
  (show LoopsOK R12_Lay_C R12_Lay_L R12_Lay_b = ((LoopOK R12_Lay_C R12_Lay_L R12_Lay_l5_c (nthB (loopsOf R12_Lay_b) 0) ∧ True) ∧ (LoopOK R12_Lay_C R12_Lay_L R12_Lay_l10_c (nthB (loopsOf R12_Lay_b) 1) ∧ True) ∧ True) by kernel_rfl).mpr ⟨⟨⟨R12_Lay_l5_F, fun v K => by kernel_rfl, fun v K => by kernel_rfl, fun k v K => by kernel_rfl⟩, trivial⟩, ⟨⟨R12_Lay_l10_F, fun v K => by kernel_rfl, fun v K => by kernel_rfl, fun k v K => by kernel_rfl⟩, trivial⟩, trivial⟩
theorem R12_Lay_jo : JoinsOK R12_Lay_C R12_Lay_L R12_Lay_b := (show JoinsOK R12_Lay_C R12_Lay_L R12_Lay_b = True by kernel_rfl).mpr trivial
theorem R12_Lay_ro : RngsOK R12_Lay_C R12_Lay_L R12_Lay_b :=
  (show RngsOK R12_Lay_C R12_Lay_L R12_Lay_b = (True) by kernel_rfl).mpr trivial
theorem R12_Lay_ok : EntOK Try.prog 16 R12_Lay_e :=
  entOf_ok (e := evFn R12_Lay_C R12_Lay_L Try.f16) (fun v n K => Eq.trans (R12_Lay_def v.1 (K (.ns) []) (fun (r0 : (List Int)) => K (.os (n + 0)) [.val true true 3 (.row (.int .i64)) r0])) (by kernel_rfl)) (evFn_ok (mkCE_all (fns := R12_Lay_f) tys_ok eqs_ok trivial mixed) Try.func16 (show Try.f16.body = some R12_Lay_b by kernel_rfl) ⟨R12_Lay_lo, R12_Lay_jo, by kernel_rfl, R12_Lay_ro⟩)

end
end Go.Eng.A
