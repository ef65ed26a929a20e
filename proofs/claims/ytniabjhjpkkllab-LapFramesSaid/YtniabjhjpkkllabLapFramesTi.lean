/- Each of these functions is what the program computes: printed by program. -/
import Derived.Test.YtniabjhjpkkllabEngT
import Derived.Test.YtniabjhjpkkllabLapFramesP
import Derived.Test.YtniabjhjpkkllabProg
import Derived.Test.YtniabjhjpkkllabLapFramesTh
set_option linter.unusedVariables false
set_option maxRecDepth 100000
namespace Go.Eng.A
open Go Go.Eng Go.Proofs
noncomputable section

noncomputable def R12_Blocks_e : Ent := entOf [.tm (.sl (.int .i64)), .tm .bool] fun (v : (List Int) × Bool × Unit) n K => R12_Blocks v.1 v.2.1 (fun (r0 : (List (List Int))) => K (.os (n + 0)) [.val true true 22 (.row (.sl (.int .i64))) r0])
noncomputable def R12_Blocks_f : List (Nat × Ent) := [(21, R10_Back_e), (18, R12_Pick_e)]
noncomputable def R12_Blocks_C : Cfg := mkCE tys eqs R12_Blocks_f
noncomputable def R12_Blocks_b : Code := match Try.f38.body with | some c => c | none => .skip
def R12_Blocks_y0 : Lay := ⟨24, [(0, .tm false (.sl (.int .i64))), (5, .fx (.os 0)), (6, .tm true (.int .i64))], [.val true true 22 (.row (.sl (.int .i64)))]⟩
def R12_Blocks_y1 : Lay := ⟨24, [(5, .fx (.os 0))], [.val true true 22 (.row (.sl (.int .i64)))]⟩
noncomputable def R12_Blocks_l5_F (k : Nat) (v : ((List Int) × Int × Unit) × ((List (List Int)) × Unit)) (K : KK) : Prop := R12_Blocks_l5 k v.1.1 v.1.2.1 v.2.1 (fun (y0 : (List (List Int))) => K (.exit 0) (st R12_Blocks_y1 ((()), (y0, ()))))
noncomputable def R12_Blocks_l5_c : Cut := ⟨R12_Blocks_y0, fun o => match o with | .exit 0 => some R12_Blocks_y1 | _ => none, fun (v : ((List Int) × Int × Unit) × ((List (List Int)) × Unit)) K => ∃ k, R12_Blocks_l5_F k v K⟩
noncomputable def R12_Blocks_L : Cuts := mkL [(5, R12_Blocks_l5_c)] []
theorem R12_Blocks_lo : LoopsOK R12_Blocks_C R12_Blocks_L R12_Blocks_b :=
  (show LoopsOK R12_Blocks_C R12_Blocks_L R12_Blocks_b = ((LoopOK R12_Blocks_C R12_Blocks_L R12_Blocks_l5_c (nthB (loopsOf R12_Blocks_b) 0) ∧ True) ∧ True) by kernel_rfl).mpr ⟨⟨⟨R12_Blocks_l5_F, fun v K => by kernel_rfl, fun v K => by kernel_rfl, fun k v K => by kernel_rfl⟩, trivial⟩, trivial⟩
theorem R12_Blocks_jo : JoinsOK R12_Blocks_C R12_Blocks_L R12_Blocks_b := (show JoinsOK R12_Blocks_C R12_Blocks_L R12_Blocks_b = True by kernel_rfl).mpr trivial
theorem R12_Blocks_ro : RngsOK R12_Blocks_C R12_Blocks_L R12_Blocks_b :=
  (show RngsOK R12_Blocks_C R12_Blocks_L R12_Blocks_b = (True) by kernel_rfl).mpr trivial
theorem R12_Blocks_ok : EntOK Try.prog 38 R12_Blocks_e :=
  entOf_ok (e := evFn R12_Blocks_C R12_Blocks_L Try.f38) (fun v n K => Eq.trans (R12_Blocks_def v.1 v.2.1 (fun (r0 : (List (List Int))) => K (.os (n + 0)) [.val true true 22 (.row (.sl (.int .i64))) r0])) (by kernel_rfl)) (evFn_ok (mkCE_all (fns := R12_Blocks_f) tys_ok eqs_ok ⟨⟨R10_Back_ok, Try.call21⟩, ⟨R12_Pick_ok, Try.call18⟩, trivial⟩ mixed) Try.func38 (show Try.f38.body = some R12_Blocks_b by kernel_rfl) ⟨R12_Blocks_lo, R12_Blocks_jo, by kernel_rfl, R12_Blocks_ro⟩)

noncomputable def R11_Block_e : Ent := entOf [.tm (.sl (.int .i64))] fun (v : (List Int) × Unit) n K => R11_Block v.1 (fun (r0 : Bool) => K (.t true .bool r0) [])
noncomputable def R11_Block_f : List (Nat × Ent) := [(26, R01_Within_e)]
noncomputable def R11_Block_C : Cfg := mkCE tys eqs R11_Block_f
noncomputable def R11_Block_b : Code := match Try.f59.body with | some c => c | none => .skip
noncomputable def R11_Block_L : Cuts := mkL [] []
theorem R11_Block_lo : LoopsOK R11_Block_C R11_Block_L R11_Block_b := (show LoopsOK R11_Block_C R11_Block_L R11_Block_b = True by kernel_rfl).mpr trivial
theorem R11_Block_jo : JoinsOK R11_Block_C R11_Block_L R11_Block_b := (show JoinsOK R11_Block_C R11_Block_L R11_Block_b = True by kernel_rfl).mpr trivial
theorem R11_Block_ro : RngsOK R11_Block_C R11_Block_L R11_Block_b :=
  (show RngsOK R11_Block_C R11_Block_L R11_Block_b = (True) by kernel_rfl).mpr trivial
theorem R11_Block_ok : EntOK Try.prog 59 R11_Block_e :=
  entOf_ok (e := evFn R11_Block_C R11_Block_L Try.f59) (fun v n K => Eq.trans (R11_Block_def v.1 (fun (r0 : Bool) => K (.t true .bool r0) [])) (by kernel_rfl)) (evFn_ok (mkCE_all (fns := R11_Block_f) tys_ok eqs_ok ⟨⟨R01_Within_ok, Try.call26⟩, trivial⟩ mixed) Try.func59 (show Try.f59.body = some R11_Block_b by kernel_rfl) ⟨R11_Block_lo, R11_Block_jo, by kernel_rfl, R11_Block_ro⟩)

noncomputable def R11_W_e : Ent := entOf [] fun (v : Unit) n K => R11_W (fun (r0 : (List Int)) => K (.os (n + 0)) [.val true true 3 (.row (.int .i64)) r0])
noncomputable def R11_W_f : List (Nat × Ent) := []
noncomputable def R11_W_C : Cfg := mkCE tys eqs R11_W_f
noncomputable def R11_W_b : Code := match Try.f60.body with | some c => c | none => .skip
noncomputable def R11_W_L : Cuts := mkL [] []
theorem R11_W_lo : LoopsOK R11_W_C R11_W_L R11_W_b := (show LoopsOK R11_W_C R11_W_L R11_W_b = True by kernel_rfl).mpr trivial
theorem R11_W_jo : JoinsOK R11_W_C R11_W_L R11_W_b := (show JoinsOK R11_W_C R11_W_L R11_W_b = True by kernel_rfl).mpr trivial
theorem R11_W_ro : RngsOK R11_W_C R11_W_L R11_W_b :=
  (show RngsOK R11_W_C R11_W_L R11_W_b = (True) by kernel_rfl).mpr trivial
theorem R11_W_ok : EntOK Try.prog 60 R11_W_e :=
  entOf_ok (e := evFn R11_W_C R11_W_L Try.f60) (fun v n K => Eq.trans (R11_W_def (fun (r0 : (List Int)) => K (.os (n + 0)) [.val true true 3 (.row (.int .i64)) r0])) (by kernel_rfl)) (evFn_ok (mkCE_all (fns := R11_W_f) tys_ok eqs_ok trivial mixed) Try.func60 (show Try.f60.body = some R11_W_b by kernel_rfl) ⟨R11_W_lo, R11_W_jo, by kernel_rfl, R11_W_ro⟩)

noncomputable def R11_Left_e : Ent := entOf [.tm (.sl (.int .i64))] fun (v : (List Int) × Unit) n K => R11_Left v.1 (fun (r0 : (List Int)) => K (.t true (.arr 8 (.int .i64)) r0) [])
noncomputable def R11_Left_f : List (Nat × Ent) := [(59, R11_Block_e), (60, R11_W_e)]
noncomputable def R11_Left_C : Cfg := mkCE tys eqs R11_Left_f
noncomputable def R11_Left_b : Code := match Try.f40.body with | some c => c | none => .skip
def R11_Left_y0 : Lay := ⟨35, [(0, .tm false (.sl (.int .i64))), (2, .fx (.op 0 (.arr 8 (.int .i64)) [])), (3, .fx (.op 1 (.arr 8 (.int .i64)) [])), (4, .fx (.os 2)), (5, .tm true (.int .i64)), (6, .tm true (.int .i64))], [.val true true 31 (.arr 8 (.int .i64)), .val true true 31 (.arr 8 (.int .i64)), .val true true 3 (.row (.int .i64))]⟩
def R11_Left_y1 : Lay := ⟨35, [(0, .tm false (.sl (.int .i64))), (2, .fx (.op 0 (.arr 8 (.int .i64)) [])), (3, .fx (.op 1 (.arr 8 (.int .i64)) [])), (4, .fx (.os 2)), (5, .tm true (.int .i64))], [.val true true 31 (.arr 8 (.int .i64)), .val true true 31 (.arr 8 (.int .i64)), .val true true 3 (.row (.int .i64))]⟩
noncomputable def R11_Left_j11_c : Cut := ⟨R11_Left_y0, fun o => match o with | .nrm => some R11_Left_y1 | _ => none, fun (v : ((List Int) × Int × Int × Unit) × ((List Int) × (List Int) × (List Int) × Unit)) (K : KK) => R11_Left_j11 v.1.1 v.1.2.1 v.1.2.2.1 v.2.1 v.2.2.1 v.2.2.2.1 (fun (y0 : (List Int)) (y1 : Int) (y2 : (List Int)) (y3 : (List Int)) (y4 : (List Int)) => K .nrm (st R11_Left_y1 ((y0, y1, ()), (y2, y3, y4, ()))))⟩
def R11_Left_y2 : Lay := ⟨35, [(2, .fx (.op 0 (.arr 8 (.int .i64)) [])), (3, .fx (.op 1 (.arr 8 (.int .i64)) []))], [.val true true 31 (.arr 8 (.int .i64)), .val true true 31 (.arr 8 (.int .i64))]⟩
noncomputable def R11_Left_l6_F (k : Nat) (v : ((List Int) × Int × Unit) × ((List Int) × (List Int) × (List Int) × Unit)) (K : KK) : Prop := R11_Left_l6 k v.1.1 v.1.2.1 v.2.1 v.2.2.1 v.2.2.2.1 (fun (y0 : (List Int)) (y1 : (List Int)) => K (.exit 0) (st R11_Left_y2 ((()), (y0, y1, ()))))
noncomputable def R11_Left_l6_c : Cut := ⟨R11_Left_y1, fun o => match o with | .exit 0 => some R11_Left_y2 | _ => none, fun (v : ((List Int) × Int × Unit) × ((List Int) × (List Int) × (List Int) × Unit)) K => ∃ k, R11_Left_l6_F k v K⟩
noncomputable def R11_Left_L : Cuts := mkL [(6, R11_Left_l6_c)] [(11, R11_Left_j11_c)]
theorem R11_Left_lo : LoopsOK R11_Left_C R11_Left_L R11_Left_b :=
  (show LoopsOK R11_Left_C R11_Left_L R11_Left_b = ((LoopOK R11_Left_C R11_Left_L R11_Left_l6_c (nthB (loopsOf R11_Left_b) 0) ∧ True) ∧ True) by kernel_rfl).mpr ⟨⟨⟨R11_Left_l6_F, fun v K => by kernel_rfl, fun v K => by kernel_rfl, fun k v K => by kernel_rfl⟩, trivial⟩, trivial⟩
theorem R11_Left_jo : JoinsOK R11_Left_C R11_Left_L R11_Left_b :=
  (show JoinsOK R11_Left_C R11_Left_L R11_Left_b = ((JoinOK R11_Left_C R11_Left_L R11_Left_j11_c (nthB (joinsOf R11_Left_L R11_Left_b) 0) ∧ True) ∧ True) by kernel_rfl).mpr ⟨⟨fun v K => by kernel_rfl, trivial⟩, trivial⟩
theorem R11_Left_ro : RngsOK R11_Left_C R11_Left_L R11_Left_b :=
  (show RngsOK R11_Left_C R11_Left_L R11_Left_b = (True) by kernel_rfl).mpr trivial
theorem R11_Left_ok : EntOK Try.prog 40 R11_Left_e :=
  entOf_ok (e := evFn R11_Left_C R11_Left_L Try.f40) (fun v n K => Eq.trans (R11_Left_def v.1 (fun (r0 : (List Int)) => K (.t true (.arr 8 (.int .i64)) r0) [])) (by kernel_rfl)) (evFn_ok (mkCE_all (fns := R11_Left_f) tys_ok eqs_ok ⟨⟨R11_Block_ok, Try.call59⟩, ⟨R11_W_ok, Try.call60⟩, trivial⟩ mixed) Try.func40 (show Try.f40.body = some R11_Left_b by kernel_rfl) ⟨R11_Left_lo, R11_Left_jo, by kernel_rfl, R11_Left_ro⟩)

end
end Go.Eng.A
