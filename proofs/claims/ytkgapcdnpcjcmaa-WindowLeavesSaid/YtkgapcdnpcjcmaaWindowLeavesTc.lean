/- Each of these functions is what the program computes: printed by program. -/
import Derived.Test.YtkgapcdnpcjcmaaEngT
import Derived.Test.YtkgapcdnpcjcmaaWindowLeavesP
import Derived.Test.YtkgapcdnpcjcmaaProg
import Derived.Test.YtkgapcdnpcjcmaaWindowLeavesTb
set_option linter.unusedVariables false
set_option maxRecDepth 100000
namespace Go.Eng.A
open Go Go.Eng Go.Proofs
noncomputable section

def R01_Within_e : Ent := entOf [.tm (.sl (.int .i64)), .tm (.int .i64), .tm (.int .i64)] fun (v : (List Int) × Int × Int × Unit) n K => R01_Within v.1 v.2.1 v.2.2.1 (fun (r0 : Bool) => K (.t true .bool r0) [])
def R01_Within_f : List (Nat × Ent) := []
def R01_Within_C : Cfg := mkCE tys eqs R01_Within_f
def R01_Within_b : Code := match Try.f57.body with | some c => c | none => .skip
def R01_Within_y0 : Lay := ⟨28, [(0, .tm false (.sl (.int .i64))), (1, .tm true (.int .i64)), (2, .tm true (.int .i64)), (7, .tm true (.int .i64))], []⟩
def R01_Within_y1 : Lay := ⟨28, [(6, .tm true .bool)], []⟩
def R01_Within_y2 : Lay := ⟨28, [], []⟩
def R01_Within_l2_F (k : Nat) (v : ((List Int) × Int × Int × Int × Unit) × (Unit)) (K : KK) : Prop := R01_Within_l2 k v.1.1 v.1.2.1 v.1.2.2.1 v.1.2.2.2.1 (fun (y0 : Bool) => K .ret (st R01_Within_y1 ((y0, ()), (())))) (K (.exit 0) (st R01_Within_y2 ((()), (()))))
def R01_Within_l2_c : Cut := ⟨R01_Within_y0, fun o => match o with | .ret => some R01_Within_y1 | .exit 0 => some R01_Within_y2 | _ => none, fun (v : ((List Int) × Int × Int × Int × Unit) × (Unit)) K => ∃ k, R01_Within_l2_F k v K⟩
def R01_Within_L : Cuts := mkL [(2, R01_Within_l2_c)] []
theorem R01_Within_lo : LoopsOK R01_Within_C R01_Within_L R01_Within_b :=
  (show LoopsOK R01_Within_C R01_Within_L R01_Within_b = ((LoopOK R01_Within_C R01_Within_L R01_Within_l2_c (nthB (loopsOf R01_Within_b) 0) ∧ True) ∧ True) by kernel_rfl).mpr ⟨⟨⟨R01_Within_l2_F, fun v K => by kernel_rfl, fun v K => by kernel_rfl, fun k v K => by kernel_rfl⟩, trivial⟩, trivial⟩
theorem R01_Within_jo : JoinsOK R01_Within_C R01_Within_L R01_Within_b := (show JoinsOK R01_Within_C R01_Within_L R01_Within_b = True by kernel_rfl).mpr trivial
theorem R01_Within_ok : EntOK Try.prog 57 R01_Within_e :=
  entOf_ok (e := evFn R01_Within_C R01_Within_L Try.f57) (fun v n K => Eq.trans (R01_Within_def v.1 v.2.1 v.2.2.1 (fun (r0 : Bool) => K (.t true .bool r0) [])) (by kernel_rfl)) (evFn_ok (mkCE_all (fns := R01_Within_f) tys_ok eqs_ok trivial mixed) Try.func57 (show Try.f57.body = some R01_Within_b by kernel_rfl) ⟨R01_Within_lo, R01_Within_jo, by kernel_rfl⟩)

def R11_Block_e : Ent := entOf [.tm (.sl (.int .i64))] fun (v : (List Int) × Unit) n K => R11_Block v.1 (fun (r0 : Bool) => K (.t true .bool r0) [])
def R11_Block_f : List (Nat × Ent) := [(57, R01_Within_e)]
def R11_Block_C : Cfg := mkCE tys eqs R11_Block_f
def R11_Block_b : Code := match Try.f44.body with | some c => c | none => .skip
def R11_Block_L : Cuts := mkL [] []
theorem R11_Block_lo : LoopsOK R11_Block_C R11_Block_L R11_Block_b := (show LoopsOK R11_Block_C R11_Block_L R11_Block_b = True by kernel_rfl).mpr trivial
theorem R11_Block_jo : JoinsOK R11_Block_C R11_Block_L R11_Block_b := (show JoinsOK R11_Block_C R11_Block_L R11_Block_b = True by kernel_rfl).mpr trivial
theorem R11_Block_ok : EntOK Try.prog 44 R11_Block_e :=
  entOf_ok (e := evFn R11_Block_C R11_Block_L Try.f44) (fun v n K => Eq.trans (R11_Block_def v.1 (fun (r0 : Bool) => K (.t true .bool r0) [])) (by kernel_rfl)) (evFn_ok (mkCE_all (fns := R11_Block_f) tys_ok eqs_ok ⟨⟨R01_Within_ok, Try.call57⟩, trivial⟩ mixed) Try.func44 (show Try.f44.body = some R11_Block_b by kernel_rfl) ⟨R11_Block_lo, R11_Block_jo, by kernel_rfl⟩)

def R11_W_e : Ent := entOf [] fun (v : Unit) n K => R11_W (fun (r0 : (List Int)) => K (.os (n + 0)) [.val true true 3 (.row (.int .i64)) r0])
def R11_W_f : List (Nat × Ent) := []
def R11_W_C : Cfg := mkCE tys eqs R11_W_f
def R11_W_b : Code := match Try.f45.body with | some c => c | none => .skip
def R11_W_L : Cuts := mkL [] []
theorem R11_W_lo : LoopsOK R11_W_C R11_W_L R11_W_b := (show LoopsOK R11_W_C R11_W_L R11_W_b = True by kernel_rfl).mpr trivial
theorem R11_W_jo : JoinsOK R11_W_C R11_W_L R11_W_b := (show JoinsOK R11_W_C R11_W_L R11_W_b = True by kernel_rfl).mpr trivial
theorem R11_W_ok : EntOK Try.prog 45 R11_W_e :=
  entOf_ok (e := evFn R11_W_C R11_W_L Try.f45) (fun v n K => Eq.trans (R11_W_def (fun (r0 : (List Int)) => K (.os (n + 0)) [.val true true 3 (.row (.int .i64)) r0])) (by kernel_rfl)) (evFn_ok (mkCE_all (fns := R11_W_f) tys_ok eqs_ok trivial mixed) Try.func45 (show Try.f45.body = some R11_W_b by kernel_rfl) ⟨R11_W_lo, R11_W_jo, by kernel_rfl⟩)

def R11_Left_e : Ent := entOf [.tm (.sl (.int .i64))] fun (v : (List Int) × Unit) n K => R11_Left v.1 (fun (r0 : (List Int)) => K (.t true (.arr 8 (.int .i64)) r0) [])
def R11_Left_f : List (Nat × Ent) := [(44, R11_Block_e), (45, R11_W_e)]
def R11_Left_C : Cfg := mkCE tys eqs R11_Left_f
def R11_Left_b : Code := match Try.f13.body with | some c => c | none => .skip
def R11_Left_y0 : Lay := ⟨35, [(0, .tm false (.sl (.int .i64))), (2, .fx (.op 0 (.arr 8 (.int .i64)) [])), (3, .fx (.op 1 (.arr 8 (.int .i64)) [])), (4, .fx (.os 2)), (5, .tm true (.int .i64)), (6, .tm true (.int .i64))], [.val true true 23 (.arr 8 (.int .i64)), .val true true 23 (.arr 8 (.int .i64)), .val true true 3 (.row (.int .i64))]⟩
def R11_Left_y1 : Lay := ⟨35, [(0, .tm false (.sl (.int .i64))), (2, .fx (.op 0 (.arr 8 (.int .i64)) [])), (3, .fx (.op 1 (.arr 8 (.int .i64)) [])), (4, .fx (.os 2)), (5, .tm true (.int .i64))], [.val true true 23 (.arr 8 (.int .i64)), .val true true 23 (.arr 8 (.int .i64)), .val true true 3 (.row (.int .i64))]⟩
def R11_Left_j11_c : Cut := ⟨R11_Left_y0, fun o => match o with | .nrm => some R11_Left_y1 | _ => none, fun (v : ((List Int) × Int × Int × Unit) × ((List Int) × (List Int) × (List Int) × Unit)) (K : KK) => R11_Left_j11 v.1.1 v.1.2.1 v.1.2.2.1 v.2.1 v.2.2.1 v.2.2.2.1 (fun (y0 : (List Int)) (y1 : Int) (y2 : (List Int)) (y3 : (List Int)) (y4 : (List Int)) => K .nrm (st R11_Left_y1 ((y0, y1, ()), (y2, y3, y4, ()))))⟩
def R11_Left_y2 : Lay := ⟨35, [(2, .fx (.op 0 (.arr 8 (.int .i64)) [])), (3, .fx (.op 1 (.arr 8 (.int .i64)) []))], [.val true true 23 (.arr 8 (.int .i64)), .val true true 23 (.arr 8 (.int .i64))]⟩
def R11_Left_l6_F (k : Nat) (v : ((List Int) × Int × Unit) × ((List Int) × (List Int) × (List Int) × Unit)) (K : KK) : Prop := R11_Left_l6 k v.1.1 v.1.2.1 v.2.1 v.2.2.1 v.2.2.2.1 (fun (y0 : (List Int)) (y1 : (List Int)) => K (.exit 0) (st R11_Left_y2 ((()), (y0, y1, ()))))
def R11_Left_l6_c : Cut := ⟨R11_Left_y1, fun o => match o with | .exit 0 => some R11_Left_y2 | _ => none, fun (v : ((List Int) × Int × Unit) × ((List Int) × (List Int) × (List Int) × Unit)) K => ∃ k, R11_Left_l6_F k v K⟩
def R11_Left_L : Cuts := mkL [(6, R11_Left_l6_c)] [(11, R11_Left_j11_c)]
theorem R11_Left_lo : LoopsOK R11_Left_C R11_Left_L R11_Left_b :=
  (show LoopsOK R11_Left_C R11_Left_L R11_Left_b = ((LoopOK R11_Left_C R11_Left_L R11_Left_l6_c (nthB (loopsOf R11_Left_b) 0) ∧ True) ∧ True) by kernel_rfl).mpr ⟨⟨⟨R11_Left_l6_F, fun v K => by kernel_rfl, fun v K => by kernel_rfl, fun k v K => by kernel_rfl⟩, trivial⟩, trivial⟩
theorem R11_Left_jo : JoinsOK R11_Left_C R11_Left_L R11_Left_b :=
  (show JoinsOK R11_Left_C R11_Left_L R11_Left_b = ((JoinOK R11_Left_C R11_Left_L R11_Left_j11_c (nthB (joinsOf R11_Left_L R11_Left_b) 0) ∧ True) ∧ True) by kernel_rfl).mpr ⟨⟨fun v K => by kernel_rfl, trivial⟩, trivial⟩
theorem R11_Left_ok : EntOK Try.prog 13 R11_Left_e :=
  entOf_ok (e := evFn R11_Left_C R11_Left_L Try.f13) (fun v n K => Eq.trans (R11_Left_def v.1 (fun (r0 : (List Int)) => K (.t true (.arr 8 (.int .i64)) r0) [])) (by kernel_rfl)) (evFn_ok (mkCE_all (fns := R11_Left_f) tys_ok eqs_ok ⟨⟨R11_Block_ok, Try.call44⟩, ⟨R11_W_ok, Try.call45⟩, trivial⟩ mixed) Try.func13 (show Try.f13.body = some R11_Left_b by kernel_rfl) ⟨R11_Left_lo, R11_Left_jo, by kernel_rfl⟩)

def window_Right_e : Ent := entOf [.tm (.sl (.int .i64))] fun (v : (List Int) × Unit) n K => window_Right v.1 (fun (r0 : (List Int)) => K (.t true (.arr 8 (.int .i64)) r0) [])
def window_Right_f : List (Nat × Ent) := [(43, window_within_e), (42, window_Slope_e)]
def window_Right_C : Cfg := mkCE tys eqs window_Right_f
def window_Right_b : Code := match Try.f14.body with | some c => c | none => .skip
def window_Right_y0 : Lay := ⟨44, [(0, .tm false (.sl (.int .i64))), (2, .fx (.op 0 (.arr 8 (.int .i64)) [])), (3, .fx (.op 1 (.arr 8 (.int .i64)) [])), (4, .fx (.op 2 (.arr 8 (.int .i64)) [])), (12, .tm true (.int .i64))], [.val true true 23 (.arr 8 (.int .i64)), .val true true 23 (.arr 8 (.int .i64)), .val true true 23 (.arr 8 (.int .i64))]⟩
def window_Right_y1 : Lay := ⟨44, [(2, .fx (.op 0 (.arr 8 (.int .i64)) [])), (3, .fx (.op 1 (.arr 8 (.int .i64)) []))], [.val true true 23 (.arr 8 (.int .i64)), .val true true 23 (.arr 8 (.int .i64))]⟩
def window_Right_l6_F (k : Nat) (v : ((List Int) × Int × Unit) × ((List Int) × (List Int) × (List Int) × Unit)) (K : KK) : Prop := window_Right_l6 k v.1.1 v.1.2.1 v.2.1 v.2.2.1 v.2.2.2.1 (fun (y0 : (List Int)) (y1 : (List Int)) => K (.exit 0) (st window_Right_y1 ((()), (y0, y1, ()))))
def window_Right_l6_c : Cut := ⟨window_Right_y0, fun o => match o with | .exit 0 => some window_Right_y1 | _ => none, fun (v : ((List Int) × Int × Unit) × ((List Int) × (List Int) × (List Int) × Unit)) K => ∃ k, window_Right_l6_F k v K⟩
def window_Right_L : Cuts := mkL [(6, window_Right_l6_c)] []
theorem window_Right_lo : LoopsOK window_Right_C window_Right_L window_Right_b :=
  (show LoopsOK window_Right_C window_Right_L window_Right_b = ((LoopOK window_Right_C window_Right_L window_Right_l6_c (nthB (loopsOf window_Right_b) 0) ∧ True) ∧ True) by kernel_rfl).mpr ⟨⟨⟨window_Right_l6_F, fun v K => by kernel_rfl, fun v K => by kernel_rfl, fun k v K => by kernel_rfl⟩, trivial⟩, trivial⟩
theorem window_Right_jo : JoinsOK window_Right_C window_Right_L window_Right_b := (show JoinsOK window_Right_C window_Right_L window_Right_b = True by kernel_rfl).mpr trivial
theorem window_Right_ok : EntOK Try.prog 14 window_Right_e :=
  entOf_ok (e := evFn window_Right_C window_Right_L Try.f14) (fun v n K => Eq.trans (window_Right_def v.1 (fun (r0 : (List Int)) => K (.t true (.arr 8 (.int .i64)) r0) [])) (by kernel_rfl)) (evFn_ok (mkCE_all (fns := window_Right_f) tys_ok eqs_ok ⟨⟨window_within_ok, Try.call43⟩, ⟨window_Slope_ok, Try.call42⟩, trivial⟩ mixed) Try.func14 (show Try.f14.body = some window_Right_b by kernel_rfl) ⟨window_Right_lo, window_Right_jo, by kernel_rfl⟩)

def R11_Right_e : Ent := entOf [.tm (.sl (.int .i64))] fun (v : (List Int) × Unit) n K => R11_Right v.1 (fun (r0 : (List Int)) => K (.t true (.arr 8 (.int .i64)) r0) [])
def R11_Right_f : List (Nat × Ent) := [(44, R11_Block_e), (45, R11_W_e)]
def R11_Right_C : Cfg := mkCE tys eqs R11_Right_f
def R11_Right_b : Code := match Try.f15.body with | some c => c | none => .skip
def R11_Right_y0 : Lay := ⟨52, [(0, .tm false (.sl (.int .i64))), (2, .fx (.op 0 (.arr 8 (.int .i64)) [])), (3, .fx (.op 1 (.arr 8 (.int .i64)) [])), (4, .fx (.os 2)), (5, .tm true (.int .i64))], [.val true true 23 (.arr 8 (.int .i64)), .val true true 23 (.arr 8 (.int .i64)), .val true true 3 (.row (.int .i64))]⟩
def R11_Right_y1 : Lay := ⟨52, [(2, .fx (.op 0 (.arr 8 (.int .i64)) [])), (3, .fx (.op 1 (.arr 8 (.int .i64)) []))], [.val true true 23 (.arr 8 (.int .i64)), .val true true 23 (.arr 8 (.int .i64))]⟩
def R11_Right_l6_F (k : Nat) (v : ((List Int) × Int × Unit) × ((List Int) × (List Int) × (List Int) × Unit)) (K : KK) : Prop := R11_Right_l6 k v.1.1 v.1.2.1 v.2.1 v.2.2.1 v.2.2.2.1 (fun (y0 : (List Int)) (y1 : (List Int)) => K (.exit 0) (st R11_Right_y1 ((()), (y0, y1, ()))))
def R11_Right_l6_c : Cut := ⟨R11_Right_y0, fun o => match o with | .exit 0 => some R11_Right_y1 | _ => none, fun (v : ((List Int) × Int × Unit) × ((List Int) × (List Int) × (List Int) × Unit)) K => ∃ k, R11_Right_l6_F k v K⟩
def R11_Right_L : Cuts := mkL [(6, R11_Right_l6_c)] []
theorem R11_Right_lo : LoopsOK R11_Right_C R11_Right_L R11_Right_b :=
  (show LoopsOK R11_Right_C R11_Right_L R11_Right_b = ((LoopOK R11_Right_C R11_Right_L R11_Right_l6_c (nthB (loopsOf R11_Right_b) 0) ∧ True) ∧ True) by kernel_rfl).mpr ⟨⟨⟨R11_Right_l6_F, fun v K => by kernel_rfl, fun v K => by kernel_rfl, fun k v K => by kernel_rfl⟩, trivial⟩, trivial⟩
theorem R11_Right_jo : JoinsOK R11_Right_C R11_Right_L R11_Right_b := (show JoinsOK R11_Right_C R11_Right_L R11_Right_b = True by kernel_rfl).mpr trivial
theorem R11_Right_ok : EntOK Try.prog 15 R11_Right_e :=
  entOf_ok (e := evFn R11_Right_C R11_Right_L Try.f15) (fun v n K => Eq.trans (R11_Right_def v.1 (fun (r0 : (List Int)) => K (.t true (.arr 8 (.int .i64)) r0) [])) (by kernel_rfl)) (evFn_ok (mkCE_all (fns := R11_Right_f) tys_ok eqs_ok ⟨⟨R11_Block_ok, Try.call44⟩, ⟨R11_W_ok, Try.call45⟩, trivial⟩ mixed) Try.func15 (show Try.f15.body = some R11_Right_b by kernel_rfl) ⟨R11_Right_lo, R11_Right_jo, by kernel_rfl⟩)

end
end Go.Eng.A
