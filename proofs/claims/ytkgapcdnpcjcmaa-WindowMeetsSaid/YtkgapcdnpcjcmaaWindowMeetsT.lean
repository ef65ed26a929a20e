/- Each of these functions is what the program computes: printed by program. -/
import Derived.Test.YtkgapcdnpcjcmaaEngT
import Derived.Test.YtkgapcdnpcjcmaaWindowMeetsP
import Derived.Test.YtkgapcdnpcjcmaaProg
import Derived.Test.YtkgapcdnpcjcmaaWindowMeetsTc
set_option linter.unusedVariables false
set_option maxRecDepth 100000
namespace Go.Eng.A
open Go Go.Eng Go.Proofs
noncomputable section

def L11_WindowMeets_e : Ent := entOf [.tm (.arr 24 (.int .i16))] fun (v : (List Int) × Unit) n K => L11_WindowMeets v.1 (fun (r0 : Bool) => K (.t true .bool r0) [])
def L11_WindowMeets_f : List (Nat × Ent) := [(18, window_Fold_e), (14, window_Right_e), (12, window_Left_e), (16, window_Meet_e), (11, L11_awake_e)]
def L11_WindowMeets_C : Cfg := mkC tys L11_WindowMeets_f
def L11_WindowMeets_b : Code := match Try.f4.body with | some c => c | none => .skip
def L11_WindowMeets_y0 : Lay := ⟨60, [(1, .fx (.op 0 (.arr 24 (.int .i16)) [])), (3, .fx (.os 1)), (4, .tm true (.int .i64))], [.val true true 29 (.arr 24 (.int .i16)), .val true true 3 (.row (.int .i64))]⟩
def L11_WindowMeets_y1 : Lay := ⟨60, [(3, .fx (.os 0))], [.val true true 3 (.row (.int .i64))]⟩
def L11_WindowMeets_l3_F (k : Nat) (v : (Int × Unit) × ((List Int) × (List Int) × Unit)) (K : KK) : Prop := L11_WindowMeets_l3 k v.1.1 v.2.1 v.2.2.1 (fun (y0 : (List Int)) => K (.exit 0) (st L11_WindowMeets_y1 ((()), (y0, ()))))
def L11_WindowMeets_l3_c : Cut := ⟨L11_WindowMeets_y0, fun o => match o with | .exit 0 => some L11_WindowMeets_y1 | _ => none, fun (v : (Int × Unit) × ((List Int) × (List Int) × Unit)) K => ∃ k, L11_WindowMeets_l3_F k v K⟩
def L11_WindowMeets_y2 : Lay := ⟨60, [(3, .fx (.os 0)), (7, .fx (.op 1 (.arr 8 (.int .i64)) [])), (8, .tm true (.int .i64))], [.val true true 3 (.row (.int .i64)), .val true true 23 (.arr 8 (.int .i64))]⟩
def L11_WindowMeets_y3 : Lay := ⟨60, [(2, .tm true .bool)], []⟩
def L11_WindowMeets_y4 : Lay := ⟨60, [], []⟩
def L11_WindowMeets_l11_F (k : Nat) (v : (Int × Unit) × ((List Int) × (List Int) × Unit)) (K : KK) : Prop := L11_WindowMeets_l11 k v.1.1 v.2.1 v.2.2.1 (fun (y0 : Bool) => K .ret (st L11_WindowMeets_y3 ((y0, ()), (())))) (K (.exit 2) (st L11_WindowMeets_y4 ((()), (()))))
def L11_WindowMeets_l11_c : Cut := ⟨L11_WindowMeets_y2, fun o => match o with | .ret => some L11_WindowMeets_y3 | .exit 2 => some L11_WindowMeets_y4 | _ => none, fun (v : (Int × Unit) × ((List Int) × (List Int) × Unit)) K => ∃ k, L11_WindowMeets_l11_F k v K⟩
def L11_WindowMeets_y5 : Lay := ⟨60, [(3, .fx (.os 0)), (5, .fx (.os 1)), (6, .fx (.os 2))], [.val true true 3 (.row (.int .i64)), .val true false 3 (.row (.int .i64)), .val true false 3 (.row (.int .i64))]⟩
def L11_WindowMeets_j7_c : Cut := ⟨L11_WindowMeets_y5, fun o => match o with | .ret => some L11_WindowMeets_y3 | _ => none, fun (v : (Unit) × ((List Int) × (List Int) × (List Int) × Unit)) (K : KK) => L11_WindowMeets_j7 v.2.1 v.2.2.1 v.2.2.2.1 (fun (y0 : Bool) => K .ret (st L11_WindowMeets_y3 ((y0, ()), (()))))⟩
def L11_WindowMeets_L : Cuts := mkL [(3, L11_WindowMeets_l3_c), (11, L11_WindowMeets_l11_c)] [(7, L11_WindowMeets_j7_c)]
theorem L11_WindowMeets_lo : LoopsOK L11_WindowMeets_C L11_WindowMeets_L L11_WindowMeets_b :=
  (show LoopsOK L11_WindowMeets_C L11_WindowMeets_L L11_WindowMeets_b = ((LoopOK L11_WindowMeets_C L11_WindowMeets_L L11_WindowMeets_l3_c (nthB (loopsOf L11_WindowMeets_b) 0) ∧ True) ∧ (LoopOK L11_WindowMeets_C L11_WindowMeets_L L11_WindowMeets_l11_c (nthB (loopsOf L11_WindowMeets_b) 1) ∧ True) ∧ True) by kernel_rfl).mpr ⟨⟨⟨L11_WindowMeets_l3_F, fun v K => by kernel_rfl, fun v K => by kernel_rfl, fun k v K => by kernel_rfl⟩, trivial⟩, ⟨⟨L11_WindowMeets_l11_F, fun v K => by kernel_rfl, fun v K => by kernel_rfl, fun k v K => by kernel_rfl⟩, trivial⟩, trivial⟩
theorem L11_WindowMeets_jo : JoinsOK L11_WindowMeets_C L11_WindowMeets_L L11_WindowMeets_b :=
  (show JoinsOK L11_WindowMeets_C L11_WindowMeets_L L11_WindowMeets_b = ((JoinOK L11_WindowMeets_C L11_WindowMeets_L L11_WindowMeets_j7_c (nthB (joinsOf L11_WindowMeets_L L11_WindowMeets_b) 0) ∧ True) ∧ True) by kernel_rfl).mpr ⟨⟨fun v K => by kernel_rfl, trivial⟩, trivial⟩
theorem L11_WindowMeets_ok : EntOK Try.prog 4 L11_WindowMeets_e :=
  entOf_ok (e := evFn L11_WindowMeets_C L11_WindowMeets_L Try.f4) (fun v n K => Eq.trans (L11_WindowMeets_def v.1 (fun (r0 : Bool) => K (.t true .bool r0) [])) (by kernel_rfl)) (evFn_ok (mkC_all (fns := L11_WindowMeets_f) tys_ok ⟨⟨window_Fold_ok, Try.call18⟩, ⟨window_Right_ok, Try.call14⟩, ⟨window_Left_ok, Try.call12⟩, ⟨window_Meet_ok, Try.call16⟩, ⟨L11_awake_ok, Try.call11⟩, trivial⟩ mixed) Try.func4 (show Try.f4.body = some L11_WindowMeets_b by kernel_rfl) ⟨L11_WindowMeets_lo, L11_WindowMeets_jo, by kernel_rfl⟩)

end
end Go.Eng.A
