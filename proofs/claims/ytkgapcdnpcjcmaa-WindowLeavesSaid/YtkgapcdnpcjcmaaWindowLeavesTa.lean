/- Each of these functions is what the program computes: printed by program. -/
import Derived.Test.YtkgapcdnpcjcmaaEngT
import Derived.Test.YtkgapcdnpcjcmaaWindowLeavesP
import Derived.Test.YtkgapcdnpcjcmaaProg
set_option linter.unusedVariables false
set_option maxRecDepth 100000
namespace Go.Eng.A
open Go Go.Eng Go.Proofs
noncomputable section

def tys : List Ty := [.no, .no, .no, .sc (.int .i64), .no, .no, .no, .no, .no, .no, .no, .no, .no, .no, .no, .no, .no, .no, .no, .no, .no, .no, .sl 3 (.int .i64) 8, .arr 8 3 (.int .i64)]
theorem tok3 : TOK Try.prog 3 (.int .i64) := tok_mk Try.type3 Try.underlying3 (by kernel_rfl) (by kernel_rfl) (by kernel_rfl) (.inr (by kernel_rfl))
theorem tok22 : TOK Try.prog 22 (.sl (.int .i64)) := tok_mk Try.type22 Try.underlying22 (by kernel_rfl) (by kernel_rfl) (by kernel_rfl) (.inr (by kernel_rfl))
theorem tok23 : TOK Try.prog 23 (.arr 8 (.int .i64)) := tok_mk Try.type23 Try.underlying23 (by kernel_rfl) (by kernel_rfl) (by kernel_rfl) (.inr (by kernel_rfl))
theorem tys_ok : TysOK Try.prog 0 tys := ⟨trivial, trivial, trivial, tyok_int tok3 Try.underlying3, trivial, trivial, trivial, trivial, trivial, trivial, trivial, trivial, trivial, trivial, trivial, trivial, trivial, trivial, trivial, trivial, trivial, trivial, tyok_sl tok22 Try.underlying22 tok3 (by kernel_rfl) (by kernel_rfl) (by kernel_rfl) Try.type3 (by kernel_rfl) Try.type22 (by kernel_rfl), tyok_arr tok23 Try.underlying23 tok3 (by kernel_rfl), trivial⟩
def eqs : List (Nat × Cd) := [(23, (.arr 8 (.int .i64)))]
theorem eqs_ok : EqsOK Try.prog eqs := ⟨⟨by kernel_rfl, (eqs_arr Try.underlying23 tok3 (eqs_int Try.underlying3)), by kernel_rfl, Nat.le_of_ble_eq_true (by kernel_rfl)⟩, trivial⟩
theorem mixed : Try.prog.follows .mixedOrders = true := by kernel_rfl

def window_within_e : Ent := entOf [.tm (.sl (.int .i64)), .tm (.int .i64), .tm (.int .i64)] fun (v : (List Int) × Int × Int × Unit) n K => window_within v.1 v.2.1 v.2.2.1 (fun (r0 : Bool) => K (.t true .bool r0) [])
def window_within_f : List (Nat × Ent) := []
def window_within_C : Cfg := mkCE tys eqs window_within_f
def window_within_b : Code := match Try.f43.body with | some c => c | none => .skip
def window_within_y0 : Lay := ⟨36, [(2, .tm true (.int .i64)), (20, .tm false (.sl (.int .i64))), (21, .tm true (.int .i64)), (22, .tm true (.int .i64))], []⟩
def window_within_y1 : Lay := ⟨36, [(6, .tm true .bool)], []⟩
def window_within_y2 : Lay := ⟨36, [], []⟩
def window_within_l5_F (k : Nat) (v : (Int × (List Int) × Int × Int × Unit) × (Unit)) (K : KK) : Prop := window_within_l5 k v.1.1 v.1.2.1 v.1.2.2.1 v.1.2.2.2.1 (fun (y0 : Bool) => K .ret (st window_within_y1 ((y0, ()), (())))) (K (.exit 0) (st window_within_y2 ((()), (()))))
def window_within_l5_c : Cut := ⟨window_within_y0, fun o => match o with | .ret => some window_within_y1 | .exit 0 => some window_within_y2 | _ => none, fun (v : (Int × (List Int) × Int × Int × Unit) × (Unit)) K => ∃ k, window_within_l5_F k v K⟩
def window_within_y3 : Lay := ⟨36, [(0, .tm false (.sl (.int .i64))), (2, .tm true (.int .i64))], []⟩
def window_within_j4_c : Cut := ⟨window_within_y3, fun o => match o with | .ret => some window_within_y1 | _ => none, fun (v : ((List Int) × Int × Unit) × (Unit)) (K : KK) => window_within_j4 v.1.1 v.1.2.1 (fun (y0 : Bool) => K .ret (st window_within_y1 ((y0, ()), (()))))⟩
def window_within_L : Cuts := mkL [(5, window_within_l5_c)] [(4, window_within_j4_c)]
theorem window_within_lo : LoopsOK window_within_C window_within_L window_within_b :=
  (show LoopsOK window_within_C window_within_L window_within_b = ((LoopOK window_within_C window_within_L window_within_l5_c (nthB (loopsOf window_within_b) 0) ∧ True) ∧ True) by kernel_rfl).mpr ⟨⟨⟨window_within_l5_F, fun v K => by kernel_rfl, fun v K => by kernel_rfl, fun k v K => by kernel_rfl⟩, trivial⟩, trivial⟩
theorem window_within_jo : JoinsOK window_within_C window_within_L window_within_b :=
  (show JoinsOK window_within_C window_within_L window_within_b = ((JoinOK window_within_C window_within_L window_within_j4_c (nthB (joinsOf window_within_L window_within_b) 0) ∧ True) ∧ True) by kernel_rfl).mpr ⟨⟨fun v K => by kernel_rfl, trivial⟩, trivial⟩
theorem window_within_ok : EntOK Try.prog 43 window_within_e :=
  entOf_ok (e := evFn window_within_C window_within_L Try.f43) (fun v n K => Eq.trans (window_within_def v.1 v.2.1 v.2.2.1 (fun (r0 : Bool) => K (.t true .bool r0) [])) (by kernel_rfl)) (evFn_ok (mkCE_all (fns := window_within_f) tys_ok eqs_ok trivial mixed) Try.func43 (show Try.f43.body = some window_within_b by kernel_rfl) ⟨window_within_lo, window_within_jo, by kernel_rfl⟩)

def window_Slope_e : Ent := entOf [] fun (v : Unit) n K => window_Slope (fun (r0 : (List Int)) => K (.t true (.arr 8 (.int .i64)) r0) [])
def window_Slope_f : List (Nat × Ent) := []
def window_Slope_C : Cfg := mkCE tys eqs window_Slope_f
def window_Slope_b : Code := match Try.f42.body with | some c => c | none => .skip
def window_Slope_L : Cuts := mkL [] []
theorem window_Slope_lo : LoopsOK window_Slope_C window_Slope_L window_Slope_b := (show LoopsOK window_Slope_C window_Slope_L window_Slope_b = True by kernel_rfl).mpr trivial
theorem window_Slope_jo : JoinsOK window_Slope_C window_Slope_L window_Slope_b := (show JoinsOK window_Slope_C window_Slope_L window_Slope_b = True by kernel_rfl).mpr trivial
theorem window_Slope_ok : EntOK Try.prog 42 window_Slope_e :=
  entOf_ok (e := evFn window_Slope_C window_Slope_L Try.f42) (fun v n K => Eq.trans (window_Slope_def (fun (r0 : (List Int)) => K (.t true (.arr 8 (.int .i64)) r0) [])) (by kernel_rfl)) (evFn_ok (mkCE_all (fns := window_Slope_f) tys_ok eqs_ok trivial mixed) Try.func42 (show Try.f42.body = some window_Slope_b by kernel_rfl) ⟨window_Slope_lo, window_Slope_jo, by kernel_rfl⟩)

def num_within_e : Ent := entOf [.tm (.int .i64), .tm (.sl (.int .i64))] fun (v : Int × (List Int) × Unit) n K => num_within v.1 v.2.1 (fun (r0 : Bool) => K (.t true .bool r0) [])
def num_within_f : List (Nat × Ent) := []
def num_within_C : Cfg := mkCE tys eqs num_within_f
def num_within_b : Code := match Try.f58.body with | some c => c | none => .skip
def num_within_y0 : Lay := ⟨23, [(0, .tm true (.int .i64)), (7, .tm false (.sl (.int .i64))), (8, .tm true (.int .i64)), (9, .tm true (.int .i64))], []⟩
def num_within_y1 : Lay := ⟨23, [(4, .tm true .bool)], []⟩
def num_within_y2 : Lay := ⟨23, [], []⟩
def num_within_l2_F (k : Nat) (v : (Int × (List Int) × Int × Int × Unit) × (Unit)) (K : KK) : Prop := num_within_l2 k v.1.1 v.1.2.1 v.1.2.2.1 v.1.2.2.2.1 (fun (y0 : Bool) => K .ret (st num_within_y1 ((y0, ()), (())))) (K (.exit 0) (st num_within_y2 ((()), (()))))
def num_within_l2_c : Cut := ⟨num_within_y0, fun o => match o with | .ret => some num_within_y1 | .exit 0 => some num_within_y2 | _ => none, fun (v : (Int × (List Int) × Int × Int × Unit) × (Unit)) K => ∃ k, num_within_l2_F k v K⟩
def num_within_L : Cuts := mkL [(2, num_within_l2_c)] []
theorem num_within_lo : LoopsOK num_within_C num_within_L num_within_b :=
  (show LoopsOK num_within_C num_within_L num_within_b = ((LoopOK num_within_C num_within_L num_within_l2_c (nthB (loopsOf num_within_b) 0) ∧ True) ∧ True) by kernel_rfl).mpr ⟨⟨⟨num_within_l2_F, fun v K => by kernel_rfl, fun v K => by kernel_rfl, fun k v K => by kernel_rfl⟩, trivial⟩, trivial⟩
theorem num_within_jo : JoinsOK num_within_C num_within_L num_within_b := (show JoinsOK num_within_C num_within_L num_within_b = True by kernel_rfl).mpr trivial
theorem num_within_ok : EntOK Try.prog 58 num_within_e :=
  entOf_ok (e := evFn num_within_C num_within_L Try.f58) (fun v n K => Eq.trans (num_within_def v.1 v.2.1 (fun (r0 : Bool) => K (.t true .bool r0) [])) (by kernel_rfl)) (evFn_ok (mkCE_all (fns := num_within_f) tys_ok eqs_ok trivial mixed) Try.func58 (show Try.f58.body = some num_within_b by kernel_rfl) ⟨num_within_lo, num_within_jo, by kernel_rfl⟩)

def num_Shr_e : Ent := entOf [.tm (.int .i64), .tm (.int .i64)] fun (v : Int × Int × Unit) n K => num_Shr v.1 v.2.1 (fun (r0 : Int) => K (.t true (.int .i64) r0) [])
def num_Shr_f : List (Nat × Ent) := [(58, num_within_e)]
def num_Shr_C : Cfg := mkCE tys eqs num_Shr_f
def num_Shr_b : Code := match Try.f46.body with | some c => c | none => .skip
def num_Shr_y0 : Lay := ⟨29, [(0, .tm true (.int .i64)), (1, .tm true (.int .i64)), (5, .tm true .bool)], []⟩
def num_Shr_y1 : Lay := ⟨29, [(4, .tm true (.int .i64))], []⟩
def num_Shr_y2 : Lay := ⟨29, [(0, .tm true (.int .i64)), (1, .tm true (.int .i64))], []⟩
def num_Shr_j2_c : Cut := ⟨num_Shr_y0, fun o => match o with | .ret => some num_Shr_y1 | .nrm => some num_Shr_y2 | _ => none, fun (v : (Int × Int × Bool × Unit) × (Unit)) (K : KK) => num_Shr_j2 v.1.1 v.1.2.1 v.1.2.2.1 (fun (y0 : Int) => K .ret (st num_Shr_y1 ((y0, ()), (())))) (fun (y0 : Int) (y1 : Int) => K .nrm (st num_Shr_y2 ((y0, y1, ()), (()))))⟩
def num_Shr_j5_c : Cut := ⟨num_Shr_y2, fun o => match o with | .ret => some num_Shr_y1 | _ => none, fun (v : (Int × Int × Unit) × (Unit)) (K : KK) => num_Shr_j5 v.1.1 v.1.2.1 (fun (y0 : Int) => K .ret (st num_Shr_y1 ((y0, ()), (()))))⟩
def num_Shr_L : Cuts := mkL [] [(2, num_Shr_j2_c), (5, num_Shr_j5_c)]
theorem num_Shr_lo : LoopsOK num_Shr_C num_Shr_L num_Shr_b := (show LoopsOK num_Shr_C num_Shr_L num_Shr_b = True by kernel_rfl).mpr trivial
theorem num_Shr_jo : JoinsOK num_Shr_C num_Shr_L num_Shr_b :=
  (show JoinsOK num_Shr_C num_Shr_L num_Shr_b = ((JoinOK num_Shr_C num_Shr_L num_Shr_j5_c (nthB (joinsOf num_Shr_L num_Shr_b) 0) ∧ True) ∧ (JoinOK num_Shr_C num_Shr_L num_Shr_j2_c (nthB (joinsOf num_Shr_L num_Shr_b) 1) ∧ True) ∧ True) by kernel_rfl).mpr ⟨⟨fun v K => by kernel_rfl, trivial⟩, ⟨fun v K => by kernel_rfl, trivial⟩, trivial⟩
theorem num_Shr_ok : EntOK Try.prog 46 num_Shr_e :=
  entOf_ok (e := evFn num_Shr_C num_Shr_L Try.f46) (fun v n K => Eq.trans (num_Shr_def v.1 v.2.1 (fun (r0 : Int) => K (.t true (.int .i64) r0) [])) (by kernel_rfl)) (evFn_ok (mkCE_all (fns := num_Shr_f) tys_ok eqs_ok ⟨⟨num_within_ok, Try.call58⟩, trivial⟩ mixed) Try.func46 (show Try.f46.body = some num_Shr_b by kernel_rfl) ⟨num_Shr_lo, num_Shr_jo, by kernel_rfl⟩)

end
end Go.Eng.A
