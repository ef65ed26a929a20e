/- Each of these functions is what the program computes: printed by program. -/
import Derived.Test.YtniabjhjpkkllaaEngT
import Derived.Test.YtniabjhjpkkllaaLapNearP
import Derived.Test.YtniabjhjpkkllaaProg
set_option linter.unusedVariables false
set_option maxRecDepth 100000
namespace Go.Eng.A
open Go Go.Eng Go.Proofs
noncomputable section

def tys : List Ty := [.no, .no, .no, .sc (.int .i64), .sc .bool, .no, .no, .no, .no, .no, .no, .no, .no, .no, .no, .no, .no, .no, .no, .no, .no, .no, .sl 3 (.int .i64) 8, .no, .no, .pt 55 (.arr 512 (.int .i64)), .no, .no, .fn, .no, .no, .no, .no, .no, .no, .no, .no, .no, .no, .no, .no, .no, .no, .no, .no, .arr 8 3 (.int .i64), .no, .no, .sl 22 (.sl (.int .i64)) 24, .no, .no, .no, .no, .no, .no, .arr 512 3 (.int .i64), .arr 129 3 (.int .i64), .no, .no, .no, .no, .no, .no, .no, .no, .no, .no, .no, .no, .no, .no, .no, .no, .no, .no, .no, .no, .no, .no, .no, .no, .no, .no, .no, .no, .no, .no, .fn]
theorem tok3 : TOK Try.prog 3 (.int .i64) := tok_mk Try.type3 Try.underlying3 (by kernel_rfl) (by kernel_rfl) (by kernel_rfl) (.inr (by kernel_rfl))
theorem tok4 : TOK Try.prog 4 .bool := tok_mk Try.type4 Try.underlying4 (by kernel_rfl) (by kernel_rfl) (by kernel_rfl) (.inr (by kernel_rfl))
theorem tok22 : TOK Try.prog 22 (.sl (.int .i64)) := tok_mk Try.type22 Try.underlying22 (by kernel_rfl) (by kernel_rfl) (by kernel_rfl) (.inr (by kernel_rfl))
theorem tok45 : TOK Try.prog 45 (.arr 8 (.int .i64)) := tok_mk Try.type45 Try.underlying45 (by kernel_rfl) (by kernel_rfl) (by kernel_rfl) (.inr (by kernel_rfl))
theorem tok48 : TOK Try.prog 48 (.sl (.sl (.int .i64))) := tok_mk Try.type48 Try.underlying48 (by kernel_rfl) (by kernel_rfl) (by kernel_rfl) (.inr (by kernel_rfl))
theorem tok55 : TOK Try.prog 55 (.arr 512 (.int .i64)) := tok_mk Try.type55 Try.underlying55 (by kernel_rfl) (by kernel_rfl) (by kernel_rfl) (.inr (by kernel_rfl))
theorem tok56 : TOK Try.prog 56 (.arr 129 (.int .i64)) := tok_mk Try.type56 Try.underlying56 (by kernel_rfl) (by kernel_rfl) (by kernel_rfl) (.inr (by kernel_rfl))
theorem tys_ok : TysOK Try.prog 0 tys := ⟨trivial, trivial, trivial, tyok_int tok3 Try.underlying3, tyok_bool tok4 Try.underlying4, trivial, trivial, trivial, trivial, trivial, trivial, trivial, trivial, trivial, trivial, trivial, trivial, trivial, trivial, trivial, trivial, trivial, tyok_sl tok22 Try.underlying22 tok3 (by kernel_rfl) (by kernel_rfl) (by kernel_rfl) Try.type3 (by kernel_rfl) Try.type22 (by kernel_rfl), trivial, trivial, tyok_pt Try.underlying25 (by kernel_rfl) Try.type25 (by kernel_rfl), trivial, trivial, tyok_fn Try.underlying28 (by kernel_rfl) Try.type28 (by kernel_rfl), trivial, trivial, trivial, trivial, trivial, trivial, trivial, trivial, trivial, trivial, trivial, trivial, trivial, trivial, trivial, trivial, tyok_arr tok45 Try.underlying45 tok3 (by kernel_rfl), trivial, trivial, tyok_sl tok48 Try.underlying48 tok22 (by kernel_rfl) (by kernel_rfl) (by kernel_rfl) Try.type22 (by kernel_rfl) Try.type48 (by kernel_rfl), trivial, trivial, trivial, trivial, trivial, trivial, tyok_arr tok55 Try.underlying55 tok3 (by kernel_rfl), tyok_arr tok56 Try.underlying56 tok3 (by kernel_rfl), trivial, trivial, trivial, trivial, trivial, trivial, trivial, trivial, trivial, trivial, trivial, trivial, trivial, trivial, trivial, trivial, trivial, trivial, trivial, trivial, trivial, trivial, trivial, trivial, trivial, trivial, trivial, trivial, trivial, trivial, tyok_fn Try.underlying87 (by kernel_rfl) Try.type87 (by kernel_rfl), trivial⟩
def eqs : List (Nat × Cd) := [(45, (.arr 8 (.int .i64)))]
theorem eqs_ok : EqsOK Try.prog eqs := ⟨⟨by kernel_rfl, (eqs_arr Try.underlying45 tok3 (eqs_int Try.underlying3)), by kernel_rfl, Nat.le_of_ble_eq_true (by kernel_rfl)⟩, trivial⟩
theorem mixed : Try.prog.follows .mixedOrders = true := by kernel_rfl

noncomputable def R01_Within_e : Ent := entOf [.tm (.sl (.int .i64)), .tm (.int .i64), .tm (.int .i64)] fun (v : (List Int) × Int × Int × Unit) n K => R01_Within v.1 v.2.1 v.2.2.1 (fun (r0 : Bool) => K (.t true .bool r0) [])
noncomputable def R01_Within_f : List (Nat × Ent) := []
noncomputable def R01_Within_C : Cfg := mkCE tys eqs R01_Within_f
noncomputable def R01_Within_b : Code := match Try.f40.body with | some c => c | none => .skip
def R01_Within_y0 : Lay := ⟨28, [(0, .tm false (.sl (.int .i64))), (1, .tm true (.int .i64)), (2, .tm true (.int .i64)), (7, .tm true (.int .i64))], []⟩
def R01_Within_y1 : Lay := ⟨28, [(6, .tm true .bool)], []⟩
def R01_Within_y2 : Lay := ⟨28, [], []⟩
noncomputable def R01_Within_l2_F (k : Nat) (v : ((List Int) × Int × Int × Int × Unit) × (Unit)) (K : KK) : Prop := R01_Within_l2 k v.1.1 v.1.2.1 v.1.2.2.1 v.1.2.2.2.1 (fun (y0 : Bool) => K .ret (st R01_Within_y1 ((y0, ()), (())))) (K (.exit 0) (st R01_Within_y2 ((()), (()))))
noncomputable def R01_Within_l2_c : Cut := ⟨R01_Within_y0, fun o => match o with | .ret => some R01_Within_y1 | .exit 0 => some R01_Within_y2 | _ => none, fun (v : ((List Int) × Int × Int × Int × Unit) × (Unit)) K => ∃ k, R01_Within_l2_F k v K⟩
noncomputable def R01_Within_L : Cuts := mkL [(2, R01_Within_l2_c)] []
theorem R01_Within_lo : LoopsOK R01_Within_C R01_Within_L R01_Within_b :=
  (show LoopsOK R01_Within_C R01_Within_L R01_Within_b = ((LoopOK R01_Within_C R01_Within_L R01_Within_l2_c (nthB (loopsOf R01_Within_b) 0) ∧ True) ∧ True) by kernel_rfl).mpr ⟨⟨⟨R01_Within_l2_F, fun v K => by kernel_rfl, fun v K => by kernel_rfl, fun k v K => by kernel_rfl⟩, trivial⟩, trivial⟩
theorem R01_Within_jo : JoinsOK R01_Within_C R01_Within_L R01_Within_b := (show JoinsOK R01_Within_C R01_Within_L R01_Within_b = True by kernel_rfl).mpr trivial
theorem R01_Within_ro : RngsOK R01_Within_C R01_Within_L R01_Within_b :=
  (show RngsOK R01_Within_C R01_Within_L R01_Within_b = (True) by kernel_rfl).mpr trivial
theorem R01_Within_ok : EntOK Try.prog 40 R01_Within_e :=
  entOf_ok (e := evFn R01_Within_C R01_Within_L Try.f40) (fun v n K => Eq.trans (R01_Within_def v.1 v.2.1 v.2.2.1 (fun (r0 : Bool) => K (.t true .bool r0) [])) (by kernel_rfl)) (evFn_ok (mkCE_all (fns := R01_Within_f) tys_ok eqs_ok trivial mixed) Try.func40 (show Try.f40.body = some R01_Within_b by kernel_rfl) ⟨R01_Within_lo, R01_Within_jo, by kernel_rfl, R01_Within_ro⟩)

noncomputable def R10_Right_e : Ent := entOf [.tm (.sl (.int .i64)), .tm (.int .i64)] fun (v : (List Int) × Int × Unit) n K => R10_Right v.1 v.2.1 (fun (r0 : Bool) => K (.t true .bool r0) [])
noncomputable def R10_Right_f : List (Nat × Ent) := [(40, R01_Within_e)]
noncomputable def R10_Right_C : Cfg := mkCE tys eqs R10_Right_f
noncomputable def R10_Right_b : Code := match Try.f11.body with | some c => c | none => .skip
noncomputable def R10_Right_L : Cuts := mkL [] []
theorem R10_Right_lo : LoopsOK R10_Right_C R10_Right_L R10_Right_b := (show LoopsOK R10_Right_C R10_Right_L R10_Right_b = True by kernel_rfl).mpr trivial
theorem R10_Right_jo : JoinsOK R10_Right_C R10_Right_L R10_Right_b := (show JoinsOK R10_Right_C R10_Right_L R10_Right_b = True by kernel_rfl).mpr trivial
theorem R10_Right_ro : RngsOK R10_Right_C R10_Right_L R10_Right_b :=
  (show RngsOK R10_Right_C R10_Right_L R10_Right_b = (True) by kernel_rfl).mpr trivial
theorem R10_Right_ok : EntOK Try.prog 11 R10_Right_e :=
  entOf_ok (e := evFn R10_Right_C R10_Right_L Try.f11) (fun v n K => Eq.trans (R10_Right_def v.1 v.2.1 (fun (r0 : Bool) => K (.t true .bool r0) [])) (by kernel_rfl)) (evFn_ok (mkCE_all (fns := R10_Right_f) tys_ok eqs_ok ⟨⟨R01_Within_ok, Try.call40⟩, trivial⟩ mixed) Try.func11 (show Try.f11.body = some R10_Right_b by kernel_rfl) ⟨R10_Right_lo, R10_Right_jo, by kernel_rfl, R10_Right_ro⟩)

end
end Go.Eng.A
