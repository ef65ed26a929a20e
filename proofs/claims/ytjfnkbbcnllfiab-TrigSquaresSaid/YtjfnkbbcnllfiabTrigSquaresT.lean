/- Each of these functions is what the program computes: printed by program. -/
import Derived.Test.YtjfnkbbcnllfiabEngT
import Derived.Test.YtjfnkbbcnllfiabTrigSquaresP
import Derived.Test.YtjfnkbbcnllfiabProg
import Derived.Test.YtjfnkbbcnllfiabTrigSquaresTb
set_option linter.unusedVariables false
set_option maxRecDepth 100000
namespace Go.Eng.A
open Go Go.Eng Go.Proofs
noncomputable section

def L07_awake_e : Ent := entOf [] fun (v : Unit) n K => L07_awake (fun (r0 : Bool) => K (.t true .bool r0) [])
def L07_awake_f : List (Nat × Ent) := [(23, trig_Make_e), (24, trig_Table__Turn_e), (26, trig_Table__Cos_e), (28, trig_Table__Sin_e)]
def L07_awake_C : Cfg := mkC tys L07_awake_f
def L07_awake_b : Code := match Try.f30.body with | some c => c | none => .skip
def L07_awake_L : Cuts := mkL [] []
theorem L07_awake_lo : LoopsOK L07_awake_C L07_awake_L L07_awake_b := (show LoopsOK L07_awake_C L07_awake_L L07_awake_b = True by kernel_rfl).mpr trivial
theorem L07_awake_jo : JoinsOK L07_awake_C L07_awake_L L07_awake_b := (show JoinsOK L07_awake_C L07_awake_L L07_awake_b = True by kernel_rfl).mpr trivial
theorem L07_awake_ok : EntOK Try.prog 30 L07_awake_e :=
  entOf_ok (e := evFn L07_awake_C L07_awake_L Try.f30) (fun v n K => Eq.trans (L07_awake_def (fun (r0 : Bool) => K (.t true .bool r0) [])) (by kernel_rfl)) (evFn_ok (mkC_all (fns := L07_awake_f) tys_ok ⟨⟨trig_Make_ok, Try.call23⟩, ⟨trig_Table__Turn_ok, Try.call24⟩, ⟨trig_Table__Cos_ok, Try.call26⟩, ⟨trig_Table__Sin_ok, Try.call28⟩, trivial⟩ mixed) Try.func30 (show Try.f30.body = some L07_awake_b by kernel_rfl) ⟨L07_awake_lo, L07_awake_jo, by kernel_rfl⟩)

def L07_TrigSquares_e : Ent := entOf [.tm (.int .i64)] fun (v : Int × Unit) n K => L07_TrigSquares v.1 (fun (r0 : Bool) => K (.t true .bool r0) [])
def L07_TrigSquares_f : List (Nat × Ent) := [(30, L07_awake_e), (23, trig_Make_e), (26, trig_Table__Cos_e), (28, trig_Table__Sin_e)]
def L07_TrigSquares_C : Cfg := mkC tys L07_TrigSquares_f
def L07_TrigSquares_b : Code := match Try.f7.body with | some c => c | none => .skip
def L07_TrigSquares_y0 : Lay := ⟨81, [(0, .tm true (.int .i64)), (12, .tm true .bool)], []⟩
def L07_TrigSquares_y1 : Lay := ⟨81, [(2, .tm true .bool)], []⟩
def L07_TrigSquares_y2 : Lay := ⟨81, [(0, .tm true (.int .i64))], []⟩
def L07_TrigSquares_j2_c : Cut := ⟨L07_TrigSquares_y0, fun o => match o with | .ret => some L07_TrigSquares_y1 | .nrm => some L07_TrigSquares_y2 | _ => none, fun (v : (Int × Bool × Unit) × (Unit)) (K : KK) => L07_TrigSquares_j2 v.1.1 v.1.2.1 (fun (y0 : Bool) => K .ret (st L07_TrigSquares_y1 ((y0, ()), (())))) (fun (y0 : Int) => K .nrm (st L07_TrigSquares_y2 ((y0, ()), (()))))⟩
def L07_TrigSquares_j3_c : Cut := ⟨L07_TrigSquares_y2, fun o => match o with | .ret => some L07_TrigSquares_y1 | _ => none, fun (v : (Int × Unit) × (Unit)) (K : KK) => L07_TrigSquares_j3 v.1.1 (fun (y0 : Bool) => K .ret (st L07_TrigSquares_y1 ((y0, ()), (()))))⟩
def L07_TrigSquares_L : Cuts := mkL [] [(2, L07_TrigSquares_j2_c), (3, L07_TrigSquares_j3_c)]
theorem L07_TrigSquares_lo : LoopsOK L07_TrigSquares_C L07_TrigSquares_L L07_TrigSquares_b := (show LoopsOK L07_TrigSquares_C L07_TrigSquares_L L07_TrigSquares_b = True by kernel_rfl).mpr trivial
theorem L07_TrigSquares_jo : JoinsOK L07_TrigSquares_C L07_TrigSquares_L L07_TrigSquares_b :=
  (show JoinsOK L07_TrigSquares_C L07_TrigSquares_L L07_TrigSquares_b = ((JoinOK L07_TrigSquares_C L07_TrigSquares_L L07_TrigSquares_j3_c (nthB (joinsOf L07_TrigSquares_L L07_TrigSquares_b) 0) ∧ True) ∧ (JoinOK L07_TrigSquares_C L07_TrigSquares_L L07_TrigSquares_j2_c (nthB (joinsOf L07_TrigSquares_L L07_TrigSquares_b) 1) ∧ True) ∧ True) by kernel_rfl).mpr ⟨⟨fun v K => by kernel_rfl, trivial⟩, ⟨fun v K => by kernel_rfl, trivial⟩, trivial⟩
theorem L07_TrigSquares_ok : EntOK Try.prog 7 L07_TrigSquares_e :=
  entOf_ok (e := evFn L07_TrigSquares_C L07_TrigSquares_L Try.f7) (fun v n K => Eq.trans (L07_TrigSquares_def v.1 (fun (r0 : Bool) => K (.t true .bool r0) [])) (by kernel_rfl)) (evFn_ok (mkC_all (fns := L07_TrigSquares_f) tys_ok ⟨⟨L07_awake_ok, Try.call30⟩, ⟨trig_Make_ok, Try.call23⟩, ⟨trig_Table__Cos_ok, Try.call26⟩, ⟨trig_Table__Sin_ok, Try.call28⟩, trivial⟩ mixed) Try.func7 (show Try.f7.body = some L07_TrigSquares_b by kernel_rfl) ⟨L07_TrigSquares_lo, L07_TrigSquares_jo, by kernel_rfl⟩)

end
end Go.Eng.A
