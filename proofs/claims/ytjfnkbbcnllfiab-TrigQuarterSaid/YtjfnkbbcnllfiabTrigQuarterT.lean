/- Each of these functions is what the program computes: printed by program. -/
import Derived.Test.YtjfnkbbcnllfiabEngT
import Derived.Test.YtjfnkbbcnllfiabTrigQuarterP
import Derived.Test.YtjfnkbbcnllfiabProg
import Derived.Test.YtjfnkbbcnllfiabTrigQuarterTc
set_option linter.unusedVariables false
set_option maxRecDepth 100000
namespace Go.Eng.A
open Go Go.Eng Go.Proofs
noncomputable section

def L07_TrigQuarter_e : Ent := entOf [.tm (.int .i64), .tm (.int .i64), .tm (.int .i64)] fun (v : Int × Int × Int × Unit) n K => L07_TrigQuarter v.1 v.2.1 v.2.2.1 (fun (r0 : Bool) => K (.t true .bool r0) [])
def L07_TrigQuarter_f : List (Nat × Ent) := [(30, L07_awake_e), (23, trig_Make_e), (24, trig_Table__Turn_e)]
def L07_TrigQuarter_C : Cfg := mkC tys L07_TrigQuarter_f
def L07_TrigQuarter_b : Code := match Try.f8.body with | some c => c | none => .skip
def L07_TrigQuarter_y0 : Lay := ⟨137, [(0, .tm true (.int .i64)), (1, .tm true (.int .i64)), (2, .tm true (.int .i64)), (37, .tm true .bool)], []⟩
def L07_TrigQuarter_y1 : Lay := ⟨137, [(6, .tm true .bool)], []⟩
def L07_TrigQuarter_y2 : Lay := ⟨137, [(0, .tm true (.int .i64)), (1, .tm true (.int .i64)), (2, .tm true (.int .i64))], []⟩
def L07_TrigQuarter_j2_c : Cut := ⟨L07_TrigQuarter_y0, fun o => match o with | .ret => some L07_TrigQuarter_y1 | .nrm => some L07_TrigQuarter_y2 | _ => none, fun (v : (Int × Int × Int × Bool × Unit) × (Unit)) (K : KK) => L07_TrigQuarter_j2 v.1.1 v.1.2.1 v.1.2.2.1 v.1.2.2.2.1 (fun (y0 : Bool) => K .ret (st L07_TrigQuarter_y1 ((y0, ()), (())))) (fun (y0 : Int) (y1 : Int) (y2 : Int) => K .nrm (st L07_TrigQuarter_y2 ((y0, y1, y2, ()), (()))))⟩
def L07_TrigQuarter_y3 : Lay := ⟨137, [(0, .tm true (.int .i64)), (1, .tm true (.int .i64)), (2, .tm true (.int .i64)), (7, .fx (.op 0 (.arr 512 (.int .i64)) [])), (8, .tm true (.int .i64)), (9, .tm true (.int .i64)), (10, .tm true (.int .i64))], [.val true true 49 (.arr 512 (.int .i64))]⟩
def L07_TrigQuarter_y4 : Lay := ⟨137, [(0, .tm true (.int .i64)), (1, .tm true (.int .i64)), (2, .tm true (.int .i64)), (7, .fx (.op 0 (.arr 512 (.int .i64)) [])), (8, .tm true (.int .i64)), (9, .tm true (.int .i64))], [.val true true 49 (.arr 512 (.int .i64))]⟩
def L07_TrigQuarter_l6_F (k : Nat) (v : (Int × Int × Int × Int × Int × Int × Unit) × ((List Int) × Unit)) (K : KK) : Prop := L07_TrigQuarter_l6 k v.1.1 v.1.2.1 v.1.2.2.1 v.1.2.2.2.1 v.1.2.2.2.2.1 v.1.2.2.2.2.2.1 v.2.1 (fun (y0 : Int) (y1 : Int) (y2 : Int) (y3 : Int) (y4 : Int) (y5 : (List Int)) => K (.exit 0) (st L07_TrigQuarter_y4 ((y0, y1, y2, y3, y4, ()), (y5, ()))))
def L07_TrigQuarter_l6_c : Cut := ⟨L07_TrigQuarter_y3, fun o => match o with | .exit 0 => some L07_TrigQuarter_y4 | _ => none, fun (v : (Int × Int × Int × Int × Int × Int × Unit) × ((List Int) × Unit)) K => ∃ k, L07_TrigQuarter_l6_F k v K⟩
def L07_TrigQuarter_j3_c : Cut := ⟨L07_TrigQuarter_y2, fun o => match o with | .ret => some L07_TrigQuarter_y1 | _ => none, fun (v : (Int × Int × Int × Unit) × (Unit)) (K : KK) => L07_TrigQuarter_j3 v.1.1 v.1.2.1 v.1.2.2.1 (fun (y0 : Bool) => K .ret (st L07_TrigQuarter_y1 ((y0, ()), (()))))⟩
def L07_TrigQuarter_L : Cuts := mkL [(6, L07_TrigQuarter_l6_c)] [(2, L07_TrigQuarter_j2_c), (3, L07_TrigQuarter_j3_c)]
theorem L07_TrigQuarter_lo : LoopsOK L07_TrigQuarter_C L07_TrigQuarter_L L07_TrigQuarter_b :=
  (show LoopsOK L07_TrigQuarter_C L07_TrigQuarter_L L07_TrigQuarter_b = ((LoopOK L07_TrigQuarter_C L07_TrigQuarter_L L07_TrigQuarter_l6_c (nthB (loopsOf L07_TrigQuarter_b) 0) ∧ True) ∧ True) by kernel_rfl).mpr ⟨⟨⟨L07_TrigQuarter_l6_F, fun v K => by kernel_rfl, fun v K => by kernel_rfl, fun k v K => by kernel_rfl⟩, trivial⟩, trivial⟩
theorem L07_TrigQuarter_jo : JoinsOK L07_TrigQuarter_C L07_TrigQuarter_L L07_TrigQuarter_b :=
  (show JoinsOK L07_TrigQuarter_C L07_TrigQuarter_L L07_TrigQuarter_b = ((JoinOK L07_TrigQuarter_C L07_TrigQuarter_L L07_TrigQuarter_j3_c (nthB (joinsOf L07_TrigQuarter_L L07_TrigQuarter_b) 0) ∧ True) ∧ (JoinOK L07_TrigQuarter_C L07_TrigQuarter_L L07_TrigQuarter_j2_c (nthB (joinsOf L07_TrigQuarter_L L07_TrigQuarter_b) 1) ∧ True) ∧ True) by kernel_rfl).mpr ⟨⟨fun v K => by kernel_rfl, trivial⟩, ⟨fun v K => by kernel_rfl, trivial⟩, trivial⟩
theorem L07_TrigQuarter_ok : EntOK Try.prog 8 L07_TrigQuarter_e :=
  entOf_ok (e := evFn L07_TrigQuarter_C L07_TrigQuarter_L Try.f8) (fun v n K => Eq.trans (L07_TrigQuarter_def v.1 v.2.1 v.2.2.1 (fun (r0 : Bool) => K (.t true .bool r0) [])) (by kernel_rfl)) (evFn_ok (mkC_all (fns := L07_TrigQuarter_f) tys_ok ⟨⟨L07_awake_ok, Try.call30⟩, ⟨trig_Make_ok, Try.call23⟩, ⟨trig_Table__Turn_ok, Try.call24⟩, trivial⟩ mixed) Try.func8 (show Try.f8.body = some L07_TrigQuarter_b by kernel_rfl) ⟨L07_TrigQuarter_lo, L07_TrigQuarter_jo, by kernel_rfl⟩)

end
end Go.Eng.A
