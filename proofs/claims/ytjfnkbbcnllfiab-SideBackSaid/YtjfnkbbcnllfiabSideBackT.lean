/- Each of these functions is what the program computes: printed by program. -/
import Derived.Test.YtjfnkbbcnllfiabEngT
import Derived.Test.YtjfnkbbcnllfiabSideBackP
import Derived.Test.YtjfnkbbcnllfiabProg
import Derived.Test.YtjfnkbbcnllfiabSideBackTc
set_option linter.unusedVariables false
set_option maxRecDepth 100000
namespace Go.Eng.A
open Go Go.Eng Go.Proofs
noncomputable section

def L19_SideBack_e : Ent := entOf [.tm (.sl (.int .i64)), .tm (.sl (.int .i64))] fun (v : (List Int) × (List Int) × Unit) n K => L19_SideBack v.1 v.2.1 (fun (r0 : Bool) => K (.t true .bool r0) [])
def L19_SideBack_f : List (Nat × Ent) := [(12, R01_Within_e), (15, L19_awake_e), (16, side_Merge_e), (18, side_Split_e), (13, R01_Same_e), (22, R01_Abs_e)]
def L19_SideBack_C : Cfg := mkC tys L19_SideBack_f
def L19_SideBack_b : Code := match Try.f5.body with | some c => c | none => .skip
def L19_SideBack_y0 : Lay := ⟨114, [(0, .tm false (.sl (.int .i64))), (1, .tm false (.sl (.int .i64))), (33, .tm true .bool)], []⟩
def L19_SideBack_y1 : Lay := ⟨114, [(4, .tm true .bool)], []⟩
def L19_SideBack_y2 : Lay := ⟨114, [(0, .tm false (.sl (.int .i64))), (1, .tm false (.sl (.int .i64)))], []⟩
def L19_SideBack_j2_c : Cut := ⟨L19_SideBack_y0, fun o => match o with | .ret => some L19_SideBack_y1 | .nrm => some L19_SideBack_y2 | _ => none, fun (v : ((List Int) × (List Int) × Bool × Unit) × (Unit)) (K : KK) => L19_SideBack_j2 v.1.1 v.1.2.1 v.1.2.2.1 (fun (y0 : Bool) => K .ret (st L19_SideBack_y1 ((y0, ()), (())))) (fun (y0 : (List Int)) (y1 : (List Int)) => K .nrm (st L19_SideBack_y2 ((y0, y1, ()), (()))))⟩
def L19_SideBack_y3 : Lay := ⟨114, [(0, .tm false (.sl (.int .i64))), (1, .tm false (.sl (.int .i64))), (11, .fx (.os 0)), (12, .fx (.os 1)), (13, .tm true (.int .i64))], [.val true true 3 (.row (.int .i64)), .val true true 3 (.row (.int .i64))]⟩
def L19_SideBack_y4 : Lay := ⟨114, [], []⟩
def L19_SideBack_l10_F (k : Nat) (v : ((List Int) × (List Int) × Int × Unit) × ((List Int) × (List Int) × Unit)) (K : KK) : Prop := L19_SideBack_l10 k v.1.1 v.1.2.1 v.1.2.2.1 v.2.1 v.2.2.1 (fun (y0 : Bool) => K .ret (st L19_SideBack_y1 ((y0, ()), (())))) (K (.exit 0) (st L19_SideBack_y4 ((()), (()))))
def L19_SideBack_l10_c : Cut := ⟨L19_SideBack_y3, fun o => match o with | .ret => some L19_SideBack_y1 | .exit 0 => some L19_SideBack_y4 | _ => none, fun (v : ((List Int) × (List Int) × Int × Unit) × ((List Int) × (List Int) × Unit)) K => ∃ k, L19_SideBack_l10_F k v K⟩
def L19_SideBack_y5 : Lay := ⟨114, [(0, .tm false (.sl (.int .i64))), (1, .tm false (.sl (.int .i64))), (7, .fx (.os 0)), (8, .fx (.os 1)), (11, .fx (.os 2)), (12, .fx (.os 3))], [.val true true 3 (.row (.int .i64)), .val true true 3 (.row (.int .i64)), .val true true 3 (.row (.int .i64)), .val true true 3 (.row (.int .i64))]⟩
def L19_SideBack_j7_c : Cut := ⟨L19_SideBack_y5, fun o => match o with | .ret => some L19_SideBack_y1 | _ => none, fun (v : ((List Int) × (List Int) × Unit) × ((List Int) × (List Int) × (List Int) × (List Int) × Unit)) (K : KK) => L19_SideBack_j7 v.1.1 v.1.2.1 v.2.1 v.2.2.1 v.2.2.2.1 v.2.2.2.2.1 (fun (y0 : Bool) => K .ret (st L19_SideBack_y1 ((y0, ()), (()))))⟩
def L19_SideBack_y6 : Lay := ⟨114, [(0, .tm false (.sl (.int .i64))), (1, .tm false (.sl (.int .i64))), (7, .fx (.os 0)), (8, .fx (.os 1)), (9, .fx (.os 2)), (10, .fx (.os 3))], [.val true true 3 (.row (.int .i64)), .val true true 3 (.row (.int .i64)), .val true true 3 (.row (.int .i64)), .val true true 3 (.row (.int .i64))]⟩
def L19_SideBack_j6_c : Cut := ⟨L19_SideBack_y6, fun o => match o with | .ret => some L19_SideBack_y1 | _ => none, fun (v : ((List Int) × (List Int) × Unit) × ((List Int) × (List Int) × (List Int) × (List Int) × Unit)) (K : KK) => L19_SideBack_j6 v.1.1 v.1.2.1 v.2.1 v.2.2.1 v.2.2.2.1 v.2.2.2.2.1 (fun (y0 : Bool) => K .ret (st L19_SideBack_y1 ((y0, ()), (()))))⟩
def L19_SideBack_y7 : Lay := ⟨114, [(0, .tm false (.sl (.int .i64))), (1, .tm false (.sl (.int .i64))), (7, .fx (.os 0)), (8, .fx (.os 1))], [.val true true 3 (.row (.int .i64)), .val true true 3 (.row (.int .i64))]⟩
def L19_SideBack_j5_c : Cut := ⟨L19_SideBack_y7, fun o => match o with | .ret => some L19_SideBack_y1 | _ => none, fun (v : ((List Int) × (List Int) × Unit) × ((List Int) × (List Int) × Unit)) (K : KK) => L19_SideBack_j5 v.1.1 v.1.2.1 v.2.1 v.2.2.1 (fun (y0 : Bool) => K .ret (st L19_SideBack_y1 ((y0, ()), (()))))⟩
def L19_SideBack_y8 : Lay := ⟨114, [(0, .tm false (.sl (.int .i64))), (1, .tm false (.sl (.int .i64))), (5, .fx (.os 0)), (6, .fx (.os 1))], [.val true true 3 (.row (.int .i64)), .val true true 3 (.row (.int .i64))]⟩
def L19_SideBack_j4_c : Cut := ⟨L19_SideBack_y8, fun o => match o with | .ret => some L19_SideBack_y1 | _ => none, fun (v : ((List Int) × (List Int) × Unit) × ((List Int) × (List Int) × Unit)) (K : KK) => L19_SideBack_j4 v.1.1 v.1.2.1 v.2.1 v.2.2.1 (fun (y0 : Bool) => K .ret (st L19_SideBack_y1 ((y0, ()), (()))))⟩
def L19_SideBack_j3_c : Cut := ⟨L19_SideBack_y2, fun o => match o with | .ret => some L19_SideBack_y1 | _ => none, fun (v : ((List Int) × (List Int) × Unit) × (Unit)) (K : KK) => L19_SideBack_j3 v.1.1 v.1.2.1 (fun (y0 : Bool) => K .ret (st L19_SideBack_y1 ((y0, ()), (()))))⟩
def L19_SideBack_L : Cuts := mkL [(10, L19_SideBack_l10_c)] [(2, L19_SideBack_j2_c), (7, L19_SideBack_j7_c), (6, L19_SideBack_j6_c), (5, L19_SideBack_j5_c), (4, L19_SideBack_j4_c), (3, L19_SideBack_j3_c)]
theorem L19_SideBack_lo : LoopsOK L19_SideBack_C L19_SideBack_L L19_SideBack_b :=
  (show LoopsOK L19_SideBack_C L19_SideBack_L L19_SideBack_b = ((LoopOK L19_SideBack_C L19_SideBack_L L19_SideBack_l10_c (nthB (loopsOf L19_SideBack_b) 0) ∧ True) ∧ True) by kernel_rfl).mpr ⟨⟨⟨L19_SideBack_l10_F, fun v K => by kernel_rfl, fun v K => by kernel_rfl, fun k v K => by kernel_rfl⟩, trivial⟩, trivial⟩
theorem L19_SideBack_jo : JoinsOK L19_SideBack_C L19_SideBack_L L19_SideBack_b :=
  (show JoinsOK L19_SideBack_C L19_SideBack_L L19_SideBack_b = ((JoinOK L19_SideBack_C L19_SideBack_L L19_SideBack_j3_c (nthB (joinsOf L19_SideBack_L L19_SideBack_b) 0) ∧ True) ∧ (JoinOK L19_SideBack_C L19_SideBack_L L19_SideBack_j2_c (nthB (joinsOf L19_SideBack_L L19_SideBack_b) 1) ∧ True) ∧ (JoinOK L19_SideBack_C L19_SideBack_L L19_SideBack_j4_c (nthB (joinsOf L19_SideBack_L L19_SideBack_b) 2) ∧ True) ∧ (JoinOK L19_SideBack_C L19_SideBack_L L19_SideBack_j5_c (nthB (joinsOf L19_SideBack_L L19_SideBack_b) 3) ∧ True) ∧ (JoinOK L19_SideBack_C L19_SideBack_L L19_SideBack_j6_c (nthB (joinsOf L19_SideBack_L L19_SideBack_b) 4) ∧ True) ∧ (JoinOK L19_SideBack_C L19_SideBack_L L19_SideBack_j7_c (nthB (joinsOf L19_SideBack_L L19_SideBack_b) 5) ∧ True) ∧ True) by kernel_rfl).mpr ⟨⟨fun v K => by kernel_rfl, trivial⟩, ⟨fun v K => by kernel_rfl, trivial⟩, ⟨fun v K => by kernel_rfl, trivial⟩, ⟨fun v K => by kernel_rfl, trivial⟩, ⟨fun v K => by kernel_rfl, trivial⟩, ⟨fun v K => by kernel_rfl, trivial⟩, trivial⟩
theorem L19_SideBack_ok : EntOK Try.prog 5 L19_SideBack_e :=
  entOf_ok (e := evFn L19_SideBack_C L19_SideBack_L Try.f5) (fun v n K => Eq.trans (L19_SideBack_def v.1 v.2.1 (fun (r0 : Bool) => K (.t true .bool r0) [])) (by kernel_rfl)) (evFn_ok (mkC_all (fns := L19_SideBack_f) tys_ok ⟨⟨R01_Within_ok, Try.call12⟩, ⟨L19_awake_ok, Try.call15⟩, ⟨side_Merge_ok, Try.call16⟩, ⟨side_Split_ok, Try.call18⟩, ⟨R01_Same_ok, Try.call13⟩, ⟨R01_Abs_ok, Try.call22⟩, trivial⟩ mixed) Try.func5 (show Try.f5.body = some L19_SideBack_b by kernel_rfl) ⟨L19_SideBack_lo, L19_SideBack_jo, by kernel_rfl⟩)

end
end Go.Eng.A
