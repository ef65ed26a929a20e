/- Each of these functions is what the program computes: printed by program. -/
import Derived.Test.YtniabjhjpkkllaaEngT
import Derived.Test.YtniabjhjpkkllaaShapeTellsP
import Derived.Test.YtniabjhjpkkllaaProg
import Derived.Test.YtniabjhjpkkllaaShapeTellsTf
set_option linter.unusedVariables false
set_option maxRecDepth 100000
namespace Go.Eng.A
open Go Go.Eng Go.Proofs
noncomputable section

def L17_ShapeTells_e : Ent := entOf [.tm (.sl (.int .i64)), .tm (.int .i64), .tm (.int .i64), .tm (.sl (.int .i64))] fun (v : (List Int) × Int × Int × (List Int) × Unit) n K => L17_ShapeTells v.1 v.2.1 v.2.2.1 v.2.2.2.1 (fun (r0 : Bool) => K (.t true .bool r0) [])
def L17_ShapeTells_f : List (Nat × Ent) := [(22, L17_awake_e), (23, shape_Values_e), (24, R17_Values_e), (25, shape_Level_e), (26, R17_Level_e), (19, R01_Same_e), (27, shape_Power_e), (28, R17_Power_e)]
def L17_ShapeTells_C : Cfg := mkC tys L17_ShapeTells_f
def L17_ShapeTells_b : Code := match Try.f7.body with | some c => c | none => .skip
def L17_ShapeTells_y0 : Lay := ⟨78, [(0, .tm false (.sl (.int .i64))), (1, .tm true (.int .i64)), (2, .tm true (.int .i64)), (3, .tm false (.sl (.int .i64))), (24, .tm true .bool)], []⟩
def L17_ShapeTells_y1 : Lay := ⟨78, [(8, .tm true .bool)], []⟩
def L17_ShapeTells_y2 : Lay := ⟨78, [(0, .tm false (.sl (.int .i64))), (1, .tm true (.int .i64)), (2, .tm true (.int .i64)), (3, .tm false (.sl (.int .i64)))], []⟩
def L17_ShapeTells_j2_c : Cut := ⟨L17_ShapeTells_y0, fun o => match o with | .ret => some L17_ShapeTells_y1 | .nrm => some L17_ShapeTells_y2 | _ => none, fun (v : ((List Int) × Int × Int × (List Int) × Bool × Unit) × (Unit)) (K : KK) => L17_ShapeTells_j2 v.1.1 v.1.2.1 v.1.2.2.1 v.1.2.2.2.1 v.1.2.2.2.2.1 (fun (y0 : Bool) => K .ret (st L17_ShapeTells_y1 ((y0, ()), (())))) (fun (y0 : (List Int)) (y1 : Int) (y2 : Int) (y3 : (List Int)) => K .nrm (st L17_ShapeTells_y2 ((y0, y1, y2, y3, ()), (()))))⟩
def L17_ShapeTells_y3 : Lay := ⟨78, [(3, .tm false (.sl (.int .i64))), (9, .fx (.os 0)), (10, .tm true .bool), (11, .fx (.os 1)), (12, .tm true .bool)], [.val true true 3 (.row (.int .i64)), .val true true 3 (.row (.int .i64))]⟩
def L17_ShapeTells_j5_c : Cut := ⟨L17_ShapeTells_y3, fun o => match o with | .ret => some L17_ShapeTells_y1 | _ => none, fun (v : ((List Int) × Bool × Bool × Unit) × ((List Int) × (List Int) × Unit)) (K : KK) => L17_ShapeTells_j5 v.1.1 v.1.2.1 v.1.2.2.1 v.2.1 v.2.2.1 (fun (y0 : Bool) => K .ret (st L17_ShapeTells_y1 ((y0, ()), (()))))⟩
def L17_ShapeTells_y4 : Lay := ⟨78, [(0, .tm false (.sl (.int .i64))), (1, .tm true (.int .i64)), (2, .tm true (.int .i64)), (3, .tm false (.sl (.int .i64))), (9, .fx (.os 0)), (10, .tm true .bool)], [.val true true 3 (.row (.int .i64))]⟩
def L17_ShapeTells_j4_c : Cut := ⟨L17_ShapeTells_y4, fun o => match o with | .ret => some L17_ShapeTells_y1 | _ => none, fun (v : ((List Int) × Int × Int × (List Int) × Bool × Unit) × ((List Int) × Unit)) (K : KK) => L17_ShapeTells_j4 v.1.1 v.1.2.1 v.1.2.2.1 v.1.2.2.2.1 v.1.2.2.2.2.1 v.2.1 (fun (y0 : Bool) => K .ret (st L17_ShapeTells_y1 ((y0, ()), (()))))⟩
def L17_ShapeTells_j3_c : Cut := ⟨L17_ShapeTells_y2, fun o => match o with | .ret => some L17_ShapeTells_y1 | _ => none, fun (v : ((List Int) × Int × Int × (List Int) × Unit) × (Unit)) (K : KK) => L17_ShapeTells_j3 v.1.1 v.1.2.1 v.1.2.2.1 v.1.2.2.2.1 (fun (y0 : Bool) => K .ret (st L17_ShapeTells_y1 ((y0, ()), (()))))⟩
def L17_ShapeTells_L : Cuts := mkL [] [(2, L17_ShapeTells_j2_c), (5, L17_ShapeTells_j5_c), (4, L17_ShapeTells_j4_c), (3, L17_ShapeTells_j3_c)]
theorem L17_ShapeTells_lo : LoopsOK L17_ShapeTells_C L17_ShapeTells_L L17_ShapeTells_b := (show LoopsOK L17_ShapeTells_C L17_ShapeTells_L L17_ShapeTells_b = True by kernel_rfl).mpr trivial
theorem L17_ShapeTells_jo : JoinsOK L17_ShapeTells_C L17_ShapeTells_L L17_ShapeTells_b :=
  (show JoinsOK L17_ShapeTells_C L17_ShapeTells_L L17_ShapeTells_b = ((JoinOK L17_ShapeTells_C L17_ShapeTells_L L17_ShapeTells_j3_c (nthB (joinsOf L17_ShapeTells_L L17_ShapeTells_b) 0) ∧ True) ∧ (JoinOK L17_ShapeTells_C L17_ShapeTells_L L17_ShapeTells_j2_c (nthB (joinsOf L17_ShapeTells_L L17_ShapeTells_b) 1) ∧ True) ∧ (JoinOK L17_ShapeTells_C L17_ShapeTells_L L17_ShapeTells_j4_c (nthB (joinsOf L17_ShapeTells_L L17_ShapeTells_b) 2) ∧ True) ∧ (JoinOK L17_ShapeTells_C L17_ShapeTells_L L17_ShapeTells_j5_c (nthB (joinsOf L17_ShapeTells_L L17_ShapeTells_b) 3) ∧ True) ∧ True) by kernel_rfl).mpr ⟨⟨fun v K => by kernel_rfl, trivial⟩, ⟨fun v K => by kernel_rfl, trivial⟩, ⟨fun v K => by kernel_rfl, trivial⟩, ⟨fun v K => by kernel_rfl, trivial⟩, trivial⟩
theorem L17_ShapeTells_ok : EntOK Try.prog 7 L17_ShapeTells_e :=
  entOf_ok (e := evFn L17_ShapeTells_C L17_ShapeTells_L Try.f7) (fun v n K => Eq.trans (L17_ShapeTells_def v.1 v.2.1 v.2.2.1 v.2.2.2.1 (fun (r0 : Bool) => K (.t true .bool r0) [])) (by kernel_rfl)) (evFn_ok (mkC_all (fns := L17_ShapeTells_f) tys_ok ⟨⟨L17_awake_ok, Try.call22⟩, ⟨shape_Values_ok, Try.call23⟩, ⟨R17_Values_ok, Try.call24⟩, ⟨shape_Level_ok, Try.call25⟩, ⟨R17_Level_ok, Try.call26⟩, ⟨R01_Same_ok, Try.call19⟩, ⟨shape_Power_ok, Try.call27⟩, ⟨R17_Power_ok, Try.call28⟩, trivial⟩ mixed) Try.func7 (show Try.f7.body = some L17_ShapeTells_b by kernel_rfl) ⟨L17_ShapeTells_lo, L17_ShapeTells_jo, by kernel_rfl⟩)

end
end Go.Eng.A
