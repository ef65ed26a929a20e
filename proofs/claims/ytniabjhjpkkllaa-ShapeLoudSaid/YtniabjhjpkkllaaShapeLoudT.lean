/- Each of these functions is what the program computes: printed by program. -/
import Derived.Test.YtniabjhjpkkllaaEngT
import Derived.Test.YtniabjhjpkkllaaShapeLoudP
import Derived.Test.YtniabjhjpkkllaaProg
import Derived.Test.YtniabjhjpkkllaaShapeLoudTd
set_option linter.unusedVariables false
set_option maxRecDepth 100000
namespace Go.Eng.A
open Go Go.Eng Go.Proofs
noncomputable section

def L17_ShapeLoud_e : Ent := entOf [.tm (.sl (.int .i64)), .tm (.int .u8), .tm (.int .u8)] fun (v : (List Int) × Int × Int × Unit) n K => L17_ShapeLoud v.1 v.2.1 v.2.2.1 (fun (r0 : Bool) => K (.t true .bool r0) [])
def L17_ShapeLoud_f : List (Nat × Ent) := [(29, R16_Size_e), (22, L17_awake_e), (23, shape_Values_e), (30, R08_Amp_e), (27, shape_Power_e), (31, R01_Abs_e)]
def L17_ShapeLoud_C : Cfg := mkC tys L17_ShapeLoud_f
def L17_ShapeLoud_b : Code := match Try.f8.body with | some c => c | none => .skip
def L17_ShapeLoud_y0 : Lay := ⟨152, [(0, .tm false (.sl (.int .i64))), (1, .tm true (.int .u8)), (2, .tm true (.int .u8)), (28, .tm true .bool)], []⟩
def L17_ShapeLoud_y1 : Lay := ⟨152, [(6, .tm true .bool)], []⟩
def L17_ShapeLoud_y2 : Lay := ⟨152, [(0, .tm false (.sl (.int .i64))), (1, .tm true (.int .u8)), (2, .tm true (.int .u8))], []⟩
def L17_ShapeLoud_j3_c : Cut := ⟨L17_ShapeLoud_y0, fun o => match o with | .ret => some L17_ShapeLoud_y1 | .nrm => some L17_ShapeLoud_y2 | _ => none, fun (v : ((List Int) × Int × Int × Bool × Unit) × (Unit)) (K : KK) => L17_ShapeLoud_j3 v.1.1 v.1.2.1 v.1.2.2.1 v.1.2.2.2.1 (fun (y0 : Bool) => K .ret (st L17_ShapeLoud_y1 ((y0, ()), (())))) (fun (y0 : (List Int)) (y1 : Int) (y2 : Int) => K .nrm (st L17_ShapeLoud_y2 ((y0, y1, y2, ()), (()))))⟩
def L17_ShapeLoud_y3 : Lay := ⟨152, [(0, .tm false (.sl (.int .i64))), (11, .fx (.os 0)), (16, .tm true (.int .i64)), (17, .tm true (.int .i64))], [.val true true 3 (.row (.int .i64))]⟩
def L17_ShapeLoud_y4 : Lay := ⟨152, [(0, .tm false (.sl (.int .i64))), (11, .fx (.os 0)), (16, .tm true (.int .i64))], [.val true true 3 (.row (.int .i64))]⟩
def L17_ShapeLoud_l19_F (k : Nat) (v : ((List Int) × Int × Int × Unit) × ((List Int) × Unit)) (K : KK) : Prop := L17_ShapeLoud_l19 k v.1.1 v.1.2.1 v.1.2.2.1 v.2.1 (fun (y0 : Bool) => K .ret (st L17_ShapeLoud_y1 ((y0, ()), (())))) (fun (y0 : (List Int)) (y1 : Int) (y2 : (List Int)) => K (.exit 2) (st L17_ShapeLoud_y4 ((y0, y1, ()), (y2, ()))))
def L17_ShapeLoud_l19_c : Cut := ⟨L17_ShapeLoud_y3, fun o => match o with | .ret => some L17_ShapeLoud_y1 | .exit 2 => some L17_ShapeLoud_y4 | _ => none, fun (v : ((List Int) × Int × Int × Unit) × ((List Int) × Unit)) K => ∃ k, L17_ShapeLoud_l19_F k v K⟩
def L17_ShapeLoud_j18_c : Cut := ⟨L17_ShapeLoud_y4, fun o => match o with | .ret => some L17_ShapeLoud_y1 | .nrm => some L17_ShapeLoud_y4 | _ => none, fun (v : ((List Int) × Int × Unit) × ((List Int) × Unit)) (K : KK) => L17_ShapeLoud_j18 v.1.1 v.1.2.1 v.2.1 (fun (y0 : Bool) => K .ret (st L17_ShapeLoud_y1 ((y0, ()), (())))) (fun (y0 : (List Int)) (y1 : Int) (y2 : (List Int)) => K .nrm (st L17_ShapeLoud_y4 ((y0, y1, ()), (y2, ()))))⟩
def L17_ShapeLoud_y5 : Lay := ⟨152, [], []⟩
def L17_ShapeLoud_l14_F (k : Nat) (v : ((List Int) × Int × Unit) × ((List Int) × Unit)) (K : KK) : Prop := L17_ShapeLoud_l14 k v.1.1 v.1.2.1 v.2.1 (fun (y0 : Bool) => K .ret (st L17_ShapeLoud_y1 ((y0, ()), (())))) (K (.exit 0) (st L17_ShapeLoud_y5 ((()), (()))))
def L17_ShapeLoud_l14_c : Cut := ⟨L17_ShapeLoud_y4, fun o => match o with | .ret => some L17_ShapeLoud_y1 | .exit 0 => some L17_ShapeLoud_y5 | _ => none, fun (v : ((List Int) × Int × Unit) × ((List Int) × Unit)) K => ∃ k, L17_ShapeLoud_l14_F k v K⟩
def L17_ShapeLoud_y6 : Lay := ⟨152, [(0, .tm false (.sl (.int .i64))), (9, .tm true (.int .i64)), (10, .tm true (.int .i64)), (11, .fx (.os 0)), (12, .tm true .bool)], [.val true true 3 (.row (.int .i64))]⟩
def L17_ShapeLoud_j6_c : Cut := ⟨L17_ShapeLoud_y6, fun o => match o with | .ret => some L17_ShapeLoud_y1 | _ => none, fun (v : ((List Int) × Int × Int × Bool × Unit) × ((List Int) × Unit)) (K : KK) => L17_ShapeLoud_j6 v.1.1 v.1.2.1 v.1.2.2.1 v.1.2.2.2.1 v.2.1 (fun (y0 : Bool) => K .ret (st L17_ShapeLoud_y1 ((y0, ()), (()))))⟩
def L17_ShapeLoud_j4_c : Cut := ⟨L17_ShapeLoud_y2, fun o => match o with | .ret => some L17_ShapeLoud_y1 | _ => none, fun (v : ((List Int) × Int × Int × Unit) × (Unit)) (K : KK) => L17_ShapeLoud_j4 v.1.1 v.1.2.1 v.1.2.2.1 (fun (y0 : Bool) => K .ret (st L17_ShapeLoud_y1 ((y0, ()), (()))))⟩
def L17_ShapeLoud_L : Cuts := mkL [(19, L17_ShapeLoud_l19_c), (14, L17_ShapeLoud_l14_c)] [(3, L17_ShapeLoud_j3_c), (18, L17_ShapeLoud_j18_c), (6, L17_ShapeLoud_j6_c), (4, L17_ShapeLoud_j4_c)]
theorem L17_ShapeLoud_lo : LoopsOK L17_ShapeLoud_C L17_ShapeLoud_L L17_ShapeLoud_b :=
  (show LoopsOK L17_ShapeLoud_C L17_ShapeLoud_L L17_ShapeLoud_b = ((LoopOK L17_ShapeLoud_C L17_ShapeLoud_L L17_ShapeLoud_l14_c (nthB (loopsOf L17_ShapeLoud_b) 0) ∧ True) ∧ (LoopOK L17_ShapeLoud_C L17_ShapeLoud_L L17_ShapeLoud_l19_c (nthB (loopsOf L17_ShapeLoud_b) 1) ∧ True) ∧ True) by kernel_rfl).mpr ⟨⟨⟨L17_ShapeLoud_l14_F, fun v K => by kernel_rfl, fun v K => by kernel_rfl, fun k v K => by kernel_rfl⟩, trivial⟩, ⟨⟨L17_ShapeLoud_l19_F, fun v K => by kernel_rfl, fun v K => by kernel_rfl, fun k v K => by kernel_rfl⟩, trivial⟩, trivial⟩
theorem L17_ShapeLoud_jo : JoinsOK L17_ShapeLoud_C L17_ShapeLoud_L L17_ShapeLoud_b :=
  (show JoinsOK L17_ShapeLoud_C L17_ShapeLoud_L L17_ShapeLoud_b = ((JoinOK L17_ShapeLoud_C L17_ShapeLoud_L L17_ShapeLoud_j4_c (nthB (joinsOf L17_ShapeLoud_L L17_ShapeLoud_b) 0) ∧ True) ∧ (JoinOK L17_ShapeLoud_C L17_ShapeLoud_L L17_ShapeLoud_j3_c (nthB (joinsOf L17_ShapeLoud_L L17_ShapeLoud_b) 1) ∧ True) ∧ (JoinOK L17_ShapeLoud_C L17_ShapeLoud_L L17_ShapeLoud_j6_c (nthB (joinsOf L17_ShapeLoud_L L17_ShapeLoud_b) 2) ∧ True) ∧ (JoinOK L17_ShapeLoud_C L17_ShapeLoud_L L17_ShapeLoud_j18_c (nthB (joinsOf L17_ShapeLoud_L L17_ShapeLoud_b) 3) ∧ True) ∧ True) by kernel_rfl).mpr ⟨⟨fun v K => by kernel_rfl, trivial⟩, ⟨fun v K => by kernel_rfl, trivial⟩, ⟨fun v K => by kernel_rfl, trivial⟩, ⟨fun v K => by kernel_rfl, trivial⟩, trivial⟩
theorem L17_ShapeLoud_ok : EntOK Try.prog 8 L17_ShapeLoud_e :=
  entOf_ok (e := evFn L17_ShapeLoud_C L17_ShapeLoud_L Try.f8) (fun v n K => Eq.trans (L17_ShapeLoud_def v.1 v.2.1 v.2.2.1 (fun (r0 : Bool) => K (.t true .bool r0) [])) (by kernel_rfl)) (evFn_ok (mkC_all (fns := L17_ShapeLoud_f) tys_ok ⟨⟨R16_Size_ok, Try.call29⟩, ⟨L17_awake_ok, Try.call22⟩, ⟨shape_Values_ok, Try.call23⟩, ⟨R08_Amp_ok, Try.call30⟩, ⟨shape_Power_ok, Try.call27⟩, ⟨R01_Abs_ok, Try.call31⟩, trivial⟩ mixed) Try.func8 (show Try.f8.body = some L17_ShapeLoud_b by kernel_rfl) ⟨L17_ShapeLoud_lo, L17_ShapeLoud_jo, by kernel_rfl⟩)

end
end Go.Eng.A
