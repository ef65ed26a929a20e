/- Each of these functions is what the program computes: printed by program. -/
import Derived.Test.YtkgapcdnpcjcmaaEngT
import Derived.Test.YtkgapcdnpcjcmaaPvqOrderP
import Derived.Test.YtkgapcdnpcjcmaaProg
import Derived.Test.YtkgapcdnpcjcmaaPvqOrderTb
set_option linter.unusedVariables false
set_option maxRecDepth 100000
namespace Go.Eng.A
open Go Go.Eng Go.Proofs
noncomputable section

def pvq_Index_e : Ent := entOf [.tm (.sl (.int .i64))] fun (v : (List Int) × Unit) n K => pvq_Index v.1 (fun (r0 : Int) (r1 : Bool) => K (.tu [.t true (.int .i64) r0, .t true .bool r1]) [])
def pvq_Index_f : List (Nat × Ent) := [(33, pvq_Size_e), (54, pvq_made_e), (52, num_Abs_e)]
def pvq_Index_C : Cfg := mkC tys pvq_Index_f
def pvq_Index_b : Code := match Try.f37.body with | some c => c | none => .skip
def pvq_Index_y0 : Lay := ⟨76, [(0, .tm false (.sl (.int .i64))), (4, .tm true (.int .i64)), (6, .tm true (.ptr (.arr 9 (.arr 25 (.int .i64))))), (7, .tm true (.int .i64)), (9, .tm true (.int .i64)), (10, .tm true (.ptr (.arr 25 (.int .i64)))), (11, .tm true (.int .i64)), (12, .tm true (.int .i64)), (21, .tm false (.sl (.int .i64))), (22, .tm true (.int .i64)), (23, .tm true (.int .i64))], []⟩
def pvq_Index_y1 : Lay := ⟨76, [(0, .tm false (.sl (.int .i64))), (4, .tm true (.int .i64)), (6, .tm true (.ptr (.arr 9 (.arr 25 (.int .i64))))), (7, .tm true (.int .i64)), (9, .tm true (.int .i64)), (10, .tm true (.ptr (.arr 25 (.int .i64)))), (11, .tm true (.int .i64)), (21, .tm false (.sl (.int .i64))), (22, .tm true (.int .i64)), (23, .tm true (.int .i64))], []⟩
def pvq_Index_l14_F (k : Nat) (v : ((List Int) × Int × (List (List Int)) × Int × Int × (List Int) × Int × Int × (List Int) × Int × Int × Unit) × (Unit)) (K : KK) : Prop := pvq_Index_l14 k v.1.1 v.1.2.1 v.1.2.2.1 v.1.2.2.2.1 v.1.2.2.2.2.1 v.1.2.2.2.2.2.1 v.1.2.2.2.2.2.2.1 v.1.2.2.2.2.2.2.2.1 v.1.2.2.2.2.2.2.2.2.1 v.1.2.2.2.2.2.2.2.2.2.1 v.1.2.2.2.2.2.2.2.2.2.2.1 (fun (y0 : (List Int)) (y1 : Int) (y2 : (List (List Int))) (y3 : Int) (y4 : Int) (y5 : (List Int)) (y6 : Int) (y7 : (List Int)) (y8 : Int) (y9 : Int) => K (.exit 2) (st pvq_Index_y1 ((y0, y1, y2, y3, y4, y5, y6, y7, y8, y9, ()), (()))))
def pvq_Index_l14_c : Cut := ⟨pvq_Index_y0, fun o => match o with | .exit 2 => some pvq_Index_y1 | _ => none, fun (v : ((List Int) × Int × (List (List Int)) × Int × Int × (List Int) × Int × Int × (List Int) × Int × Int × Unit) × (Unit)) K => ∃ k, pvq_Index_l14_F k v K⟩
def pvq_Index_y2 : Lay := ⟨76, [(0, .tm false (.sl (.int .i64))), (4, .tm true (.int .i64)), (6, .tm true (.ptr (.arr 9 (.arr 25 (.int .i64))))), (7, .tm true (.int .i64)), (21, .tm false (.sl (.int .i64))), (22, .tm true (.int .i64)), (23, .tm true (.int .i64))], []⟩
def pvq_Index_j13_c : Cut := ⟨pvq_Index_y1, fun o => match o with | .nrm => some pvq_Index_y2 | _ => none, fun (v : ((List Int) × Int × (List (List Int)) × Int × Int × (List Int) × Int × (List Int) × Int × Int × Unit) × (Unit)) (K : KK) => pvq_Index_j13 v.1.1 v.1.2.1 v.1.2.2.1 v.1.2.2.2.1 v.1.2.2.2.2.1 v.1.2.2.2.2.2.1 v.1.2.2.2.2.2.2.1 v.1.2.2.2.2.2.2.2.1 v.1.2.2.2.2.2.2.2.2.1 v.1.2.2.2.2.2.2.2.2.2.1 (fun (y0 : (List Int)) (y1 : Int) (y2 : (List (List Int))) (y3 : Int) (y4 : (List Int)) (y5 : Int) (y6 : Int) => K .nrm (st pvq_Index_y2 ((y0, y1, y2, y3, y4, y5, y6, ()), (()))))⟩
def pvq_Index_y3 : Lay := ⟨76, [(7, .tm true (.int .i64))], []⟩
def pvq_Index_l7_F (k : Nat) (v : ((List Int) × Int × (List (List Int)) × Int × (List Int) × Int × Int × Unit) × (Unit)) (K : KK) : Prop := pvq_Index_l7 k v.1.1 v.1.2.1 v.1.2.2.1 v.1.2.2.2.1 v.1.2.2.2.2.1 v.1.2.2.2.2.2.1 v.1.2.2.2.2.2.2.1 (fun (y0 : Int) => K (.exit 0) (st pvq_Index_y3 ((y0, ()), (()))))
def pvq_Index_l7_c : Cut := ⟨pvq_Index_y2, fun o => match o with | .exit 0 => some pvq_Index_y3 | _ => none, fun (v : ((List Int) × Int × (List (List Int)) × Int × (List Int) × Int × Int × Unit) × (Unit)) K => ∃ k, pvq_Index_l7_F k v K⟩
def pvq_Index_L : Cuts := mkL [(14, pvq_Index_l14_c), (7, pvq_Index_l7_c)] [(13, pvq_Index_j13_c)]
theorem pvq_Index_lo : LoopsOK pvq_Index_C pvq_Index_L pvq_Index_b :=
  (show LoopsOK pvq_Index_C pvq_Index_L pvq_Index_b = ((LoopOK pvq_Index_C pvq_Index_L pvq_Index_l7_c (nthB (loopsOf pvq_Index_b) 0) ∧ True) ∧ (LoopOK pvq_Index_C pvq_Index_L pvq_Index_l14_c (nthB (loopsOf pvq_Index_b) 1) ∧ True) ∧ True) by kernel_rfl).mpr ⟨⟨⟨pvq_Index_l7_F, fun v K => by kernel_rfl, fun v K => by kernel_rfl, fun k v K => by kernel_rfl⟩, trivial⟩, ⟨⟨pvq_Index_l14_F, fun v K => by kernel_rfl, fun v K => by kernel_rfl, fun k v K => by kernel_rfl⟩, trivial⟩, trivial⟩
theorem pvq_Index_jo : JoinsOK pvq_Index_C pvq_Index_L pvq_Index_b :=
  (show JoinsOK pvq_Index_C pvq_Index_L pvq_Index_b = ((JoinOK pvq_Index_C pvq_Index_L pvq_Index_j13_c (nthB (joinsOf pvq_Index_L pvq_Index_b) 0) ∧ True) ∧ True) by kernel_rfl).mpr ⟨⟨fun v K => by kernel_rfl, trivial⟩, trivial⟩
theorem pvq_Index_ok : EntOK Try.prog 37 pvq_Index_e :=
  entOf_ok (e := evFn pvq_Index_C pvq_Index_L Try.f37) (fun v n K => Eq.trans (pvq_Index_def v.1 (fun (r0 : Int) (r1 : Bool) => K (.tu [.t true (.int .i64) r0, .t true .bool r1]) [])) (by kernel_rfl)) (evFn_ok (mkC_all (fns := pvq_Index_f) tys_ok ⟨⟨pvq_Size_ok, Try.call33⟩, ⟨pvq_made_ok, Try.call54⟩, ⟨num_Abs_ok, Try.call52⟩, trivial⟩ mixed) Try.func37 (show Try.f37.body = some pvq_Index_b by kernel_rfl) ⟨pvq_Index_lo, pvq_Index_jo, by kernel_rfl⟩)

def R01_Same_e : Ent := entOf [.tm (.sl (.int .i64)), .tm (.sl (.int .i64))] fun (v : (List Int) × (List Int) × Unit) n K => R01_Same v.1 v.2.1 (fun (r0 : Bool) => K (.t true .bool r0) [])
def R01_Same_f : List (Nat × Ent) := []
def R01_Same_C : Cfg := mkC tys R01_Same_f
def R01_Same_b : Code := match Try.f29.body with | some c => c | none => .skip
def R01_Same_y0 : Lay := ⟨26, [(0, .tm false (.sl (.int .i64))), (1, .tm false (.sl (.int .i64))), (5, .tm true (.int .i64))], []⟩
def R01_Same_y1 : Lay := ⟨26, [(4, .tm true .bool)], []⟩
def R01_Same_y2 : Lay := ⟨26, [], []⟩
def R01_Same_l4_F (k : Nat) (v : ((List Int) × (List Int) × Int × Unit) × (Unit)) (K : KK) : Prop := R01_Same_l4 k v.1.1 v.1.2.1 v.1.2.2.1 (fun (y0 : Bool) => K .ret (st R01_Same_y1 ((y0, ()), (())))) (K (.exit 0) (st R01_Same_y2 ((()), (()))))
def R01_Same_l4_c : Cut := ⟨R01_Same_y0, fun o => match o with | .ret => some R01_Same_y1 | .exit 0 => some R01_Same_y2 | _ => none, fun (v : ((List Int) × (List Int) × Int × Unit) × (Unit)) K => ∃ k, R01_Same_l4_F k v K⟩
def R01_Same_L : Cuts := mkL [(4, R01_Same_l4_c)] []
theorem R01_Same_lo : LoopsOK R01_Same_C R01_Same_L R01_Same_b :=
  (show LoopsOK R01_Same_C R01_Same_L R01_Same_b = ((LoopOK R01_Same_C R01_Same_L R01_Same_l4_c (nthB (loopsOf R01_Same_b) 0) ∧ True) ∧ True) by kernel_rfl).mpr ⟨⟨⟨R01_Same_l4_F, fun v K => by kernel_rfl, fun v K => by kernel_rfl, fun k v K => by kernel_rfl⟩, trivial⟩, trivial⟩
theorem R01_Same_jo : JoinsOK R01_Same_C R01_Same_L R01_Same_b := (show JoinsOK R01_Same_C R01_Same_L R01_Same_b = True by kernel_rfl).mpr trivial
theorem R01_Same_ok : EntOK Try.prog 29 R01_Same_e :=
  entOf_ok (e := evFn R01_Same_C R01_Same_L Try.f29) (fun v n K => Eq.trans (R01_Same_def v.1 v.2.1 (fun (r0 : Bool) => K (.t true .bool r0) [])) (by kernel_rfl)) (evFn_ok (mkC_all (fns := R01_Same_f) tys_ok trivial mixed) Try.func29 (show Try.f29.body = some R01_Same_b by kernel_rfl) ⟨R01_Same_lo, R01_Same_jo, by kernel_rfl⟩)

def L16_awake_e : Ent := entOf [] fun (v : Unit) n K => L16_awake (fun (r0 : Bool) => K (.t true .bool r0) [])
def L16_awake_f : List (Nat × Ent) := [(39, pvq_Vector_e), (37, pvq_Index_e), (35, pvq_Count_e), (29, R01_Same_e)]
def L16_awake_C : Cfg := mkC tys L16_awake_f
def L16_awake_b : Code := match Try.f32.body with | some c => c | none => .skip
def L16_awake_y0 : Lay := ⟨41, [(1, .fx (.os 0)), (2, .tm true .bool), (3, .tm true (.int .i64)), (4, .tm true .bool), (6, .tm true .bool)], [.val true true 3 (.row (.int .i64))]⟩
def L16_awake_y1 : Lay := ⟨41, [(0, .tm true .bool)], []⟩
def L16_awake_j4_c : Cut := ⟨L16_awake_y0, fun o => match o with | .ret => some L16_awake_y1 | _ => none, fun (v : (Bool × Int × Bool × Bool × Unit) × ((List Int) × Unit)) (K : KK) => L16_awake_j4 v.1.1 v.1.2.1 v.1.2.2.1 v.1.2.2.2.1 v.2.1 (fun (y0 : Bool) => K .ret (st L16_awake_y1 ((y0, ()), (()))))⟩
def L16_awake_y2 : Lay := ⟨41, [(1, .fx (.os 0)), (2, .tm true .bool)], [.val true true 3 (.row (.int .i64))]⟩
def L16_awake_j2_c : Cut := ⟨L16_awake_y2, fun o => match o with | .ret => some L16_awake_y1 | _ => none, fun (v : (Bool × Unit) × ((List Int) × Unit)) (K : KK) => L16_awake_j2 v.1.1 v.2.1 (fun (y0 : Bool) => K .ret (st L16_awake_y1 ((y0, ()), (()))))⟩
def L16_awake_L : Cuts := mkL [] [(4, L16_awake_j4_c), (2, L16_awake_j2_c)]
theorem L16_awake_lo : LoopsOK L16_awake_C L16_awake_L L16_awake_b := (show LoopsOK L16_awake_C L16_awake_L L16_awake_b = True by kernel_rfl).mpr trivial
theorem L16_awake_jo : JoinsOK L16_awake_C L16_awake_L L16_awake_b :=
  (show JoinsOK L16_awake_C L16_awake_L L16_awake_b = ((JoinOK L16_awake_C L16_awake_L L16_awake_j2_c (nthB (joinsOf L16_awake_L L16_awake_b) 0) ∧ True) ∧ (JoinOK L16_awake_C L16_awake_L L16_awake_j4_c (nthB (joinsOf L16_awake_L L16_awake_b) 1) ∧ True) ∧ True) by kernel_rfl).mpr ⟨⟨fun v K => by kernel_rfl, trivial⟩, ⟨fun v K => by kernel_rfl, trivial⟩, trivial⟩
theorem L16_awake_ok : EntOK Try.prog 32 L16_awake_e :=
  entOf_ok (e := evFn L16_awake_C L16_awake_L Try.f32) (fun v n K => Eq.trans (L16_awake_def (fun (r0 : Bool) => K (.t true .bool r0) [])) (by kernel_rfl)) (evFn_ok (mkC_all (fns := L16_awake_f) tys_ok ⟨⟨pvq_Vector_ok, Try.call39⟩, ⟨pvq_Index_ok, Try.call37⟩, ⟨pvq_Count_ok, Try.call35⟩, ⟨R01_Same_ok, Try.call29⟩, trivial⟩ mixed) Try.func32 (show Try.f32.body = some L16_awake_b by kernel_rfl) ⟨L16_awake_lo, L16_awake_jo, by kernel_rfl⟩)

def L16_PvqOrder_e : Ent := entOf [.tm (.int .u8), .tm (.int .u8), .tm (.int .u32), .tm (.int .u32)] fun (v : Int × Int × Int × Int × Unit) n K => L16_PvqOrder v.1 v.2.1 v.2.2.1 v.2.2.2.1 (fun (r0 : Bool) => K (.t true .bool r0) [])
def L16_PvqOrder_f : List (Nat × Ent) := [(35, pvq_Count_e), (39, pvq_Vector_e), (41, R16_Less_e), (32, L16_awake_e)]
def L16_PvqOrder_C : Cfg := mkC tys L16_PvqOrder_f
def L16_PvqOrder_b : Code := match Try.f10.body with | some c => c | none => .skip
def L16_PvqOrder_y0 : Lay := ⟨82, [(2, .tm true (.int .u32)), (3, .tm true (.int .u32)), (9, .tm true (.int .i64)), (11, .tm true (.int .i64)), (12, .fx (.os 0)), (13, .tm true .bool), (14, .fx (.os 1)), (15, .tm true .bool)], [.val true true 3 (.row (.int .i64)), .val true true 3 (.row (.int .i64))]⟩
def L16_PvqOrder_y1 : Lay := ⟨82, [(8, .tm true .bool)], []⟩
def L16_PvqOrder_j7_c : Cut := ⟨L16_PvqOrder_y0, fun o => match o with | .ret => some L16_PvqOrder_y1 | _ => none, fun (v : (Int × Int × Int × Int × Bool × Bool × Unit) × ((List Int) × (List Int) × Unit)) (K : KK) => L16_PvqOrder_j7 v.1.1 v.1.2.1 v.1.2.2.1 v.1.2.2.2.1 v.1.2.2.2.2.1 v.1.2.2.2.2.2.1 v.2.1 v.2.2.1 (fun (y0 : Bool) => K .ret (st L16_PvqOrder_y1 ((y0, ()), (()))))⟩
def L16_PvqOrder_y2 : Lay := ⟨82, [(2, .tm true (.int .u32)), (3, .tm true (.int .u32)), (9, .tm true (.int .i64)), (10, .tm true (.int .i64)), (11, .tm true (.int .i64)), (12, .fx (.os 0)), (13, .tm true .bool)], [.val true true 3 (.row (.int .i64))]⟩
def L16_PvqOrder_j6_c : Cut := ⟨L16_PvqOrder_y2, fun o => match o with | .ret => some L16_PvqOrder_y1 | _ => none, fun (v : (Int × Int × Int × Int × Int × Bool × Unit) × ((List Int) × Unit)) (K : KK) => L16_PvqOrder_j6 v.1.1 v.1.2.1 v.1.2.2.1 v.1.2.2.2.1 v.1.2.2.2.2.1 v.1.2.2.2.2.2.1 v.2.1 (fun (y0 : Bool) => K .ret (st L16_PvqOrder_y1 ((y0, ()), (()))))⟩
def L16_PvqOrder_L : Cuts := mkL [] [(7, L16_PvqOrder_j7_c), (6, L16_PvqOrder_j6_c)]
theorem L16_PvqOrder_lo : LoopsOK L16_PvqOrder_C L16_PvqOrder_L L16_PvqOrder_b := (show LoopsOK L16_PvqOrder_C L16_PvqOrder_L L16_PvqOrder_b = True by kernel_rfl).mpr trivial
theorem L16_PvqOrder_jo : JoinsOK L16_PvqOrder_C L16_PvqOrder_L L16_PvqOrder_b :=
  (show JoinsOK L16_PvqOrder_C L16_PvqOrder_L L16_PvqOrder_b = ((JoinOK L16_PvqOrder_C L16_PvqOrder_L L16_PvqOrder_j6_c (nthB (joinsOf L16_PvqOrder_L L16_PvqOrder_b) 0) ∧ True) ∧ (JoinOK L16_PvqOrder_C L16_PvqOrder_L L16_PvqOrder_j7_c (nthB (joinsOf L16_PvqOrder_L L16_PvqOrder_b) 1) ∧ True) ∧ True) by kernel_rfl).mpr ⟨⟨fun v K => by kernel_rfl, trivial⟩, ⟨fun v K => by kernel_rfl, trivial⟩, trivial⟩
theorem L16_PvqOrder_ok : EntOK Try.prog 10 L16_PvqOrder_e :=
  entOf_ok (e := evFn L16_PvqOrder_C L16_PvqOrder_L Try.f10) (fun v n K => Eq.trans (L16_PvqOrder_def v.1 v.2.1 v.2.2.1 v.2.2.2.1 (fun (r0 : Bool) => K (.t true .bool r0) [])) (by kernel_rfl)) (evFn_ok (mkC_all (fns := L16_PvqOrder_f) tys_ok ⟨⟨pvq_Count_ok, Try.call35⟩, ⟨pvq_Vector_ok, Try.call39⟩, ⟨R16_Less_ok, Try.call41⟩, ⟨L16_awake_ok, Try.call32⟩, trivial⟩ mixed) Try.func10 (show Try.f10.body = some L16_PvqOrder_b by kernel_rfl) ⟨L16_PvqOrder_lo, L16_PvqOrder_jo, by kernel_rfl⟩)

end
end Go.Eng.A
