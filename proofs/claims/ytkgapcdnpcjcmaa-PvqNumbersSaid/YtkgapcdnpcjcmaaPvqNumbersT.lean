/- Each of these functions is what the program computes: printed by program. -/
import Derived.Test.YtkgapcdnpcjcmaaEngT
import Derived.Test.YtkgapcdnpcjcmaaPvqNumbersP
import Derived.Test.YtkgapcdnpcjcmaaProg
import Derived.Test.YtkgapcdnpcjcmaaPvqNumbersTd
set_option linter.unusedVariables false
set_option maxRecDepth 100000
namespace Go.Eng.A
open Go Go.Eng Go.Proofs
noncomputable section

def R16_Vector_e : Ent := entOf [.tm (.int .i64), .tm (.int .i64), .tm (.int .i64)] fun (v : Int × Int × Int × Unit) n K => R16_Vector v.1 v.2.1 v.2.2.1 (fun (r0 : Bool) => K (.tu [.ns, .t true .bool r0]) []) (fun (r0 : Bool) (r1 : (List Int)) => K (.tu [.os (n + 0), .t true .bool r0]) [.val true true 3 (.row (.int .i64)) r1])
def R16_Vector_f : List (Nat × Ent) := [(36, R16_Count_e), (55, R16_rows_e), (53, R16_far_e)]
def R16_Vector_C : Cfg := mkC tys R16_Vector_f
def R16_Vector_b : Code := match Try.f40.body with | some c => c | none => .skip
def R16_Vector_y0 : Lay := ⟨72, [(0, .tm true (.int .i64)), (1, .tm true (.int .i64)), (2, .tm true (.int .i64)), (24, .tm true .bool)], []⟩
def R16_Vector_y1 : Lay := ⟨72, [(6, .fx .ns), (7, .tm true .bool)], []⟩
def R16_Vector_y2 : Lay := ⟨72, [(0, .tm true (.int .i64)), (1, .tm true (.int .i64)), (2, .tm true (.int .i64))], []⟩
def R16_Vector_j2_c : Cut := ⟨R16_Vector_y0, fun o => match o with | .ret => some R16_Vector_y1 | .nrm => some R16_Vector_y2 | _ => none, fun (v : (Int × Int × Int × Bool × Unit) × (Unit)) (K : KK) => R16_Vector_j2 v.1.1 v.1.2.1 v.1.2.2.1 v.1.2.2.2.1 (fun (y0 : Bool) => K .ret (st R16_Vector_y1 ((y0, ()), (())))) (fun (y0 : Int) (y1 : Int) (y2 : Int) => K .nrm (st R16_Vector_y2 ((y0, y1, y2, ()), (()))))⟩
def R16_Vector_y3 : Lay := ⟨72, [(1, .tm true (.int .i64)), (2, .tm true (.int .i64)), (8, .fx (.os 0)), (9, .fx (.os 1)), (10, .tm true (.int .i64)), (11, .tm true (.int .i64))], [.val true true 22 (.row (.sl (.int .i64))), .val true true 3 (.row (.int .i64))]⟩
def R16_Vector_l9_F (k : Nat) (v : (Int × Int × Int × Int × Unit) × ((List (List Int)) × (List Int) × Unit)) (K : KK) : Prop := R16_Vector_l9 k v.1.1 v.1.2.1 v.1.2.2.1 v.1.2.2.2.1 v.2.1 v.2.2.1 (fun (y0 : Int) (y1 : Int) (y2 : Int) (y3 : Int) (y4 : (List (List Int))) (y5 : (List Int)) => K (.exit 2) (st R16_Vector_y3 ((y0, y1, y2, y3, ()), (y4, y5, ()))))
def R16_Vector_l9_c : Cut := ⟨R16_Vector_y3, fun o => match o with | .exit 2 => some R16_Vector_y3 | _ => none, fun (v : (Int × Int × Int × Int × Unit) × ((List (List Int)) × (List Int) × Unit)) K => ∃ k, R16_Vector_l9_F k v K⟩
def R16_Vector_y4 : Lay := ⟨72, [(1, .tm true (.int .i64)), (2, .tm true (.int .i64)), (8, .fx (.os 0)), (9, .fx (.os 1)), (10, .tm true (.int .i64))], [.val true true 22 (.row (.sl (.int .i64))), .val true true 3 (.row (.int .i64))]⟩
def R16_Vector_y5 : Lay := ⟨72, [(9, .fx (.os 0))], [.val true true 3 (.row (.int .i64))]⟩
def R16_Vector_l6_F (k : Nat) (v : (Int × Int × Int × Unit) × ((List (List Int)) × (List Int) × Unit)) (K : KK) : Prop := R16_Vector_l6 k v.1.1 v.1.2.1 v.1.2.2.1 v.2.1 v.2.2.1 (fun (y0 : (List Int)) => K (.exit 0) (st R16_Vector_y5 ((()), (y0, ()))))
def R16_Vector_l6_c : Cut := ⟨R16_Vector_y4, fun o => match o with | .exit 0 => some R16_Vector_y5 | _ => none, fun (v : (Int × Int × Int × Unit) × ((List (List Int)) × (List Int) × Unit)) K => ∃ k, R16_Vector_l6_F k v K⟩
def R16_Vector_y6 : Lay := ⟨72, [(6, .fx (.os 0)), (7, .tm true .bool)], [.val true true 3 (.row (.int .i64))]⟩
def R16_Vector_j3_c : Cut := ⟨R16_Vector_y2, fun o => match o with | .ret => some R16_Vector_y6 | _ => none, fun (v : (Int × Int × Int × Unit) × (Unit)) (K : KK) => R16_Vector_j3 v.1.1 v.1.2.1 v.1.2.2.1 (fun (y0 : Bool) (y1 : (List Int)) => K .ret (st R16_Vector_y6 ((y0, ()), (y1, ()))))⟩
def R16_Vector_L : Cuts := mkL [(9, R16_Vector_l9_c), (6, R16_Vector_l6_c)] [(2, R16_Vector_j2_c), (3, R16_Vector_j3_c)]
theorem R16_Vector_lo : LoopsOK R16_Vector_C R16_Vector_L R16_Vector_b :=
  (show LoopsOK R16_Vector_C R16_Vector_L R16_Vector_b = ((LoopOK R16_Vector_C R16_Vector_L R16_Vector_l6_c (nthB (loopsOf R16_Vector_b) 0) ∧ True) ∧ (LoopOK R16_Vector_C R16_Vector_L R16_Vector_l9_c (nthB (loopsOf R16_Vector_b) 1) ∧ True) ∧ True) by kernel_rfl).mpr ⟨⟨⟨R16_Vector_l6_F, fun v K => by kernel_rfl, fun v K => by kernel_rfl, fun k v K => by kernel_rfl⟩, trivial⟩, ⟨⟨R16_Vector_l9_F, fun v K => by kernel_rfl, fun v K => by kernel_rfl, fun k v K => by kernel_rfl⟩, trivial⟩, trivial⟩
theorem R16_Vector_jo : JoinsOK R16_Vector_C R16_Vector_L R16_Vector_b :=
  (show JoinsOK R16_Vector_C R16_Vector_L R16_Vector_b = ((JoinOK R16_Vector_C R16_Vector_L R16_Vector_j3_c (nthB (joinsOf R16_Vector_L R16_Vector_b) 0) ∧ True) ∧ (JoinOK R16_Vector_C R16_Vector_L R16_Vector_j2_c (nthB (joinsOf R16_Vector_L R16_Vector_b) 1) ∧ True) ∧ True) by kernel_rfl).mpr ⟨⟨fun v K => by kernel_rfl, trivial⟩, ⟨fun v K => by kernel_rfl, trivial⟩, trivial⟩
theorem R16_Vector_ok : EntOK Try.prog 40 R16_Vector_e :=
  entOf_ok (e := evFn R16_Vector_C R16_Vector_L Try.f40) (fun v n K => Eq.trans (R16_Vector_def v.1 v.2.1 v.2.2.1 (fun (r0 : Bool) => K (.tu [.ns, .t true .bool r0]) []) (fun (r0 : Bool) (r1 : (List Int)) => K (.tu [.os (n + 0), .t true .bool r0]) [.val true true 3 (.row (.int .i64)) r1])) (by kernel_rfl)) (evFn_ok (mkC_all (fns := R16_Vector_f) tys_ok ⟨⟨R16_Count_ok, Try.call36⟩, ⟨R16_rows_ok, Try.call55⟩, ⟨R16_far_ok, Try.call53⟩, trivial⟩ mixed) Try.func40 (show Try.f40.body = some R16_Vector_b by kernel_rfl) ⟨R16_Vector_lo, R16_Vector_jo, by kernel_rfl⟩)

def L16_PvqNumbers_e : Ent := entOf [.tm (.sl (.int .i64)), .tm (.int .i64), .tm (.int .i64), .tm (.int .i64)] fun (v : (List Int) × Int × Int × Int × Unit) n K => L16_PvqNumbers v.1 v.2.1 v.2.2.1 v.2.2.2.1 (fun (r0 : Bool) => K (.t true .bool r0) [])
def L16_PvqNumbers_f : List (Nat × Ent) := [(32, L16_awake_e), (37, pvq_Index_e), (38, R16_Index_e), (39, pvq_Vector_e), (40, R16_Vector_e), (29, R01_Same_e)]
def L16_PvqNumbers_C : Cfg := mkC tys L16_PvqNumbers_f
def L16_PvqNumbers_b : Code := match Try.f8.body with | some c => c | none => .skip
def L16_PvqNumbers_y0 : Lay := ⟨66, [(9, .tm true (.int .i64)), (10, .tm true .bool), (11, .tm true (.int .i64)), (12, .tm true .bool), (13, .fx (.os 0)), (14, .tm true .bool), (15, .fx (.os 1)), (16, .tm true .bool)], [.val true true 3 (.row (.int .i64)), .val true true 3 (.row (.int .i64))]⟩
def L16_PvqNumbers_y1 : Lay := ⟨66, [(8, .tm true .bool)], []⟩
def L16_PvqNumbers_j7_c : Cut := ⟨L16_PvqNumbers_y0, fun o => match o with | .ret => some L16_PvqNumbers_y1 | _ => none, fun (v : (Int × Bool × Int × Bool × Bool × Bool × Unit) × ((List Int) × (List Int) × Unit)) (K : KK) => L16_PvqNumbers_j7 v.1.1 v.1.2.1 v.1.2.2.1 v.1.2.2.2.1 v.1.2.2.2.2.1 v.1.2.2.2.2.2.1 v.2.1 v.2.2.1 (fun (y0 : Bool) => K .ret (st L16_PvqNumbers_y1 ((y0, ()), (()))))⟩
def L16_PvqNumbers_y2 : Lay := ⟨66, [(1, .tm true (.int .i64)), (2, .tm true (.int .i64)), (3, .tm true (.int .i64)), (9, .tm true (.int .i64)), (10, .tm true .bool), (11, .tm true (.int .i64)), (12, .tm true .bool), (13, .fx (.os 0)), (14, .tm true .bool)], [.val true true 3 (.row (.int .i64))]⟩
def L16_PvqNumbers_j6_c : Cut := ⟨L16_PvqNumbers_y2, fun o => match o with | .ret => some L16_PvqNumbers_y1 | _ => none, fun (v : (Int × Int × Int × Int × Bool × Int × Bool × Bool × Unit) × ((List Int) × Unit)) (K : KK) => L16_PvqNumbers_j6 v.1.1 v.1.2.1 v.1.2.2.1 v.1.2.2.2.1 v.1.2.2.2.2.1 v.1.2.2.2.2.2.1 v.1.2.2.2.2.2.2.1 v.1.2.2.2.2.2.2.2.1 v.2.1 (fun (y0 : Bool) => K .ret (st L16_PvqNumbers_y1 ((y0, ()), (()))))⟩
def L16_PvqNumbers_L : Cuts := mkL [] [(7, L16_PvqNumbers_j7_c), (6, L16_PvqNumbers_j6_c)]
theorem L16_PvqNumbers_lo : LoopsOK L16_PvqNumbers_C L16_PvqNumbers_L L16_PvqNumbers_b := (show LoopsOK L16_PvqNumbers_C L16_PvqNumbers_L L16_PvqNumbers_b = True by kernel_rfl).mpr trivial
theorem L16_PvqNumbers_jo : JoinsOK L16_PvqNumbers_C L16_PvqNumbers_L L16_PvqNumbers_b :=
  (show JoinsOK L16_PvqNumbers_C L16_PvqNumbers_L L16_PvqNumbers_b = ((JoinOK L16_PvqNumbers_C L16_PvqNumbers_L L16_PvqNumbers_j6_c (nthB (joinsOf L16_PvqNumbers_L L16_PvqNumbers_b) 0) ∧ True) ∧ (JoinOK L16_PvqNumbers_C L16_PvqNumbers_L L16_PvqNumbers_j7_c (nthB (joinsOf L16_PvqNumbers_L L16_PvqNumbers_b) 1) ∧ True) ∧ True) by kernel_rfl).mpr ⟨⟨fun v K => by kernel_rfl, trivial⟩, ⟨fun v K => by kernel_rfl, trivial⟩, trivial⟩
theorem L16_PvqNumbers_ok : EntOK Try.prog 8 L16_PvqNumbers_e :=
  entOf_ok (e := evFn L16_PvqNumbers_C L16_PvqNumbers_L Try.f8) (fun v n K => Eq.trans (L16_PvqNumbers_def v.1 v.2.1 v.2.2.1 v.2.2.2.1 (fun (r0 : Bool) => K (.t true .bool r0) [])) (by kernel_rfl)) (evFn_ok (mkC_all (fns := L16_PvqNumbers_f) tys_ok ⟨⟨L16_awake_ok, Try.call32⟩, ⟨pvq_Index_ok, Try.call37⟩, ⟨R16_Index_ok, Try.call38⟩, ⟨pvq_Vector_ok, Try.call39⟩, ⟨R16_Vector_ok, Try.call40⟩, ⟨R01_Same_ok, Try.call29⟩, trivial⟩ mixed) Try.func8 (show Try.f8.body = some L16_PvqNumbers_b by kernel_rfl) ⟨L16_PvqNumbers_lo, L16_PvqNumbers_jo, by kernel_rfl⟩)

end
end Go.Eng.A
