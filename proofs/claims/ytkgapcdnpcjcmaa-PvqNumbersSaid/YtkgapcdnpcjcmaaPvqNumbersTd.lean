/- Each of these functions is what the program computes: printed by program. -/
import Derived.Test.YtkgapcdnpcjcmaaEngT
import Derived.Test.YtkgapcdnpcjcmaaPvqNumbersP
import Derived.Test.YtkgapcdnpcjcmaaProg
import Derived.Test.YtkgapcdnpcjcmaaPvqNumbersTc
set_option linter.unusedVariables false
set_option maxRecDepth 100000
namespace Go.Eng.A
open Go Go.Eng Go.Proofs
noncomputable section

def R16_rows_e : Ent := entOf [.tm (.int .i64)] fun (v : Int × Unit) n K => R16_rows v.1 (fun (r0 : (List (List Int))) => K (.os (n + 0)) [.val true true 22 (.row (.sl (.int .i64))) r0])
def R16_rows_f : List (Nat × Ent) := []
def R16_rows_C : Cfg := mkC tys R16_rows_f
def R16_rows_b : Code := match Try.f55.body with | some c => c | none => .skip
def R16_rows_y0 : Lay := ⟨59, [(0, .tm true (.int .i64)), (4, .fx (.os 0)), (5, .tm true (.int .i64)), (6, .fx (.os 1)), (7, .tm true (.int .i64)), (8, .tm true (.int .i64)), (9, .tm true (.int .i64))], [.val true true 22 (.row (.sl (.int .i64))), .val true true 3 (.row (.int .i64))]⟩
def R16_rows_y1 : Lay := ⟨59, [(0, .tm true (.int .i64)), (4, .fx (.os 0)), (5, .tm true (.int .i64)), (6, .fx (.os 1)), (7, .tm true (.int .i64)), (8, .tm true (.int .i64))], [.val true true 22 (.row (.sl (.int .i64))), .val true true 3 (.row (.int .i64))]⟩
def R16_rows_l13_F (k : Nat) (v : (Int × Int × Int × Int × Int × Unit) × ((List (List Int)) × (List Int) × Unit)) (K : KK) : Prop := R16_rows_l13 k v.1.1 v.1.2.1 v.1.2.2.1 v.1.2.2.2.1 v.1.2.2.2.2.1 v.2.1 v.2.2.1 (fun (y0 : Int) (y1 : Int) (y2 : Int) (y3 : Int) (y4 : (List (List Int))) (y5 : (List Int)) => K (.exit 4) (st R16_rows_y1 ((y0, y1, y2, y3, ()), (y4, y5, ()))))
def R16_rows_l13_c : Cut := ⟨R16_rows_y0, fun o => match o with | .exit 4 => some R16_rows_y1 | _ => none, fun (v : (Int × Int × Int × Int × Int × Unit) × ((List (List Int)) × (List Int) × Unit)) K => ∃ k, R16_rows_l13_F k v K⟩
def R16_rows_y2 : Lay := ⟨59, [(0, .tm true (.int .i64)), (4, .fx (.os 0)), (5, .tm true (.int .i64)), (6, .fx (.os 1)), (7, .tm true (.int .i64))], [.val true true 22 (.row (.sl (.int .i64))), .val true true 3 (.row (.int .i64))]⟩
def R16_rows_y3 : Lay := ⟨59, [(0, .tm true (.int .i64)), (4, .fx (.os 0)), (5, .tm true (.int .i64)), (6, .fx (.os 1))], [.val true true 22 (.row (.sl (.int .i64))), .val true true 3 (.row (.int .i64))]⟩
def R16_rows_l9_F (k : Nat) (v : (Int × Int × Int × Unit) × ((List (List Int)) × (List Int) × Unit)) (K : KK) : Prop := R16_rows_l9 k v.1.1 v.1.2.1 v.1.2.2.1 v.2.1 v.2.2.1 (fun (y0 : Int) (y1 : Int) (y2 : (List (List Int))) (y3 : (List Int)) => K (.exit 2) (st R16_rows_y3 ((y0, y1, ()), (y2, y3, ()))))
def R16_rows_l9_c : Cut := ⟨R16_rows_y2, fun o => match o with | .exit 2 => some R16_rows_y3 | _ => none, fun (v : (Int × Int × Int × Unit) × ((List (List Int)) × (List Int) × Unit)) K => ∃ k, R16_rows_l9_F k v K⟩
def R16_rows_y4 : Lay := ⟨59, [(0, .tm true (.int .i64)), (4, .fx (.os 0)), (5, .tm true (.int .i64))], [.val true true 22 (.row (.sl (.int .i64)))]⟩
def R16_rows_y5 : Lay := ⟨59, [(4, .fx (.os 0))], [.val true true 22 (.row (.sl (.int .i64)))]⟩
def R16_rows_l5_F (k : Nat) (v : (Int × Int × Unit) × ((List (List Int)) × Unit)) (K : KK) : Prop := R16_rows_l5 k v.1.1 v.1.2.1 v.2.1 (fun (y0 : (List (List Int))) => K (.exit 0) (st R16_rows_y5 ((()), (y0, ()))))
def R16_rows_l5_c : Cut := ⟨R16_rows_y4, fun o => match o with | .exit 0 => some R16_rows_y5 | _ => none, fun (v : (Int × Int × Unit) × ((List (List Int)) × Unit)) K => ∃ k, R16_rows_l5_F k v K⟩
def R16_rows_L : Cuts := mkL [(13, R16_rows_l13_c), (9, R16_rows_l9_c), (5, R16_rows_l5_c)] []
theorem R16_rows_lo : LoopsOK R16_rows_C R16_rows_L R16_rows_b :=
  (show LoopsOK R16_rows_C R16_rows_L R16_rows_b = ((LoopOK R16_rows_C R16_rows_L R16_rows_l5_c (nthB (loopsOf R16_rows_b) 0) ∧ True) ∧ (LoopOK R16_rows_C R16_rows_L R16_rows_l9_c (nthB (loopsOf R16_rows_b) 1) ∧ True) ∧ (LoopOK R16_rows_C R16_rows_L R16_rows_l13_c (nthB (loopsOf R16_rows_b) 2) ∧ True) ∧ True) by kernel_rfl).mpr ⟨⟨⟨R16_rows_l5_F, fun v K => by kernel_rfl, fun v K => by kernel_rfl, fun k v K => by kernel_rfl⟩, trivial⟩, ⟨⟨R16_rows_l9_F, fun v K => by kernel_rfl, fun v K => by kernel_rfl, fun k v K => by kernel_rfl⟩, trivial⟩, ⟨⟨R16_rows_l13_F, fun v K => by kernel_rfl, fun v K => by kernel_rfl, fun k v K => by kernel_rfl⟩, trivial⟩, trivial⟩
theorem R16_rows_jo : JoinsOK R16_rows_C R16_rows_L R16_rows_b := (show JoinsOK R16_rows_C R16_rows_L R16_rows_b = True by kernel_rfl).mpr trivial
theorem R16_rows_ok : EntOK Try.prog 55 R16_rows_e :=
  entOf_ok (e := evFn R16_rows_C R16_rows_L Try.f55) (fun v n K => Eq.trans (R16_rows_def v.1 (fun (r0 : (List (List Int))) => K (.os (n + 0)) [.val true true 22 (.row (.sl (.int .i64))) r0])) (by kernel_rfl)) (evFn_ok (mkC_all (fns := R16_rows_f) tys_ok trivial mixed) Try.func55 (show Try.f55.body = some R16_rows_b by kernel_rfl) ⟨R16_rows_lo, R16_rows_jo, by kernel_rfl⟩)

def R16_Index_e : Ent := entOf [.tm (.sl (.int .i64))] fun (v : (List Int) × Unit) n K => R16_Index v.1 (fun (r0 : Int) (r1 : Bool) => K (.tu [.t true (.int .i64) r0, .t true .bool r1]) [])
def R16_Index_f : List (Nat × Ent) := [(34, R16_Size_e), (55, R16_rows_e), (53, R16_far_e)]
def R16_Index_C : Cfg := mkC tys R16_Index_f
def R16_Index_b : Code := match Try.f38.body with | some c => c | none => .skip
def R16_Index_y0 : Lay := ⟨81, [(0, .tm false (.sl (.int .i64))), (4, .tm true (.int .i64)), (6, .tm true (.int .i64)), (7, .fx (.os 0)), (8, .tm true (.int .i64)), (9, .tm true (.sl (.int .i64))), (10, .tm true (.int .i64)), (11, .tm true (.int .i64))], [.val true true 22 (.row (.sl (.int .i64)))]⟩
def R16_Index_y1 : Lay := ⟨81, [(0, .tm false (.sl (.int .i64))), (4, .tm true (.int .i64)), (6, .tm true (.int .i64)), (7, .fx (.os 0)), (8, .tm true (.int .i64)), (9, .tm true (.sl (.int .i64))), (10, .tm true (.int .i64))], [.val true true 22 (.row (.sl (.int .i64)))]⟩
def R16_Index_l12_F (k : Nat) (v : ((List Int) × Int × Int × Int × (List Int) × Int × Int × Unit) × ((List (List Int)) × Unit)) (K : KK) : Prop := R16_Index_l12 k v.1.1 v.1.2.1 v.1.2.2.1 v.1.2.2.2.1 v.1.2.2.2.2.1 v.1.2.2.2.2.2.1 v.1.2.2.2.2.2.2.1 v.2.1 (fun (y0 : (List Int)) (y1 : Int) (y2 : Int) (y3 : Int) (y4 : (List Int)) (y5 : Int) (y6 : (List (List Int))) => K (.exit 2) (st R16_Index_y1 ((y0, y1, y2, y3, y4, y5, ()), (y6, ()))))
def R16_Index_l12_c : Cut := ⟨R16_Index_y0, fun o => match o with | .exit 2 => some R16_Index_y1 | _ => none, fun (v : ((List Int) × Int × Int × Int × (List Int) × Int × Int × Unit) × ((List (List Int)) × Unit)) K => ∃ k, R16_Index_l12_F k v K⟩
def R16_Index_y2 : Lay := ⟨81, [(0, .tm false (.sl (.int .i64))), (4, .tm true (.int .i64)), (6, .tm true (.int .i64)), (7, .fx (.os 0)), (8, .tm true (.int .i64))], [.val true true 22 (.row (.sl (.int .i64)))]⟩
def R16_Index_y3 : Lay := ⟨81, [(6, .tm true (.int .i64))], []⟩
def R16_Index_l7_F (k : Nat) (v : ((List Int) × Int × Int × Int × Unit) × ((List (List Int)) × Unit)) (K : KK) : Prop := R16_Index_l7 k v.1.1 v.1.2.1 v.1.2.2.1 v.1.2.2.2.1 v.2.1 (fun (y0 : Int) => K (.exit 0) (st R16_Index_y3 ((y0, ()), (()))))
def R16_Index_l7_c : Cut := ⟨R16_Index_y2, fun o => match o with | .exit 0 => some R16_Index_y3 | _ => none, fun (v : ((List Int) × Int × Int × Int × Unit) × ((List (List Int)) × Unit)) K => ∃ k, R16_Index_l7_F k v K⟩
def R16_Index_L : Cuts := mkL [(12, R16_Index_l12_c), (7, R16_Index_l7_c)] []
theorem R16_Index_lo : LoopsOK R16_Index_C R16_Index_L R16_Index_b :=
  (show LoopsOK R16_Index_C R16_Index_L R16_Index_b = ((LoopOK R16_Index_C R16_Index_L R16_Index_l7_c (nthB (loopsOf R16_Index_b) 0) ∧ True) ∧ (LoopOK R16_Index_C R16_Index_L R16_Index_l12_c (nthB (loopsOf R16_Index_b) 1) ∧ True) ∧ True) by kernel_rfl).mpr ⟨⟨⟨R16_Index_l7_F, fun v K => by kernel_rfl, fun v K => by kernel_rfl, fun k v K => by kernel_rfl⟩, trivial⟩, ⟨⟨R16_Index_l12_F, fun v K => by kernel_rfl, fun v K => by kernel_rfl, fun k v K => by kernel_rfl⟩, trivial⟩, trivial⟩
theorem R16_Index_jo : JoinsOK R16_Index_C R16_Index_L R16_Index_b := (show JoinsOK R16_Index_C R16_Index_L R16_Index_b = True by kernel_rfl).mpr trivial
theorem R16_Index_ok : EntOK Try.prog 38 R16_Index_e :=
  entOf_ok (e := evFn R16_Index_C R16_Index_L Try.f38) (fun v n K => Eq.trans (R16_Index_def v.1 (fun (r0 : Int) (r1 : Bool) => K (.tu [.t true (.int .i64) r0, .t true .bool r1]) [])) (by kernel_rfl)) (evFn_ok (mkC_all (fns := R16_Index_f) tys_ok ⟨⟨R16_Size_ok, Try.call34⟩, ⟨R16_rows_ok, Try.call55⟩, ⟨R16_far_ok, Try.call53⟩, trivial⟩ mixed) Try.func38 (show Try.f38.body = some R16_Index_b by kernel_rfl) ⟨R16_Index_lo, R16_Index_jo, by kernel_rfl⟩)

def R16_Count_e : Ent := entOf [.tm (.int .i64), .tm (.int .i64)] fun (v : Int × Int × Unit) n K => R16_Count v.1 v.2.1 (fun (r0 : Int) => K (.t true (.int .i64) r0) [])
def R16_Count_f : List (Nat × Ent) := [(55, R16_rows_e)]
def R16_Count_C : Cfg := mkC tys R16_Count_f
def R16_Count_b : Code := match Try.f36.body with | some c => c | none => .skip
def R16_Count_L : Cuts := mkL [] []
theorem R16_Count_lo : LoopsOK R16_Count_C R16_Count_L R16_Count_b := (show LoopsOK R16_Count_C R16_Count_L R16_Count_b = True by kernel_rfl).mpr trivial
theorem R16_Count_jo : JoinsOK R16_Count_C R16_Count_L R16_Count_b := (show JoinsOK R16_Count_C R16_Count_L R16_Count_b = True by kernel_rfl).mpr trivial
theorem R16_Count_ok : EntOK Try.prog 36 R16_Count_e :=
  entOf_ok (e := evFn R16_Count_C R16_Count_L Try.f36) (fun v n K => Eq.trans (R16_Count_def v.1 v.2.1 (fun (r0 : Int) => K (.t true (.int .i64) r0) [])) (by kernel_rfl)) (evFn_ok (mkC_all (fns := R16_Count_f) tys_ok ⟨⟨R16_rows_ok, Try.call55⟩, trivial⟩ mixed) Try.func36 (show Try.f36.body = some R16_Count_b by kernel_rfl) ⟨R16_Count_lo, R16_Count_jo, by kernel_rfl⟩)

end
end Go.Eng.A
