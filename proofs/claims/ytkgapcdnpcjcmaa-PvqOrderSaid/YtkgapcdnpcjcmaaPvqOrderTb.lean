/- Each of these functions is what the program computes: printed by program. -/
import Derived.Test.YtkgapcdnpcjcmaaEngT
import Derived.Test.YtkgapcdnpcjcmaaPvqOrderP
import Derived.Test.YtkgapcdnpcjcmaaProg
import Derived.Test.YtkgapcdnpcjcmaaPvqOrderTa
set_option linter.unusedVariables false
set_option maxRecDepth 100000
namespace Go.Eng.A
open Go Go.Eng Go.Proofs
noncomputable section

def pvq_Vector_e : Ent := entOf [.tm (.int .i64), .tm (.int .i64), .tm (.int .i64)] fun (v : Int × Int × Int × Unit) n K => pvq_Vector v.1 v.2.1 v.2.2.1 (fun (r0 : Bool) => K (.tu [.ns, .t true .bool r0]) []) (fun (r0 : Bool) (r1 : (List Int)) => K (.tu [.os (n + 0), .t true .bool r0]) [.val true true 3 (.row (.int .i64)) r1])
def pvq_Vector_f : List (Nat × Ent) := [(35, pvq_Count_e), (54, pvq_made_e), (56, pvq_first_e), (52, num_Abs_e)]
def pvq_Vector_C : Cfg := mkC tys pvq_Vector_f
def pvq_Vector_b : Code := match Try.f39.body with | some c => c | none => .skip
def pvq_Vector_y0 : Lay := ⟨57, [(0, .tm true (.int .i64)), (1, .tm true (.int .i64)), (2, .tm true (.int .i64)), (23, .tm true .bool)], []⟩
def pvq_Vector_y1 : Lay := ⟨57, [(6, .fx .ns), (7, .tm true .bool)], []⟩
def pvq_Vector_y2 : Lay := ⟨57, [(0, .tm true (.int .i64)), (1, .tm true (.int .i64)), (2, .tm true (.int .i64))], []⟩
def pvq_Vector_j2_c : Cut := ⟨pvq_Vector_y0, fun o => match o with | .ret => some pvq_Vector_y1 | .nrm => some pvq_Vector_y2 | _ => none, fun (v : (Int × Int × Int × Bool × Unit) × (Unit)) (K : KK) => pvq_Vector_j2 v.1.1 v.1.2.1 v.1.2.2.1 v.1.2.2.2.1 (fun (y0 : Bool) => K .ret (st pvq_Vector_y1 ((y0, ()), (())))) (fun (y0 : Int) (y1 : Int) (y2 : Int) => K .nrm (st pvq_Vector_y2 ((y0, y1, y2, ()), (()))))⟩
def pvq_Vector_y3 : Lay := ⟨57, [(0, .tm true (.int .i64)), (1, .tm true (.int .i64)), (2, .tm true (.int .i64)), (8, .tm true (.ptr (.arr 9 (.arr 25 (.int .i64))))), (9, .fx (.os 0)), (28, .tm true (.int .i64)), (29, .tm true (.int .i64))], [.val true true 3 (.row (.int .i64))]⟩
def pvq_Vector_y4 : Lay := ⟨57, [(9, .fx (.os 0))], [.val true true 3 (.row (.int .i64))]⟩
def pvq_Vector_l6_F (k : Nat) (v : (Int × Int × Int × (List (List Int)) × Int × Int × Unit) × ((List Int) × Unit)) (K : KK) : Prop := pvq_Vector_l6 k v.1.1 v.1.2.1 v.1.2.2.1 v.1.2.2.2.1 v.1.2.2.2.2.1 v.1.2.2.2.2.2.1 v.2.1 (fun (y0 : (List Int)) => K (.exit 0) (st pvq_Vector_y4 ((()), (y0, ()))))
def pvq_Vector_l6_c : Cut := ⟨pvq_Vector_y3, fun o => match o with | .exit 0 => some pvq_Vector_y4 | _ => none, fun (v : (Int × Int × Int × (List (List Int)) × Int × Int × Unit) × ((List Int) × Unit)) K => ∃ k, pvq_Vector_l6_F k v K⟩
def pvq_Vector_y5 : Lay := ⟨57, [(6, .fx (.os 0)), (7, .tm true .bool)], [.val true true 3 (.row (.int .i64))]⟩
def pvq_Vector_j3_c : Cut := ⟨pvq_Vector_y2, fun o => match o with | .ret => some pvq_Vector_y5 | _ => none, fun (v : (Int × Int × Int × Unit) × (Unit)) (K : KK) => pvq_Vector_j3 v.1.1 v.1.2.1 v.1.2.2.1 (fun (y0 : Bool) (y1 : (List Int)) => K .ret (st pvq_Vector_y5 ((y0, ()), (y1, ()))))⟩
def pvq_Vector_L : Cuts := mkL [(6, pvq_Vector_l6_c)] [(2, pvq_Vector_j2_c), (3, pvq_Vector_j3_c)]
theorem pvq_Vector_lo : LoopsOK pvq_Vector_C pvq_Vector_L pvq_Vector_b :=
  (show LoopsOK pvq_Vector_C pvq_Vector_L pvq_Vector_b = ((LoopOK pvq_Vector_C pvq_Vector_L pvq_Vector_l6_c (nthB (loopsOf pvq_Vector_b) 0) ∧ True) ∧ True) by kernel_rfl).mpr ⟨⟨⟨pvq_Vector_l6_F, fun v K => by kernel_rfl, fun v K => by kernel_rfl, fun k v K => by kernel_rfl⟩, trivial⟩, trivial⟩
theorem pvq_Vector_jo : JoinsOK pvq_Vector_C pvq_Vector_L pvq_Vector_b :=
  (show JoinsOK pvq_Vector_C pvq_Vector_L pvq_Vector_b = ((JoinOK pvq_Vector_C pvq_Vector_L pvq_Vector_j3_c (nthB (joinsOf pvq_Vector_L pvq_Vector_b) 0) ∧ True) ∧ (JoinOK pvq_Vector_C pvq_Vector_L pvq_Vector_j2_c (nthB (joinsOf pvq_Vector_L pvq_Vector_b) 1) ∧ True) ∧ True) by kernel_rfl).mpr ⟨⟨fun v K => by kernel_rfl, trivial⟩, ⟨fun v K => by kernel_rfl, trivial⟩, trivial⟩
theorem pvq_Vector_ok : EntOK Try.prog 39 pvq_Vector_e :=
  entOf_ok (e := evFn pvq_Vector_C pvq_Vector_L Try.f39) (fun v n K => Eq.trans (pvq_Vector_def v.1 v.2.1 v.2.2.1 (fun (r0 : Bool) => K (.tu [.ns, .t true .bool r0]) []) (fun (r0 : Bool) (r1 : (List Int)) => K (.tu [.os (n + 0), .t true .bool r0]) [.val true true 3 (.row (.int .i64)) r1])) (by kernel_rfl)) (evFn_ok (mkC_all (fns := pvq_Vector_f) tys_ok ⟨⟨pvq_Count_ok, Try.call35⟩, ⟨pvq_made_ok, Try.call54⟩, ⟨pvq_first_ok, Try.call56⟩, ⟨num_Abs_ok, Try.call52⟩, trivial⟩ mixed) Try.func39 (show Try.f39.body = some pvq_Vector_b by kernel_rfl) ⟨pvq_Vector_lo, pvq_Vector_jo, by kernel_rfl⟩)

def R16_far_e : Ent := entOf [.tm (.int .i64)] fun (v : Int × Unit) n K => R16_far v.1 (fun (r0 : Int) => K (.t true (.int .i64) r0) [])
def R16_far_f : List (Nat × Ent) := []
def R16_far_C : Cfg := mkC tys R16_far_f
def R16_far_b : Code := match Try.f53.body with | some c => c | none => .skip
def R16_far_L : Cuts := mkL [] []
theorem R16_far_lo : LoopsOK R16_far_C R16_far_L R16_far_b := (show LoopsOK R16_far_C R16_far_L R16_far_b = True by kernel_rfl).mpr trivial
theorem R16_far_jo : JoinsOK R16_far_C R16_far_L R16_far_b := (show JoinsOK R16_far_C R16_far_L R16_far_b = True by kernel_rfl).mpr trivial
theorem R16_far_ok : EntOK Try.prog 53 R16_far_e :=
  entOf_ok (e := evFn R16_far_C R16_far_L Try.f53) (fun v n K => Eq.trans (R16_far_def v.1 (fun (r0 : Int) => K (.t true (.int .i64) r0) [])) (by kernel_rfl)) (evFn_ok (mkC_all (fns := R16_far_f) tys_ok trivial mixed) Try.func53 (show Try.f53.body = some R16_far_b by kernel_rfl) ⟨R16_far_lo, R16_far_jo, by kernel_rfl⟩)

def R16_Less_e : Ent := entOf [.tm (.sl (.int .i64)), .tm (.sl (.int .i64))] fun (v : (List Int) × (List Int) × Unit) n K => R16_Less v.1 v.2.1 (fun (r0 : Bool) => K (.t true .bool r0) [])
def R16_Less_f : List (Nat × Ent) := [(53, R16_far_e)]
def R16_Less_C : Cfg := mkC tys R16_Less_f
def R16_Less_b : Code := match Try.f41.body with | some c => c | none => .skip
def R16_Less_y0 : Lay := ⟨58, [(0, .tm false (.sl (.int .i64))), (1, .tm false (.sl (.int .i64))), (5, .tm true (.int .i64))], []⟩
def R16_Less_y1 : Lay := ⟨58, [(4, .tm true .bool)], []⟩
def R16_Less_y2 : Lay := ⟨58, [], []⟩
def R16_Less_l2_F (k : Nat) (v : ((List Int) × (List Int) × Int × Unit) × (Unit)) (K : KK) : Prop := R16_Less_l2 k v.1.1 v.1.2.1 v.1.2.2.1 (fun (y0 : Bool) => K .ret (st R16_Less_y1 ((y0, ()), (())))) (K (.exit 0) (st R16_Less_y2 ((()), (()))))
def R16_Less_l2_c : Cut := ⟨R16_Less_y0, fun o => match o with | .ret => some R16_Less_y1 | .exit 0 => some R16_Less_y2 | _ => none, fun (v : ((List Int) × (List Int) × Int × Unit) × (Unit)) K => ∃ k, R16_Less_l2_F k v K⟩
def R16_Less_L : Cuts := mkL [(2, R16_Less_l2_c)] []
theorem R16_Less_lo : LoopsOK R16_Less_C R16_Less_L R16_Less_b :=
  (show LoopsOK R16_Less_C R16_Less_L R16_Less_b = ((LoopOK R16_Less_C R16_Less_L R16_Less_l2_c (nthB (loopsOf R16_Less_b) 0) ∧ True) ∧ True) by kernel_rfl).mpr ⟨⟨⟨R16_Less_l2_F, fun v K => by kernel_rfl, fun v K => by kernel_rfl, fun k v K => by kernel_rfl⟩, trivial⟩, trivial⟩
theorem R16_Less_jo : JoinsOK R16_Less_C R16_Less_L R16_Less_b := (show JoinsOK R16_Less_C R16_Less_L R16_Less_b = True by kernel_rfl).mpr trivial
theorem R16_Less_ok : EntOK Try.prog 41 R16_Less_e :=
  entOf_ok (e := evFn R16_Less_C R16_Less_L Try.f41) (fun v n K => Eq.trans (R16_Less_def v.1 v.2.1 (fun (r0 : Bool) => K (.t true .bool r0) [])) (by kernel_rfl)) (evFn_ok (mkC_all (fns := R16_Less_f) tys_ok ⟨⟨R16_far_ok, Try.call53⟩, trivial⟩ mixed) Try.func41 (show Try.f41.body = some R16_Less_b by kernel_rfl) ⟨R16_Less_lo, R16_Less_jo, by kernel_rfl⟩)

def pvq_Size_e : Ent := entOf [.tm (.sl (.int .i64))] fun (v : (List Int) × Unit) n K => pvq_Size v.1 (fun (r0 : Int) (r1 : Bool) => K (.tu [.t true (.int .i64) r0, .t true .bool r1]) [])
def pvq_Size_f : List (Nat × Ent) := [(52, num_Abs_e)]
def pvq_Size_C : Cfg := mkC tys pvq_Size_f
def pvq_Size_b : Code := match Try.f33.body with | some c => c | none => .skip
def pvq_Size_y0 : Lay := ⟨35, [(0, .tm false (.sl (.int .i64))), (14, .tm true .bool)], []⟩
def pvq_Size_y1 : Lay := ⟨35, [(2, .tm true (.int .i64)), (3, .tm true .bool)], []⟩
def pvq_Size_y2 : Lay := ⟨35, [(0, .tm false (.sl (.int .i64)))], []⟩
def pvq_Size_j2_c : Cut := ⟨pvq_Size_y0, fun o => match o with | .ret => some pvq_Size_y1 | .nrm => some pvq_Size_y2 | _ => none, fun (v : ((List Int) × Bool × Unit) × (Unit)) (K : KK) => pvq_Size_j2 v.1.1 v.1.2.1 (fun (y0 : Int) (y1 : Bool) => K .ret (st pvq_Size_y1 ((y0, y1, ()), (())))) (fun (y0 : (List Int)) => K .nrm (st pvq_Size_y2 ((y0, ()), (()))))⟩
def pvq_Size_y3 : Lay := ⟨35, [(4, .tm true (.int .i64)), (6, .tm true (.int .i64)), (15, .tm false (.sl (.int .i64))), (16, .tm true (.int .i64)), (17, .tm true (.int .i64)), (26, .tm true .bool)], []⟩
def pvq_Size_y4 : Lay := ⟨35, [(4, .tm true (.int .i64)), (6, .tm true (.int .i64)), (15, .tm false (.sl (.int .i64))), (16, .tm true (.int .i64)), (17, .tm true (.int .i64))], []⟩
def pvq_Size_j8_c : Cut := ⟨pvq_Size_y3, fun o => match o with | .ret => some pvq_Size_y1 | .nrm => some pvq_Size_y4 | _ => none, fun (v : (Int × Int × (List Int) × Int × Int × Bool × Unit) × (Unit)) (K : KK) => pvq_Size_j8 v.1.1 v.1.2.1 v.1.2.2.1 v.1.2.2.2.1 v.1.2.2.2.2.1 v.1.2.2.2.2.2.1 (fun (y0 : Int) (y1 : Bool) => K .ret (st pvq_Size_y1 ((y0, y1, ()), (())))) (fun (y0 : Int) (y1 : Int) (y2 : (List Int)) (y3 : Int) (y4 : Int) => K .nrm (st pvq_Size_y4 ((y0, y1, y2, y3, y4, ()), (()))))⟩
def pvq_Size_y5 : Lay := ⟨35, [(4, .tm true (.int .i64)), (15, .tm false (.sl (.int .i64))), (16, .tm true (.int .i64)), (17, .tm true (.int .i64))], []⟩
def pvq_Size_j9_c : Cut := ⟨pvq_Size_y4, fun o => match o with | .nrm => some pvq_Size_y5 | _ => none, fun (v : (Int × Int × (List Int) × Int × Int × Unit) × (Unit)) (K : KK) => pvq_Size_j9 v.1.1 v.1.2.1 v.1.2.2.1 v.1.2.2.2.1 v.1.2.2.2.2.1 (fun (y0 : Int) (y1 : (List Int)) (y2 : Int) (y3 : Int) => K .nrm (st pvq_Size_y5 ((y0, y1, y2, y3, ()), (()))))⟩
def pvq_Size_y6 : Lay := ⟨35, [(4, .tm true (.int .i64))], []⟩
def pvq_Size_l5_F (k : Nat) (v : (Int × (List Int) × Int × Int × Unit) × (Unit)) (K : KK) : Prop := pvq_Size_l5 k v.1.1 v.1.2.1 v.1.2.2.1 v.1.2.2.2.1 (fun (y0 : Int) (y1 : Bool) => K .ret (st pvq_Size_y1 ((y0, y1, ()), (())))) (fun (y0 : Int) => K (.exit 0) (st pvq_Size_y6 ((y0, ()), (()))))
def pvq_Size_l5_c : Cut := ⟨pvq_Size_y5, fun o => match o with | .ret => some pvq_Size_y1 | .exit 0 => some pvq_Size_y6 | _ => none, fun (v : (Int × (List Int) × Int × Int × Unit) × (Unit)) K => ∃ k, pvq_Size_l5_F k v K⟩
def pvq_Size_j3_c : Cut := ⟨pvq_Size_y2, fun o => match o with | .ret => some pvq_Size_y1 | _ => none, fun (v : ((List Int) × Unit) × (Unit)) (K : KK) => pvq_Size_j3 v.1.1 (fun (y0 : Int) (y1 : Bool) => K .ret (st pvq_Size_y1 ((y0, y1, ()), (()))))⟩
def pvq_Size_L : Cuts := mkL [(5, pvq_Size_l5_c)] [(2, pvq_Size_j2_c), (8, pvq_Size_j8_c), (9, pvq_Size_j9_c), (3, pvq_Size_j3_c)]
theorem pvq_Size_lo : LoopsOK pvq_Size_C pvq_Size_L pvq_Size_b :=
  (show LoopsOK pvq_Size_C pvq_Size_L pvq_Size_b = ((LoopOK pvq_Size_C pvq_Size_L pvq_Size_l5_c (nthB (loopsOf pvq_Size_b) 0) ∧ True) ∧ True) by kernel_rfl).mpr ⟨⟨⟨pvq_Size_l5_F, fun v K => by kernel_rfl, fun v K => by kernel_rfl, fun k v K => by kernel_rfl⟩, trivial⟩, trivial⟩
theorem pvq_Size_jo : JoinsOK pvq_Size_C pvq_Size_L pvq_Size_b :=
  (show JoinsOK pvq_Size_C pvq_Size_L pvq_Size_b = ((JoinOK pvq_Size_C pvq_Size_L pvq_Size_j3_c (nthB (joinsOf pvq_Size_L pvq_Size_b) 0) ∧ True) ∧ (JoinOK pvq_Size_C pvq_Size_L pvq_Size_j2_c (nthB (joinsOf pvq_Size_L pvq_Size_b) 1) ∧ True) ∧ (JoinOK pvq_Size_C pvq_Size_L pvq_Size_j9_c (nthB (joinsOf pvq_Size_L pvq_Size_b) 2) ∧ True) ∧ (JoinOK pvq_Size_C pvq_Size_L pvq_Size_j8_c (nthB (joinsOf pvq_Size_L pvq_Size_b) 3) ∧ True) ∧ True) by kernel_rfl).mpr ⟨⟨fun v K => by kernel_rfl, trivial⟩, ⟨fun v K => by kernel_rfl, trivial⟩, ⟨fun v K => by kernel_rfl, trivial⟩, ⟨fun v K => by kernel_rfl, trivial⟩, trivial⟩
theorem pvq_Size_ok : EntOK Try.prog 33 pvq_Size_e :=
  entOf_ok (e := evFn pvq_Size_C pvq_Size_L Try.f33) (fun v n K => Eq.trans (pvq_Size_def v.1 (fun (r0 : Int) (r1 : Bool) => K (.tu [.t true (.int .i64) r0, .t true .bool r1]) [])) (by kernel_rfl)) (evFn_ok (mkC_all (fns := pvq_Size_f) tys_ok ⟨⟨num_Abs_ok, Try.call52⟩, trivial⟩ mixed) Try.func33 (show Try.f33.body = some pvq_Size_b by kernel_rfl) ⟨pvq_Size_lo, pvq_Size_jo, by kernel_rfl⟩)

end
end Go.Eng.A
