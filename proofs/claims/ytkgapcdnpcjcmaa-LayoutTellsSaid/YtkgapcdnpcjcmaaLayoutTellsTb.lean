/- Each of these functions is what the program computes: printed by program. -/
import Derived.Test.YtkgapcdnpcjcmaaEngT
import Derived.Test.YtkgapcdnpcjcmaaLayoutTellsP
import Derived.Test.YtkgapcdnpcjcmaaProg
import Derived.Test.YtkgapcdnpcjcmaaLayoutTellsTa
set_option linter.unusedVariables false
set_option maxRecDepth 100000
namespace Go.Eng.A
open Go Go.Eng Go.Proofs
noncomputable section

noncomputable def L13_awake_e : Ent := entOf [] fun (v : Unit) n K => L13_awake (fun (r0 : Bool) => K (.t true .bool r0) [])
noncomputable def L13_awake_f : List (Nat × Ent) := [(20, layout_Width_e), (22, layout_Start_e), (24, layout_Of_e), (27, layout_Cut_e)]
noncomputable def L13_awake_C : Cfg := mkC tys L13_awake_f
noncomputable def L13_awake_b : Code := match Try.f19.body with | some c => c | none => .skip
noncomputable def L13_awake_L : Cuts := mkL [] []
theorem L13_awake_lo : LoopsOK L13_awake_C L13_awake_L L13_awake_b := (show LoopsOK L13_awake_C L13_awake_L L13_awake_b = True by kernel_rfl).mpr trivial
theorem L13_awake_jo : JoinsOK L13_awake_C L13_awake_L L13_awake_b := (show JoinsOK L13_awake_C L13_awake_L L13_awake_b = True by kernel_rfl).mpr trivial
theorem L13_awake_ro : RngsOK L13_awake_C L13_awake_L L13_awake_b :=
  (show RngsOK L13_awake_C L13_awake_L L13_awake_b = (True) by kernel_rfl).mpr trivial
theorem L13_awake_ok : EntOK Try.prog 19 L13_awake_e :=
  entOf_ok (e := evFn L13_awake_C L13_awake_L Try.f19) (fun v n K => Eq.trans (L13_awake_def (fun (r0 : Bool) => K (.t true .bool r0) [])) (by kernel_rfl)) (evFn_ok (mkC_all (fns := L13_awake_f) tys_ok ⟨⟨layout_Width_ok, Try.call20⟩, ⟨layout_Start_ok, Try.call22⟩, ⟨layout_Of_ok, Try.call24⟩, ⟨layout_Cut_ok, Try.call27⟩, trivial⟩ mixed) Try.func19 (show Try.f19.body = some L13_awake_b by kernel_rfl) ⟨L13_awake_lo, L13_awake_jo, by kernel_rfl, L13_awake_ro⟩)

noncomputable def R13_Width_e : Ent := entOf [.tm (.int .i64)] fun (v : Int × Unit) n K => R13_Width v.1 (fun (r0 : Int) => K (.t true (.int .i64) r0) [])
noncomputable def R13_Width_f : List (Nat × Ent) := []
noncomputable def R13_Width_C : Cfg := mkC tys R13_Width_f
noncomputable def R13_Width_b : Code := match Try.f21.body with | some c => c | none => .skip
def R13_Width_y0 : Lay := ⟨16, [(0, .tm true (.int .i64)), (3, .tm true .bool)], []⟩
def R13_Width_y1 : Lay := ⟨16, [(2, .tm true (.int .i64))], []⟩
def R13_Width_y2 : Lay := ⟨16, [], []⟩
noncomputable def R13_Width_j2_c : Cut := ⟨R13_Width_y0, fun o => match o with | .ret => some R13_Width_y1 | .nrm => some R13_Width_y2 | _ => none, fun (v : (Int × Bool × Unit) × (Unit)) (K : KK) => R13_Width_j2 v.1.1 v.1.2.1 (fun (y0 : Int) => K .ret (st R13_Width_y1 ((y0, ()), (())))) (K .nrm (st R13_Width_y2 ((()), (()))))⟩
noncomputable def R13_Width_L : Cuts := mkL [] [(2, R13_Width_j2_c)]
theorem R13_Width_lo : LoopsOK R13_Width_C R13_Width_L R13_Width_b := (show LoopsOK R13_Width_C R13_Width_L R13_Width_b = True by kernel_rfl).mpr trivial
theorem R13_Width_jo : JoinsOK R13_Width_C R13_Width_L R13_Width_b :=
  (show JoinsOK R13_Width_C R13_Width_L R13_Width_b = ((JoinOK R13_Width_C R13_Width_L R13_Width_j2_c (nthB (joinsOf R13_Width_L R13_Width_b) 0) ∧ True) ∧ True) by kernel_rfl).mpr ⟨⟨fun v K => by kernel_rfl, trivial⟩, trivial⟩
theorem R13_Width_ro : RngsOK R13_Width_C R13_Width_L R13_Width_b :=
  (show RngsOK R13_Width_C R13_Width_L R13_Width_b = (True) by kernel_rfl).mpr trivial
theorem R13_Width_ok : EntOK Try.prog 21 R13_Width_e :=
  entOf_ok (e := evFn R13_Width_C R13_Width_L Try.f21) (fun v n K => Eq.trans (R13_Width_def v.1 (fun (r0 : Int) => K (.t true (.int .i64) r0) [])) (by kernel_rfl)) (evFn_ok (mkC_all (fns := R13_Width_f) tys_ok trivial mixed) Try.func21 (show Try.f21.body = some R13_Width_b by kernel_rfl) ⟨R13_Width_lo, R13_Width_jo, by kernel_rfl, R13_Width_ro⟩)

noncomputable def R13_Start_e : Ent := entOf [.tm (.int .i64)] fun (v : Int × Unit) n K => R13_Start v.1 (fun (r0 : Int) => K (.t true (.int .i64) r0) [])
noncomputable def R13_Start_f : List (Nat × Ent) := [(21, R13_Width_e)]
noncomputable def R13_Start_C : Cfg := mkC tys R13_Start_f
noncomputable def R13_Start_b : Code := match Try.f23.body with | some c => c | none => .skip
def R13_Start_y0 : Lay := ⟨19, [(0, .tm true (.int .i64)), (3, .tm true (.int .i64)), (4, .tm true (.int .i64))], []⟩
def R13_Start_y1 : Lay := ⟨19, [(3, .tm true (.int .i64))], []⟩
noncomputable def R13_Start_l3_F (k : Nat) (v : (Int × Int × Int × Unit) × (Unit)) (K : KK) : Prop := R13_Start_l3 k v.1.1 v.1.2.1 v.1.2.2.1 (fun (y0 : Int) => K (.exit 0) (st R13_Start_y1 ((y0, ()), (()))))
noncomputable def R13_Start_l3_c : Cut := ⟨R13_Start_y0, fun o => match o with | .exit 0 => some R13_Start_y1 | _ => none, fun (v : (Int × Int × Int × Unit) × (Unit)) K => ∃ k, R13_Start_l3_F k v K⟩
noncomputable def R13_Start_L : Cuts := mkL [(3, R13_Start_l3_c)] []
theorem R13_Start_lo : LoopsOK R13_Start_C R13_Start_L R13_Start_b :=
  (show LoopsOK R13_Start_C R13_Start_L R13_Start_b = ((LoopOK R13_Start_C R13_Start_L R13_Start_l3_c (nthB (loopsOf R13_Start_b) 0) ∧ True) ∧ True) by kernel_rfl).mpr ⟨⟨⟨R13_Start_l3_F, fun v K => by kernel_rfl, fun v K => by kernel_rfl, fun k v K => by kernel_rfl⟩, trivial⟩, trivial⟩
theorem R13_Start_jo : JoinsOK R13_Start_C R13_Start_L R13_Start_b := (show JoinsOK R13_Start_C R13_Start_L R13_Start_b = True by kernel_rfl).mpr trivial
theorem R13_Start_ro : RngsOK R13_Start_C R13_Start_L R13_Start_b :=
  (show RngsOK R13_Start_C R13_Start_L R13_Start_b = (True) by kernel_rfl).mpr trivial
theorem R13_Start_ok : EntOK Try.prog 23 R13_Start_e :=
  entOf_ok (e := evFn R13_Start_C R13_Start_L Try.f23) (fun v n K => Eq.trans (R13_Start_def v.1 (fun (r0 : Int) => K (.t true (.int .i64) r0) [])) (by kernel_rfl)) (evFn_ok (mkC_all (fns := R13_Start_f) tys_ok ⟨⟨R13_Width_ok, Try.call21⟩, trivial⟩ mixed) Try.func23 (show Try.f23.body = some R13_Start_b by kernel_rfl) ⟨R13_Start_lo, R13_Start_jo, by kernel_rfl, R13_Start_ro⟩)

noncomputable def R13_Of_e : Ent := entOf [.tm (.int .i64)] fun (v : Int × Unit) n K => R13_Of v.1 (fun (r0 : Int) => K (.t true (.int .i64) r0) [])
noncomputable def R13_Of_f : List (Nat × Ent) := [(23, R13_Start_e), (21, R13_Width_e)]
noncomputable def R13_Of_C : Cfg := mkC tys R13_Of_f
noncomputable def R13_Of_b : Code := match Try.f25.body with | some c => c | none => .skip
def R13_Of_y0 : Lay := ⟨22, [(0, .tm true (.int .i64)), (3, .tm true (.int .i64)), (20, .tm true .bool)], []⟩
def R13_Of_y1 : Lay := ⟨22, [(2, .tm true (.int .i64))], []⟩
def R13_Of_y2 : Lay := ⟨22, [(0, .tm true (.int .i64)), (3, .tm true (.int .i64))], []⟩
noncomputable def R13_Of_j5_c : Cut := ⟨R13_Of_y0, fun o => match o with | .ret => some R13_Of_y1 | .nrm => some R13_Of_y2 | _ => none, fun (v : (Int × Int × Bool × Unit) × (Unit)) (K : KK) => R13_Of_j5 v.1.1 v.1.2.1 v.1.2.2.1 (fun (y0 : Int) => K .ret (st R13_Of_y1 ((y0, ()), (())))) (fun (y0 : Int) (y1 : Int) => K .nrm (st R13_Of_y2 ((y0, y1, ()), (()))))⟩
def R13_Of_y3 : Lay := ⟨22, [], []⟩
noncomputable def R13_Of_l2_F (k : Nat) (v : (Int × Int × Unit) × (Unit)) (K : KK) : Prop := R13_Of_l2 k v.1.1 v.1.2.1 (fun (y0 : Int) => K .ret (st R13_Of_y1 ((y0, ()), (())))) (K (.exit 0) (st R13_Of_y3 ((()), (()))))
noncomputable def R13_Of_l2_c : Cut := ⟨R13_Of_y2, fun o => match o with | .ret => some R13_Of_y1 | .exit 0 => some R13_Of_y3 | _ => none, fun (v : (Int × Int × Unit) × (Unit)) K => ∃ k, R13_Of_l2_F k v K⟩
noncomputable def R13_Of_L : Cuts := mkL [(2, R13_Of_l2_c)] [(5, R13_Of_j5_c)]
theorem R13_Of_lo : LoopsOK R13_Of_C R13_Of_L R13_Of_b :=
  (show LoopsOK R13_Of_C R13_Of_L R13_Of_b = ((LoopOK R13_Of_C R13_Of_L R13_Of_l2_c (nthB (loopsOf R13_Of_b) 0) ∧ True) ∧ True) by kernel_rfl).mpr ⟨⟨⟨R13_Of_l2_F, fun v K => by kernel_rfl, fun v K => by kernel_rfl, fun k v K => by kernel_rfl⟩, trivial⟩, trivial⟩
theorem R13_Of_jo : JoinsOK R13_Of_C R13_Of_L R13_Of_b :=
  (show JoinsOK R13_Of_C R13_Of_L R13_Of_b = ((JoinOK R13_Of_C R13_Of_L R13_Of_j5_c (nthB (joinsOf R13_Of_L R13_Of_b) 0) ∧ True) ∧ True) by kernel_rfl).mpr ⟨⟨fun v K => by kernel_rfl, trivial⟩, trivial⟩
theorem R13_Of_ro : RngsOK R13_Of_C R13_Of_L R13_Of_b :=
  (show RngsOK R13_Of_C R13_Of_L R13_Of_b = (True) by kernel_rfl).mpr trivial
theorem R13_Of_ok : EntOK Try.prog 25 R13_Of_e :=
  entOf_ok (e := evFn R13_Of_C R13_Of_L Try.f25) (fun v n K => Eq.trans (R13_Of_def v.1 (fun (r0 : Int) => K (.t true (.int .i64) r0) [])) (by kernel_rfl)) (evFn_ok (mkC_all (fns := R13_Of_f) tys_ok ⟨⟨R13_Start_ok, Try.call23⟩, ⟨R13_Width_ok, Try.call21⟩, trivial⟩ mixed) Try.func25 (show Try.f25.body = some R13_Of_b by kernel_rfl) ⟨R13_Of_lo, R13_Of_jo, by kernel_rfl, R13_Of_ro⟩)

noncomputable def R13_Cut_e : Ent := entOf [.tm (.sl (.int .i64))] fun (v : (List Int) × Unit) n K => R13_Cut v.1 (K (.ns) []) (fun (r0 : (List (List Int))) => K (.os (n + 0)) [.val true false 22 (.row (.sl (.int .i64))) r0])
noncomputable def R13_Cut_f : List (Nat × Ent) := [(23, R13_Start_e), (21, R13_Width_e)]
noncomputable def R13_Cut_C : Cfg := mkC tys R13_Cut_f
noncomputable def R13_Cut_b : Code := match Try.f28.body with | some c => c | none => .skip
def R13_Cut_y0 : Lay := ⟨25, [(0, .tm false (.sl (.int .i64))), (3, .fx (.os 0)), (4, .tm true (.int .i64))], [.val true false 22 (.row (.sl (.int .i64)))]⟩
def R13_Cut_y1 : Lay := ⟨25, [(3, .fx (.os 0))], [.val true false 22 (.row (.sl (.int .i64)))]⟩
noncomputable def R13_Cut_l5_F (k : Nat) (v : ((List Int) × Int × Unit) × ((List (List Int)) × Unit)) (K : KK) : Prop := R13_Cut_l5 k v.1.1 v.1.2.1 v.2.1 (fun (y0 : (List (List Int))) => K (.exit 0) (st R13_Cut_y1 ((()), (y0, ()))))
noncomputable def R13_Cut_l5_c : Cut := ⟨R13_Cut_y0, fun o => match o with | .exit 0 => some R13_Cut_y1 | _ => none, fun (v : ((List Int) × Int × Unit) × ((List (List Int)) × Unit)) K => ∃ k, R13_Cut_l5_F k v K⟩
noncomputable def R13_Cut_L : Cuts := mkL [(5, R13_Cut_l5_c)] []
theorem R13_Cut_lo : LoopsOK R13_Cut_C R13_Cut_L R13_Cut_b :=
  (show LoopsOK R13_Cut_C R13_Cut_L R13_Cut_b = ((LoopOK R13_Cut_C R13_Cut_L R13_Cut_l5_c (nthB (loopsOf R13_Cut_b) 0) ∧ True) ∧ True) by kernel_rfl).mpr ⟨⟨⟨R13_Cut_l5_F, fun v K => by kernel_rfl, fun v K => by kernel_rfl, fun k v K => by kernel_rfl⟩, trivial⟩, trivial⟩
theorem R13_Cut_jo : JoinsOK R13_Cut_C R13_Cut_L R13_Cut_b := (show JoinsOK R13_Cut_C R13_Cut_L R13_Cut_b = True by kernel_rfl).mpr trivial
theorem R13_Cut_ro : RngsOK R13_Cut_C R13_Cut_L R13_Cut_b :=
  (show RngsOK R13_Cut_C R13_Cut_L R13_Cut_b = (True) by kernel_rfl).mpr trivial
theorem R13_Cut_ok : EntOK Try.prog 28 R13_Cut_e :=
  entOf_ok (e := evFn R13_Cut_C R13_Cut_L Try.f28) (fun v n K => Eq.trans (R13_Cut_def v.1 (K (.ns) []) (fun (r0 : (List (List Int))) => K (.os (n + 0)) [.val true false 22 (.row (.sl (.int .i64))) r0])) (by kernel_rfl)) (evFn_ok (mkC_all (fns := R13_Cut_f) tys_ok ⟨⟨R13_Start_ok, Try.call23⟩, ⟨R13_Width_ok, Try.call21⟩, trivial⟩ mixed) Try.func28 (show Try.f28.body = some R13_Cut_b by kernel_rfl) ⟨R13_Cut_lo, R13_Cut_jo, by kernel_rfl, R13_Cut_ro⟩)

noncomputable def R01_Same_e : Ent := entOf [.tm (.sl (.int .i64)), .tm (.sl (.int .i64))] fun (v : (List Int) × (List Int) × Unit) n K => R01_Same v.1 v.2.1 (fun (r0 : Bool) => K (.t true .bool r0) [])
noncomputable def R01_Same_f : List (Nat × Ent) := []
noncomputable def R01_Same_C : Cfg := mkC tys R01_Same_f
noncomputable def R01_Same_b : Code := match Try.f29.body with | some c => c | none => .skip
def R01_Same_y0 : Lay := ⟨26, [(0, .tm false (.sl (.int .i64))), (1, .tm false (.sl (.int .i64))), (5, .tm true (.int .i64))], []⟩
def R01_Same_y1 : Lay := ⟨26, [(4, .tm true .bool)], []⟩
def R01_Same_y2 : Lay := ⟨26, [], []⟩
noncomputable def R01_Same_l4_F (k : Nat) (v : ((List Int) × (List Int) × Int × Unit) × (Unit)) (K : KK) : Prop := R01_Same_l4 k v.1.1 v.1.2.1 v.1.2.2.1 (fun (y0 : Bool) => K .ret (st R01_Same_y1 ((y0, ()), (())))) (K (.exit 0) (st R01_Same_y2 ((()), (()))))
noncomputable def R01_Same_l4_c : Cut := ⟨R01_Same_y0, fun o => match o with | .ret => some R01_Same_y1 | .exit 0 => some R01_Same_y2 | _ => none, fun (v : ((List Int) × (List Int) × Int × Unit) × (Unit)) K => ∃ k, R01_Same_l4_F k v K⟩
noncomputable def R01_Same_L : Cuts := mkL [(4, R01_Same_l4_c)] []
theorem R01_Same_lo : LoopsOK R01_Same_C R01_Same_L R01_Same_b :=
  (show LoopsOK R01_Same_C R01_Same_L R01_Same_b = ((LoopOK R01_Same_C R01_Same_L R01_Same_l4_c (nthB (loopsOf R01_Same_b) 0) ∧ True) ∧ True) by kernel_rfl).mpr ⟨⟨⟨R01_Same_l4_F, fun v K => by kernel_rfl, fun v K => by kernel_rfl, fun k v K => by kernel_rfl⟩, trivial⟩, trivial⟩
theorem R01_Same_jo : JoinsOK R01_Same_C R01_Same_L R01_Same_b := (show JoinsOK R01_Same_C R01_Same_L R01_Same_b = True by kernel_rfl).mpr trivial
theorem R01_Same_ro : RngsOK R01_Same_C R01_Same_L R01_Same_b :=
  (show RngsOK R01_Same_C R01_Same_L R01_Same_b = (True) by kernel_rfl).mpr trivial
theorem R01_Same_ok : EntOK Try.prog 29 R01_Same_e :=
  entOf_ok (e := evFn R01_Same_C R01_Same_L Try.f29) (fun v n K => Eq.trans (R01_Same_def v.1 v.2.1 (fun (r0 : Bool) => K (.t true .bool r0) [])) (by kernel_rfl)) (evFn_ok (mkC_all (fns := R01_Same_f) tys_ok trivial mixed) Try.func29 (show Try.f29.body = some R01_Same_b by kernel_rfl) ⟨R01_Same_lo, R01_Same_jo, by kernel_rfl, R01_Same_ro⟩)

noncomputable def R01_SameAll_e : Ent := entOf [.tm (.sl (.sl (.int .i64))), .tm (.sl (.sl (.int .i64)))] fun (v : (List (List Int)) × (List (List Int)) × Unit) n K => R01_SameAll v.1 v.2.1 (fun (r0 : Bool) => K (.t true .bool r0) [])
noncomputable def R01_SameAll_f : List (Nat × Ent) := [(29, R01_Same_e)]
noncomputable def R01_SameAll_C : Cfg := mkC tys R01_SameAll_f
noncomputable def R01_SameAll_b : Code := match Try.f26.body with | some c => c | none => .skip
def R01_SameAll_y0 : Lay := ⟨27, [(0, .tm false (.sl (.sl (.int .i64)))), (1, .tm false (.sl (.sl (.int .i64)))), (5, .tm true (.int .i64))], []⟩
def R01_SameAll_y1 : Lay := ⟨27, [(4, .tm true .bool)], []⟩
def R01_SameAll_y2 : Lay := ⟨27, [], []⟩
noncomputable def R01_SameAll_l4_F (k : Nat) (v : ((List (List Int)) × (List (List Int)) × Int × Unit) × (Unit)) (K : KK) : Prop := R01_SameAll_l4 k v.1.1 v.1.2.1 v.1.2.2.1 (fun (y0 : Bool) => K .ret (st R01_SameAll_y1 ((y0, ()), (())))) (K (.exit 0) (st R01_SameAll_y2 ((()), (()))))
noncomputable def R01_SameAll_l4_c : Cut := ⟨R01_SameAll_y0, fun o => match o with | .ret => some R01_SameAll_y1 | .exit 0 => some R01_SameAll_y2 | _ => none, fun (v : ((List (List Int)) × (List (List Int)) × Int × Unit) × (Unit)) K => ∃ k, R01_SameAll_l4_F k v K⟩
noncomputable def R01_SameAll_L : Cuts := mkL [(4, R01_SameAll_l4_c)] []
theorem R01_SameAll_lo : LoopsOK R01_SameAll_C R01_SameAll_L R01_SameAll_b :=
  (show LoopsOK R01_SameAll_C R01_SameAll_L R01_SameAll_b = ((LoopOK R01_SameAll_C R01_SameAll_L R01_SameAll_l4_c (nthB (loopsOf R01_SameAll_b) 0) ∧ True) ∧ True) by kernel_rfl).mpr ⟨⟨⟨R01_SameAll_l4_F, fun v K => by kernel_rfl, fun v K => by kernel_rfl, fun k v K => by kernel_rfl⟩, trivial⟩, trivial⟩
theorem R01_SameAll_jo : JoinsOK R01_SameAll_C R01_SameAll_L R01_SameAll_b := (show JoinsOK R01_SameAll_C R01_SameAll_L R01_SameAll_b = True by kernel_rfl).mpr trivial
theorem R01_SameAll_ro : RngsOK R01_SameAll_C R01_SameAll_L R01_SameAll_b :=
  (show RngsOK R01_SameAll_C R01_SameAll_L R01_SameAll_b = (True) by kernel_rfl).mpr trivial
theorem R01_SameAll_ok : EntOK Try.prog 26 R01_SameAll_e :=
  entOf_ok (e := evFn R01_SameAll_C R01_SameAll_L Try.f26) (fun v n K => Eq.trans (R01_SameAll_def v.1 v.2.1 (fun (r0 : Bool) => K (.t true .bool r0) [])) (by kernel_rfl)) (evFn_ok (mkC_all (fns := R01_SameAll_f) tys_ok ⟨⟨R01_Same_ok, Try.call29⟩, trivial⟩ mixed) Try.func26 (show Try.f26.body = some R01_SameAll_b by kernel_rfl) ⟨R01_SameAll_lo, R01_SameAll_jo, by kernel_rfl, R01_SameAll_ro⟩)

noncomputable def slices_Grow___int_int___nil0_e : Ent := entOf [.ns, .tm (.int .i64)] fun (v : Unit × Int × Unit) n K => slices_Grow___int_int___nil0 v.2.1 (fun (r0 : (List Int)) => K (.os (n + 0)) [.val true true 3 (.row (.int .i64)) r0]) (K (.ns) [])
noncomputable def slices_Grow___int_int___nil0_f : List (Nat × Ent) := []
noncomputable def slices_Grow___int_int___nil0_C : Cfg := mkCR tys [] [] [] true slices_Grow___int_int___nil0_f
noncomputable def slices_Grow___int_int___nil0_b : Code := match Try.f61.body with | some c => c | none => .skip
noncomputable def slices_Grow___int_int___nil0_L : Cuts := { loop := lpL [], join := lpL [], rng := rcL [], bad := fun i => nmem i [2], stl := none }
theorem slices_Grow___int_int___nil0_lo : LoopsOK slices_Grow___int_int___nil0_C slices_Grow___int_int___nil0_L slices_Grow___int_int___nil0_b := (show LoopsOK slices_Grow___int_int___nil0_C slices_Grow___int_int___nil0_L slices_Grow___int_int___nil0_b = True by kernel_rfl).mpr trivial
theorem slices_Grow___int_int___nil0_jo : JoinsOK slices_Grow___int_int___nil0_C slices_Grow___int_int___nil0_L slices_Grow___int_int___nil0_b := (show JoinsOK slices_Grow___int_int___nil0_C slices_Grow___int_int___nil0_L slices_Grow___int_int___nil0_b = True by kernel_rfl).mpr trivial
theorem slices_Grow___int_int___nil0_ro : RngsOK slices_Grow___int_int___nil0_C slices_Grow___int_int___nil0_L slices_Grow___int_int___nil0_b :=
  (show RngsOK slices_Grow___int_int___nil0_C slices_Grow___int_int___nil0_L slices_Grow___int_int___nil0_b = (True) by kernel_rfl).mpr trivial
theorem slices_Grow___int_int___nil0_ok : EntOK Try.prog 61 slices_Grow___int_int___nil0_e :=
  entOf_ok (e := evFn slices_Grow___int_int___nil0_C slices_Grow___int_int___nil0_L Try.f61) (fun v n K => Eq.trans (slices_Grow___int_int___nil0_def v.2.1 (fun (r0 : (List Int)) => K (.os (n + 0)) [.val true true 3 (.row (.int .i64)) r0]) (K (.ns) [])) (by kernel_rfl)) (evFn_ok (mkCR_all (eqs := []) (its := []) (raws := []) (tr := true) (fns := slices_Grow___int_int___nil0_f) tys_ok trivial trivial trivial mixed) Try.func61 (show Try.f61.body = some slices_Grow___int_int___nil0_b by kernel_rfl) ⟨slices_Grow___int_int___nil0_lo, slices_Grow___int_int___nil0_jo, by kernel_rfl, slices_Grow___int_int___nil0_ro⟩)

end
end Go.Eng.A
