/- Each of these functions is what the program computes: printed by program. -/
import Derived.Test.YtniabjhjpkkllabEngT
import Derived.Test.YtniabjhjpkkllabLapFramesP
import Derived.Test.YtniabjhjpkkllabProg
import Derived.Test.YtniabjhjpkkllabLapFramesTg
set_option linter.unusedVariables false
set_option maxRecDepth 100000
namespace Go.Eng.A
open Go Go.Eng Go.Proofs
noncomputable section

noncomputable def R07_Make_e : Ent := entOf [] fun (v : Unit) n K => R07_Make (fun (r0 : (List Int)) => K (.os (n + 0)) [.val true true 3 (.row (.int .i64)) r0])
noncomputable def R07_Make_f : List (Nat × Ent) := [(50, R07_quarter_e)]
noncomputable def R07_Make_C : Cfg := mkCE tys eqs R07_Make_f
noncomputable def R07_Make_b : Code := match Try.f27.body with | some c => c | none => .skip
def R07_Make_y0 : Lay := ⟨33, [(1, .fx (.os 0)), (2, .fx (.os 1)), (3, .tm true (.int .i64))], [.val true true 3 (.row (.int .i64)), .val true true 3 (.row (.int .i64))]⟩
def R07_Make_y1 : Lay := ⟨33, [(2, .fx (.os 0))], [.val true true 3 (.row (.int .i64))]⟩
noncomputable def R07_Make_l4_F (k : Nat) (v : (Int × Unit) × ((List Int) × (List Int) × Unit)) (K : KK) : Prop := R07_Make_l4 k v.1.1 v.2.1 v.2.2.1 (fun (y0 : (List Int)) => K (.exit 0) (st R07_Make_y1 ((()), (y0, ()))))
noncomputable def R07_Make_l4_c : Cut := ⟨R07_Make_y0, fun o => match o with | .exit 0 => some R07_Make_y1 | _ => none, fun (v : (Int × Unit) × ((List Int) × (List Int) × Unit)) K => ∃ k, R07_Make_l4_F k v K⟩
noncomputable def R07_Make_L : Cuts := mkL [(4, R07_Make_l4_c)] []
theorem R07_Make_lo : LoopsOK R07_Make_C R07_Make_L R07_Make_b :=
  (show LoopsOK R07_Make_C R07_Make_L R07_Make_b = ((LoopOK R07_Make_C R07_Make_L R07_Make_l4_c (nthB (loopsOf R07_Make_b) 0) ∧ True) ∧ True) by kernel_rfl).mpr ⟨⟨⟨R07_Make_l4_F, fun v K => by kernel_rfl, fun v K => by kernel_rfl, fun k v K => by kernel_rfl⟩, trivial⟩, trivial⟩
theorem R07_Make_jo : JoinsOK R07_Make_C R07_Make_L R07_Make_b := (show JoinsOK R07_Make_C R07_Make_L R07_Make_b = True by kernel_rfl).mpr trivial
theorem R07_Make_ro : RngsOK R07_Make_C R07_Make_L R07_Make_b :=
  (show RngsOK R07_Make_C R07_Make_L R07_Make_b = (True) by kernel_rfl).mpr trivial
theorem R07_Make_ok : EntOK Try.prog 27 R07_Make_e :=
  entOf_ok (e := evFn R07_Make_C R07_Make_L Try.f27) (fun v n K => Eq.trans (R07_Make_def (fun (r0 : (List Int)) => K (.os (n + 0)) [.val true true 3 (.row (.int .i64)) r0])) (by kernel_rfl)) (evFn_ok (mkCE_all (fns := R07_Make_f) tys_ok eqs_ok ⟨⟨R07_quarter_ok, Try.call50⟩, trivial⟩ mixed) Try.func27 (show Try.f27.body = some R07_Make_b by kernel_rfl) ⟨R07_Make_lo, R07_Make_jo, by kernel_rfl, R07_Make_ro⟩)

noncomputable def R10_sum_e : Ent := entOf [.tm (.sl (.int .i64)), .tm (.sl (.int .i64)), .tm (.int .i64)] fun (v : (List Int) × (List Int) × Int × Unit) n K => R10_sum v.1 v.2.1 v.2.2.1 (fun (r0 : Int) => K (.t true (.int .i64) r0) [])
noncomputable def R10_sum_f : List (Nat × Ent) := []
noncomputable def R10_sum_C : Cfg := mkCE tys eqs R10_sum_f
noncomputable def R10_sum_b : Code := match Try.f29.body with | some c => c | none => .skip
def R10_sum_y0 : Lay := ⟨40, [(0, .tm false (.sl (.int .i64))), (1, .tm false (.sl (.int .i64))), (2, .tm true (.int .i64)), (7, .tm true (.int .i64)), (8, .tm true (.int .i64)), (9, .tm true (.int .i64))], []⟩
def R10_sum_y1 : Lay := ⟨40, [(7, .tm true (.int .i64))], []⟩
noncomputable def R10_sum_l4_F (k : Nat) (v : ((List Int) × (List Int) × Int × Int × Int × Int × Unit) × (Unit)) (K : KK) : Prop := R10_sum_l4 k v.1.1 v.1.2.1 v.1.2.2.1 v.1.2.2.2.1 v.1.2.2.2.2.1 v.1.2.2.2.2.2.1 (fun (y0 : Int) => K (.exit 0) (st R10_sum_y1 ((y0, ()), (()))))
noncomputable def R10_sum_l4_c : Cut := ⟨R10_sum_y0, fun o => match o with | .exit 0 => some R10_sum_y1 | _ => none, fun (v : ((List Int) × (List Int) × Int × Int × Int × Int × Unit) × (Unit)) K => ∃ k, R10_sum_l4_F k v K⟩
noncomputable def R10_sum_L : Cuts := mkL [(4, R10_sum_l4_c)] []
theorem R10_sum_lo : LoopsOK R10_sum_C R10_sum_L R10_sum_b :=
  (show LoopsOK R10_sum_C R10_sum_L R10_sum_b = ((LoopOK R10_sum_C R10_sum_L R10_sum_l4_c (nthB (loopsOf R10_sum_b) 0) ∧ True) ∧ True) by kernel_rfl).mpr ⟨⟨⟨R10_sum_l4_F, fun v K => by kernel_rfl, fun v K => by kernel_rfl, fun k v K => by kernel_rfl⟩, trivial⟩, trivial⟩
theorem R10_sum_jo : JoinsOK R10_sum_C R10_sum_L R10_sum_b := (show JoinsOK R10_sum_C R10_sum_L R10_sum_b = True by kernel_rfl).mpr trivial
theorem R10_sum_ro : RngsOK R10_sum_C R10_sum_L R10_sum_b :=
  (show RngsOK R10_sum_C R10_sum_L R10_sum_b = (True) by kernel_rfl).mpr trivial
theorem R10_sum_ok : EntOK Try.prog 29 R10_sum_e :=
  entOf_ok (e := evFn R10_sum_C R10_sum_L Try.f29) (fun v n K => Eq.trans (R10_sum_def v.1 v.2.1 v.2.2.1 (fun (r0 : Int) => K (.t true (.int .i64) r0) [])) (by kernel_rfl)) (evFn_ok (mkCE_all (fns := R10_sum_f) tys_ok eqs_ok trivial mixed) Try.func29 (show Try.f29.body = some R10_sum_b by kernel_rfl) ⟨R10_sum_lo, R10_sum_jo, by kernel_rfl, R10_sum_ro⟩)

noncomputable def R10_Sums_e : Ent := entOf [.tm (.sl (.int .i64))] fun (v : (List Int) × Unit) n K => R10_Sums v.1 (fun (r0 : (List Int)) => K (.os (n + 0)) [.val true true 3 (.row (.int .i64)) r0])
noncomputable def R10_Sums_f : List (Nat × Ent) := [(27, R07_Make_e), (29, R10_sum_e)]
noncomputable def R10_Sums_C : Cfg := mkCE tys eqs R10_Sums_f
noncomputable def R10_Sums_b : Code := match Try.f44.body with | some c => c | none => .skip
def R10_Sums_y0 : Lay := ⟨21, [(0, .tm false (.sl (.int .i64))), (3, .fx (.os 0)), (4, .fx (.os 1)), (5, .tm true (.int .i64))], [.val true true 3 (.row (.int .i64)), .val true true 3 (.row (.int .i64))]⟩
def R10_Sums_y1 : Lay := ⟨21, [(4, .fx (.os 0))], [.val true true 3 (.row (.int .i64))]⟩
noncomputable def R10_Sums_l4_F (k : Nat) (v : ((List Int) × Int × Unit) × ((List Int) × (List Int) × Unit)) (K : KK) : Prop := R10_Sums_l4 k v.1.1 v.1.2.1 v.2.1 v.2.2.1 (fun (y0 : (List Int)) => K (.exit 0) (st R10_Sums_y1 ((()), (y0, ()))))
noncomputable def R10_Sums_l4_c : Cut := ⟨R10_Sums_y0, fun o => match o with | .exit 0 => some R10_Sums_y1 | _ => none, fun (v : ((List Int) × Int × Unit) × ((List Int) × (List Int) × Unit)) K => ∃ k, R10_Sums_l4_F k v K⟩
noncomputable def R10_Sums_L : Cuts := mkL [(4, R10_Sums_l4_c)] []
theorem R10_Sums_lo : LoopsOK R10_Sums_C R10_Sums_L R10_Sums_b :=
  (show LoopsOK R10_Sums_C R10_Sums_L R10_Sums_b = ((LoopOK R10_Sums_C R10_Sums_L R10_Sums_l4_c (nthB (loopsOf R10_Sums_b) 0) ∧ True) ∧ True) by kernel_rfl).mpr ⟨⟨⟨R10_Sums_l4_F, fun v K => by kernel_rfl, fun v K => by kernel_rfl, fun k v K => by kernel_rfl⟩, trivial⟩, trivial⟩
theorem R10_Sums_jo : JoinsOK R10_Sums_C R10_Sums_L R10_Sums_b := (show JoinsOK R10_Sums_C R10_Sums_L R10_Sums_b = True by kernel_rfl).mpr trivial
theorem R10_Sums_ro : RngsOK R10_Sums_C R10_Sums_L R10_Sums_b :=
  (show RngsOK R10_Sums_C R10_Sums_L R10_Sums_b = (True) by kernel_rfl).mpr trivial
theorem R10_Sums_ok : EntOK Try.prog 44 R10_Sums_e :=
  entOf_ok (e := evFn R10_Sums_C R10_Sums_L Try.f44) (fun v n K => Eq.trans (R10_Sums_def v.1 (fun (r0 : (List Int)) => K (.os (n + 0)) [.val true true 3 (.row (.int .i64)) r0])) (by kernel_rfl)) (evFn_ok (mkCE_all (fns := R10_Sums_f) tys_ok eqs_ok ⟨⟨R07_Make_ok, Try.call27⟩, ⟨R10_sum_ok, Try.call29⟩, trivial⟩ mixed) Try.func44 (show Try.f44.body = some R10_Sums_b by kernel_rfl) ⟨R10_Sums_lo, R10_Sums_jo, by kernel_rfl, R10_Sums_ro⟩)

noncomputable def R01_Mod_e : Ent := entOf [.tm (.int .i64), .tm (.int .i64)] fun (v : Int × Int × Unit) n K => R01_Mod v.1 v.2.1 (fun (r0 : Int) (r1 : Int) => K (.tu [.t true (.int .i64) r0, .t true (.int .i64) r1]) [])
noncomputable def R01_Mod_f : List (Nat × Ent) := []
noncomputable def R01_Mod_C : Cfg := mkCE tys eqs R01_Mod_f
noncomputable def R01_Mod_b : Code := match Try.f51.body with | some c => c | none => .skip
noncomputable def R01_Mod_L : Cuts := mkL [] []
theorem R01_Mod_lo : LoopsOK R01_Mod_C R01_Mod_L R01_Mod_b := (show LoopsOK R01_Mod_C R01_Mod_L R01_Mod_b = True by kernel_rfl).mpr trivial
theorem R01_Mod_jo : JoinsOK R01_Mod_C R01_Mod_L R01_Mod_b := (show JoinsOK R01_Mod_C R01_Mod_L R01_Mod_b = True by kernel_rfl).mpr trivial
theorem R01_Mod_ro : RngsOK R01_Mod_C R01_Mod_L R01_Mod_b :=
  (show RngsOK R01_Mod_C R01_Mod_L R01_Mod_b = (True) by kernel_rfl).mpr trivial
theorem R01_Mod_ok : EntOK Try.prog 51 R01_Mod_e :=
  entOf_ok (e := evFn R01_Mod_C R01_Mod_L Try.f51) (fun v n K => Eq.trans (R01_Mod_def v.1 v.2.1 (fun (r0 : Int) (r1 : Int) => K (.tu [.t true (.int .i64) r0, .t true (.int .i64) r1]) [])) (by kernel_rfl)) (evFn_ok (mkCE_all (fns := R01_Mod_f) tys_ok eqs_ok trivial mixed) Try.func51 (show Try.f51.body = some R01_Mod_b by kernel_rfl) ⟨R01_Mod_lo, R01_Mod_jo, by kernel_rfl, R01_Mod_ro⟩)

noncomputable def R01_Shr_e : Ent := entOf [.tm (.int .i64), .tm (.int .i64)] fun (v : Int × Int × Unit) n K => R01_Shr v.1 v.2.1 (fun (r0 : Int) => K (.t true (.int .i64) r0) [])
noncomputable def R01_Shr_f : List (Nat × Ent) := [(51, R01_Mod_e)]
noncomputable def R01_Shr_C : Cfg := mkCE tys eqs R01_Shr_f
noncomputable def R01_Shr_b : Code := match Try.f28.body with | some c => c | none => .skip
noncomputable def R01_Shr_L : Cuts := mkL [] []
theorem R01_Shr_lo : LoopsOK R01_Shr_C R01_Shr_L R01_Shr_b := (show LoopsOK R01_Shr_C R01_Shr_L R01_Shr_b = True by kernel_rfl).mpr trivial
theorem R01_Shr_jo : JoinsOK R01_Shr_C R01_Shr_L R01_Shr_b := (show JoinsOK R01_Shr_C R01_Shr_L R01_Shr_b = True by kernel_rfl).mpr trivial
theorem R01_Shr_ro : RngsOK R01_Shr_C R01_Shr_L R01_Shr_b :=
  (show RngsOK R01_Shr_C R01_Shr_L R01_Shr_b = (True) by kernel_rfl).mpr trivial
theorem R01_Shr_ok : EntOK Try.prog 28 R01_Shr_e :=
  entOf_ok (e := evFn R01_Shr_C R01_Shr_L Try.f28) (fun v n K => Eq.trans (R01_Shr_def v.1 v.2.1 (fun (r0 : Int) => K (.t true (.int .i64) r0) [])) (by kernel_rfl)) (evFn_ok (mkCE_all (fns := R01_Shr_f) tys_ok eqs_ok ⟨⟨R01_Mod_ok, Try.call51⟩, trivial⟩ mixed) Try.func28 (show Try.f28.body = some R01_Shr_b by kernel_rfl) ⟨R01_Shr_lo, R01_Shr_jo, by kernel_rfl, R01_Shr_ro⟩)

noncomputable def R10_Back_e : Ent := entOf [.tm (.sl (.int .i64))] fun (v : (List Int) × Unit) n K => R10_Back v.1 (K (.ns) []) (fun (r0 : (List Int)) => K (.os (n + 0)) [.val true true 3 (.row (.int .i64)) r0])
noncomputable def R10_Back_f : List (Nat × Ent) := [(8, R10_Right_e), (44, R10_Sums_e), (28, R01_Shr_e)]
noncomputable def R10_Back_C : Cfg := mkCE tys eqs R10_Back_f
noncomputable def R10_Back_b : Code := match Try.f21.body with | some c => c | none => .skip
def R10_Back_y0 : Lay := ⟨31, [(3, .tm true (.int .i64)), (4, .fx (.os 0)), (5, .fx (.os 1)), (6, .tm true (.int .i64))], [.val true true 3 (.row (.int .i64)), .val true true 3 (.row (.int .i64))]⟩
def R10_Back_y1 : Lay := ⟨31, [(5, .fx (.os 0))], [.val true true 3 (.row (.int .i64))]⟩
noncomputable def R10_Back_l9_F (k : Nat) (v : (Int × Int × Unit) × ((List Int) × (List Int) × Unit)) (K : KK) : Prop := R10_Back_l9 k v.1.1 v.1.2.1 v.2.1 v.2.2.1 (fun (y0 : (List Int)) => K (.exit 0) (st R10_Back_y1 ((()), (y0, ()))))
noncomputable def R10_Back_l9_c : Cut := ⟨R10_Back_y0, fun o => match o with | .exit 0 => some R10_Back_y1 | _ => none, fun (v : (Int × Int × Unit) × ((List Int) × (List Int) × Unit)) K => ∃ k, R10_Back_l9_F k v K⟩
def R10_Back_y2 : Lay := ⟨31, [(0, .tm false (.sl (.int .i64))), (3, .tm true (.int .i64))], []⟩
def R10_Back_y3 : Lay := ⟨31, [(2, .fx (.os 0))], [.val true true 3 (.row (.int .i64))]⟩
noncomputable def R10_Back_j6_c : Cut := ⟨R10_Back_y2, fun o => match o with | .ret => some R10_Back_y3 | _ => none, fun (v : ((List Int) × Int × Unit) × (Unit)) (K : KK) => R10_Back_j6 v.1.1 v.1.2.1 (fun (y0 : (List Int)) => K .ret (st R10_Back_y3 ((()), (y0, ()))))⟩
noncomputable def R10_Back_L : Cuts := mkL [(9, R10_Back_l9_c)] [(6, R10_Back_j6_c)]
theorem R10_Back_lo : LoopsOK R10_Back_C R10_Back_L R10_Back_b :=
  (show LoopsOK R10_Back_C R10_Back_L R10_Back_b = ((LoopOK R10_Back_C R10_Back_L R10_Back_l9_c (nthB (loopsOf R10_Back_b) 0) ∧ True) ∧ True) by kernel_rfl).mpr ⟨⟨⟨R10_Back_l9_F, fun v K => by kernel_rfl, fun v K => by kernel_rfl, fun k v K => by kernel_rfl⟩, trivial⟩, trivial⟩
theorem R10_Back_jo : JoinsOK R10_Back_C R10_Back_L R10_Back_b :=
  (show JoinsOK R10_Back_C R10_Back_L R10_Back_b = ((JoinOK R10_Back_C R10_Back_L R10_Back_j6_c (nthB (joinsOf R10_Back_L R10_Back_b) 0) ∧ True) ∧ True) by kernel_rfl).mpr ⟨⟨fun v K => by kernel_rfl, trivial⟩, trivial⟩
theorem R10_Back_ro : RngsOK R10_Back_C R10_Back_L R10_Back_b :=
  (show RngsOK R10_Back_C R10_Back_L R10_Back_b = (True) by kernel_rfl).mpr trivial
theorem R10_Back_ok : EntOK Try.prog 21 R10_Back_e :=
  entOf_ok (e := evFn R10_Back_C R10_Back_L Try.f21) (fun v n K => Eq.trans (R10_Back_def v.1 (K (.ns) []) (fun (r0 : (List Int)) => K (.os (n + 0)) [.val true true 3 (.row (.int .i64)) r0])) (by kernel_rfl)) (evFn_ok (mkCE_all (fns := R10_Back_f) tys_ok eqs_ok ⟨⟨R10_Right_ok, Try.call8⟩, ⟨R10_Sums_ok, Try.call44⟩, ⟨R01_Shr_ok, Try.call28⟩, trivial⟩ mixed) Try.func21 (show Try.f21.body = some R10_Back_b by kernel_rfl) ⟨R10_Back_lo, R10_Back_jo, by kernel_rfl, R10_Back_ro⟩)

noncomputable def R12_Pick_e : Ent := entOf [.tm (.sl (.int .i64)), .tm (.int .i64)] fun (v : (List Int) × Int × Unit) n K => R12_Pick v.1 v.2.1 (K (.ns) []) (fun (r0 : (List Int)) => K (.os (n + 0)) [.val true true 3 (.row (.int .i64)) r0])
noncomputable def R12_Pick_f : List (Nat × Ent) := []
noncomputable def R12_Pick_C : Cfg := mkCE tys eqs R12_Pick_f
noncomputable def R12_Pick_b : Code := match Try.f18.body with | some c => c | none => .skip
def R12_Pick_y0 : Lay := ⟨33, [(0, .tm false (.sl (.int .i64))), (1, .tm true (.int .i64)), (5, .fx (.os 0)), (6, .tm true (.int .i64))], [.val true true 3 (.row (.int .i64))]⟩
def R12_Pick_y1 : Lay := ⟨33, [(5, .fx (.os 0))], [.val true true 3 (.row (.int .i64))]⟩
noncomputable def R12_Pick_l5_F (k : Nat) (v : ((List Int) × Int × Int × Unit) × ((List Int) × Unit)) (K : KK) : Prop := R12_Pick_l5 k v.1.1 v.1.2.1 v.1.2.2.1 v.2.1 (fun (y0 : (List Int)) => K (.exit 0) (st R12_Pick_y1 ((()), (y0, ()))))
noncomputable def R12_Pick_l5_c : Cut := ⟨R12_Pick_y0, fun o => match o with | .exit 0 => some R12_Pick_y1 | _ => none, fun (v : ((List Int) × Int × Int × Unit) × ((List Int) × Unit)) K => ∃ k, R12_Pick_l5_F k v K⟩
noncomputable def R12_Pick_L : Cuts := mkL [(5, R12_Pick_l5_c)] []
theorem R12_Pick_lo : LoopsOK R12_Pick_C R12_Pick_L R12_Pick_b :=
  (show LoopsOK R12_Pick_C R12_Pick_L R12_Pick_b = ((LoopOK R12_Pick_C R12_Pick_L R12_Pick_l5_c (nthB (loopsOf R12_Pick_b) 0) ∧ True) ∧ True) by kernel_rfl).mpr ⟨⟨⟨R12_Pick_l5_F, fun v K => by kernel_rfl, fun v K => by kernel_rfl, fun k v K => by kernel_rfl⟩, trivial⟩, trivial⟩
theorem R12_Pick_jo : JoinsOK R12_Pick_C R12_Pick_L R12_Pick_b := (show JoinsOK R12_Pick_C R12_Pick_L R12_Pick_b = True by kernel_rfl).mpr trivial
theorem R12_Pick_ro : RngsOK R12_Pick_C R12_Pick_L R12_Pick_b :=
  (show RngsOK R12_Pick_C R12_Pick_L R12_Pick_b = (True) by kernel_rfl).mpr trivial
theorem R12_Pick_ok : EntOK Try.prog 18 R12_Pick_e :=
  entOf_ok (e := evFn R12_Pick_C R12_Pick_L Try.f18) (fun v n K => Eq.trans (R12_Pick_def v.1 v.2.1 (K (.ns) []) (fun (r0 : (List Int)) => K (.os (n + 0)) [.val true true 3 (.row (.int .i64)) r0])) (by kernel_rfl)) (evFn_ok (mkCE_all (fns := R12_Pick_f) tys_ok eqs_ok trivial mixed) Try.func18 (show Try.f18.body = some R12_Pick_b by kernel_rfl) ⟨R12_Pick_lo, R12_Pick_jo, by kernel_rfl, R12_Pick_ro⟩)

end
end Go.Eng.A
