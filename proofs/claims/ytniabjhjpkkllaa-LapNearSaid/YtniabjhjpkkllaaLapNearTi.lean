/- Each of these functions is what the program computes: printed by program. -/
import Derived.Test.YtniabjhjpkkllaaEngT
import Derived.Test.YtniabjhjpkkllaaLapNearP
import Derived.Test.YtniabjhjpkkllaaProg
import Derived.Test.YtniabjhjpkkllaaLapNearTh
set_option linter.unusedVariables false
set_option maxRecDepth 100000
namespace Go.Eng.A
open Go Go.Eng Go.Proofs
noncomputable section

noncomputable def R07_Make_e : Ent := entOf [] fun (v : Unit) n K => R07_Make (fun (r0 : (List Int)) => K (.os (n + 0)) [.val true true 3 (.row (.int .i64)) r0])
noncomputable def R07_Make_f : List (Nat × Ent) := [(88, R07_quarter_e)]
noncomputable def R07_Make_C : Cfg := mkCE tys eqs R07_Make_f
noncomputable def R07_Make_b : Code := match Try.f76.body with | some c => c | none => .skip
def R07_Make_y0 : Lay := ⟨33, [(1, .fx (.os 0)), (2, .fx (.os 1)), (3, .tm true (.int .i64))], [.val true true 3 (.row (.int .i64)), .val true true 3 (.row (.int .i64))]⟩
def R07_Make_y1 : Lay := ⟨33, [(2, .fx (.os 0))], [.val true true 3 (.row (.int .i64))]⟩
noncomputable def R07_Make_l4_F (k : Nat) (v : (Int × Unit) × ((List Int) × (List Int) × Unit)) (K : KK) : Prop := R07_Make_l4 k v.1.1 v.2.1 v.2.2.1 (fun (y0 : (List Int)) => K (.exit 0) (st R07_Make_y1 ((()), (y0, ()))))
noncomputable def R07_Make_l4_c : Cut := ⟨R07_Make_y0, fun o => match o with | .exit 0 => some R07_Make_y1 | _ => none, fun (v : (Int × Unit) × ((List Int) × (List Int) × Unit)) K => ∃ k, R07_Make_l4_F k v K⟩
noncomputable def R07_Make_L : Cuts := mkL [(4, R07_Make_l4_c)] []
theorem R07_Make_lo : LoopsOK R07_Make_C R07_Make_L R07_Make_b :=
  (show LoopsOK R07_Make_C R07_Make_L R07_Make_b = ((LoopOK R07_Make_C R07_Make_L R07_Make_l4_c (nthB (loopsOf R07_Make_b) 0) ∧ True) ∧ True) by kernel_rfl).mpr ⟨⟨⟨R07_Make_l4_F, fun v K => by kernel_rfl, fun v K => by kernel_rfl, fun k v K => by kernel_rfl⟩, trivial⟩, trivial⟩
theorem R07_Make_jo : JoinsOK R07_Make_C R07_Make_L R07_Make_b := (show JoinsOK R07_Make_C R07_Make_L R07_Make_b = True by kernel_rfl).mpr trivial
theorem R07_Make_ro : RngsOK R07_Make_C R07_Make_L R07_Make_b :=
  (show RngsOK R07_Make_C R07_Make_L R07_Make_b = (True) by kernel_rfl).mpr trivial
theorem R07_Make_ok : EntOK Try.prog 76 R07_Make_e :=
  entOf_ok (e := evFn R07_Make_C R07_Make_L Try.f76) (fun v n K => Eq.trans (R07_Make_def (fun (r0 : (List Int)) => K (.os (n + 0)) [.val true true 3 (.row (.int .i64)) r0])) (by kernel_rfl)) (evFn_ok (mkCE_all (fns := R07_Make_f) tys_ok eqs_ok ⟨⟨R07_quarter_ok, Try.call88⟩, trivial⟩ mixed) Try.func76 (show Try.f76.body = some R07_Make_b by kernel_rfl) ⟨R07_Make_lo, R07_Make_jo, by kernel_rfl, R07_Make_ro⟩)

noncomputable def R10_sum_e : Ent := entOf [.tm (.sl (.int .i64)), .tm (.sl (.int .i64)), .tm (.int .i64)] fun (v : (List Int) × (List Int) × Int × Unit) n K => R10_sum v.1 v.2.1 v.2.2.1 (fun (r0 : Int) => K (.t true (.int .i64) r0) [])
noncomputable def R10_sum_f : List (Nat × Ent) := []
noncomputable def R10_sum_C : Cfg := mkCE tys eqs R10_sum_f
noncomputable def R10_sum_b : Code := match Try.f77.body with | some c => c | none => .skip
def R10_sum_y0 : Lay := ⟨40, [(0, .tm false (.sl (.int .i64))), (1, .tm false (.sl (.int .i64))), (2, .tm true (.int .i64)), (7, .tm true (.int .i64)), (8, .tm true (.int .i64)), (9, .tm true (.int .i64))], []⟩
def R10_sum_y1 : Lay := ⟨40, [(7, .tm true (.int .i64))], []⟩
noncomputable def R10_sum_l4_F (k : Nat) (v : ((List Int) × (List Int) × Int × Int × Int × Int × Unit) × (Unit)) (K : KK) : Prop := R10_sum_l4 k v.1.1 v.1.2.1 v.1.2.2.1 v.1.2.2.2.1 v.1.2.2.2.2.1 v.1.2.2.2.2.2.1 (fun (y0 : Int) => K (.exit 0) (st R10_sum_y1 ((y0, ()), (()))))
noncomputable def R10_sum_l4_c : Cut := ⟨R10_sum_y0, fun o => match o with | .exit 0 => some R10_sum_y1 | _ => none, fun (v : ((List Int) × (List Int) × Int × Int × Int × Int × Unit) × (Unit)) K => ∃ k, R10_sum_l4_F k v K⟩
noncomputable def R10_sum_L : Cuts := mkL [(4, R10_sum_l4_c)] []
theorem R10_sum_lo : LoopsOK R10_sum_C R10_sum_L R10_sum_b :=
  (show LoopsOK R10_sum_C R10_sum_L R10_sum_b = ((LoopOK R10_sum_C R10_sum_L R10_sum_l4_c (nthB (loopsOf R10_sum_b) 0) ∧ True) ∧ True) by kernel_rfl).mpr ⟨⟨⟨R10_sum_l4_F, fun v K => by kernel_rfl, fun v K => by kernel_rfl, fun k v K => by kernel_rfl⟩, trivial⟩, trivial⟩
theorem R10_sum_jo : JoinsOK R10_sum_C R10_sum_L R10_sum_b := (show JoinsOK R10_sum_C R10_sum_L R10_sum_b = True by kernel_rfl).mpr trivial
theorem R10_sum_ro : RngsOK R10_sum_C R10_sum_L R10_sum_b :=
  (show RngsOK R10_sum_C R10_sum_L R10_sum_b = (True) by kernel_rfl).mpr trivial
theorem R10_sum_ok : EntOK Try.prog 77 R10_sum_e :=
  entOf_ok (e := evFn R10_sum_C R10_sum_L Try.f77) (fun v n K => Eq.trans (R10_sum_def v.1 v.2.1 v.2.2.1 (fun (r0 : Int) => K (.t true (.int .i64) r0) [])) (by kernel_rfl)) (evFn_ok (mkCE_all (fns := R10_sum_f) tys_ok eqs_ok trivial mixed) Try.func77 (show Try.f77.body = some R10_sum_b by kernel_rfl) ⟨R10_sum_lo, R10_sum_jo, by kernel_rfl, R10_sum_ro⟩)

noncomputable def R10_Sums_e : Ent := entOf [.tm (.sl (.int .i64))] fun (v : (List Int) × Unit) n K => R10_Sums v.1 (fun (r0 : (List Int)) => K (.os (n + 0)) [.val true true 3 (.row (.int .i64)) r0])
noncomputable def R10_Sums_f : List (Nat × Ent) := [(76, R07_Make_e), (77, R10_sum_e)]
noncomputable def R10_Sums_C : Cfg := mkCE tys eqs R10_Sums_f
noncomputable def R10_Sums_b : Code := match Try.f78.body with | some c => c | none => .skip
def R10_Sums_y0 : Lay := ⟨21, [(0, .tm false (.sl (.int .i64))), (3, .fx (.os 0)), (4, .fx (.os 1)), (5, .tm true (.int .i64))], [.val true true 3 (.row (.int .i64)), .val true true 3 (.row (.int .i64))]⟩
def R10_Sums_y1 : Lay := ⟨21, [(4, .fx (.os 0))], [.val true true 3 (.row (.int .i64))]⟩
noncomputable def R10_Sums_l4_F (k : Nat) (v : ((List Int) × Int × Unit) × ((List Int) × (List Int) × Unit)) (K : KK) : Prop := R10_Sums_l4 k v.1.1 v.1.2.1 v.2.1 v.2.2.1 (fun (y0 : (List Int)) => K (.exit 0) (st R10_Sums_y1 ((()), (y0, ()))))
noncomputable def R10_Sums_l4_c : Cut := ⟨R10_Sums_y0, fun o => match o with | .exit 0 => some R10_Sums_y1 | _ => none, fun (v : ((List Int) × Int × Unit) × ((List Int) × (List Int) × Unit)) K => ∃ k, R10_Sums_l4_F k v K⟩
noncomputable def R10_Sums_L : Cuts := mkL [(4, R10_Sums_l4_c)] []
theorem R10_Sums_lo : LoopsOK R10_Sums_C R10_Sums_L R10_Sums_b :=
  (show LoopsOK R10_Sums_C R10_Sums_L R10_Sums_b = ((LoopOK R10_Sums_C R10_Sums_L R10_Sums_l4_c (nthB (loopsOf R10_Sums_b) 0) ∧ True) ∧ True) by kernel_rfl).mpr ⟨⟨⟨R10_Sums_l4_F, fun v K => by kernel_rfl, fun v K => by kernel_rfl, fun k v K => by kernel_rfl⟩, trivial⟩, trivial⟩
theorem R10_Sums_jo : JoinsOK R10_Sums_C R10_Sums_L R10_Sums_b := (show JoinsOK R10_Sums_C R10_Sums_L R10_Sums_b = True by kernel_rfl).mpr trivial
theorem R10_Sums_ro : RngsOK R10_Sums_C R10_Sums_L R10_Sums_b :=
  (show RngsOK R10_Sums_C R10_Sums_L R10_Sums_b = (True) by kernel_rfl).mpr trivial
theorem R10_Sums_ok : EntOK Try.prog 78 R10_Sums_e :=
  entOf_ok (e := evFn R10_Sums_C R10_Sums_L Try.f78) (fun v n K => Eq.trans (R10_Sums_def v.1 (fun (r0 : (List Int)) => K (.os (n + 0)) [.val true true 3 (.row (.int .i64)) r0])) (by kernel_rfl)) (evFn_ok (mkCE_all (fns := R10_Sums_f) tys_ok eqs_ok ⟨⟨R07_Make_ok, Try.call76⟩, ⟨R10_sum_ok, Try.call77⟩, trivial⟩ mixed) Try.func78 (show Try.f78.body = some R10_Sums_b by kernel_rfl) ⟨R10_Sums_lo, R10_Sums_jo, by kernel_rfl, R10_Sums_ro⟩)

noncomputable def R12_sums_e : Ent := entOf [.tm (.sl (.int .i64))] fun (v : (List Int) × Unit) n K => R12_sums v.1 (fun (r0 : Int) (r1 : (List Int)) => K (.tu [.os (n + 0), .t true (.int .i64) r0]) [.val true true 3 (.row (.int .i64)) r1])
noncomputable def R12_sums_f : List (Nat × Ent) := [(78, R10_Sums_e)]
noncomputable def R12_sums_C : Cfg := mkCE tys eqs R12_sums_f
noncomputable def R12_sums_b : Code := match Try.f71.body with | some c => c | none => .skip
noncomputable def R12_sums_L : Cuts := mkL [] []
theorem R12_sums_lo : LoopsOK R12_sums_C R12_sums_L R12_sums_b := (show LoopsOK R12_sums_C R12_sums_L R12_sums_b = True by kernel_rfl).mpr trivial
theorem R12_sums_jo : JoinsOK R12_sums_C R12_sums_L R12_sums_b := (show JoinsOK R12_sums_C R12_sums_L R12_sums_b = True by kernel_rfl).mpr trivial
theorem R12_sums_ro : RngsOK R12_sums_C R12_sums_L R12_sums_b :=
  (show RngsOK R12_sums_C R12_sums_L R12_sums_b = (True) by kernel_rfl).mpr trivial
theorem R12_sums_ok : EntOK Try.prog 71 R12_sums_e :=
  entOf_ok (e := evFn R12_sums_C R12_sums_L Try.f71) (fun v n K => Eq.trans (R12_sums_def v.1 (fun (r0 : Int) (r1 : (List Int)) => K (.tu [.os (n + 0), .t true (.int .i64) r0]) [.val true true 3 (.row (.int .i64)) r1])) (by kernel_rfl)) (evFn_ok (mkCE_all (fns := R12_sums_f) tys_ok eqs_ok ⟨⟨R10_Sums_ok, Try.call78⟩, trivial⟩ mixed) Try.func71 (show Try.f71.body = some R12_sums_b by kernel_rfl) ⟨R12_sums_lo, R12_sums_jo, by kernel_rfl, R12_sums_ro⟩)

noncomputable def R11_W_e : Ent := entOf [] fun (v : Unit) n K => R11_W (fun (r0 : (List Int)) => K (.os (n + 0)) [.val true true 3 (.row (.int .i64)) r0])
noncomputable def R11_W_f : List (Nat × Ent) := []
noncomputable def R11_W_C : Cfg := mkCE tys eqs R11_W_f
noncomputable def R11_W_b : Code := match Try.f72.body with | some c => c | none => .skip
noncomputable def R11_W_L : Cuts := mkL [] []
theorem R11_W_lo : LoopsOK R11_W_C R11_W_L R11_W_b := (show LoopsOK R11_W_C R11_W_L R11_W_b = True by kernel_rfl).mpr trivial
theorem R11_W_jo : JoinsOK R11_W_C R11_W_L R11_W_b := (show JoinsOK R11_W_C R11_W_L R11_W_b = True by kernel_rfl).mpr trivial
theorem R11_W_ro : RngsOK R11_W_C R11_W_L R11_W_b :=
  (show RngsOK R11_W_C R11_W_L R11_W_b = (True) by kernel_rfl).mpr trivial
theorem R11_W_ok : EntOK Try.prog 72 R11_W_e :=
  entOf_ok (e := evFn R11_W_C R11_W_L Try.f72) (fun v n K => Eq.trans (R11_W_def (fun (r0 : (List Int)) => K (.os (n + 0)) [.val true true 3 (.row (.int .i64)) r0])) (by kernel_rfl)) (evFn_ok (mkCE_all (fns := R11_W_f) tys_ok eqs_ok trivial mixed) Try.func72 (show Try.f72.body = some R11_W_b by kernel_rfl) ⟨R11_W_lo, R11_W_jo, by kernel_rfl, R11_W_ro⟩)

noncomputable def R01_Mod_e : Ent := entOf [.tm (.int .i64), .tm (.int .i64)] fun (v : Int × Int × Unit) n K => R01_Mod v.1 v.2.1 (fun (r0 : Int) (r1 : Int) => K (.tu [.t true (.int .i64) r0, .t true (.int .i64) r1]) [])
noncomputable def R01_Mod_f : List (Nat × Ent) := []
noncomputable def R01_Mod_C : Cfg := mkCE tys eqs R01_Mod_f
noncomputable def R01_Mod_b : Code := match Try.f74.body with | some c => c | none => .skip
noncomputable def R01_Mod_L : Cuts := mkL [] []
theorem R01_Mod_lo : LoopsOK R01_Mod_C R01_Mod_L R01_Mod_b := (show LoopsOK R01_Mod_C R01_Mod_L R01_Mod_b = True by kernel_rfl).mpr trivial
theorem R01_Mod_jo : JoinsOK R01_Mod_C R01_Mod_L R01_Mod_b := (show JoinsOK R01_Mod_C R01_Mod_L R01_Mod_b = True by kernel_rfl).mpr trivial
theorem R01_Mod_ro : RngsOK R01_Mod_C R01_Mod_L R01_Mod_b :=
  (show RngsOK R01_Mod_C R01_Mod_L R01_Mod_b = (True) by kernel_rfl).mpr trivial
theorem R01_Mod_ok : EntOK Try.prog 74 R01_Mod_e :=
  entOf_ok (e := evFn R01_Mod_C R01_Mod_L Try.f74) (fun v n K => Eq.trans (R01_Mod_def v.1 v.2.1 (fun (r0 : Int) (r1 : Int) => K (.tu [.t true (.int .i64) r0, .t true (.int .i64) r1]) [])) (by kernel_rfl)) (evFn_ok (mkCE_all (fns := R01_Mod_f) tys_ok eqs_ok trivial mixed) Try.func74 (show Try.f74.body = some R01_Mod_b by kernel_rfl) ⟨R01_Mod_lo, R01_Mod_jo, by kernel_rfl, R01_Mod_ro⟩)

noncomputable def R12_parts_e : Ent := entOf [.tm (.int .i64), .tm (.int .i64), .tm (.int .i64)] fun (v : Int × Int × Int × Unit) n K => R12_parts v.1 v.2.1 v.2.2.1 (fun (r0 : Int) => K (.t true (.int .i64) r0) [])
noncomputable def R12_parts_f : List (Nat × Ent) := [(74, R01_Mod_e)]
noncomputable def R12_parts_C : Cfg := mkCE tys eqs R12_parts_f
noncomputable def R12_parts_b : Code := match Try.f73.body with | some c => c | none => .skip
noncomputable def R12_parts_L : Cuts := mkL [] []
theorem R12_parts_lo : LoopsOK R12_parts_C R12_parts_L R12_parts_b := (show LoopsOK R12_parts_C R12_parts_L R12_parts_b = True by kernel_rfl).mpr trivial
theorem R12_parts_jo : JoinsOK R12_parts_C R12_parts_L R12_parts_b := (show JoinsOK R12_parts_C R12_parts_L R12_parts_b = True by kernel_rfl).mpr trivial
theorem R12_parts_ro : RngsOK R12_parts_C R12_parts_L R12_parts_b :=
  (show RngsOK R12_parts_C R12_parts_L R12_parts_b = (True) by kernel_rfl).mpr trivial
theorem R12_parts_ok : EntOK Try.prog 73 R12_parts_e :=
  entOf_ok (e := evFn R12_parts_C R12_parts_L Try.f73) (fun v n K => Eq.trans (R12_parts_def v.1 v.2.1 v.2.2.1 (fun (r0 : Int) => K (.t true (.int .i64) r0) [])) (by kernel_rfl)) (evFn_ok (mkCE_all (fns := R12_parts_f) tys_ok eqs_ok ⟨⟨R01_Mod_ok, Try.call74⟩, trivial⟩ mixed) Try.func73 (show Try.f73.body = some R12_parts_b by kernel_rfl) ⟨R12_parts_lo, R12_parts_jo, by kernel_rfl, R12_parts_ro⟩)

end
end Go.Eng.A
