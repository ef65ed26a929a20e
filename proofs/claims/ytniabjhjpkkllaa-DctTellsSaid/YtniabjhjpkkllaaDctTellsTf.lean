/- Each of these functions is what the program computes: printed by program. -/
import Derived.Test.YtniabjhjpkkllaaEngT
import Derived.Test.YtniabjhjpkkllaaDctTellsP
import Derived.Test.YtniabjhjpkkllaaProg
import Derived.Test.YtniabjhjpkkllaaDctTellsTe
set_option linter.unusedVariables false
set_option maxRecDepth 100000
namespace Go.Eng.A
open Go Go.Eng Go.Proofs
noncomputable section

noncomputable def R10_Four_e : Ent := entOf [.tm (.sl (.int .i64))] fun (v : (List Int) × Unit) n K => R10_Four v.1 (K (.ns) []) (fun (r0 : (List Int)) => K (.os (n + 0)) [.val true true 3 (.row (.int .i64)) r0])
noncomputable def R10_Four_f : List (Nat × Ent) := [(11, R10_Right_e), (76, R07_Make_e), (77, R10_sum_e), (50, R01_Shr_e)]
noncomputable def R10_Four_C : Cfg := mkC tys R10_Four_f
noncomputable def R10_Four_b : Code := match Try.f37.body with | some c => c | none => .skip
def R10_Four_y0 : Lay := ⟨25, [(0, .tm false (.sl (.int .i64))), (3, .fx (.os 0)), (4, .fx (.os 1)), (5, .tm true (.int .i64))], [.val true true 3 (.row (.int .i64)), .val true true 3 (.row (.int .i64))]⟩
def R10_Four_y1 : Lay := ⟨25, [(4, .fx (.os 0))], [.val true true 3 (.row (.int .i64))]⟩
noncomputable def R10_Four_l6_F (k : Nat) (v : ((List Int) × Int × Unit) × ((List Int) × (List Int) × Unit)) (K : KK) : Prop := R10_Four_l6 k v.1.1 v.1.2.1 v.2.1 v.2.2.1 (fun (y0 : (List Int)) => K (.exit 0) (st R10_Four_y1 ((()), (y0, ()))))
noncomputable def R10_Four_l6_c : Cut := ⟨R10_Four_y0, fun o => match o with | .exit 0 => some R10_Four_y1 | _ => none, fun (v : ((List Int) × Int × Unit) × ((List Int) × (List Int) × Unit)) K => ∃ k, R10_Four_l6_F k v K⟩
noncomputable def R10_Four_L : Cuts := mkL [(6, R10_Four_l6_c)] []
theorem R10_Four_lo : LoopsOK R10_Four_C R10_Four_L R10_Four_b :=
  (show LoopsOK R10_Four_C R10_Four_L R10_Four_b = ((LoopOK R10_Four_C R10_Four_L R10_Four_l6_c (nthB (loopsOf R10_Four_b) 0) ∧ True) ∧ True) by kernel_rfl).mpr ⟨⟨⟨R10_Four_l6_F, fun v K => by kernel_rfl, fun v K => by kernel_rfl, fun k v K => by kernel_rfl⟩, trivial⟩, trivial⟩
theorem R10_Four_jo : JoinsOK R10_Four_C R10_Four_L R10_Four_b := (show JoinsOK R10_Four_C R10_Four_L R10_Four_b = True by kernel_rfl).mpr trivial
theorem R10_Four_ro : RngsOK R10_Four_C R10_Four_L R10_Four_b :=
  (show RngsOK R10_Four_C R10_Four_L R10_Four_b = (True) by kernel_rfl).mpr trivial
theorem R10_Four_ok : EntOK Try.prog 37 R10_Four_e :=
  entOf_ok (e := evFn R10_Four_C R10_Four_L Try.f37) (fun v n K => Eq.trans (R10_Four_def v.1 (K (.ns) []) (fun (r0 : (List Int)) => K (.os (n + 0)) [.val true true 3 (.row (.int .i64)) r0])) (by kernel_rfl)) (evFn_ok (mkC_all (fns := R10_Four_f) tys_ok ⟨⟨R10_Right_ok, Try.call11⟩, ⟨R07_Make_ok, Try.call76⟩, ⟨R10_sum_ok, Try.call77⟩, ⟨R01_Shr_ok, Try.call50⟩, trivial⟩ mixed) Try.func37 (show Try.f37.body = some R10_Four_b by kernel_rfl) ⟨R10_Four_lo, R10_Four_jo, by kernel_rfl, R10_Four_ro⟩)

noncomputable def dct_Four__nil0_e : Ent := entOf [.tm .np, .tm (.sl (.int .i64))] fun (v : Unit × (List Int) × Unit) n K => dct_Four__nil0 v.1 v.2.1 (K (.ns) [])
noncomputable def dct_Four__nil0_f : List (Nat × Ent) := []
noncomputable def dct_Four__nil0_C : Cfg := mkC tys dct_Four__nil0_f
noncomputable def dct_Four__nil0_b : Code := match Try.f14.body with | some c => c | none => .skip
noncomputable def dct_Four__nil0_L : Cuts := mkL [] []
theorem dct_Four__nil0_lo : LoopsOK dct_Four__nil0_C dct_Four__nil0_L dct_Four__nil0_b := (show LoopsOK dct_Four__nil0_C dct_Four__nil0_L dct_Four__nil0_b = True by kernel_rfl).mpr trivial
theorem dct_Four__nil0_jo : JoinsOK dct_Four__nil0_C dct_Four__nil0_L dct_Four__nil0_b := (show JoinsOK dct_Four__nil0_C dct_Four__nil0_L dct_Four__nil0_b = True by kernel_rfl).mpr trivial
theorem dct_Four__nil0_ro : RngsOK dct_Four__nil0_C dct_Four__nil0_L dct_Four__nil0_b :=
  (show RngsOK dct_Four__nil0_C dct_Four__nil0_L dct_Four__nil0_b = (True) by kernel_rfl).mpr trivial
theorem dct_Four__nil0_ok : EntOK Try.prog 14 dct_Four__nil0_e :=
  entOf_ok (e := evFn dct_Four__nil0_C dct_Four__nil0_L Try.f14) (fun v n K => Eq.trans (dct_Four__nil0_def v.1 v.2.1 (K (.ns) [])) (by kernel_rfl)) (evFn_ok (mkC_all (fns := dct_Four__nil0_f) tys_ok trivial mixed) Try.func14 (show Try.f14.body = some dct_Four__nil0_b by kernel_rfl) ⟨dct_Four__nil0_lo, dct_Four__nil0_jo, by kernel_rfl, dct_Four__nil0_ro⟩)

noncomputable def dct_Back__nil0_e : Ent := entOf [.tm .np, .tm (.sl (.int .i64))] fun (v : Unit × (List Int) × Unit) n K => dct_Back__nil0 v.1 v.2.1 (K (.ns) [])
noncomputable def dct_Back__nil0_f : List (Nat × Ent) := []
noncomputable def dct_Back__nil0_C : Cfg := mkC tys dct_Back__nil0_f
noncomputable def dct_Back__nil0_b : Code := match Try.f15.body with | some c => c | none => .skip
noncomputable def dct_Back__nil0_L : Cuts := mkL [] []
theorem dct_Back__nil0_lo : LoopsOK dct_Back__nil0_C dct_Back__nil0_L dct_Back__nil0_b := (show LoopsOK dct_Back__nil0_C dct_Back__nil0_L dct_Back__nil0_b = True by kernel_rfl).mpr trivial
theorem dct_Back__nil0_jo : JoinsOK dct_Back__nil0_C dct_Back__nil0_L dct_Back__nil0_b := (show JoinsOK dct_Back__nil0_C dct_Back__nil0_L dct_Back__nil0_b = True by kernel_rfl).mpr trivial
theorem dct_Back__nil0_ro : RngsOK dct_Back__nil0_C dct_Back__nil0_L dct_Back__nil0_b :=
  (show RngsOK dct_Back__nil0_C dct_Back__nil0_L dct_Back__nil0_b = (True) by kernel_rfl).mpr trivial
theorem dct_Back__nil0_ok : EntOK Try.prog 15 dct_Back__nil0_e :=
  entOf_ok (e := evFn dct_Back__nil0_C dct_Back__nil0_L Try.f15) (fun v n K => Eq.trans (dct_Back__nil0_def v.1 v.2.1 (K (.ns) [])) (by kernel_rfl)) (evFn_ok (mkC_all (fns := dct_Back__nil0_f) tys_ok trivial mixed) Try.func15 (show Try.f15.body = some dct_Back__nil0_b by kernel_rfl) ⟨dct_Back__nil0_lo, dct_Back__nil0_jo, by kernel_rfl, dct_Back__nil0_ro⟩)

noncomputable def dct_Fast__nil0_e : Ent := entOf [.tm .np, .tm (.sl (.int .i64))] fun (v : Unit × (List Int) × Unit) n K => dct_Fast__nil0 v.1 v.2.1 (K (.ns) [])
noncomputable def dct_Fast__nil0_f : List (Nat × Ent) := []
noncomputable def dct_Fast__nil0_C : Cfg := mkC tys dct_Fast__nil0_f
noncomputable def dct_Fast__nil0_b : Code := match Try.f39.body with | some c => c | none => .skip
noncomputable def dct_Fast__nil0_L : Cuts := { loop := lpL [], join := lpL [], rng := rcL [], bad := fun i => nmem i [9], stl := none }
theorem dct_Fast__nil0_lo : LoopsOK dct_Fast__nil0_C dct_Fast__nil0_L dct_Fast__nil0_b :=
  (show LoopsOK dct_Fast__nil0_C dct_Fast__nil0_L dct_Fast__nil0_b = ((True) ∧ (True) ∧ True) by kernel_rfl).mpr ⟨trivial, trivial, trivial⟩
theorem dct_Fast__nil0_jo : JoinsOK dct_Fast__nil0_C dct_Fast__nil0_L dct_Fast__nil0_b := (show JoinsOK dct_Fast__nil0_C dct_Fast__nil0_L dct_Fast__nil0_b = True by kernel_rfl).mpr trivial
theorem dct_Fast__nil0_ro : RngsOK dct_Fast__nil0_C dct_Fast__nil0_L dct_Fast__nil0_b :=
  (show RngsOK dct_Fast__nil0_C dct_Fast__nil0_L dct_Fast__nil0_b = (True) by kernel_rfl).mpr trivial
theorem dct_Fast__nil0_ok : EntOK Try.prog 39 dct_Fast__nil0_e :=
  entOf_ok (e := evFn dct_Fast__nil0_C dct_Fast__nil0_L Try.f39) (fun v n K => Eq.trans (dct_Fast__nil0_def v.1 v.2.1 (K (.ns) [])) (by kernel_rfl)) (evFn_ok (mkC_all (fns := dct_Fast__nil0_f) tys_ok trivial mixed) Try.func39 (show Try.f39.body = some dct_Fast__nil0_b by kernel_rfl) ⟨dct_Fast__nil0_lo, dct_Fast__nil0_jo, by kernel_rfl, dct_Fast__nil0_ro⟩)

end
end Go.Eng.A
