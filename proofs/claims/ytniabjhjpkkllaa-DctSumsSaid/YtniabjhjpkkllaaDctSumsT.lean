/- Each of these functions is what the program computes: printed by program. -/
import Derived.Test.YtniabjhjpkkllaaEngT
import Derived.Test.YtniabjhjpkkllaaDctSumsP
import Derived.Test.YtniabjhjpkkllaaProg
import Derived.Test.YtniabjhjpkkllaaDctSumsTf
set_option linter.unusedVariables false
set_option maxRecDepth 100000
namespace Go.Eng.A
open Go Go.Eng Go.Proofs
noncomputable section

noncomputable def L10_DctSums_e : Ent := entOf [.tm (.sl (.int .i64)), .tm (.sl (.int .i64))] fun (v : (List Int) × (List Int) × Unit) n K => L10_DctSums v.1 v.2.1 (fun (r0 : Bool) => K (.t true .bool r0) [])
noncomputable def L10_DctSums_f : List (Nat × Ent) := [(11, R10_Right_e), (12, L10_awake_e), (13, trig_Make_e), (14, dct_Four_e)]
noncomputable def L10_DctSums_C : Cfg := mkC tys L10_DctSums_f
noncomputable def L10_DctSums_b : Code := match Try.f4.body with | some c => c | none => .skip
def L10_DctSums_y0 : Lay := ⟨141, [(0, .tm false (.sl (.int .i64))), (1, .tm false (.sl (.int .i64))), (30, .tm true .bool)], []⟩
def L10_DctSums_y1 : Lay := ⟨141, [(4, .tm true .bool)], []⟩
def L10_DctSums_y2 : Lay := ⟨141, [(0, .tm false (.sl (.int .i64))), (1, .tm false (.sl (.int .i64)))], []⟩
noncomputable def L10_DctSums_j2_c : Cut := ⟨L10_DctSums_y0, fun o => match o with | .ret => some L10_DctSums_y1 | .nrm => some L10_DctSums_y2 | _ => none, fun (v : ((List Int) × (List Int) × Bool × Unit) × (Unit)) (K : KK) => L10_DctSums_j2 v.1.1 v.1.2.1 v.1.2.2.1 (fun (y0 : Bool) => K .ret (st L10_DctSums_y1 ((y0, ()), (())))) (fun (y0 : (List Int)) (y1 : (List Int)) => K .nrm (st L10_DctSums_y2 ((y0, y1, ()), (()))))⟩
def L10_DctSums_y3 : Lay := ⟨141, [(0, .tm false (.sl (.int .i64))), (1, .tm false (.sl (.int .i64))), (5, .fx (.os 0)), (6, .fx (.os 1)), (7, .tm true (.int .i64))], [.val true true 3 (.row (.int .i64)), .val true true 3 (.row (.int .i64))]⟩
def L10_DctSums_y4 : Lay := ⟨141, [(0, .tm false (.sl (.int .i64))), (1, .tm false (.sl (.int .i64))), (5, .fx (.os 0)), (6, .fx (.os 1))], [.val true true 3 (.row (.int .i64)), .val true true 3 (.row (.int .i64))]⟩
noncomputable def L10_DctSums_l5_F (k : Nat) (v : ((List Int) × (List Int) × Int × Unit) × ((List Int) × (List Int) × Unit)) (K : KK) : Prop := L10_DctSums_l5 k v.1.1 v.1.2.1 v.1.2.2.1 v.2.1 v.2.2.1 (fun (y0 : (List Int)) (y1 : (List Int)) (y2 : (List Int)) (y3 : (List Int)) => K (.exit 0) (st L10_DctSums_y4 ((y0, y1, ()), (y2, y3, ()))))
noncomputable def L10_DctSums_l5_c : Cut := ⟨L10_DctSums_y3, fun o => match o with | .exit 0 => some L10_DctSums_y4 | _ => none, fun (v : ((List Int) × (List Int) × Int × Unit) × ((List Int) × (List Int) × Unit)) K => ∃ k, L10_DctSums_l5_F k v K⟩
def L10_DctSums_y5 : Lay := ⟨141, [(0, .tm false (.sl (.int .i64))), (9, .fx (.os 0)), (10, .fx (.os 1)), (11, .fx (.os 2)), (12, .fx (.os 3)), (13, .tm true (.int .i64))], [.val true true 3 (.row (.int .i64)), .val true true 3 (.row (.int .i64)), .val true true 3 (.row (.int .i64)), .val true true 3 (.row (.int .i64))]⟩
def L10_DctSums_y6 : Lay := ⟨141, [], []⟩
noncomputable def L10_DctSums_l14_F (k : Nat) (v : ((List Int) × Int × Unit) × ((List Int) × (List Int) × (List Int) × (List Int) × Unit)) (K : KK) : Prop := L10_DctSums_l14 k v.1.1 v.1.2.1 v.2.1 v.2.2.1 v.2.2.2.1 v.2.2.2.2.1 (fun (y0 : Bool) => K .ret (st L10_DctSums_y1 ((y0, ()), (())))) (K (.exit 2) (st L10_DctSums_y6 ((()), (()))))
noncomputable def L10_DctSums_l14_c : Cut := ⟨L10_DctSums_y5, fun o => match o with | .ret => some L10_DctSums_y1 | .exit 2 => some L10_DctSums_y6 | _ => none, fun (v : ((List Int) × Int × Unit) × ((List Int) × (List Int) × (List Int) × (List Int) × Unit)) K => ∃ k, L10_DctSums_l14_F k v K⟩
def L10_DctSums_y7 : Lay := ⟨141, [(0, .tm false (.sl (.int .i64))), (9, .fx (.os 0)), (10, .fx (.os 1)), (11, .fx (.os 2)), (12, .fx (.os 3))], [.val true true 3 (.row (.int .i64)), .val true true 3 (.row (.int .i64)), .val true true 3 (.row (.int .i64)), .val true true 3 (.row (.int .i64))]⟩
noncomputable def L10_DctSums_j11_c : Cut := ⟨L10_DctSums_y7, fun o => match o with | .ret => some L10_DctSums_y1 | _ => none, fun (v : ((List Int) × Unit) × ((List Int) × (List Int) × (List Int) × (List Int) × Unit)) (K : KK) => L10_DctSums_j11 v.1.1 v.2.1 v.2.2.1 v.2.2.2.1 v.2.2.2.2.1 (fun (y0 : Bool) => K .ret (st L10_DctSums_y1 ((y0, ()), (()))))⟩
noncomputable def L10_DctSums_j3_c : Cut := ⟨L10_DctSums_y2, fun o => match o with | .ret => some L10_DctSums_y1 | _ => none, fun (v : ((List Int) × (List Int) × Unit) × (Unit)) (K : KK) => L10_DctSums_j3 v.1.1 v.1.2.1 (fun (y0 : Bool) => K .ret (st L10_DctSums_y1 ((y0, ()), (()))))⟩
noncomputable def L10_DctSums_L : Cuts := mkL [(5, L10_DctSums_l5_c), (14, L10_DctSums_l14_c)] [(2, L10_DctSums_j2_c), (11, L10_DctSums_j11_c), (3, L10_DctSums_j3_c)]
theorem L10_DctSums_lo : LoopsOK L10_DctSums_C L10_DctSums_L L10_DctSums_b :=
  (show LoopsOK L10_DctSums_C L10_DctSums_L L10_DctSums_b = ((LoopOK L10_DctSums_C L10_DctSums_L L10_DctSums_l5_c (nthB (loopsOf L10_DctSums_b) 0) ∧ True) ∧ (LoopOK L10_DctSums_C L10_DctSums_L L10_DctSums_l14_c (nthB (loopsOf L10_DctSums_b) 1) ∧ True) ∧ True) by kernel_rfl).mpr ⟨⟨⟨L10_DctSums_l5_F, fun v K => by kernel_rfl, fun v K => by kernel_rfl, fun k v K => by kernel_rfl⟩, trivial⟩, ⟨⟨L10_DctSums_l14_F, fun v K => by kernel_rfl, fun v K => by kernel_rfl, fun k v K => by kernel_rfl⟩, trivial⟩, trivial⟩
theorem L10_DctSums_jo : JoinsOK L10_DctSums_C L10_DctSums_L L10_DctSums_b :=
  (show JoinsOK L10_DctSums_C L10_DctSums_L L10_DctSums_b = ((JoinOK L10_DctSums_C L10_DctSums_L L10_DctSums_j3_c (nthB (joinsOf L10_DctSums_L L10_DctSums_b) 0) ∧ True) ∧ (JoinOK L10_DctSums_C L10_DctSums_L L10_DctSums_j2_c (nthB (joinsOf L10_DctSums_L L10_DctSums_b) 1) ∧ True) ∧ (JoinOK L10_DctSums_C L10_DctSums_L L10_DctSums_j11_c (nthB (joinsOf L10_DctSums_L L10_DctSums_b) 2) ∧ True) ∧ True) by kernel_rfl).mpr ⟨⟨fun v K => by kernel_rfl, trivial⟩, ⟨fun v K => by kernel_rfl, trivial⟩, ⟨fun v K => by kernel_rfl, trivial⟩, trivial⟩
theorem L10_DctSums_ro : RngsOK L10_DctSums_C L10_DctSums_L L10_DctSums_b :=
  (show RngsOK L10_DctSums_C L10_DctSums_L L10_DctSums_b = (True) by kernel_rfl).mpr trivial
theorem L10_DctSums_ok : EntOK Try.prog 4 L10_DctSums_e :=
  entOf_ok (e := evFn L10_DctSums_C L10_DctSums_L Try.f4) (fun v n K => Eq.trans (L10_DctSums_def v.1 v.2.1 (fun (r0 : Bool) => K (.t true .bool r0) [])) (by kernel_rfl)) (evFn_ok (mkC_all (fns := L10_DctSums_f) tys_ok ⟨⟨R10_Right_ok, Try.call11⟩, ⟨L10_awake_ok, Try.call12⟩, ⟨trig_Make_ok, Try.call13⟩, ⟨dct_Four_ok, Try.call14⟩, trivial⟩ mixed) Try.func4 (show Try.f4.body = some L10_DctSums_b by kernel_rfl) ⟨L10_DctSums_lo, L10_DctSums_jo, by kernel_rfl, L10_DctSums_ro⟩)

end
end Go.Eng.A
