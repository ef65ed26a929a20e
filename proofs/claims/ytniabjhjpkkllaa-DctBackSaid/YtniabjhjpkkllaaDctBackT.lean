/- Each of these functions is what the program computes: printed by program. -/
import Derived.Test.YtniabjhjpkkllaaEngT
import Derived.Test.YtniabjhjpkkllaaDctBackP
import Derived.Test.YtniabjhjpkkllaaProg
import Derived.Test.YtniabjhjpkkllaaDctBackTf
set_option linter.unusedVariables false
set_option maxRecDepth 100000
namespace Go.Eng.A
open Go Go.Eng Go.Proofs
noncomputable section

noncomputable def L10_DctBack_e : Ent := entOf [.tm (.sl (.int .i64))] fun (v : (List Int) × Unit) n K => L10_DctBack v.1 (fun (r0 : Bool) => K (.t true .bool r0) [])
noncomputable def L10_DctBack_f : List (Nat × Ent) := [(11, R10_Right_e), (12, L10_awake_e), (13, trig_Make_e), (14, dct_Four_e), (15, dct_Back_e)]
noncomputable def L10_DctBack_C : Cfg := mkC tys L10_DctBack_f
noncomputable def L10_DctBack_b : Code := match Try.f3.body with | some c => c | none => .skip
def L10_DctBack_y0 : Lay := ⟨59, [(0, .tm false (.sl (.int .i64))), (5, .fx (.os 0)), (6, .tm true (.int .i64))], [.val true true 3 (.row (.int .i64))]⟩
def L10_DctBack_y1 : Lay := ⟨59, [(2, .tm true .bool)], []⟩
def L10_DctBack_y2 : Lay := ⟨59, [], []⟩
noncomputable def L10_DctBack_l9_F (k : Nat) (v : ((List Int) × Int × Unit) × ((List Int) × Unit)) (K : KK) : Prop := L10_DctBack_l9 k v.1.1 v.1.2.1 v.2.1 (fun (y0 : Bool) => K .ret (st L10_DctBack_y1 ((y0, ()), (())))) (K (.exit 0) (st L10_DctBack_y2 ((()), (()))))
noncomputable def L10_DctBack_l9_c : Cut := ⟨L10_DctBack_y0, fun o => match o with | .ret => some L10_DctBack_y1 | .exit 0 => some L10_DctBack_y2 | _ => none, fun (v : ((List Int) × Int × Unit) × ((List Int) × Unit)) K => ∃ k, L10_DctBack_l9_F k v K⟩
def L10_DctBack_y3 : Lay := ⟨59, [(0, .tm false (.sl (.int .i64))), (4, .fx (.os 0)), (5, .fx (.os 1))], [.val true true 3 (.row (.int .i64)), .val true true 3 (.row (.int .i64))]⟩
noncomputable def L10_DctBack_j6_c : Cut := ⟨L10_DctBack_y3, fun o => match o with | .ret => some L10_DctBack_y1 | _ => none, fun (v : ((List Int) × Unit) × ((List Int) × (List Int) × Unit)) (K : KK) => L10_DctBack_j6 v.1.1 v.2.1 v.2.2.1 (fun (y0 : Bool) => K .ret (st L10_DctBack_y1 ((y0, ()), (()))))⟩
def L10_DctBack_y4 : Lay := ⟨59, [(0, .tm false (.sl (.int .i64))), (3, .tm true (.ptr (.arr 512 (.int .i64)))), (4, .fx (.os 0))], [.val true true 3 (.row (.int .i64))]⟩
noncomputable def L10_DctBack_j5_c : Cut := ⟨L10_DctBack_y4, fun o => match o with | .ret => some L10_DctBack_y1 | _ => none, fun (v : ((List Int) × (List Int) × Unit) × ((List Int) × Unit)) (K : KK) => L10_DctBack_j5 v.1.1 v.1.2.1 v.2.1 (fun (y0 : Bool) => K .ret (st L10_DctBack_y1 ((y0, ()), (()))))⟩
noncomputable def L10_DctBack_L : Cuts := mkL [(9, L10_DctBack_l9_c)] [(6, L10_DctBack_j6_c), (5, L10_DctBack_j5_c)]
theorem L10_DctBack_lo : LoopsOK L10_DctBack_C L10_DctBack_L L10_DctBack_b :=
  (show LoopsOK L10_DctBack_C L10_DctBack_L L10_DctBack_b = ((LoopOK L10_DctBack_C L10_DctBack_L L10_DctBack_l9_c (nthB (loopsOf L10_DctBack_b) 0) ∧ True) ∧ True) by kernel_rfl).mpr ⟨⟨⟨L10_DctBack_l9_F, fun v K => by kernel_rfl, fun v K => by kernel_rfl, fun k v K => by kernel_rfl⟩, trivial⟩, trivial⟩
theorem L10_DctBack_jo : JoinsOK L10_DctBack_C L10_DctBack_L L10_DctBack_b :=
  (show JoinsOK L10_DctBack_C L10_DctBack_L L10_DctBack_b = ((JoinOK L10_DctBack_C L10_DctBack_L L10_DctBack_j5_c (nthB (joinsOf L10_DctBack_L L10_DctBack_b) 0) ∧ True) ∧ (JoinOK L10_DctBack_C L10_DctBack_L L10_DctBack_j6_c (nthB (joinsOf L10_DctBack_L L10_DctBack_b) 1) ∧ True) ∧ True) by kernel_rfl).mpr ⟨⟨fun v K => by kernel_rfl, trivial⟩, ⟨fun v K => by kernel_rfl, trivial⟩, trivial⟩
theorem L10_DctBack_ro : RngsOK L10_DctBack_C L10_DctBack_L L10_DctBack_b :=
  (show RngsOK L10_DctBack_C L10_DctBack_L L10_DctBack_b = (True) by kernel_rfl).mpr trivial
theorem L10_DctBack_ok : EntOK Try.prog 3 L10_DctBack_e :=
  entOf_ok (e := evFn L10_DctBack_C L10_DctBack_L Try.f3) (fun v n K => Eq.trans (L10_DctBack_def v.1 (fun (r0 : Bool) => K (.t true .bool r0) [])) (by kernel_rfl)) (evFn_ok (mkC_all (fns := L10_DctBack_f) tys_ok ⟨⟨R10_Right_ok, Try.call11⟩, ⟨L10_awake_ok, Try.call12⟩, ⟨trig_Make_ok, Try.call13⟩, ⟨dct_Four_ok, Try.call14⟩, ⟨dct_Back_ok, Try.call15⟩, trivial⟩ mixed) Try.func3 (show Try.f3.body = some L10_DctBack_b by kernel_rfl) ⟨L10_DctBack_lo, L10_DctBack_jo, by kernel_rfl, L10_DctBack_ro⟩)

end
end Go.Eng.A
