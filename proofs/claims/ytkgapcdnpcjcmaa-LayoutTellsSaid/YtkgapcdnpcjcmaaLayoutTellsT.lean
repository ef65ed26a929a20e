/- Each of these functions is what the program computes: printed by program. -/
import Derived.Test.YtkgapcdnpcjcmaaEngT
import Derived.Test.YtkgapcdnpcjcmaaLayoutTellsP
import Derived.Test.YtkgapcdnpcjcmaaProg
import Derived.Test.YtkgapcdnpcjcmaaLayoutTellsTc
set_option linter.unusedVariables false
set_option maxRecDepth 100000
namespace Go.Eng.A
open Go Go.Eng Go.Proofs
noncomputable section

noncomputable def L13_LayoutTells_e : Ent := entOf [.tm (.int .i64), .tm (.sl (.int .i64)), .tm (.sl (.sl (.int .i64)))] fun (v : Int × (List Int) × (List (List Int)) × Unit) n K => L13_LayoutTells v.1 v.2.1 v.2.2.1 (fun (r0 : Bool) => K (.t true .bool r0) [])
noncomputable def L13_LayoutTells_f : List (Nat × Ent) := [(19, L13_awake_e), (20, layout_Width_e), (21, R13_Width_e), (22, layout_Start_e), (23, R13_Start_e), (24, layout_Of_e), (25, R13_Of_e), (27, layout_Cut_e), (28, R13_Cut_e), (26, R01_SameAll_e), (30, layout_Join_e), (31, R13_Join_e), (29, R01_Same_e)]
noncomputable def L13_LayoutTells_C : Cfg := mkC tys L13_LayoutTells_f
noncomputable def L13_LayoutTells_b : Code := match Try.f5.body with | some c => c | none => .skip
def L13_LayoutTells_y0 : Lay := ⟨66, [(0, .tm true (.int .i64)), (1, .tm false (.sl (.int .i64))), (2, .tm false (.sl (.sl (.int .i64)))), (15, .tm true .bool)], []⟩
def L13_LayoutTells_y1 : Lay := ⟨66, [(6, .tm true .bool)], []⟩
def L13_LayoutTells_y2 : Lay := ⟨66, [(0, .tm true (.int .i64)), (1, .tm false (.sl (.int .i64))), (2, .tm false (.sl (.sl (.int .i64))))], []⟩
noncomputable def L13_LayoutTells_j2_c : Cut := ⟨L13_LayoutTells_y0, fun o => match o with | .ret => some L13_LayoutTells_y1 | .nrm => some L13_LayoutTells_y2 | _ => none, fun (v : (Int × (List Int) × (List (List Int)) × Bool × Unit) × (Unit)) (K : KK) => L13_LayoutTells_j2 v.1.1 v.1.2.1 v.1.2.2.1 v.1.2.2.2.1 (fun (y0 : Bool) => K .ret (st L13_LayoutTells_y1 ((y0, ()), (())))) (fun (y0 : Int) (y1 : (List Int)) (y2 : (List (List Int))) => K .nrm (st L13_LayoutTells_y2 ((y0, y1, y2, ()), (()))))⟩
def L13_LayoutTells_y3 : Lay := ⟨66, [(0, .tm true (.int .i64)), (1, .tm false (.sl (.int .i64))), (2, .tm false (.sl (.sl (.int .i64)))), (7, .tm true (.int .i64))], []⟩
noncomputable def L13_LayoutTells_l4_F (k : Nat) (v : (Int × (List Int) × (List (List Int)) × Int × Unit) × (Unit)) (K : KK) : Prop := L13_LayoutTells_l4 k v.1.1 v.1.2.1 v.1.2.2.1 v.1.2.2.2.1 (fun (y0 : Bool) => K .ret (st L13_LayoutTells_y1 ((y0, ()), (())))) (fun (y0 : Int) (y1 : (List Int)) (y2 : (List (List Int))) => K (.exit 0) (st L13_LayoutTells_y2 ((y0, y1, y2, ()), (()))))
noncomputable def L13_LayoutTells_l4_c : Cut := ⟨L13_LayoutTells_y3, fun o => match o with | .ret => some L13_LayoutTells_y1 | .exit 0 => some L13_LayoutTells_y2 | _ => none, fun (v : (Int × (List Int) × (List (List Int)) × Int × Unit) × (Unit)) K => ∃ k, L13_LayoutTells_l4_F k v K⟩
noncomputable def L13_LayoutTells_j3_c : Cut := ⟨L13_LayoutTells_y2, fun o => match o with | .ret => some L13_LayoutTells_y1 | _ => none, fun (v : (Int × (List Int) × (List (List Int)) × Unit) × (Unit)) (K : KK) => L13_LayoutTells_j3 v.1.1 v.1.2.1 v.1.2.2.1 (fun (y0 : Bool) => K .ret (st L13_LayoutTells_y1 ((y0, ()), (()))))⟩
noncomputable def L13_LayoutTells_L : Cuts := mkL [(4, L13_LayoutTells_l4_c)] [(2, L13_LayoutTells_j2_c), (3, L13_LayoutTells_j3_c)]
theorem L13_LayoutTells_lo : LoopsOK L13_LayoutTells_C L13_LayoutTells_L L13_LayoutTells_b :=
  (show LoopsOK L13_LayoutTells_C L13_LayoutTells_L L13_LayoutTells_b = ((LoopOK L13_LayoutTells_C L13_LayoutTells_L L13_LayoutTells_l4_c (nthB (loopsOf L13_LayoutTells_b) 0) ∧ True) ∧ True) by kernel_rfl).mpr ⟨⟨⟨L13_LayoutTells_l4_F, fun v K => by kernel_rfl, fun v K => by kernel_rfl, fun k v K => by kernel_rfl⟩, trivial⟩, trivial⟩
theorem L13_LayoutTells_jo : JoinsOK L13_LayoutTells_C L13_LayoutTells_L L13_LayoutTells_b :=
  (show JoinsOK L13_LayoutTells_C L13_LayoutTells_L L13_LayoutTells_b = ((JoinOK L13_LayoutTells_C L13_LayoutTells_L L13_LayoutTells_j3_c (nthB (joinsOf L13_LayoutTells_L L13_LayoutTells_b) 0) ∧ True) ∧ (JoinOK L13_LayoutTells_C L13_LayoutTells_L L13_LayoutTells_j2_c (nthB (joinsOf L13_LayoutTells_L L13_LayoutTells_b) 1) ∧ True) ∧ True) by kernel_rfl).mpr ⟨⟨fun v K => by kernel_rfl, trivial⟩, ⟨fun v K => by kernel_rfl, trivial⟩, trivial⟩
theorem L13_LayoutTells_ro : RngsOK L13_LayoutTells_C L13_LayoutTells_L L13_LayoutTells_b :=
  (show RngsOK L13_LayoutTells_C L13_LayoutTells_L L13_LayoutTells_b = (True) by kernel_rfl).mpr trivial
theorem L13_LayoutTells_ok : EntOK Try.prog 5 L13_LayoutTells_e :=
  entOf_ok (e := evFn L13_LayoutTells_C L13_LayoutTells_L Try.f5) (fun v n K => Eq.trans (L13_LayoutTells_def v.1 v.2.1 v.2.2.1 (fun (r0 : Bool) => K (.t true .bool r0) [])) (by kernel_rfl)) (evFn_ok (mkC_all (fns := L13_LayoutTells_f) tys_ok ⟨⟨L13_awake_ok, Try.call19⟩, ⟨layout_Width_ok, Try.call20⟩, ⟨R13_Width_ok, Try.call21⟩, ⟨layout_Start_ok, Try.call22⟩, ⟨R13_Start_ok, Try.call23⟩, ⟨layout_Of_ok, Try.call24⟩, ⟨R13_Of_ok, Try.call25⟩, ⟨layout_Cut_ok, Try.call27⟩, ⟨R13_Cut_ok, Try.call28⟩, ⟨R01_SameAll_ok, Try.call26⟩, ⟨layout_Join_ok, Try.call30⟩, ⟨R13_Join_ok, Try.call31⟩, ⟨R01_Same_ok, Try.call29⟩, trivial⟩ mixed) Try.func5 (show Try.f5.body = some L13_LayoutTells_b by kernel_rfl) ⟨L13_LayoutTells_lo, L13_LayoutTells_jo, by kernel_rfl, L13_LayoutTells_ro⟩)

end
end Go.Eng.A
