/- Each of these functions is what the program computes: printed by program. -/
import Derived.Test.YtkgapcdnpcjcmaaEngT
import Derived.Test.YtkgapcdnpcjcmaaLayoutOnceP
import Derived.Test.YtkgapcdnpcjcmaaProg
import Derived.Test.YtkgapcdnpcjcmaaLayoutOnceTb
set_option linter.unusedVariables false
set_option maxRecDepth 100000
namespace Go.Eng.A
open Go Go.Eng Go.Proofs
noncomputable section

noncomputable def L13_LayoutOnce_e : Ent := entOf [.tm (.sl (.int .i64)), .tm (.int .u8)] fun (v : (List Int) × Int × Unit) n K => L13_LayoutOnce v.1 v.2.1 (fun (r0 : Bool) => K (.t true .bool r0) [])
noncomputable def L13_LayoutOnce_f : List (Nat × Ent) := [(24, layout_Of_e), (22, layout_Start_e), (20, layout_Width_e), (27, layout_Cut_e), (19, L13_awake_e), (30, layout_Join_e), (29, R01_Same_e)]
noncomputable def L13_LayoutOnce_C : Cfg := mkC tys L13_LayoutOnce_f
noncomputable def L13_LayoutOnce_b : Code := match Try.f6.body with | some c => c | none => .skip
def L13_LayoutOnce_y0 : Lay := ⟨72, [(0, .tm false (.sl (.int .i64))), (7, .tm true (.int .i64)), (8, .tm true (.int .i64))], []⟩
def L13_LayoutOnce_y1 : Lay := ⟨72, [(4, .tm true .bool)], []⟩
def L13_LayoutOnce_y2 : Lay := ⟨72, [(0, .tm false (.sl (.int .i64))), (7, .tm true (.int .i64))], []⟩
noncomputable def L13_LayoutOnce_l7_F (k : Nat) (v : ((List Int) × Int × Int × Unit) × (Unit)) (K : KK) : Prop := L13_LayoutOnce_l7 k v.1.1 v.1.2.1 v.1.2.2.1 (fun (y0 : Bool) => K .ret (st L13_LayoutOnce_y1 ((y0, ()), (())))) (fun (y0 : (List Int)) (y1 : Int) => K (.exit 0) (st L13_LayoutOnce_y2 ((y0, y1, ()), (()))))
noncomputable def L13_LayoutOnce_l7_c : Cut := ⟨L13_LayoutOnce_y0, fun o => match o with | .ret => some L13_LayoutOnce_y1 | .exit 0 => some L13_LayoutOnce_y2 | _ => none, fun (v : ((List Int) × Int × Int × Unit) × (Unit)) K => ∃ k, L13_LayoutOnce_l7_F k v K⟩
noncomputable def L13_LayoutOnce_L : Cuts := mkL [(7, L13_LayoutOnce_l7_c)] []
theorem L13_LayoutOnce_lo : LoopsOK L13_LayoutOnce_C L13_LayoutOnce_L L13_LayoutOnce_b :=
  (show LoopsOK L13_LayoutOnce_C L13_LayoutOnce_L L13_LayoutOnce_b = ((LoopOK L13_LayoutOnce_C L13_LayoutOnce_L L13_LayoutOnce_l7_c (nthB (loopsOf L13_LayoutOnce_b) 0) ∧ True) ∧ True) by kernel_rfl).mpr ⟨⟨⟨L13_LayoutOnce_l7_F, fun v K => by kernel_rfl, fun v K => by kernel_rfl, fun k v K => by kernel_rfl⟩, trivial⟩, trivial⟩
theorem L13_LayoutOnce_jo : JoinsOK L13_LayoutOnce_C L13_LayoutOnce_L L13_LayoutOnce_b := (show JoinsOK L13_LayoutOnce_C L13_LayoutOnce_L L13_LayoutOnce_b = True by kernel_rfl).mpr trivial
theorem L13_LayoutOnce_ro : RngsOK L13_LayoutOnce_C L13_LayoutOnce_L L13_LayoutOnce_b :=
  (show RngsOK L13_LayoutOnce_C L13_LayoutOnce_L L13_LayoutOnce_b = (True) by kernel_rfl).mpr trivial
theorem L13_LayoutOnce_ok : EntOK Try.prog 6 L13_LayoutOnce_e :=
  entOf_ok (e := evFn L13_LayoutOnce_C L13_LayoutOnce_L Try.f6) (fun v n K => Eq.trans (L13_LayoutOnce_def v.1 v.2.1 (fun (r0 : Bool) => K (.t true .bool r0) [])) (by kernel_rfl)) (evFn_ok (mkC_all (fns := L13_LayoutOnce_f) tys_ok ⟨⟨layout_Of_ok, Try.call24⟩, ⟨layout_Start_ok, Try.call22⟩, ⟨layout_Width_ok, Try.call20⟩, ⟨layout_Cut_ok, Try.call27⟩, ⟨L13_awake_ok, Try.call19⟩, ⟨layout_Join_ok, Try.call30⟩, ⟨R01_Same_ok, Try.call29⟩, trivial⟩ mixed) Try.func6 (show Try.f6.body = some L13_LayoutOnce_b by kernel_rfl) ⟨L13_LayoutOnce_lo, L13_LayoutOnce_jo, by kernel_rfl, L13_LayoutOnce_ro⟩)

end
end Go.Eng.A
