/- Each of these functions is what the program computes: printed by program. -/
import Derived.Test.YtampmpiapdegcaaEngT
import Derived.Test.YtampmpiapdegcaaAccountGoesP
import Derived.Test.YtampmpiapdegcaaProg
import Derived.Test.YtampmpiapdegcaaAccountGoesTb
set_option linter.unusedVariables false
set_option maxRecDepth 100000
namespace Go.Eng.A
open Go Go.Eng Go.Proofs
noncomputable section

noncomputable def R16_Size_e : Ent := entOf [.tm (.sl (.int .i64))] fun (v : (List Int) × Unit) n K => R16_Size v.1 (fun (r0 : Int) (r1 : Bool) => K (.tu [.t true (.int .i64) r0, .t true .bool r1]) [])
noncomputable def R16_Size_f : List (Nat × Ent) := [(109, R16_far_e)]
noncomputable def R16_Size_C : Cfg := mkC tys R16_Size_f
noncomputable def R16_Size_b : Code := match Try.f55.body with | some c => c | none => .skip
def R16_Size_y0 : Lay := ⟨30, [(0, .tm false (.sl (.int .i64))), (13, .tm true .bool)], []⟩
def R16_Size_y1 : Lay := ⟨30, [(2, .tm true (.int .i64)), (3, .tm true .bool)], []⟩
def R16_Size_y2 : Lay := ⟨30, [(0, .tm false (.sl (.int .i64)))], []⟩
noncomputable def R16_Size_j2_c : Cut := ⟨R16_Size_y0, fun o => match o with | .ret => some R16_Size_y1 | .nrm => some R16_Size_y2 | _ => none, fun (v : ((List Int) × Bool × Unit) × (Unit)) (K : KK) => R16_Size_j2 v.1.1 v.1.2.1 (fun (y0 : Int) (y1 : Bool) => K .ret (st R16_Size_y1 ((y0, y1, ()), (())))) (fun (y0 : (List Int)) => K .nrm (st R16_Size_y2 ((y0, ()), (()))))⟩
def R16_Size_y3 : Lay := ⟨30, [(0, .tm false (.sl (.int .i64))), (4, .tm true (.int .i64)), (5, .tm true (.int .i64))], []⟩
def R16_Size_y4 : Lay := ⟨30, [(4, .tm true (.int .i64))], []⟩
noncomputable def R16_Size_l5_F (k : Nat) (v : ((List Int) × Int × Int × Unit) × (Unit)) (K : KK) : Prop := R16_Size_l5 k v.1.1 v.1.2.1 v.1.2.2.1 (fun (y0 : Int) => K (.exit 0) (st R16_Size_y4 ((y0, ()), (()))))
noncomputable def R16_Size_l5_c : Cut := ⟨R16_Size_y3, fun o => match o with | .exit 0 => some R16_Size_y4 | _ => none, fun (v : ((List Int) × Int × Int × Unit) × (Unit)) K => ∃ k, R16_Size_l5_F k v K⟩
noncomputable def R16_Size_j3_c : Cut := ⟨R16_Size_y2, fun o => match o with | .ret => some R16_Size_y1 | _ => none, fun (v : ((List Int) × Unit) × (Unit)) (K : KK) => R16_Size_j3 v.1.1 (fun (y0 : Int) (y1 : Bool) => K .ret (st R16_Size_y1 ((y0, y1, ()), (()))))⟩
noncomputable def R16_Size_L : Cuts := mkL [(5, R16_Size_l5_c)] [(2, R16_Size_j2_c), (3, R16_Size_j3_c)]
theorem R16_Size_lo : LoopsOK R16_Size_C R16_Size_L R16_Size_b :=
  (show LoopsOK R16_Size_C R16_Size_L R16_Size_b = ((LoopOK R16_Size_C R16_Size_L R16_Size_l5_c (nthB (loopsOf R16_Size_b) 0) ∧ True) ∧ True) by kernel_rfl).mpr ⟨⟨⟨R16_Size_l5_F, fun v K => by kernel_rfl, fun v K => by kernel_rfl, fun k v K => by kernel_rfl⟩, trivial⟩, trivial⟩
theorem R16_Size_jo : JoinsOK R16_Size_C R16_Size_L R16_Size_b :=
  (show JoinsOK R16_Size_C R16_Size_L R16_Size_b = ((JoinOK R16_Size_C R16_Size_L R16_Size_j3_c (nthB (joinsOf R16_Size_L R16_Size_b) 0) ∧ True) ∧ (JoinOK R16_Size_C R16_Size_L R16_Size_j2_c (nthB (joinsOf R16_Size_L R16_Size_b) 1) ∧ True) ∧ True) by kernel_rfl).mpr ⟨⟨fun v K => by kernel_rfl, trivial⟩, ⟨fun v K => by kernel_rfl, trivial⟩, trivial⟩
theorem R16_Size_ro : RngsOK R16_Size_C R16_Size_L R16_Size_b :=
  (show RngsOK R16_Size_C R16_Size_L R16_Size_b = (True) by kernel_rfl).mpr trivial
theorem R16_Size_ok : EntOK Try.prog 55 R16_Size_e :=
  entOf_ok (e := evFn R16_Size_C R16_Size_L Try.f55) (fun v n K => Eq.trans (R16_Size_def v.1 (fun (r0 : Int) (r1 : Bool) => K (.tu [.t true (.int .i64) r0, .t true .bool r1]) [])) (by kernel_rfl)) (evFn_ok (mkC_all (fns := R16_Size_f) tys_ok ⟨⟨R16_far_ok, Try.call109⟩, trivial⟩ mixed) Try.func55 (show Try.f55.body = some R16_Size_b by kernel_rfl) ⟨R16_Size_lo, R16_Size_jo, by kernel_rfl, R16_Size_ro⟩)

noncomputable def R15_Band_e : Ent := entOf [.tm (.int .i64), .tm (.int .i64), .tm (.int .i64)] fun (v : Int × Int × Int × Unit) n K => R15_Band v.1 v.2.1 v.2.2.1 (fun (r0 : Int) => K (.t true (.int .i64) r0) [])
noncomputable def R15_Band_f : List (Nat × Ent) := []
noncomputable def R15_Band_C : Cfg := mkC tys R15_Band_f
noncomputable def R15_Band_b : Code := match Try.f113.body with | some c => c | none => .skip
noncomputable def R15_Band_L : Cuts := mkL [] []
theorem R15_Band_lo : LoopsOK R15_Band_C R15_Band_L R15_Band_b := (show LoopsOK R15_Band_C R15_Band_L R15_Band_b = True by kernel_rfl).mpr trivial
theorem R15_Band_jo : JoinsOK R15_Band_C R15_Band_L R15_Band_b := (show JoinsOK R15_Band_C R15_Band_L R15_Band_b = True by kernel_rfl).mpr trivial
theorem R15_Band_ro : RngsOK R15_Band_C R15_Band_L R15_Band_b :=
  (show RngsOK R15_Band_C R15_Band_L R15_Band_b = (True) by kernel_rfl).mpr trivial
theorem R15_Band_ok : EntOK Try.prog 113 R15_Band_e :=
  entOf_ok (e := evFn R15_Band_C R15_Band_L Try.f113) (fun v n K => Eq.trans (R15_Band_def v.1 v.2.1 v.2.2.1 (fun (r0 : Int) => K (.t true (.int .i64) r0) [])) (by kernel_rfl)) (evFn_ok (mkC_all (fns := R15_Band_f) tys_ok trivial mixed) Try.func113 (show Try.f113.body = some R15_Band_b by kernel_rfl) ⟨R15_Band_lo, R15_Band_jo, by kernel_rfl, R15_Band_ro⟩)

noncomputable def R20_Band_e : Ent := entOf [.tm (.cons (.int .i64) (.cons (.int .i64) (.cons (.sl (.int .i64)) .nil))), .tm (.int .i64), .tm (.int .i64)] fun (v : (Int × (Int × ((List Int) × Unit))) × Int × Int × Unit) n K => R20_Band v.1 v.2.1 v.2.2.1 (fun (r0 : Bool) => K (.t true .bool r0) [])
noncomputable def R20_Band_f : List (Nat × Ent) := [(55, R16_Size_e), (113, R15_Band_e)]
noncomputable def R20_Band_C : Cfg := mkC tys R20_Band_f
noncomputable def R20_Band_b : Code := match Try.f65.body with | some c => c | none => .skip
noncomputable def R20_Band_L : Cuts := mkL [] []
theorem R20_Band_lo : LoopsOK R20_Band_C R20_Band_L R20_Band_b := (show LoopsOK R20_Band_C R20_Band_L R20_Band_b = True by kernel_rfl).mpr trivial
theorem R20_Band_jo : JoinsOK R20_Band_C R20_Band_L R20_Band_b := (show JoinsOK R20_Band_C R20_Band_L R20_Band_b = True by kernel_rfl).mpr trivial
theorem R20_Band_ro : RngsOK R20_Band_C R20_Band_L R20_Band_b :=
  (show RngsOK R20_Band_C R20_Band_L R20_Band_b = (True) by kernel_rfl).mpr trivial
theorem R20_Band_ok : EntOK Try.prog 65 R20_Band_e :=
  entOf_ok (e := evFn R20_Band_C R20_Band_L Try.f65) (fun v n K => Eq.trans (R20_Band_def v.1 v.2.1 v.2.2.1 (fun (r0 : Bool) => K (.t true .bool r0) [])) (by kernel_rfl)) (evFn_ok (mkC_all (fns := R20_Band_f) tys_ok ⟨⟨R16_Size_ok, Try.call55⟩, ⟨R15_Band_ok, Try.call113⟩, trivial⟩ mixed) Try.func65 (show Try.f65.body = some R20_Band_b by kernel_rfl) ⟨R20_Band_lo, R20_Band_jo, by kernel_rfl, R20_Band_ro⟩)

end
end Go.Eng.A
