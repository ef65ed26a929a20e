/- Each of these functions is what the program computes: printed by program. -/
import Derived.Test.YtampmpiapdegcaaEngT
import Derived.Test.YtampmpiapdegcaaAccountGoesP
import Derived.Test.YtampmpiapdegcaaProg
import Derived.Test.YtampmpiapdegcaaAccountGoesTa
set_option linter.unusedVariables false
set_option maxRecDepth 100000
namespace Go.Eng.A
open Go Go.Eng Go.Proofs
noncomputable section

noncomputable def R28_Few_e : Ent := entOf [.tm (.cons (.cons (.int .i64) (.cons (.int .i64) (.cons (.int .i64) (.cons (.int .i64) (.cons (.int .i64) (.cons (.int .i64) .nil)))))) (.cons (.sl (.sl (.cons (.cons .bool (.cons .bool (.cons .bool (.cons (.int .i64) (.cons (.sl (.cons (.sl (.cons (.int .i64) (.cons (.int .i64) (.cons (.sl (.int .i64)) .nil)))) .nil)) .nil))))) (.cons (.int .i64) (.cons (.int .i64) .nil))))) .nil)), .tm (.int .i64)] fun (v : ((Int × (Int × (Int × (Int × (Int × (Int × Unit)))))) × ((List (List ((Bool × (Bool × (Bool × (Int × ((List ((List (Int × (Int × ((List Int) × Unit)))) × Unit)) × Unit))))) × (Int × (Int × Unit))))) × Unit)) × Int × Unit) n K => R28_Few v.1 v.2.1 (fun (r0 : Bool) => K (.t true .bool r0) [])
noncomputable def R28_Few_f : List (Nat × Ent) := [(18, R20_Few_e)]
noncomputable def R28_Few_C : Cfg := mkC tys R28_Few_f
noncomputable def R28_Few_b : Code := match Try.f11.body with | some c => c | none => .skip
def R28_Few_y0 : Lay := ⟨52, [(1, .tm true (.int .i64)), (2, .fx (.op 0 (.cons (.cons (.int .i64) (.cons (.int .i64) (.cons (.int .i64) (.cons (.int .i64) (.cons (.int .i64) (.cons (.int .i64) .nil)))))) (.cons (.sl (.sl (.cons (.cons .bool (.cons .bool (.cons .bool (.cons (.int .i64) (.cons (.sl (.cons (.sl (.cons (.int .i64) (.cons (.int .i64) (.cons (.sl (.int .i64)) .nil)))) .nil)) .nil))))) (.cons (.int .i64) (.cons (.int .i64) .nil))))) .nil)) [])), (5, .tm true (.int .i64)), (6, .tm true (.int .i64))], [.val true false 26 (.cons (.cons (.int .i64) (.cons (.int .i64) (.cons (.int .i64) (.cons (.int .i64) (.cons (.int .i64) (.cons (.int .i64) .nil)))))) (.cons (.sl (.sl (.cons (.cons .bool (.cons .bool (.cons .bool (.cons (.int .i64) (.cons (.sl (.cons (.sl (.cons (.int .i64) (.cons (.int .i64) (.cons (.sl (.int .i64)) .nil)))) .nil)) .nil))))) (.cons (.int .i64) (.cons (.int .i64) .nil))))) .nil))]⟩
def R28_Few_y1 : Lay := ⟨52, [(4, .tm true .bool)], []⟩
def R28_Few_y2 : Lay := ⟨52, [(1, .tm true (.int .i64)), (2, .fx (.op 0 (.cons (.cons (.int .i64) (.cons (.int .i64) (.cons (.int .i64) (.cons (.int .i64) (.cons (.int .i64) (.cons (.int .i64) .nil)))))) (.cons (.sl (.sl (.cons (.cons .bool (.cons .bool (.cons .bool (.cons (.int .i64) (.cons (.sl (.cons (.sl (.cons (.int .i64) (.cons (.int .i64) (.cons (.sl (.int .i64)) .nil)))) .nil)) .nil))))) (.cons (.int .i64) (.cons (.int .i64) .nil))))) .nil)) [])), (5, .tm true (.int .i64))], [.val true false 26 (.cons (.cons (.int .i64) (.cons (.int .i64) (.cons (.int .i64) (.cons (.int .i64) (.cons (.int .i64) (.cons (.int .i64) .nil)))))) (.cons (.sl (.sl (.cons (.cons .bool (.cons .bool (.cons .bool (.cons (.int .i64) (.cons (.sl (.cons (.sl (.cons (.int .i64) (.cons (.int .i64) (.cons (.sl (.int .i64)) .nil)))) .nil)) .nil))))) (.cons (.int .i64) (.cons (.int .i64) .nil))))) .nil))]⟩
noncomputable def R28_Few_l7_F (k : Nat) (v : (Int × Int × Int × Unit) × (((Int × (Int × (Int × (Int × (Int × (Int × Unit)))))) × ((List (List ((Bool × (Bool × (Bool × (Int × ((List ((List (Int × (Int × ((List Int) × Unit)))) × Unit)) × Unit))))) × (Int × (Int × Unit))))) × Unit)) × Unit)) (K : KK) : Prop := R28_Few_l7 k v.1.1 v.1.2.1 v.1.2.2.1 v.2.1 (fun (y0 : Bool) => K .ret (st R28_Few_y1 ((y0, ()), (())))) (fun (y0 : Int) (y1 : Int) (y2 : ((Int × (Int × (Int × (Int × (Int × (Int × Unit)))))) × ((List (List ((Bool × (Bool × (Bool × (Int × ((List ((List (Int × (Int × ((List Int) × Unit)))) × Unit)) × Unit))))) × (Int × (Int × Unit))))) × Unit))) => K (.exit 2) (st R28_Few_y2 ((y0, y1, ()), (y2, ()))))
noncomputable def R28_Few_l7_c : Cut := ⟨R28_Few_y0, fun o => match o with | .ret => some R28_Few_y1 | .exit 2 => some R28_Few_y2 | _ => none, fun (v : (Int × Int × Int × Unit) × (((Int × (Int × (Int × (Int × (Int × (Int × Unit)))))) × ((List (List ((Bool × (Bool × (Bool × (Int × ((List ((List (Int × (Int × ((List Int) × Unit)))) × Unit)) × Unit))))) × (Int × (Int × Unit))))) × Unit)) × Unit)) K => ∃ k, R28_Few_l7_F k v K⟩
def R28_Few_y3 : Lay := ⟨52, [(1, .tm true (.int .i64)), (2, .fx (.op 0 (.cons (.cons (.int .i64) (.cons (.int .i64) (.cons (.int .i64) (.cons (.int .i64) (.cons (.int .i64) (.cons (.int .i64) .nil)))))) (.cons (.sl (.sl (.cons (.cons .bool (.cons .bool (.cons .bool (.cons (.int .i64) (.cons (.sl (.cons (.sl (.cons (.int .i64) (.cons (.int .i64) (.cons (.sl (.int .i64)) .nil)))) .nil)) .nil))))) (.cons (.int .i64) (.cons (.int .i64) .nil))))) .nil)) []))], [.val true false 26 (.cons (.cons (.int .i64) (.cons (.int .i64) (.cons (.int .i64) (.cons (.int .i64) (.cons (.int .i64) (.cons (.int .i64) .nil)))))) (.cons (.sl (.sl (.cons (.cons .bool (.cons .bool (.cons .bool (.cons (.int .i64) (.cons (.sl (.cons (.sl (.cons (.int .i64) (.cons (.int .i64) (.cons (.sl (.int .i64)) .nil)))) .nil)) .nil))))) (.cons (.int .i64) (.cons (.int .i64) .nil))))) .nil))]⟩
noncomputable def R28_Few_l2_F (k : Nat) (v : (Int × Int × Unit) × (((Int × (Int × (Int × (Int × (Int × (Int × Unit)))))) × ((List (List ((Bool × (Bool × (Bool × (Int × ((List ((List (Int × (Int × ((List Int) × Unit)))) × Unit)) × Unit))))) × (Int × (Int × Unit))))) × Unit)) × Unit)) (K : KK) : Prop := R28_Few_l2 k v.1.1 v.1.2.1 v.2.1 (fun (y0 : Bool) => K .ret (st R28_Few_y1 ((y0, ()), (())))) (fun (y0 : Int) (y1 : ((Int × (Int × (Int × (Int × (Int × (Int × Unit)))))) × ((List (List ((Bool × (Bool × (Bool × (Int × ((List ((List (Int × (Int × ((List Int) × Unit)))) × Unit)) × Unit))))) × (Int × (Int × Unit))))) × Unit))) => K (.exit 0) (st R28_Few_y3 ((y0, ()), (y1, ()))))
noncomputable def R28_Few_l2_c : Cut := ⟨R28_Few_y2, fun o => match o with | .ret => some R28_Few_y1 | .exit 0 => some R28_Few_y3 | _ => none, fun (v : (Int × Int × Unit) × (((Int × (Int × (Int × (Int × (Int × (Int × Unit)))))) × ((List (List ((Bool × (Bool × (Bool × (Int × ((List ((List (Int × (Int × ((List Int) × Unit)))) × Unit)) × Unit))))) × (Int × (Int × Unit))))) × Unit)) × Unit)) K => ∃ k, R28_Few_l2_F k v K⟩
noncomputable def R28_Few_L : Cuts := mkL [(7, R28_Few_l7_c), (2, R28_Few_l2_c)] []
theorem R28_Few_lo : LoopsOK R28_Few_C R28_Few_L R28_Few_b :=
  (show LoopsOK R28_Few_C R28_Few_L R28_Few_b = ((LoopOK R28_Few_C R28_Few_L R28_Few_l2_c (nthB (loopsOf R28_Few_b) 0) ∧ True) ∧ (LoopOK R28_Few_C R28_Few_L R28_Few_l7_c (nthB (loopsOf R28_Few_b) 1) ∧ True) ∧ True) by kernel_rfl).mpr ⟨⟨⟨R28_Few_l2_F, fun v K => by kernel_rfl, fun v K => by kernel_rfl, fun k v K => by kernel_rfl⟩, trivial⟩, ⟨⟨R28_Few_l7_F, fun v K => by kernel_rfl, fun v K => by kernel_rfl, fun k v K => by kernel_rfl⟩, trivial⟩, trivial⟩
theorem R28_Few_jo : JoinsOK R28_Few_C R28_Few_L R28_Few_b := (show JoinsOK R28_Few_C R28_Few_L R28_Few_b = True by kernel_rfl).mpr trivial
theorem R28_Few_ro : RngsOK R28_Few_C R28_Few_L R28_Few_b :=
  (show RngsOK R28_Few_C R28_Few_L R28_Few_b = (True) by kernel_rfl).mpr trivial
theorem R28_Few_ok : EntOK Try.prog 11 R28_Few_e :=
  entOf_ok (e := evFn R28_Few_C R28_Few_L Try.f11) (fun v n K => Eq.trans (R28_Few_def v.1 v.2.1 (fun (r0 : Bool) => K (.t true .bool r0) [])) (by kernel_rfl)) (evFn_ok (mkC_all (fns := R28_Few_f) tys_ok ⟨⟨R20_Few_ok, Try.call18⟩, trivial⟩ mixed) Try.func11 (show Try.f11.body = some R28_Few_b by kernel_rfl) ⟨R28_Few_lo, R28_Few_jo, by kernel_rfl, R28_Few_ro⟩)

noncomputable def R28_Head_e : Ent := entOf [.tm (.cons (.int .i64) (.cons (.int .i64) (.cons (.int .i64) (.cons (.int .i64) (.cons (.int .i64) (.cons (.int .i64) .nil))))))] fun (v : (Int × (Int × (Int × (Int × (Int × (Int × Unit)))))) × Unit) n K => R28_Head v.1 (fun (r0 : Bool) => K (.t true .bool r0) [])
noncomputable def R28_Head_f : List (Nat × Ent) := []
noncomputable def R28_Head_C : Cfg := mkC tys R28_Head_f
noncomputable def R28_Head_b : Code := match Try.f56.body with | some c => c | none => .skip
noncomputable def R28_Head_L : Cuts := mkL [] []
theorem R28_Head_lo : LoopsOK R28_Head_C R28_Head_L R28_Head_b := (show LoopsOK R28_Head_C R28_Head_L R28_Head_b = True by kernel_rfl).mpr trivial
theorem R28_Head_jo : JoinsOK R28_Head_C R28_Head_L R28_Head_b := (show JoinsOK R28_Head_C R28_Head_L R28_Head_b = True by kernel_rfl).mpr trivial
theorem R28_Head_ro : RngsOK R28_Head_C R28_Head_L R28_Head_b :=
  (show RngsOK R28_Head_C R28_Head_L R28_Head_b = (True) by kernel_rfl).mpr trivial
theorem R28_Head_ok : EntOK Try.prog 56 R28_Head_e :=
  entOf_ok (e := evFn R28_Head_C R28_Head_L Try.f56) (fun v n K => Eq.trans (R28_Head_def v.1 (fun (r0 : Bool) => K (.t true .bool r0) [])) (by kernel_rfl)) (evFn_ok (mkC_all (fns := R28_Head_f) tys_ok trivial mixed) Try.func56 (show Try.f56.body = some R28_Head_b by kernel_rfl) ⟨R28_Head_lo, R28_Head_jo, by kernel_rfl, R28_Head_ro⟩)

noncomputable def R28_Unit_e : Ent := entOf [.tm (.cons (.cons .bool (.cons .bool (.cons .bool (.cons (.int .i64) (.cons (.sl (.cons (.sl (.cons (.int .i64) (.cons (.int .i64) (.cons (.sl (.int .i64)) .nil)))) .nil)) .nil))))) (.cons (.int .i64) (.cons (.int .i64) .nil)))] fun (v : ((Bool × (Bool × (Bool × (Int × ((List ((List (Int × (Int × ((List Int) × Unit)))) × Unit)) × Unit))))) × (Int × (Int × Unit))) × Unit) n K => R28_Unit v.1 (fun (r0 : Bool) => K (.t true .bool r0) [])
noncomputable def R28_Unit_f : List (Nat × Ent) := []
noncomputable def R28_Unit_C : Cfg := mkC tys R28_Unit_f
noncomputable def R28_Unit_b : Code := match Try.f35.body with | some c => c | none => .skip
noncomputable def R28_Unit_L : Cuts := mkL [] []
theorem R28_Unit_lo : LoopsOK R28_Unit_C R28_Unit_L R28_Unit_b := (show LoopsOK R28_Unit_C R28_Unit_L R28_Unit_b = True by kernel_rfl).mpr trivial
theorem R28_Unit_jo : JoinsOK R28_Unit_C R28_Unit_L R28_Unit_b := (show JoinsOK R28_Unit_C R28_Unit_L R28_Unit_b = True by kernel_rfl).mpr trivial
theorem R28_Unit_ro : RngsOK R28_Unit_C R28_Unit_L R28_Unit_b :=
  (show RngsOK R28_Unit_C R28_Unit_L R28_Unit_b = (True) by kernel_rfl).mpr trivial
theorem R28_Unit_ok : EntOK Try.prog 35 R28_Unit_e :=
  entOf_ok (e := evFn R28_Unit_C R28_Unit_L Try.f35) (fun v n K => Eq.trans (R28_Unit_def v.1 (fun (r0 : Bool) => K (.t true .bool r0) [])) (by kernel_rfl)) (evFn_ok (mkC_all (fns := R28_Unit_f) tys_ok trivial mixed) Try.func35 (show Try.f35.body = some R28_Unit_b by kernel_rfl) ⟨R28_Unit_lo, R28_Unit_jo, by kernel_rfl, R28_Unit_ro⟩)

noncomputable def R13_Width_e : Ent := entOf [.tm (.int .i64)] fun (v : Int × Unit) n K => R13_Width v.1 (fun (r0 : Int) => K (.t true (.int .i64) r0) [])
noncomputable def R13_Width_f : List (Nat × Ent) := []
noncomputable def R13_Width_C : Cfg := mkC tys R13_Width_f
noncomputable def R13_Width_b : Code := match Try.f66.body with | some c => c | none => .skip
def R13_Width_y0 : Lay := ⟨16, [(0, .tm true (.int .i64)), (3, .tm true .bool)], []⟩
def R13_Width_y1 : Lay := ⟨16, [(2, .tm true (.int .i64))], []⟩
def R13_Width_y2 : Lay := ⟨16, [], []⟩
noncomputable def R13_Width_j2_c : Cut := ⟨R13_Width_y0, fun o => match o with | .ret => some R13_Width_y1 | .nrm => some R13_Width_y2 | _ => none, fun (v : (Int × Bool × Unit) × (Unit)) (K : KK) => R13_Width_j2 v.1.1 v.1.2.1 (fun (y0 : Int) => K .ret (st R13_Width_y1 ((y0, ()), (())))) (K .nrm (st R13_Width_y2 ((()), (()))))⟩
noncomputable def R13_Width_L : Cuts := mkL [] [(2, R13_Width_j2_c)]
theorem R13_Width_lo : LoopsOK R13_Width_C R13_Width_L R13_Width_b := (show LoopsOK R13_Width_C R13_Width_L R13_Width_b = True by kernel_rfl).mpr trivial
theorem R13_Width_jo : JoinsOK R13_Width_C R13_Width_L R13_Width_b :=
  (show JoinsOK R13_Width_C R13_Width_L R13_Width_b = ((JoinOK R13_Width_C R13_Width_L R13_Width_j2_c (nthB (joinsOf R13_Width_L R13_Width_b) 0) ∧ True) ∧ True) by kernel_rfl).mpr ⟨⟨fun v K => by kernel_rfl, trivial⟩, trivial⟩
theorem R13_Width_ro : RngsOK R13_Width_C R13_Width_L R13_Width_b :=
  (show RngsOK R13_Width_C R13_Width_L R13_Width_b = (True) by kernel_rfl).mpr trivial
theorem R13_Width_ok : EntOK Try.prog 66 R13_Width_e :=
  entOf_ok (e := evFn R13_Width_C R13_Width_L Try.f66) (fun v n K => Eq.trans (R13_Width_def v.1 (fun (r0 : Int) => K (.t true (.int .i64) r0) [])) (by kernel_rfl)) (evFn_ok (mkC_all (fns := R13_Width_f) tys_ok trivial mixed) Try.func66 (show Try.f66.body = some R13_Width_b by kernel_rfl) ⟨R13_Width_lo, R13_Width_jo, by kernel_rfl, R13_Width_ro⟩)

noncomputable def R16_far_e : Ent := entOf [.tm (.int .i64)] fun (v : Int × Unit) n K => R16_far v.1 (fun (r0 : Int) => K (.t true (.int .i64) r0) [])
noncomputable def R16_far_f : List (Nat × Ent) := []
noncomputable def R16_far_C : Cfg := mkC tys R16_far_f
noncomputable def R16_far_b : Code := match Try.f109.body with | some c => c | none => .skip
noncomputable def R16_far_L : Cuts := mkL [] []
theorem R16_far_lo : LoopsOK R16_far_C R16_far_L R16_far_b := (show LoopsOK R16_far_C R16_far_L R16_far_b = True by kernel_rfl).mpr trivial
theorem R16_far_jo : JoinsOK R16_far_C R16_far_L R16_far_b := (show JoinsOK R16_far_C R16_far_L R16_far_b = True by kernel_rfl).mpr trivial
theorem R16_far_ro : RngsOK R16_far_C R16_far_L R16_far_b :=
  (show RngsOK R16_far_C R16_far_L R16_far_b = (True) by kernel_rfl).mpr trivial
theorem R16_far_ok : EntOK Try.prog 109 R16_far_e :=
  entOf_ok (e := evFn R16_far_C R16_far_L Try.f109) (fun v n K => Eq.trans (R16_far_def v.1 (fun (r0 : Int) => K (.t true (.int .i64) r0) [])) (by kernel_rfl)) (evFn_ok (mkC_all (fns := R16_far_f) tys_ok trivial mixed) Try.func109 (show Try.f109.body = some R16_far_b by kernel_rfl) ⟨R16_far_lo, R16_far_jo, by kernel_rfl, R16_far_ro⟩)

end
end Go.Eng.A
