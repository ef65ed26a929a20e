/- Each of these functions is what the program computes: printed by program. -/
import Derived.Test.YtniabjhjpkkllabEngT
import Derived.Test.YtniabjhjpkkllabLapFramesP
import Derived.Test.YtniabjhjpkkllabProg
import Derived.Test.YtniabjhjpkkllabLapFramesTj
set_option linter.unusedVariables false
set_option maxRecDepth 100000
namespace Go.Eng.A
open Go Go.Eng Go.Proofs
noncomputable section

noncomputable def R12_Frame_e : Ent := entOf [.tm (.arr 8 (.int .i64)), .tm (.sl (.int .i64)), .tm .bool] fun (v : (List Int) × (List Int) × Bool × Unit) n K => R12_Frame v.1 v.2.1 v.2.2.1 (fun (r0 : (List Int)) => K (.tu [.ns, .t true (.arr 8 (.int .i64)) r0]) []) (fun (r0 : (List Int)) (r1 : (List Int)) => K (.tu [.os (n + 0), .t true (.arr 8 (.int .i64)) r0]) [.val true true 3 (.row (.int .i64)) r1])
noncomputable def R12_Frame_f : List (Nat × Ent) := [(8, R10_Right_e), (26, R01_Within_e), (38, R12_Blocks_e), (40, R11_Left_e), (39, R11_Meet_e), (41, R01_Sat_e), (42, R11_Right_e)]
noncomputable def R12_Frame_C : Cfg := mkCE tys eqs R12_Frame_f
noncomputable def R12_Frame_b : Code := match Try.f14.body with | some c => c | none => .skip
def R12_Frame_y0 : Lay := ⟨83, [(1, .tm false (.sl (.int .i64))), (2, .tm true .bool), (3, .fx (.op 0 (.arr 8 (.int .i64)) [])), (7, .fx (.op 1 (.arr 8 (.int .i64)) [])), (26, .tm true .bool)], [.val true true 31 (.arr 8 (.int .i64)), .val true true 31 (.arr 8 (.int .i64))]⟩
def R12_Frame_y1 : Lay := ⟨83, [(6, .fx .ns), (7, .fx (.op 0 (.arr 8 (.int .i64)) []))], [.val true true 31 (.arr 8 (.int .i64))]⟩
def R12_Frame_y2 : Lay := ⟨83, [(1, .tm false (.sl (.int .i64))), (2, .tm true .bool), (3, .fx (.op 0 (.arr 8 (.int .i64)) [])), (7, .fx (.op 1 (.arr 8 (.int .i64)) []))], [.val true true 31 (.arr 8 (.int .i64)), .val true true 31 (.arr 8 (.int .i64))]⟩
noncomputable def R12_Frame_j2_c : Cut := ⟨R12_Frame_y0, fun o => match o with | .ret => some R12_Frame_y1 | .nrm => some R12_Frame_y2 | _ => none, fun (v : ((List Int) × Bool × Bool × Unit) × ((List Int) × (List Int) × Unit)) (K : KK) => R12_Frame_j2 v.1.1 v.1.2.1 v.1.2.2.1 v.2.1 v.2.2.1 (fun (y0 : (List Int)) => K .ret (st R12_Frame_y1 ((()), (y0, ())))) (fun (y0 : (List Int)) (y1 : Bool) (y2 : (List Int)) (y3 : (List Int)) => K .nrm (st R12_Frame_y2 ((y0, y1, ()), (y2, y3, ()))))⟩
def R12_Frame_y3 : Lay := ⟨83, [(3, .fx (.op 0 (.arr 8 (.int .i64)) [])), (7, .fx (.op 1 (.arr 8 (.int .i64)) [])), (8, .fx (.os 2)), (9, .fx (.os 3)), (10, .tm true (.int .i64)), (11, .fx (.op 4 (.arr 8 (.int .i64)) [])), (12, .tm true (.int .i64))], [.val true true 31 (.arr 8 (.int .i64)), .val true true 31 (.arr 8 (.int .i64)), .val true true 3 (.row (.int .i64)), .val true true 22 (.row (.sl (.int .i64))), .val true true 31 (.arr 8 (.int .i64))]⟩
def R12_Frame_y4 : Lay := ⟨83, [(3, .fx (.op 0 (.arr 8 (.int .i64)) [])), (7, .fx (.op 1 (.arr 8 (.int .i64)) [])), (8, .fx (.os 2)), (9, .fx (.os 3)), (10, .tm true (.int .i64))], [.val true true 31 (.arr 8 (.int .i64)), .val true true 31 (.arr 8 (.int .i64)), .val true true 3 (.row (.int .i64)), .val true true 22 (.row (.sl (.int .i64)))]⟩
noncomputable def R12_Frame_l10_F (k : Nat) (v : (Int × Int × Unit) × ((List Int) × (List Int) × (List Int) × (List (List Int)) × (List Int) × Unit)) (K : KK) : Prop := R12_Frame_l10 k v.1.1 v.1.2.1 v.2.1 v.2.2.1 v.2.2.2.1 v.2.2.2.2.1 v.2.2.2.2.2.1 (fun (y0 : Int) (y1 : (List Int)) (y2 : (List Int)) (y3 : (List Int)) (y4 : (List (List Int))) => K (.exit 2) (st R12_Frame_y4 ((y0, ()), (y1, y2, y3, y4, ()))))
noncomputable def R12_Frame_l10_c : Cut := ⟨R12_Frame_y3, fun o => match o with | .exit 2 => some R12_Frame_y4 | _ => none, fun (v : (Int × Int × Unit) × ((List Int) × (List Int) × (List Int) × (List (List Int)) × (List Int) × Unit)) K => ∃ k, R12_Frame_l10_F k v K⟩
def R12_Frame_y5 : Lay := ⟨83, [(3, .fx (.op 0 (.arr 8 (.int .i64)) [])), (7, .fx (.op 1 (.arr 8 (.int .i64)) [])), (8, .fx (.os 2)), (9, .fx (.os 3)), (10, .tm true (.int .i64)), (13, .tm true (.int .i64))], [.val true true 31 (.arr 8 (.int .i64)), .val true true 31 (.arr 8 (.int .i64)), .val true true 3 (.row (.int .i64)), .val true true 22 (.row (.sl (.int .i64)))]⟩
noncomputable def R12_Frame_l14_F (k : Nat) (v : (Int × Int × Unit) × ((List Int) × (List Int) × (List Int) × (List (List Int)) × Unit)) (K : KK) : Prop := R12_Frame_l14 k v.1.1 v.1.2.1 v.2.1 v.2.2.1 v.2.2.2.1 v.2.2.2.2.1 (fun (y0 : Int) (y1 : (List Int)) (y2 : (List Int)) (y3 : (List Int)) (y4 : (List (List Int))) => K (.exit 4) (st R12_Frame_y4 ((y0, ()), (y1, y2, y3, y4, ()))))
noncomputable def R12_Frame_l14_c : Cut := ⟨R12_Frame_y5, fun o => match o with | .exit 4 => some R12_Frame_y4 | _ => none, fun (v : (Int × Int × Unit) × ((List Int) × (List Int) × (List Int) × (List (List Int)) × Unit)) K => ∃ k, R12_Frame_l14_F k v K⟩
def R12_Frame_y6 : Lay := ⟨83, [(3, .fx (.op 0 (.arr 8 (.int .i64)) [])), (7, .fx (.op 1 (.arr 8 (.int .i64)) [])), (8, .fx (.os 2))], [.val true true 31 (.arr 8 (.int .i64)), .val true true 31 (.arr 8 (.int .i64)), .val true true 3 (.row (.int .i64))]⟩
noncomputable def R12_Frame_l6_F (k : Nat) (v : (Int × Unit) × ((List Int) × (List Int) × (List Int) × (List (List Int)) × Unit)) (K : KK) : Prop := R12_Frame_l6 k v.1.1 v.2.1 v.2.2.1 v.2.2.2.1 v.2.2.2.2.1 (fun (y0 : (List Int)) (y1 : (List Int)) (y2 : (List Int)) => K (.exit 0) (st R12_Frame_y6 ((()), (y0, y1, y2, ()))))
noncomputable def R12_Frame_l6_c : Cut := ⟨R12_Frame_y4, fun o => match o with | .exit 0 => some R12_Frame_y6 | _ => none, fun (v : (Int × Unit) × ((List Int) × (List Int) × (List Int) × (List (List Int)) × Unit)) K => ∃ k, R12_Frame_l6_F k v K⟩
def R12_Frame_y7 : Lay := ⟨83, [(6, .fx (.os 0)), (7, .fx (.op 1 (.arr 8 (.int .i64)) []))], [.val true true 3 (.row (.int .i64)), .val true true 31 (.arr 8 (.int .i64))]⟩
noncomputable def R12_Frame_j3_c : Cut := ⟨R12_Frame_y2, fun o => match o with | .ret => some R12_Frame_y7 | _ => none, fun (v : ((List Int) × Bool × Unit) × ((List Int) × (List Int) × Unit)) (K : KK) => R12_Frame_j3 v.1.1 v.1.2.1 v.2.1 v.2.2.1 (fun (y0 : (List Int)) (y1 : (List Int)) => K .ret (st R12_Frame_y7 ((()), (y0, y1, ()))))⟩
noncomputable def R12_Frame_L : Cuts := mkL [(10, R12_Frame_l10_c), (14, R12_Frame_l14_c), (6, R12_Frame_l6_c)] [(2, R12_Frame_j2_c), (3, R12_Frame_j3_c)]
theorem R12_Frame_lo : LoopsOK R12_Frame_C R12_Frame_L R12_Frame_b :=
  (show LoopsOK R12_Frame_C R12_Frame_L R12_Frame_b = ((LoopOK R12_Frame_C R12_Frame_L R12_Frame_l6_c (nthB (loopsOf R12_Frame_b) 0) ∧ True) ∧ (LoopOK R12_Frame_C R12_Frame_L R12_Frame_l10_c (nthB (loopsOf R12_Frame_b) 1) ∧ True) ∧ (LoopOK R12_Frame_C R12_Frame_L R12_Frame_l14_c (nthB (loopsOf R12_Frame_b) 2) ∧ True) ∧ True) by kernel_rfl).mpr ⟨⟨⟨R12_Frame_l6_F, fun v K => by kernel_rfl, fun v K => by kernel_rfl, fun k v K => by kernel_rfl⟩, trivial⟩, ⟨⟨R12_Frame_l10_F, fun v K => by kernel_rfl, fun v K => by kernel_rfl, fun k v K => by kernel_rfl⟩, trivial⟩, ⟨⟨R12_Frame_l14_F, fun v K => by kernel_rfl, fun v K => by kernel_rfl, fun k v K => by kernel_rfl⟩, trivial⟩, trivial⟩
theorem R12_Frame_jo : JoinsOK R12_Frame_C R12_Frame_L R12_Frame_b :=
  (show JoinsOK R12_Frame_C R12_Frame_L R12_Frame_b = ((JoinOK R12_Frame_C R12_Frame_L R12_Frame_j3_c (nthB (joinsOf R12_Frame_L R12_Frame_b) 0) ∧ True) ∧ (JoinOK R12_Frame_C R12_Frame_L R12_Frame_j2_c (nthB (joinsOf R12_Frame_L R12_Frame_b) 1) ∧ True) ∧ True) by kernel_rfl).mpr ⟨⟨fun v K => by kernel_rfl, trivial⟩, ⟨fun v K => by kernel_rfl, trivial⟩, trivial⟩
theorem R12_Frame_ro : RngsOK R12_Frame_C R12_Frame_L R12_Frame_b :=
  (show RngsOK R12_Frame_C R12_Frame_L R12_Frame_b = (True) by kernel_rfl).mpr trivial
theorem R12_Frame_ok : EntOK Try.prog 14 R12_Frame_e :=
  entOf_ok (e := evFn R12_Frame_C R12_Frame_L Try.f14) (fun v n K => Eq.trans (R12_Frame_def v.1 v.2.1 v.2.2.1 (fun (r0 : (List Int)) => K (.tu [.ns, .t true (.arr 8 (.int .i64)) r0]) []) (fun (r0 : (List Int)) (r1 : (List Int)) => K (.tu [.os (n + 0), .t true (.arr 8 (.int .i64)) r0]) [.val true true 3 (.row (.int .i64)) r1])) (by kernel_rfl)) (evFn_ok (mkCE_all (fns := R12_Frame_f) tys_ok eqs_ok ⟨⟨R10_Right_ok, Try.call8⟩, ⟨R01_Within_ok, Try.call26⟩, ⟨R12_Blocks_ok, Try.call38⟩, ⟨R11_Left_ok, Try.call40⟩, ⟨R11_Meet_ok, Try.call39⟩, ⟨R01_Sat_ok, Try.call41⟩, ⟨R11_Right_ok, Try.call42⟩, trivial⟩ mixed) Try.func14 (show Try.f14.body = some R12_Frame_b by kernel_rfl) ⟨R12_Frame_lo, R12_Frame_jo, by kernel_rfl, R12_Frame_ro⟩)

noncomputable def lap_Frame__nil0_e : Ent := entOf [.tm .np, .tm (.arr 8 (.int .i64)), .tm (.sl (.int .i64)), .tm .bool] fun (v : Unit × (List Int) × (List Int) × Bool × Unit) n K => lap_Frame__nil0 v.1 v.2.1 v.2.2.1 v.2.2.2.1 (fun (r0 : (List Int)) => K (.tu [.ns, .t true (.arr 8 (.int .i64)) r0]) [])
noncomputable def lap_Frame__nil0_f : List (Nat × Ent) := []
noncomputable def lap_Frame__nil0_C : Cfg := mkCE tys eqs lap_Frame__nil0_f
noncomputable def lap_Frame__nil0_b : Code := match Try.f13.body with | some c => c | none => .skip
noncomputable def lap_Frame__nil0_L : Cuts := mkL [] []
theorem lap_Frame__nil0_lo : LoopsOK lap_Frame__nil0_C lap_Frame__nil0_L lap_Frame__nil0_b :=
  (show LoopsOK lap_Frame__nil0_C lap_Frame__nil0_L lap_Frame__nil0_b = ((True) ∧ True) by kernel_rfl).mpr ⟨trivial, trivial⟩
theorem lap_Frame__nil0_jo : JoinsOK lap_Frame__nil0_C lap_Frame__nil0_L lap_Frame__nil0_b := (show JoinsOK lap_Frame__nil0_C lap_Frame__nil0_L lap_Frame__nil0_b = True by kernel_rfl).mpr trivial
theorem lap_Frame__nil0_ro : RngsOK lap_Frame__nil0_C lap_Frame__nil0_L lap_Frame__nil0_b :=
  (show RngsOK lap_Frame__nil0_C lap_Frame__nil0_L lap_Frame__nil0_b = ((∀ cut, lap_Frame__nil0_L.rng 5 = some cut → RngOK lap_Frame__nil0_C lap_Frame__nil0_L cut (nthR (rangesOf lap_Frame__nil0_b) 0).1 (nthR (rangesOf lap_Frame__nil0_b) 0).2.1 (nthR (rangesOf lap_Frame__nil0_b) 0).2.2) ∧ True) by kernel_rfl).mpr ⟨of_none (by kernel_rfl), trivial⟩
theorem lap_Frame__nil0_ok : EntOK Try.prog 13 lap_Frame__nil0_e :=
  entOf_ok (e := evFn lap_Frame__nil0_C lap_Frame__nil0_L Try.f13) (fun v n K => Eq.trans (lap_Frame__nil0_def v.1 v.2.1 v.2.2.1 v.2.2.2.1 (fun (r0 : (List Int)) => K (.tu [.ns, .t true (.arr 8 (.int .i64)) r0]) [])) (by kernel_rfl)) (evFn_ok (mkCE_all (fns := lap_Frame__nil0_f) tys_ok eqs_ok trivial mixed) Try.func13 (show Try.f13.body = some lap_Frame__nil0_b by kernel_rfl) ⟨lap_Frame__nil0_lo, lap_Frame__nil0_jo, by kernel_rfl, lap_Frame__nil0_ro⟩)

noncomputable def lap_Lay_e : Ent := entOf [.tm (.sl (.sl (.int .i64)))] fun (v : (List (List Int)) × Unit) n K => lap_Lay v.1 (K (.ns) []) (fun (r0 : (List Int)) => K (.os (n + 0)) [.val true true 3 (.row (.int .i64)) r0])
noncomputable def lap_Lay_f : List (Nat × Ent) := []
noncomputable def lap_Lay_C : Cfg := mkCE tys eqs lap_Lay_f
noncomputable def lap_Lay_b : Code := match Try.f15.body with | some c => c | none => .skip
def lap_Lay_y0 : Lay := ⟨39, [(3, .fx (.os 0)), (4, .tm true (.int .i64)), (12, .tm false (.sl (.sl (.int .i64)))), (13, .tm true (.int .i64)), (14, .tm true (.int .i64)), (22, .tm false (.sl (.int .i64))), (23, .tm true (.int .i64)), (24, .tm true (.int .i64))], [.val true true 3 (.row (.int .i64))]⟩
def lap_Lay_y1 : Lay := ⟨39, [(3, .fx (.os 0)), (12, .tm false (.sl (.sl (.int .i64)))), (13, .tm true (.int .i64)), (14, .tm true (.int .i64))], [.val true true 3 (.row (.int .i64))]⟩
noncomputable def lap_Lay_l10_F (k : Nat) (v : (Int × (List (List Int)) × Int × Int × (List Int) × Int × Int × Unit) × ((List Int) × Unit)) (K : KK) : Prop := lap_Lay_l10 k v.1.1 v.1.2.1 v.1.2.2.1 v.1.2.2.2.1 v.1.2.2.2.2.1 v.1.2.2.2.2.2.1 v.1.2.2.2.2.2.2.1 v.2.1 (fun (y0 : (List (List Int))) (y1 : Int) (y2 : Int) (y3 : (List Int)) => K (.exit 2) (st lap_Lay_y1 ((y0, y1, y2, ()), (y3, ()))))
noncomputable def lap_Lay_l10_c : Cut := ⟨lap_Lay_y0, fun o => match o with | .exit 2 => some lap_Lay_y1 | _ => none, fun (v : (Int × (List (List Int)) × Int × Int × (List Int) × Int × Int × Unit) × ((List Int) × Unit)) K => ∃ k, lap_Lay_l10_F k v K⟩
def lap_Lay_y2 : Lay := ⟨39, [(2, .fx .ns)], []⟩
def lap_Lay_y3 : Lay := ⟨39, [(3, .fx (.os 0))], [.val true true 3 (.row (.int .i64))]⟩
noncomputable def lap_Lay_l5_F (k : Nat) (v : ((List (List Int)) × Int × Int × Unit) × ((List Int) × Unit)) (K : KK) : Prop := lap_Lay_l5 k v.1.1 v.1.2.1 v.1.2.2.1 v.2.1 (K .ret (st lap_Lay_y2 ((()), (())))) (fun (y0 : (List Int)) => K (.exit 0) (st lap_Lay_y3 ((()), (y0, ()))))
noncomputable def lap_Lay_l5_c : Cut := ⟨lap_Lay_y1, fun o => match o with | .ret => some lap_Lay_y2 | .exit 0 => some lap_Lay_y3 | _ => none, fun (v : ((List (List Int)) × Int × Int × Unit) × ((List Int) × Unit)) K => ∃ k, lap_Lay_l5_F k v K⟩
noncomputable def lap_Lay_L : Cuts := mkL [(10, lap_Lay_l10_c), (5, lap_Lay_l5_c)] []
theorem lap_Lay_lo : LoopsOK lap_Lay_C lap_Lay_L lap_Lay_b :=
  (show LoopsOK lap_Lay_C lap_Lay_L lap_Lay_b = ((LoopOK lap_Lay_C lap_Lay_L lap_Lay_l5_c (nthB (loopsOf lap_Lay_b) 0) ∧ True) ∧ (LoopOK lap_Lay_C lap_Lay_L lap_Lay_l10_c (nthB (loopsOf lap_Lay_b) 1) ∧ True) ∧ True) by kernel_rfl).mpr ⟨⟨⟨lap_Lay_l5_F, fun v K => by kernel_rfl, fun v K => by kernel_rfl, fun k v K => by kernel_rfl⟩, trivial⟩, ⟨⟨lap_Lay_l10_F, fun v K => by kernel_rfl, fun v K => by kernel_rfl, fun k v K => by kernel_rfl⟩, trivial⟩, trivial⟩
theorem lap_Lay_jo : JoinsOK lap_Lay_C lap_Lay_L lap_Lay_b := (show JoinsOK lap_Lay_C lap_Lay_L lap_Lay_b = True by kernel_rfl).mpr trivial
theorem lap_Lay_ro : RngsOK lap_Lay_C lap_Lay_L lap_Lay_b :=
  (show RngsOK lap_Lay_C lap_Lay_L lap_Lay_b = (True) by kernel_rfl).mpr trivial
theorem lap_Lay_ok : EntOK Try.prog 15 lap_Lay_e :=
  entOf_ok (e := evFn lap_Lay_C lap_Lay_L Try.f15) (fun v n K => Eq.trans (lap_Lay_def v.1 (K (.ns) []) (fun (r0 : (List Int)) => K (.os (n + 0)) [.val true true 3 (.row (.int .i64)) r0])) (by kernel_rfl)) (evFn_ok (mkCE_all (fns := lap_Lay_f) tys_ok eqs_ok trivial mixed) Try.func15 (show Try.f15.body = some lap_Lay_b by kernel_rfl) ⟨lap_Lay_lo, lap_Lay_jo, by kernel_rfl, lap_Lay_ro⟩)

end
end Go.Eng.A
