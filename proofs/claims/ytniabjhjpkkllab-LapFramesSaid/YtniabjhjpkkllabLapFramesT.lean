/- Each of these functions is what the program computes: printed by program. -/
import Derived.Test.YtniabjhjpkkllabEngT
import Derived.Test.YtniabjhjpkkllabLapFramesP
import Derived.Test.YtniabjhjpkkllabProg
import Derived.Test.YtniabjhjpkkllabLapFramesTl
set_option linter.unusedVariables false
set_option maxRecDepth 100000
namespace Go.Eng.A
open Go Go.Eng Go.Proofs
noncomputable section

noncomputable def L12_LapFrames_e : Ent := entOf [.tm (.arr 8 (.int .i64)), .tm (.sl (.int .i64)), .tm .bool, .tm (.sl (.sl (.int .i64)))] fun (v : (List Int) × (List Int) × Bool × (List (List Int)) × Unit) n K => L12_LapFrames v.1 v.2.1 v.2.2.1 v.2.2.2.1 (fun (r0 : Bool) => K (.t true .bool r0) [])
noncomputable def L12_LapFrames_f : List (Nat × Ent) := [(12, L12_awake_e), (7, trig_Make_e), (13, (altE [.tm (.ptr (.arr 512 (.int .i64))), .tm (.arr 8 (.int .i64)), .tm (.sl (.int .i64)), .tm .bool] lap_Frame_e lap_Frame__nil0_e)), (14, R12_Frame_e), (10, R01_Same_e), (15, lap_Lay_e), (16, R12_Lay_e), (17, lap_Pick_e), (18, R12_Pick_e)]
noncomputable def L12_LapFrames_C : Cfg := mkCE tys eqs L12_LapFrames_f
noncomputable def L12_LapFrames_b : Code := match Try.f4.body with | some c => c | none => .skip
def L12_LapFrames_y0 : Lay := ⟨98, [(1, .tm false (.sl (.int .i64))), (2, .tm true .bool), (3, .tm false (.sl (.sl (.int .i64)))), (4, .fx (.op 0 (.arr 8 (.int .i64)) [])), (25, .tm true .bool)], [.val true true 31 (.arr 8 (.int .i64))]⟩
def L12_LapFrames_y1 : Lay := ⟨98, [(8, .tm true .bool)], []⟩
def L12_LapFrames_y2 : Lay := ⟨98, [(1, .tm false (.sl (.int .i64))), (2, .tm true .bool), (3, .tm false (.sl (.sl (.int .i64)))), (4, .fx (.op 0 (.arr 8 (.int .i64)) []))], [.val true true 31 (.arr 8 (.int .i64))]⟩
noncomputable def L12_LapFrames_j2_c : Cut := ⟨L12_LapFrames_y0, fun o => match o with | .ret => some L12_LapFrames_y1 | .nrm => some L12_LapFrames_y2 | _ => none, fun (v : ((List Int) × Bool × (List (List Int)) × Bool × Unit) × ((List Int) × Unit)) (K : KK) => L12_LapFrames_j2 v.1.1 v.1.2.1 v.1.2.2.1 v.1.2.2.2.1 v.2.1 (fun (y0 : Bool) => K .ret (st L12_LapFrames_y1 ((y0, ()), (())))) (fun (y0 : (List Int)) (y1 : Bool) (y2 : (List (List Int))) (y3 : (List Int)) => K .nrm (st L12_LapFrames_y2 ((y0, y1, y2, ()), (y3, ()))))⟩
def L12_LapFrames_y3 : Lay := ⟨98, [(1, .tm false (.sl (.int .i64))), (2, .tm true .bool), (3, .tm false (.sl (.sl (.int .i64)))), (4, .fx (.op 0 (.arr 8 (.int .i64)) [])), (9, .tm true (.int .i64))], [.val true true 31 (.arr 8 (.int .i64))]⟩
noncomputable def L12_LapFrames_l4_F (k : Nat) (v : ((List Int) × Bool × (List (List Int)) × Int × Unit) × ((List Int) × Unit)) (K : KK) : Prop := L12_LapFrames_l4 k v.1.1 v.1.2.1 v.1.2.2.1 v.1.2.2.2.1 v.2.1 (fun (y0 : Bool) => K .ret (st L12_LapFrames_y1 ((y0, ()), (())))) (fun (y0 : (List Int)) (y1 : Bool) (y2 : (List (List Int))) (y3 : (List Int)) => K (.exit 0) (st L12_LapFrames_y2 ((y0, y1, y2, ()), (y3, ()))))
noncomputable def L12_LapFrames_l4_c : Cut := ⟨L12_LapFrames_y3, fun o => match o with | .ret => some L12_LapFrames_y1 | .exit 0 => some L12_LapFrames_y2 | _ => none, fun (v : ((List Int) × Bool × (List (List Int)) × Int × Unit) × ((List Int) × Unit)) K => ∃ k, L12_LapFrames_l4_F k v K⟩
def L12_LapFrames_y4 : Lay := ⟨98, [(1, .tm false (.sl (.int .i64))), (17, .tm true (.int .i64))], []⟩
def L12_LapFrames_y5 : Lay := ⟨98, [], []⟩
noncomputable def L12_LapFrames_l15_F (k : Nat) (v : ((List Int) × Int × Unit) × (Unit)) (K : KK) : Prop := L12_LapFrames_l15 k v.1.1 v.1.2.1 (fun (y0 : Bool) => K .ret (st L12_LapFrames_y1 ((y0, ()), (())))) (K (.exit 2) (st L12_LapFrames_y5 ((()), (()))))
noncomputable def L12_LapFrames_l15_c : Cut := ⟨L12_LapFrames_y4, fun o => match o with | .ret => some L12_LapFrames_y1 | .exit 2 => some L12_LapFrames_y5 | _ => none, fun (v : ((List Int) × Int × Unit) × (Unit)) K => ∃ k, L12_LapFrames_l15_F k v K⟩
def L12_LapFrames_y6 : Lay := ⟨98, [(1, .tm false (.sl (.int .i64)))], []⟩
noncomputable def L12_LapFrames_j14_c : Cut := ⟨L12_LapFrames_y6, fun o => match o with | .ret => some L12_LapFrames_y1 | _ => none, fun (v : ((List Int) × Unit) × (Unit)) (K : KK) => L12_LapFrames_j14 v.1.1 (fun (y0 : Bool) => K .ret (st L12_LapFrames_y1 ((y0, ()), (()))))⟩
def L12_LapFrames_y7 : Lay := ⟨98, [(1, .tm false (.sl (.int .i64))), (2, .tm true .bool), (3, .tm false (.sl (.sl (.int .i64)))), (4, .fx (.op 0 (.arr 8 (.int .i64)) [])), (11, .fx (.os 1)), (12, .fx (.op 2 (.arr 8 (.int .i64)) [])), (13, .fx (.os 3)), (14, .fx (.op 4 (.arr 8 (.int .i64)) []))], [.val true true 31 (.arr 8 (.int .i64)), .val true true 3 (.row (.int .i64)), .val true true 31 (.arr 8 (.int .i64)), .val true true 3 (.row (.int .i64)), .val true true 31 (.arr 8 (.int .i64))]⟩
noncomputable def L12_LapFrames_j11_c : Cut := ⟨L12_LapFrames_y7, fun o => match o with | .ret => some L12_LapFrames_y1 | _ => none, fun (v : ((List Int) × Bool × (List (List Int)) × Unit) × ((List Int) × (List Int) × (List Int) × (List Int) × (List Int) × Unit)) (K : KK) => L12_LapFrames_j11 v.1.1 v.1.2.1 v.1.2.2.1 v.2.1 v.2.2.1 v.2.2.2.1 v.2.2.2.2.1 v.2.2.2.2.2.1 (fun (y0 : Bool) => K .ret (st L12_LapFrames_y1 ((y0, ()), (()))))⟩
def L12_LapFrames_y8 : Lay := ⟨98, [(1, .tm false (.sl (.int .i64))), (2, .tm true .bool), (3, .tm false (.sl (.sl (.int .i64)))), (4, .fx (.op 0 (.arr 8 (.int .i64)) [])), (11, .fx (.os 1)), (12, .fx (.op 2 (.arr 8 (.int .i64)) []))], [.val true true 31 (.arr 8 (.int .i64)), .val true true 3 (.row (.int .i64)), .val true true 31 (.arr 8 (.int .i64))]⟩
noncomputable def L12_LapFrames_j10_c : Cut := ⟨L12_LapFrames_y8, fun o => match o with | .ret => some L12_LapFrames_y1 | _ => none, fun (v : ((List Int) × Bool × (List (List Int)) × Unit) × ((List Int) × (List Int) × (List Int) × Unit)) (K : KK) => L12_LapFrames_j10 v.1.1 v.1.2.1 v.1.2.2.1 v.2.1 v.2.2.1 v.2.2.2.1 (fun (y0 : Bool) => K .ret (st L12_LapFrames_y1 ((y0, ()), (()))))⟩
noncomputable def L12_LapFrames_j3_c : Cut := ⟨L12_LapFrames_y2, fun o => match o with | .ret => some L12_LapFrames_y1 | _ => none, fun (v : ((List Int) × Bool × (List (List Int)) × Unit) × ((List Int) × Unit)) (K : KK) => L12_LapFrames_j3 v.1.1 v.1.2.1 v.1.2.2.1 v.2.1 (fun (y0 : Bool) => K .ret (st L12_LapFrames_y1 ((y0, ()), (()))))⟩
noncomputable def L12_LapFrames_L : Cuts := mkL [(4, L12_LapFrames_l4_c), (15, L12_LapFrames_l15_c)] [(2, L12_LapFrames_j2_c), (14, L12_LapFrames_j14_c), (11, L12_LapFrames_j11_c), (10, L12_LapFrames_j10_c), (3, L12_LapFrames_j3_c)]
theorem L12_LapFrames_lo : LoopsOK L12_LapFrames_C L12_LapFrames_L L12_LapFrames_b :=
  (show LoopsOK L12_LapFrames_C L12_LapFrames_L L12_LapFrames_b = ((LoopOK L12_LapFrames_C L12_LapFrames_L L12_LapFrames_l4_c (nthB (loopsOf L12_LapFrames_b) 0) ∧ True) ∧ (LoopOK L12_LapFrames_C L12_LapFrames_L L12_LapFrames_l15_c (nthB (loopsOf L12_LapFrames_b) 1) ∧ True) ∧ True) by kernel_rfl).mpr ⟨⟨⟨L12_LapFrames_l4_F, fun v K => by kernel_rfl, fun v K => by kernel_rfl, fun k v K => by kernel_rfl⟩, trivial⟩, ⟨⟨L12_LapFrames_l15_F, fun v K => by kernel_rfl, fun v K => by kernel_rfl, fun k v K => by kernel_rfl⟩, trivial⟩, trivial⟩
theorem L12_LapFrames_jo : JoinsOK L12_LapFrames_C L12_LapFrames_L L12_LapFrames_b :=
  (show JoinsOK L12_LapFrames_C L12_LapFrames_L L12_LapFrames_b = ((JoinOK L12_LapFrames_C L12_LapFrames_L L12_LapFrames_j3_c (nthB (joinsOf L12_LapFrames_L L12_LapFrames_b) 0) ∧ True) ∧ (JoinOK L12_LapFrames_C L12_LapFrames_L L12_LapFrames_j2_c (nthB (joinsOf L12_LapFrames_L L12_LapFrames_b) 1) ∧ True) ∧ (JoinOK L12_LapFrames_C L12_LapFrames_L L12_LapFrames_j10_c (nthB (joinsOf L12_LapFrames_L L12_LapFrames_b) 2) ∧ True) ∧ (JoinOK L12_LapFrames_C L12_LapFrames_L L12_LapFrames_j11_c (nthB (joinsOf L12_LapFrames_L L12_LapFrames_b) 3) ∧ True) ∧ (JoinOK L12_LapFrames_C L12_LapFrames_L L12_LapFrames_j14_c (nthB (joinsOf L12_LapFrames_L L12_LapFrames_b) 4) ∧ True) ∧ True) by kernel_rfl).mpr ⟨⟨fun v K => by kernel_rfl, trivial⟩, ⟨fun v K => by kernel_rfl, trivial⟩, ⟨fun v K => by kernel_rfl, trivial⟩, ⟨fun v K => by kernel_rfl, trivial⟩, ⟨fun v K => by kernel_rfl, trivial⟩, trivial⟩
theorem L12_LapFrames_ro : RngsOK L12_LapFrames_C L12_LapFrames_L L12_LapFrames_b :=
  (show RngsOK L12_LapFrames_C L12_LapFrames_L L12_LapFrames_b = (True) by kernel_rfl).mpr trivial
theorem L12_LapFrames_ok : EntOK Try.prog 4 L12_LapFrames_e :=
  entOf_ok (e := evFn L12_LapFrames_C L12_LapFrames_L Try.f4) (fun v n K => Eq.trans (L12_LapFrames_def v.1 v.2.1 v.2.2.1 v.2.2.2.1 (fun (r0 : Bool) => K (.t true .bool r0) [])) (by kernel_rfl)) (evFn_ok (mkCE_all (fns := L12_LapFrames_f) tys_ok eqs_ok ⟨⟨L12_awake_ok, Try.call12⟩, ⟨trig_Make_ok, Try.call7⟩, ⟨(altE_ok lap_Frame_ok lap_Frame__nil0_ok), Try.call13⟩, ⟨R12_Frame_ok, Try.call14⟩, ⟨R01_Same_ok, Try.call10⟩, ⟨lap_Lay_ok, Try.call15⟩, ⟨R12_Lay_ok, Try.call16⟩, ⟨lap_Pick_ok, Try.call17⟩, ⟨R12_Pick_ok, Try.call18⟩, trivial⟩ mixed) Try.func4 (show Try.f4.body = some L12_LapFrames_b by kernel_rfl) ⟨L12_LapFrames_lo, L12_LapFrames_jo, by kernel_rfl, L12_LapFrames_ro⟩)

end
end Go.Eng.A
