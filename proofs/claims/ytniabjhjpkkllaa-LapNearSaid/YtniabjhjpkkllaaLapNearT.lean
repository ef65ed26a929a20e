/- Each of these functions is what the program computes: printed by program. -/
import Derived.Test.YtniabjhjpkkllaaEngT
import Derived.Test.YtniabjhjpkkllaaLapNearP
import Derived.Test.YtniabjhjpkkllaaProg
import Derived.Test.YtniabjhjpkkllaaLapNearTj
set_option linter.unusedVariables false
set_option maxRecDepth 100000
namespace Go.Eng.A
open Go Go.Eng Go.Proofs
noncomputable section

noncomputable def L12_LapNear_e : Ent := entOf [.tm (.sl (.int .i64)), .tm (.sl (.int .i64)), .tm .bool, .tm .bool] fun (v : (List Int) × (List Int) × Bool × Bool × Unit) n K => L12_LapNear v.1 v.2.1 v.2.2.1 v.2.2.2.1 (fun (r0 : Bool) => K (.t true .bool r0) [])
noncomputable def L12_LapNear_f : List (Nat × Ent) := [(11, R10_Right_e), (32, L12_awake_e), (13, trig_Make_e), (33, lap_Frame_e), (34, R12_Spectra_e), (35, R12_Exact_e), (36, L12_near_e)]
noncomputable def L12_LapNear_C : Cfg := mkCE tys eqs L12_LapNear_f
noncomputable def L12_LapNear_b : Code := match Try.f9.body with | some c => c | none => .skip
def L12_LapNear_y0 : Lay := ⟨113, [(0, .tm false (.sl (.int .i64))), (1, .tm false (.sl (.int .i64))), (2, .tm true .bool), (3, .tm true .bool), (37, .tm true .bool)], []⟩
def L12_LapNear_y1 : Lay := ⟨113, [(8, .tm true .bool)], []⟩
def L12_LapNear_y2 : Lay := ⟨113, [(0, .tm false (.sl (.int .i64))), (1, .tm false (.sl (.int .i64))), (2, .tm true .bool), (3, .tm true .bool)], []⟩
noncomputable def L12_LapNear_j2_c : Cut := ⟨L12_LapNear_y0, fun o => match o with | .ret => some L12_LapNear_y1 | .nrm => some L12_LapNear_y2 | _ => none, fun (v : ((List Int) × (List Int) × Bool × Bool × Bool × Unit) × (Unit)) (K : KK) => L12_LapNear_j2 v.1.1 v.1.2.1 v.1.2.2.1 v.1.2.2.2.1 v.1.2.2.2.2.1 (fun (y0 : Bool) => K .ret (st L12_LapNear_y1 ((y0, ()), (())))) (fun (y0 : (List Int)) (y1 : (List Int)) (y2 : Bool) (y3 : Bool) => K .nrm (st L12_LapNear_y2 ((y0, y1, y2, y3, ()), (()))))⟩
def L12_LapNear_y3 : Lay := ⟨113, [(12, .fx (.os 0)), (15, .tm false (.sl (.int .i64))), (16, .fx (.os 1)), (17, .tm true (.int .i64)), (18, .tm true (.int .i64))], [.val true true 3 (.row (.int .i64)), .val true false 22 (.row (.sl (.int .i64)))]⟩
def L12_LapNear_y4 : Lay := ⟨113, [(17, .tm true (.int .i64))], []⟩
noncomputable def L12_LapNear_l13_F (k : Nat) (v : ((List Int) × Int × Int × Unit) × ((List Int) × (List (List Int)) × Unit)) (K : KK) : Prop := L12_LapNear_l13 k v.1.1 v.1.2.1 v.1.2.2.1 v.2.1 v.2.2.1 (fun (y0 : Bool) => K .ret (st L12_LapNear_y1 ((y0, ()), (())))) (fun (y0 : Int) => K (.exit 0) (st L12_LapNear_y4 ((y0, ()), (()))))
noncomputable def L12_LapNear_l13_c : Cut := ⟨L12_LapNear_y3, fun o => match o with | .ret => some L12_LapNear_y1 | .exit 0 => some L12_LapNear_y4 | _ => none, fun (v : ((List Int) × Int × Int × Unit) × ((List Int) × (List (List Int)) × Unit)) K => ∃ k, L12_LapNear_l13_F k v K⟩
def L12_LapNear_y5 : Lay := ⟨113, [(12, .fx (.os 0)), (15, .tm false (.sl (.int .i64))), (16, .fx (.os 1))], [.val true true 3 (.row (.int .i64)), .val true false 22 (.row (.sl (.int .i64)))]⟩
noncomputable def L12_LapNear_j11_c : Cut := ⟨L12_LapNear_y5, fun o => match o with | .ret => some L12_LapNear_y1 | _ => none, fun (v : ((List Int) × Unit) × ((List Int) × (List (List Int)) × Unit)) (K : KK) => L12_LapNear_j11 v.1.1 v.2.1 v.2.2.1 (fun (y0 : Bool) => K .ret (st L12_LapNear_y1 ((y0, ()), (()))))⟩
def L12_LapNear_y6 : Lay := ⟨113, [(1, .tm false (.sl (.int .i64))), (3, .tm true .bool), (12, .fx (.os 0)), (14, .fx (.os 1))], [.val true true 3 (.row (.int .i64)), .val true false 22 (.row (.sl (.int .i64)))]⟩
noncomputable def L12_LapNear_j9_c : Cut := ⟨L12_LapNear_y6, fun o => match o with | .ret => some L12_LapNear_y1 | _ => none, fun (v : ((List Int) × Bool × Unit) × ((List Int) × (List (List Int)) × Unit)) (K : KK) => L12_LapNear_j9 v.1.1 v.1.2.1 v.2.1 v.2.2.1 (fun (y0 : Bool) => K .ret (st L12_LapNear_y1 ((y0, ()), (()))))⟩
def L12_LapNear_y7 : Lay := ⟨113, [(0, .tm false (.sl (.int .i64))), (1, .tm false (.sl (.int .i64))), (2, .tm true .bool), (3, .tm true .bool), (12, .fx (.os 0))], [.val true true 3 (.row (.int .i64))]⟩
noncomputable def L12_LapNear_j6_c : Cut := ⟨L12_LapNear_y7, fun o => match o with | .ret => some L12_LapNear_y1 | _ => none, fun (v : ((List Int) × (List Int) × Bool × Bool × Unit) × ((List Int) × Unit)) (K : KK) => L12_LapNear_j6 v.1.1 v.1.2.1 v.1.2.2.1 v.1.2.2.2.1 v.2.1 (fun (y0 : Bool) => K .ret (st L12_LapNear_y1 ((y0, ()), (()))))⟩
def L12_LapNear_y8 : Lay := ⟨113, [(0, .tm false (.sl (.int .i64))), (1, .tm false (.sl (.int .i64))), (2, .tm true .bool), (3, .tm true .bool), (9, .tm true (.ptr (.arr 512 (.int .i64)))), (11, .fx (.op 0 (.arr 8 (.int .i64)) []))], [.val true true 45 (.arr 8 (.int .i64))]⟩
noncomputable def L12_LapNear_j5_c : Cut := ⟨L12_LapNear_y8, fun o => match o with | .ret => some L12_LapNear_y1 | _ => none, fun (v : ((List Int) × (List Int) × Bool × Bool × (List Int) × Unit) × ((List Int) × Unit)) (K : KK) => L12_LapNear_j5 v.1.1 v.1.2.1 v.1.2.2.1 v.1.2.2.2.1 v.1.2.2.2.2.1 v.2.1 (fun (y0 : Bool) => K .ret (st L12_LapNear_y1 ((y0, ()), (()))))⟩
noncomputable def L12_LapNear_j3_c : Cut := ⟨L12_LapNear_y2, fun o => match o with | .ret => some L12_LapNear_y1 | _ => none, fun (v : ((List Int) × (List Int) × Bool × Bool × Unit) × (Unit)) (K : KK) => L12_LapNear_j3 v.1.1 v.1.2.1 v.1.2.2.1 v.1.2.2.2.1 (fun (y0 : Bool) => K .ret (st L12_LapNear_y1 ((y0, ()), (()))))⟩
noncomputable def L12_LapNear_L : Cuts := mkL [(13, L12_LapNear_l13_c)] [(2, L12_LapNear_j2_c), (11, L12_LapNear_j11_c), (9, L12_LapNear_j9_c), (6, L12_LapNear_j6_c), (5, L12_LapNear_j5_c), (3, L12_LapNear_j3_c)]
theorem L12_LapNear_lo : LoopsOK L12_LapNear_C L12_LapNear_L L12_LapNear_b :=
  (show LoopsOK L12_LapNear_C L12_LapNear_L L12_LapNear_b = ((LoopOK L12_LapNear_C L12_LapNear_L L12_LapNear_l13_c (nthB (loopsOf L12_LapNear_b) 0) ∧ True) ∧ True) by kernel_rfl).mpr ⟨⟨⟨L12_LapNear_l13_F, fun v K => by kernel_rfl, fun v K => by kernel_rfl, fun k v K => by kernel_rfl⟩, trivial⟩, trivial⟩
theorem L12_LapNear_jo : JoinsOK L12_LapNear_C L12_LapNear_L L12_LapNear_b :=
  (show JoinsOK L12_LapNear_C L12_LapNear_L L12_LapNear_b = ((JoinOK L12_LapNear_C L12_LapNear_L L12_LapNear_j3_c (nthB (joinsOf L12_LapNear_L L12_LapNear_b) 0) ∧ True) ∧ (JoinOK L12_LapNear_C L12_LapNear_L L12_LapNear_j2_c (nthB (joinsOf L12_LapNear_L L12_LapNear_b) 1) ∧ True) ∧ (JoinOK L12_LapNear_C L12_LapNear_L L12_LapNear_j5_c (nthB (joinsOf L12_LapNear_L L12_LapNear_b) 2) ∧ True) ∧ (JoinOK L12_LapNear_C L12_LapNear_L L12_LapNear_j6_c (nthB (joinsOf L12_LapNear_L L12_LapNear_b) 3) ∧ True) ∧ (JoinOK L12_LapNear_C L12_LapNear_L L12_LapNear_j9_c (nthB (joinsOf L12_LapNear_L L12_LapNear_b) 4) ∧ True) ∧ (JoinOK L12_LapNear_C L12_LapNear_L L12_LapNear_j11_c (nthB (joinsOf L12_LapNear_L L12_LapNear_b) 5) ∧ True) ∧ True) by kernel_rfl).mpr ⟨⟨fun v K => by kernel_rfl, trivial⟩, ⟨fun v K => by kernel_rfl, trivial⟩, ⟨fun v K => by kernel_rfl, trivial⟩, ⟨fun v K => by kernel_rfl, trivial⟩, ⟨fun v K => by kernel_rfl, trivial⟩, ⟨fun v K => by kernel_rfl, trivial⟩, trivial⟩
theorem L12_LapNear_ro : RngsOK L12_LapNear_C L12_LapNear_L L12_LapNear_b :=
  (show RngsOK L12_LapNear_C L12_LapNear_L L12_LapNear_b = (True) by kernel_rfl).mpr trivial
theorem L12_LapNear_ok : EntOK Try.prog 9 L12_LapNear_e :=
  entOf_ok (e := evFn L12_LapNear_C L12_LapNear_L Try.f9) (fun v n K => Eq.trans (L12_LapNear_def v.1 v.2.1 v.2.2.1 v.2.2.2.1 (fun (r0 : Bool) => K (.t true .bool r0) [])) (by kernel_rfl)) (evFn_ok (mkCE_all (fns := L12_LapNear_f) tys_ok eqs_ok ⟨⟨R10_Right_ok, Try.call11⟩, ⟨L12_awake_ok, Try.call32⟩, ⟨trig_Make_ok, Try.call13⟩, ⟨lap_Frame_ok, Try.call33⟩, ⟨R12_Spectra_ok, Try.call34⟩, ⟨R12_Exact_ok, Try.call35⟩, ⟨L12_near_ok, Try.call36⟩, trivial⟩ mixed) Try.func9 (show Try.f9.body = some L12_LapNear_b by kernel_rfl) ⟨L12_LapNear_lo, L12_LapNear_jo, by kernel_rfl, L12_LapNear_ro⟩)

end
end Go.Eng.A
