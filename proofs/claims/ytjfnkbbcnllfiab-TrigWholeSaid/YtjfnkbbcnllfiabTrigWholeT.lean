/- Each of these functions is what the program computes: printed by program. -/
import Derived.Test.YtjfnkbbcnllfiabEngT
import Derived.Test.YtjfnkbbcnllfiabTrigWholeP
import Derived.Test.YtjfnkbbcnllfiabProg
import Derived.Test.YtjfnkbbcnllfiabTrigWholeTd
set_option linter.unusedVariables false
set_option maxRecDepth 100000
namespace Go.Eng.A
open Go Go.Eng Go.Proofs
noncomputable section

def trig_Table__Sin_e : Ent := entOf [.tm (.ptr (.arr 512 (.int .i64))), .tm (.int .i64)] fun (v : (List Int) × Int × Unit) n K => trig_Table__Sin v.1 v.2.1 (fun (r0 : Int) => K (.t true (.int .i64) r0) [])
def trig_Table__Sin_f : List (Nat × Ent) := [(26, trig_Table__Cos_e)]
def trig_Table__Sin_C : Cfg := mkC tys trig_Table__Sin_f
def trig_Table__Sin_b : Code := match Try.f28.body with | some c => c | none => .skip
def trig_Table__Sin_L : Cuts := mkL [] []
theorem trig_Table__Sin_lo : LoopsOK trig_Table__Sin_C trig_Table__Sin_L trig_Table__Sin_b := (show LoopsOK trig_Table__Sin_C trig_Table__Sin_L trig_Table__Sin_b = True by kernel_rfl).mpr trivial
theorem trig_Table__Sin_jo : JoinsOK trig_Table__Sin_C trig_Table__Sin_L trig_Table__Sin_b := (show JoinsOK trig_Table__Sin_C trig_Table__Sin_L trig_Table__Sin_b = True by kernel_rfl).mpr trivial
theorem trig_Table__Sin_ok : EntOK Try.prog 28 trig_Table__Sin_e :=
  entOf_ok (e := evFn trig_Table__Sin_C trig_Table__Sin_L Try.f28) (fun v n K => Eq.trans (trig_Table__Sin_def v.1 v.2.1 (fun (r0 : Int) => K (.t true (.int .i64) r0) [])) (by kernel_rfl)) (evFn_ok (mkC_all (fns := trig_Table__Sin_f) tys_ok ⟨⟨trig_Table__Cos_ok, Try.call26⟩, trivial⟩ mixed) Try.func28 (show Try.f28.body = some trig_Table__Sin_b by kernel_rfl) ⟨trig_Table__Sin_lo, trig_Table__Sin_jo, by kernel_rfl⟩)

def trig_Table__Turn_e : Ent := entOf [.tm (.ptr (.arr 512 (.int .i64))), .tm (.int .i64), .tm (.int .i64), .tm (.int .i64)] fun (v : (List Int) × Int × Int × Int × Unit) n K => trig_Table__Turn v.1 v.2.1 v.2.2.1 v.2.2.2.1 (fun (r0 : Int) (r1 : Int) => K (.tu [.t true (.int .i64) r0, .t true (.int .i64) r1]) [])
def trig_Table__Turn_f : List (Nat × Ent) := [(26, trig_Table__Cos_e), (28, trig_Table__Sin_e), (38, num_Shr_e)]
def trig_Table__Turn_C : Cfg := mkC tys trig_Table__Turn_f
def trig_Table__Turn_b : Code := match Try.f24.body with | some c => c | none => .skip
def trig_Table__Turn_y0 : Lay := ⟨52, [(0, .tm false (.ptr (.arr 512 (.int .i64)))), (1, .tm true (.int .i64)), (2, .tm true (.int .i64)), (3, .tm true (.int .i64)), (29, .tm true .bool)], []⟩
def trig_Table__Turn_y1 : Lay := ⟨52, [(8, .tm true (.int .i64)), (9, .tm true (.int .i64))], []⟩
def trig_Table__Turn_y2 : Lay := ⟨52, [(0, .tm false (.ptr (.arr 512 (.int .i64)))), (1, .tm true (.int .i64)), (2, .tm true (.int .i64)), (3, .tm true (.int .i64))], []⟩
def trig_Table__Turn_j2_c : Cut := ⟨trig_Table__Turn_y0, fun o => match o with | .ret => some trig_Table__Turn_y1 | .nrm => some trig_Table__Turn_y2 | _ => none, fun (v : ((List Int) × Int × Int × Int × Bool × Unit) × (Unit)) (K : KK) => trig_Table__Turn_j2 v.1.1 v.1.2.1 v.1.2.2.1 v.1.2.2.2.1 v.1.2.2.2.2.1 (fun (y0 : Int) (y1 : Int) => K .ret (st trig_Table__Turn_y1 ((y0, y1, ()), (())))) (fun (y0 : (List Int)) (y1 : Int) (y2 : Int) (y3 : Int) => K .nrm (st trig_Table__Turn_y2 ((y0, y1, y2, y3, ()), (()))))⟩
def trig_Table__Turn_j3_c : Cut := ⟨trig_Table__Turn_y2, fun o => match o with | .ret => some trig_Table__Turn_y1 | _ => none, fun (v : ((List Int) × Int × Int × Int × Unit) × (Unit)) (K : KK) => trig_Table__Turn_j3 v.1.1 v.1.2.1 v.1.2.2.1 v.1.2.2.2.1 (fun (y0 : Int) (y1 : Int) => K .ret (st trig_Table__Turn_y1 ((y0, y1, ()), (()))))⟩
def trig_Table__Turn_L : Cuts := mkL [] [(2, trig_Table__Turn_j2_c), (3, trig_Table__Turn_j3_c)]
theorem trig_Table__Turn_lo : LoopsOK trig_Table__Turn_C trig_Table__Turn_L trig_Table__Turn_b := (show LoopsOK trig_Table__Turn_C trig_Table__Turn_L trig_Table__Turn_b = True by kernel_rfl).mpr trivial
theorem trig_Table__Turn_jo : JoinsOK trig_Table__Turn_C trig_Table__Turn_L trig_Table__Turn_b :=
  (show JoinsOK trig_Table__Turn_C trig_Table__Turn_L trig_Table__Turn_b = ((JoinOK trig_Table__Turn_C trig_Table__Turn_L trig_Table__Turn_j3_c (nthB (joinsOf trig_Table__Turn_L trig_Table__Turn_b) 0) ∧ True) ∧ (JoinOK trig_Table__Turn_C trig_Table__Turn_L trig_Table__Turn_j2_c (nthB (joinsOf trig_Table__Turn_L trig_Table__Turn_b) 1) ∧ True) ∧ True) by kernel_rfl).mpr ⟨⟨fun v K => by kernel_rfl, trivial⟩, ⟨fun v K => by kernel_rfl, trivial⟩, trivial⟩
theorem trig_Table__Turn_ok : EntOK Try.prog 24 trig_Table__Turn_e :=
  entOf_ok (e := evFn trig_Table__Turn_C trig_Table__Turn_L Try.f24) (fun v n K => Eq.trans (trig_Table__Turn_def v.1 v.2.1 v.2.2.1 v.2.2.2.1 (fun (r0 : Int) (r1 : Int) => K (.tu [.t true (.int .i64) r0, .t true (.int .i64) r1]) [])) (by kernel_rfl)) (evFn_ok (mkC_all (fns := trig_Table__Turn_f) tys_ok ⟨⟨trig_Table__Cos_ok, Try.call26⟩, ⟨trig_Table__Sin_ok, Try.call28⟩, ⟨num_Shr_ok, Try.call38⟩, trivial⟩ mixed) Try.func24 (show Try.f24.body = some trig_Table__Turn_b by kernel_rfl) ⟨trig_Table__Turn_lo, trig_Table__Turn_jo, by kernel_rfl⟩)

def L07_awake_e : Ent := entOf [] fun (v : Unit) n K => L07_awake (fun (r0 : Bool) => K (.t true .bool r0) [])
def L07_awake_f : List (Nat × Ent) := [(23, trig_Make_e), (24, trig_Table__Turn_e), (26, trig_Table__Cos_e), (28, trig_Table__Sin_e)]
def L07_awake_C : Cfg := mkC tys L07_awake_f
def L07_awake_b : Code := match Try.f30.body with | some c => c | none => .skip
def L07_awake_L : Cuts := mkL [] []
theorem L07_awake_lo : LoopsOK L07_awake_C L07_awake_L L07_awake_b := (show LoopsOK L07_awake_C L07_awake_L L07_awake_b = True by kernel_rfl).mpr trivial
theorem L07_awake_jo : JoinsOK L07_awake_C L07_awake_L L07_awake_b := (show JoinsOK L07_awake_C L07_awake_L L07_awake_b = True by kernel_rfl).mpr trivial
theorem L07_awake_ok : EntOK Try.prog 30 L07_awake_e :=
  entOf_ok (e := evFn L07_awake_C L07_awake_L Try.f30) (fun v n K => Eq.trans (L07_awake_def (fun (r0 : Bool) => K (.t true .bool r0) [])) (by kernel_rfl)) (evFn_ok (mkC_all (fns := L07_awake_f) tys_ok ⟨⟨trig_Make_ok, Try.call23⟩, ⟨trig_Table__Turn_ok, Try.call24⟩, ⟨trig_Table__Cos_ok, Try.call26⟩, ⟨trig_Table__Sin_ok, Try.call28⟩, trivial⟩ mixed) Try.func30 (show Try.f30.body = some L07_awake_b by kernel_rfl) ⟨L07_awake_lo, L07_awake_jo, by kernel_rfl⟩)

def L07_TrigWhole_e : Ent := entOf [.tm (.int .i64)] fun (v : Int × Unit) n K => L07_TrigWhole v.1 (fun (r0 : Bool) => K (.t true .bool r0) [])
def L07_TrigWhole_f : List (Nat × Ent) := [(23, trig_Make_e), (31, R07_Make_e), (24, trig_Table__Turn__nil0_e), (26, trig_Table__Cos__nil0_e), (28, trig_Table__Sin__nil0_e), (30, L07_awake_e)]
def L07_TrigWhole_C : Cfg := mkC tys L07_TrigWhole_f
def L07_TrigWhole_b : Code := match Try.f9.body with | some c => c | none => .skip
def L07_TrigWhole_y0 : Lay := ⟨61, [(0, .tm true (.int .i64)), (3, .fx (.op 0 (.arr 512 (.int .i64)) [])), (4, .fx (.os 1)), (5, .tm true (.int .i64))], [.val true true 49 (.arr 512 (.int .i64)), .val true true 3 (.row (.int .i64))]⟩
def L07_TrigWhole_y1 : Lay := ⟨61, [(2, .tm true .bool)], []⟩
def L07_TrigWhole_y2 : Lay := ⟨61, [(0, .tm true (.int .i64))], []⟩
def L07_TrigWhole_l6_F (k : Nat) (v : (Int × Int × Unit) × ((List Int) × (List Int) × Unit)) (K : KK) : Prop := L07_TrigWhole_l6 k v.1.1 v.1.2.1 v.2.1 v.2.2.1 (fun (y0 : Bool) => K .ret (st L07_TrigWhole_y1 ((y0, ()), (())))) (fun (y0 : Int) => K (.exit 0) (st L07_TrigWhole_y2 ((y0, ()), (()))))
def L07_TrigWhole_l6_c : Cut := ⟨L07_TrigWhole_y0, fun o => match o with | .ret => some L07_TrigWhole_y1 | .exit 0 => some L07_TrigWhole_y2 | _ => none, fun (v : (Int × Int × Unit) × ((List Int) × (List Int) × Unit)) K => ∃ k, L07_TrigWhole_l6_F k v K⟩
def L07_TrigWhole_L : Cuts := mkL [(6, L07_TrigWhole_l6_c)] []
theorem L07_TrigWhole_lo : LoopsOK L07_TrigWhole_C L07_TrigWhole_L L07_TrigWhole_b :=
  (show LoopsOK L07_TrigWhole_C L07_TrigWhole_L L07_TrigWhole_b = ((LoopOK L07_TrigWhole_C L07_TrigWhole_L L07_TrigWhole_l6_c (nthB (loopsOf L07_TrigWhole_b) 0) ∧ True) ∧ True) by kernel_rfl).mpr ⟨⟨⟨L07_TrigWhole_l6_F, fun v K => by kernel_rfl, fun v K => by kernel_rfl, fun k v K => by kernel_rfl⟩, trivial⟩, trivial⟩
theorem L07_TrigWhole_jo : JoinsOK L07_TrigWhole_C L07_TrigWhole_L L07_TrigWhole_b := (show JoinsOK L07_TrigWhole_C L07_TrigWhole_L L07_TrigWhole_b = True by kernel_rfl).mpr trivial
theorem L07_TrigWhole_ok : EntOK Try.prog 9 L07_TrigWhole_e :=
  entOf_ok (e := evFn L07_TrigWhole_C L07_TrigWhole_L Try.f9) (fun v n K => Eq.trans (L07_TrigWhole_def v.1 (fun (r0 : Bool) => K (.t true .bool r0) [])) (by kernel_rfl)) (evFn_ok (mkC_all (fns := L07_TrigWhole_f) tys_ok ⟨⟨trig_Make_ok, Try.call23⟩, ⟨R07_Make_ok, Try.call31⟩, ⟨trig_Table__Turn__nil0_ok, Try.call24⟩, ⟨trig_Table__Cos__nil0_ok, Try.call26⟩, ⟨trig_Table__Sin__nil0_ok, Try.call28⟩, ⟨L07_awake_ok, Try.call30⟩, trivial⟩ mixed) Try.func9 (show Try.f9.body = some L07_TrigWhole_b by kernel_rfl) ⟨L07_TrigWhole_lo, L07_TrigWhole_jo, by kernel_rfl⟩)

end
end Go.Eng.A
