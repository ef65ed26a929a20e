/- Each of these functions is what the program computes: printed by program. -/
import Derived.Test.YtjfnkbbcnllfiabEngT
import Derived.Test.YtjfnkbbcnllfiabTrigTellsP
import Derived.Test.YtjfnkbbcnllfiabProg
import Derived.Test.YtjfnkbbcnllfiabTrigTellsTd
set_option linter.unusedVariables false
set_option maxRecDepth 100000
namespace Go.Eng.A
open Go Go.Eng Go.Proofs
noncomputable section

def R07_Cos_e : Ent := entOf [.tm (.int .i64)] fun (v : Int × Unit) n K => R07_Cos v.1 (fun (r0 : Int) => K (.t true (.int .i64) r0) [])
def R07_Cos_f : List (Nat × Ent) := [(43, R01_Mod_e), (44, R07_quarter_e)]
def R07_Cos_C : Cfg := mkC tys R07_Cos_f
def R07_Cos_b : Code := match Try.f27.body with | some c => c | none => .skip
def R07_Cos_y0 : Lay := ⟨32, [(4, .tm true (.int .i64))], []⟩
def R07_Cos_y1 : Lay := ⟨32, [(2, .tm true (.int .i64))], []⟩
def R07_Cos_j6_c : Cut := ⟨R07_Cos_y0, fun o => match o with | .ret => some R07_Cos_y1 | _ => none, fun (v : (Int × Unit) × (Unit)) (K : KK) => R07_Cos_j6 v.1.1 (fun (y0 : Int) => K .ret (st R07_Cos_y1 ((y0, ()), (()))))⟩
def R07_Cos_L : Cuts := mkL [] [(6, R07_Cos_j6_c)]
theorem R07_Cos_lo : LoopsOK R07_Cos_C R07_Cos_L R07_Cos_b := (show LoopsOK R07_Cos_C R07_Cos_L R07_Cos_b = True by kernel_rfl).mpr trivial
theorem R07_Cos_jo : JoinsOK R07_Cos_C R07_Cos_L R07_Cos_b :=
  (show JoinsOK R07_Cos_C R07_Cos_L R07_Cos_b = ((JoinOK R07_Cos_C R07_Cos_L R07_Cos_j6_c (nthB (joinsOf R07_Cos_L R07_Cos_b) 0) ∧ True) ∧ True) by kernel_rfl).mpr ⟨⟨fun v K => by kernel_rfl, trivial⟩, trivial⟩
theorem R07_Cos_ok : EntOK Try.prog 27 R07_Cos_e :=
  entOf_ok (e := evFn R07_Cos_C R07_Cos_L Try.f27) (fun v n K => Eq.trans (R07_Cos_def v.1 (fun (r0 : Int) => K (.t true (.int .i64) r0) [])) (by kernel_rfl)) (evFn_ok (mkC_all (fns := R07_Cos_f) tys_ok ⟨⟨R01_Mod_ok, Try.call43⟩, ⟨R07_quarter_ok, Try.call44⟩, trivial⟩ mixed) Try.func27 (show Try.f27.body = some R07_Cos_b by kernel_rfl) ⟨R07_Cos_lo, R07_Cos_jo, by kernel_rfl⟩)

def R07_Sin_e : Ent := entOf [.tm (.int .i64)] fun (v : Int × Unit) n K => R07_Sin v.1 (fun (r0 : Int) => K (.t true (.int .i64) r0) [])
def R07_Sin_f : List (Nat × Ent) := [(43, R01_Mod_e), (27, R07_Cos_e)]
def R07_Sin_C : Cfg := mkC tys R07_Sin_f
def R07_Sin_b : Code := match Try.f29.body with | some c => c | none => .skip
def R07_Sin_L : Cuts := mkL [] []
theorem R07_Sin_lo : LoopsOK R07_Sin_C R07_Sin_L R07_Sin_b := (show LoopsOK R07_Sin_C R07_Sin_L R07_Sin_b = True by kernel_rfl).mpr trivial
theorem R07_Sin_jo : JoinsOK R07_Sin_C R07_Sin_L R07_Sin_b := (show JoinsOK R07_Sin_C R07_Sin_L R07_Sin_b = True by kernel_rfl).mpr trivial
theorem R07_Sin_ok : EntOK Try.prog 29 R07_Sin_e :=
  entOf_ok (e := evFn R07_Sin_C R07_Sin_L Try.f29) (fun v n K => Eq.trans (R07_Sin_def v.1 (fun (r0 : Int) => K (.t true (.int .i64) r0) [])) (by kernel_rfl)) (evFn_ok (mkC_all (fns := R07_Sin_f) tys_ok ⟨⟨R01_Mod_ok, Try.call43⟩, ⟨R07_Cos_ok, Try.call27⟩, trivial⟩ mixed) Try.func29 (show Try.f29.body = some R07_Sin_b by kernel_rfl) ⟨R07_Sin_lo, R07_Sin_jo, by kernel_rfl⟩)

def R01_Shr_e : Ent := entOf [.tm (.int .i64), .tm (.int .i64)] fun (v : Int × Int × Unit) n K => R01_Shr v.1 v.2.1 (fun (r0 : Int) => K (.t true (.int .i64) r0) [])
def R01_Shr_f : List (Nat × Ent) := [(43, R01_Mod_e)]
def R01_Shr_C : Cfg := mkC tys R01_Shr_f
def R01_Shr_b : Code := match Try.f39.body with | some c => c | none => .skip
def R01_Shr_L : Cuts := mkL [] []
theorem R01_Shr_lo : LoopsOK R01_Shr_C R01_Shr_L R01_Shr_b := (show LoopsOK R01_Shr_C R01_Shr_L R01_Shr_b = True by kernel_rfl).mpr trivial
theorem R01_Shr_jo : JoinsOK R01_Shr_C R01_Shr_L R01_Shr_b := (show JoinsOK R01_Shr_C R01_Shr_L R01_Shr_b = True by kernel_rfl).mpr trivial
theorem R01_Shr_ok : EntOK Try.prog 39 R01_Shr_e :=
  entOf_ok (e := evFn R01_Shr_C R01_Shr_L Try.f39) (fun v n K => Eq.trans (R01_Shr_def v.1 v.2.1 (fun (r0 : Int) => K (.t true (.int .i64) r0) [])) (by kernel_rfl)) (evFn_ok (mkC_all (fns := R01_Shr_f) tys_ok ⟨⟨R01_Mod_ok, Try.call43⟩, trivial⟩ mixed) Try.func39 (show Try.f39.body = some R01_Shr_b by kernel_rfl) ⟨R01_Shr_lo, R01_Shr_jo, by kernel_rfl⟩)

def R07_Turn_e : Ent := entOf [.tm (.int .i64), .tm (.int .i64), .tm (.int .i64)] fun (v : Int × Int × Int × Unit) n K => R07_Turn v.1 v.2.1 v.2.2.1 (fun (r0 : Int) (r1 : Int) => K (.tu [.t true (.int .i64) r0, .t true (.int .i64) r1]) [])
def R07_Turn_f : List (Nat × Ent) := [(27, R07_Cos_e), (29, R07_Sin_e), (39, R01_Shr_e)]
def R07_Turn_C : Cfg := mkC tys R07_Turn_f
def R07_Turn_b : Code := match Try.f25.body with | some c => c | none => .skip
def R07_Turn_y0 : Lay := ⟨52, [(0, .tm true (.int .i64)), (1, .tm true (.int .i64)), (2, .tm true (.int .i64)), (31, .tm true .bool)], []⟩
def R07_Turn_y1 : Lay := ⟨52, [(6, .tm true (.int .i64)), (7, .tm true (.int .i64))], []⟩
def R07_Turn_y2 : Lay := ⟨52, [(0, .tm true (.int .i64)), (1, .tm true (.int .i64)), (2, .tm true (.int .i64))], []⟩
def R07_Turn_j2_c : Cut := ⟨R07_Turn_y0, fun o => match o with | .ret => some R07_Turn_y1 | .nrm => some R07_Turn_y2 | _ => none, fun (v : (Int × Int × Int × Bool × Unit) × (Unit)) (K : KK) => R07_Turn_j2 v.1.1 v.1.2.1 v.1.2.2.1 v.1.2.2.2.1 (fun (y0 : Int) (y1 : Int) => K .ret (st R07_Turn_y1 ((y0, y1, ()), (())))) (fun (y0 : Int) (y1 : Int) (y2 : Int) => K .nrm (st R07_Turn_y2 ((y0, y1, y2, ()), (()))))⟩
def R07_Turn_j3_c : Cut := ⟨R07_Turn_y2, fun o => match o with | .ret => some R07_Turn_y1 | _ => none, fun (v : (Int × Int × Int × Unit) × (Unit)) (K : KK) => R07_Turn_j3 v.1.1 v.1.2.1 v.1.2.2.1 (fun (y0 : Int) (y1 : Int) => K .ret (st R07_Turn_y1 ((y0, y1, ()), (()))))⟩
def R07_Turn_L : Cuts := mkL [] [(2, R07_Turn_j2_c), (3, R07_Turn_j3_c)]
theorem R07_Turn_lo : LoopsOK R07_Turn_C R07_Turn_L R07_Turn_b := (show LoopsOK R07_Turn_C R07_Turn_L R07_Turn_b = True by kernel_rfl).mpr trivial
theorem R07_Turn_jo : JoinsOK R07_Turn_C R07_Turn_L R07_Turn_b :=
  (show JoinsOK R07_Turn_C R07_Turn_L R07_Turn_b = ((JoinOK R07_Turn_C R07_Turn_L R07_Turn_j3_c (nthB (joinsOf R07_Turn_L R07_Turn_b) 0) ∧ True) ∧ (JoinOK R07_Turn_C R07_Turn_L R07_Turn_j2_c (nthB (joinsOf R07_Turn_L R07_Turn_b) 1) ∧ True) ∧ True) by kernel_rfl).mpr ⟨⟨fun v K => by kernel_rfl, trivial⟩, ⟨fun v K => by kernel_rfl, trivial⟩, trivial⟩
theorem R07_Turn_ok : EntOK Try.prog 25 R07_Turn_e :=
  entOf_ok (e := evFn R07_Turn_C R07_Turn_L Try.f25) (fun v n K => Eq.trans (R07_Turn_def v.1 v.2.1 v.2.2.1 (fun (r0 : Int) (r1 : Int) => K (.tu [.t true (.int .i64) r0, .t true (.int .i64) r1]) [])) (by kernel_rfl)) (evFn_ok (mkC_all (fns := R07_Turn_f) tys_ok ⟨⟨R07_Cos_ok, Try.call27⟩, ⟨R07_Sin_ok, Try.call29⟩, ⟨R01_Shr_ok, Try.call39⟩, trivial⟩ mixed) Try.func25 (show Try.f25.body = some R07_Turn_b by kernel_rfl) ⟨R07_Turn_lo, R07_Turn_jo, by kernel_rfl⟩)

def L07_awake_e : Ent := entOf [] fun (v : Unit) n K => L07_awake (fun (r0 : Bool) => K (.t true .bool r0) [])
def L07_awake_f : List (Nat × Ent) := [(23, trig_Make_e), (24, trig_Table__Turn_e), (26, trig_Table__Cos_e), (28, trig_Table__Sin_e)]
def L07_awake_C : Cfg := mkC tys L07_awake_f
def L07_awake_b : Code := match Try.f30.body with | some c => c | none => .skip
def L07_awake_L : Cuts := mkL [] []
theorem L07_awake_lo : LoopsOK L07_awake_C L07_awake_L L07_awake_b := (show LoopsOK L07_awake_C L07_awake_L L07_awake_b = True by kernel_rfl).mpr trivial
theorem L07_awake_jo : JoinsOK L07_awake_C L07_awake_L L07_awake_b := (show JoinsOK L07_awake_C L07_awake_L L07_awake_b = True by kernel_rfl).mpr trivial
theorem L07_awake_ok : EntOK Try.prog 30 L07_awake_e :=
  entOf_ok (e := evFn L07_awake_C L07_awake_L Try.f30) (fun v n K => Eq.trans (L07_awake_def (fun (r0 : Bool) => K (.t true .bool r0) [])) (by kernel_rfl)) (evFn_ok (mkC_all (fns := L07_awake_f) tys_ok ⟨⟨trig_Make_ok, Try.call23⟩, ⟨trig_Table__Turn_ok, Try.call24⟩, ⟨trig_Table__Cos_ok, Try.call26⟩, ⟨trig_Table__Sin_ok, Try.call28⟩, trivial⟩ mixed) Try.func30 (show Try.f30.body = some L07_awake_b by kernel_rfl) ⟨L07_awake_lo, L07_awake_jo, by kernel_rfl⟩)

def L07_TrigTells_e : Ent := entOf [.tm (.int .i64), .tm (.int .i64), .tm (.int .i64)] fun (v : Int × Int × Int × Unit) n K => L07_TrigTells v.1 v.2.1 v.2.2.1 (fun (r0 : Bool) => K (.t true .bool r0) [])
def L07_TrigTells_f : List (Nat × Ent) := [(23, trig_Make_e), (24, trig_Table__Turn_e), (25, R07_Turn_e), (26, trig_Table__Cos_e), (27, R07_Cos_e), (28, trig_Table__Sin_e), (29, R07_Sin_e), (30, L07_awake_e)]
def L07_TrigTells_C : Cfg := mkC tys L07_TrigTells_f
def L07_TrigTells_b : Code := match Try.f6.body with | some c => c | none => .skip
def L07_TrigTells_L : Cuts := mkL [] []
theorem L07_TrigTells_lo : LoopsOK L07_TrigTells_C L07_TrigTells_L L07_TrigTells_b := (show LoopsOK L07_TrigTells_C L07_TrigTells_L L07_TrigTells_b = True by kernel_rfl).mpr trivial
theorem L07_TrigTells_jo : JoinsOK L07_TrigTells_C L07_TrigTells_L L07_TrigTells_b := (show JoinsOK L07_TrigTells_C L07_TrigTells_L L07_TrigTells_b = True by kernel_rfl).mpr trivial
theorem L07_TrigTells_ok : EntOK Try.prog 6 L07_TrigTells_e :=
  entOf_ok (e := evFn L07_TrigTells_C L07_TrigTells_L Try.f6) (fun v n K => Eq.trans (L07_TrigTells_def v.1 v.2.1 v.2.2.1 (fun (r0 : Bool) => K (.t true .bool r0) [])) (by kernel_rfl)) (evFn_ok (mkC_all (fns := L07_TrigTells_f) tys_ok ⟨⟨trig_Make_ok, Try.call23⟩, ⟨trig_Table__Turn_ok, Try.call24⟩, ⟨R07_Turn_ok, Try.call25⟩, ⟨trig_Table__Cos_ok, Try.call26⟩, ⟨R07_Cos_ok, Try.call27⟩, ⟨trig_Table__Sin_ok, Try.call28⟩, ⟨R07_Sin_ok, Try.call29⟩, ⟨L07_awake_ok, Try.call30⟩, trivial⟩ mixed) Try.func6 (show Try.f6.body = some L07_TrigTells_b by kernel_rfl) ⟨L07_TrigTells_lo, L07_TrigTells_jo, by kernel_rfl⟩)

end
end Go.Eng.A
