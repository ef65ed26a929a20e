/- Each of these functions is what the program computes: printed by program. -/
import Derived.Test.YtniabjhjpkkllaaEngT
import Derived.Test.YtniabjhjpkkllaaShapeLoudP
import Derived.Test.YtniabjhjpkkllaaProg
import Derived.Test.YtniabjhjpkkllaaShapeLoudTc
set_option linter.unusedVariables false
set_option maxRecDepth 100000
namespace Go.Eng.A
open Go Go.Eng Go.Proofs
noncomputable section

def L17_awake_e : Ent := entOf [] fun (v : Unit) n K => L17_awake (fun (r0 : Bool) => K (.t true .bool r0) [])
def L17_awake_f : List (Nat × Ent) := [(23, shape_Values_e), (25, shape_Level_e), (19, R01_Same_e), (27, shape_Power_e)]
def L17_awake_C : Cfg := mkC tys L17_awake_f
def L17_awake_b : Code := match Try.f22.body with | some c => c | none => .skip
def L17_awake_y0 : Lay := ⟨44, [(1, .fx (.os 0)), (2, .tm true .bool), (4, .tm true .bool)], [.val true true 3 (.row (.int .i64))]⟩
def L17_awake_y1 : Lay := ⟨44, [(0, .tm true .bool)], []⟩
def L17_awake_j3_c : Cut := ⟨L17_awake_y0, fun o => match o with | .ret => some L17_awake_y1 | _ => none, fun (v : (Bool × Bool × Unit) × ((List Int) × Unit)) (K : KK) => L17_awake_j3 v.1.1 v.1.2.1 v.2.1 (fun (y0 : Bool) => K .ret (st L17_awake_y1 ((y0, ()), (()))))⟩
def L17_awake_y2 : Lay := ⟨44, [(1, .fx (.os 0)), (2, .tm true .bool)], [.val true true 3 (.row (.int .i64))]⟩
def L17_awake_j2_c : Cut := ⟨L17_awake_y2, fun o => match o with | .ret => some L17_awake_y1 | _ => none, fun (v : (Bool × Unit) × ((List Int) × Unit)) (K : KK) => L17_awake_j2 v.1.1 v.2.1 (fun (y0 : Bool) => K .ret (st L17_awake_y1 ((y0, ()), (()))))⟩
def L17_awake_L : Cuts := mkL [] [(3, L17_awake_j3_c), (2, L17_awake_j2_c)]
theorem L17_awake_lo : LoopsOK L17_awake_C L17_awake_L L17_awake_b := (show LoopsOK L17_awake_C L17_awake_L L17_awake_b = True by kernel_rfl).mpr trivial
theorem L17_awake_jo : JoinsOK L17_awake_C L17_awake_L L17_awake_b :=
  (show JoinsOK L17_awake_C L17_awake_L L17_awake_b = ((JoinOK L17_awake_C L17_awake_L L17_awake_j2_c (nthB (joinsOf L17_awake_L L17_awake_b) 0) ∧ True) ∧ (JoinOK L17_awake_C L17_awake_L L17_awake_j3_c (nthB (joinsOf L17_awake_L L17_awake_b) 1) ∧ True) ∧ True) by kernel_rfl).mpr ⟨⟨fun v K => by kernel_rfl, trivial⟩, ⟨fun v K => by kernel_rfl, trivial⟩, trivial⟩
theorem L17_awake_ok : EntOK Try.prog 22 L17_awake_e :=
  entOf_ok (e := evFn L17_awake_C L17_awake_L Try.f22) (fun v n K => Eq.trans (L17_awake_def (fun (r0 : Bool) => K (.t true .bool r0) [])) (by kernel_rfl)) (evFn_ok (mkC_all (fns := L17_awake_f) tys_ok ⟨⟨shape_Values_ok, Try.call23⟩, ⟨shape_Level_ok, Try.call25⟩, ⟨R01_Same_ok, Try.call19⟩, ⟨shape_Power_ok, Try.call27⟩, trivial⟩ mixed) Try.func22 (show Try.f22.body = some L17_awake_b by kernel_rfl) ⟨L17_awake_lo, L17_awake_jo, by kernel_rfl⟩)

def R08_step_e : Ent := entOf [.tm (.int .i64)] fun (v : Int × Unit) n K => R08_step v.1 (fun (r0 : Int) => K (.t true (.int .i64) r0) [])
def R08_step_f : List (Nat × Ent) := []
def R08_step_C : Cfg := mkC tys R08_step_f
def R08_step_b : Code := match Try.f63.body with | some c => c | none => .skip
def R08_step_L : Cuts := mkL [] []
theorem R08_step_lo : LoopsOK R08_step_C R08_step_L R08_step_b := (show LoopsOK R08_step_C R08_step_L R08_step_b = True by kernel_rfl).mpr trivial
theorem R08_step_jo : JoinsOK R08_step_C R08_step_L R08_step_b := (show JoinsOK R08_step_C R08_step_L R08_step_b = True by kernel_rfl).mpr trivial
theorem R08_step_ok : EntOK Try.prog 63 R08_step_e :=
  entOf_ok (e := evFn R08_step_C R08_step_L Try.f63) (fun v n K => Eq.trans (R08_step_def v.1 (fun (r0 : Int) => K (.t true (.int .i64) r0) [])) (by kernel_rfl)) (evFn_ok (mkC_all (fns := R08_step_f) tys_ok trivial mixed) Try.func63 (show Try.f63.body = some R08_step_b by kernel_rfl) ⟨R08_step_lo, R08_step_jo, by kernel_rfl⟩)

def R01_Mod_e : Ent := entOf [.tm (.int .i64), .tm (.int .i64)] fun (v : Int × Int × Unit) n K => R01_Mod v.1 v.2.1 (fun (r0 : Int) (r1 : Int) => K (.tu [.t true (.int .i64) r0, .t true (.int .i64) r1]) [])
def R01_Mod_f : List (Nat × Ent) := []
def R01_Mod_C : Cfg := mkC tys R01_Mod_f
def R01_Mod_b : Code := match Try.f74.body with | some c => c | none => .skip
def R01_Mod_L : Cuts := mkL [] []
theorem R01_Mod_lo : LoopsOK R01_Mod_C R01_Mod_L R01_Mod_b := (show LoopsOK R01_Mod_C R01_Mod_L R01_Mod_b = True by kernel_rfl).mpr trivial
theorem R01_Mod_jo : JoinsOK R01_Mod_C R01_Mod_L R01_Mod_b := (show JoinsOK R01_Mod_C R01_Mod_L R01_Mod_b = True by kernel_rfl).mpr trivial
theorem R01_Mod_ok : EntOK Try.prog 74 R01_Mod_e :=
  entOf_ok (e := evFn R01_Mod_C R01_Mod_L Try.f74) (fun v n K => Eq.trans (R01_Mod_def v.1 v.2.1 (fun (r0 : Int) (r1 : Int) => K (.tu [.t true (.int .i64) r0, .t true (.int .i64) r1]) [])) (by kernel_rfl)) (evFn_ok (mkC_all (fns := R01_Mod_f) tys_ok trivial mixed) Try.func74 (show Try.f74.body = some R01_Mod_b by kernel_rfl) ⟨R01_Mod_lo, R01_Mod_jo, by kernel_rfl⟩)

def R01_Shr_e : Ent := entOf [.tm (.int .i64), .tm (.int .i64)] fun (v : Int × Int × Unit) n K => R01_Shr v.1 v.2.1 (fun (r0 : Int) => K (.t true (.int .i64) r0) [])
def R01_Shr_f : List (Nat × Ent) := [(74, R01_Mod_e)]
def R01_Shr_C : Cfg := mkC tys R01_Shr_f
def R01_Shr_b : Code := match Try.f50.body with | some c => c | none => .skip
def R01_Shr_L : Cuts := mkL [] []
theorem R01_Shr_lo : LoopsOK R01_Shr_C R01_Shr_L R01_Shr_b := (show LoopsOK R01_Shr_C R01_Shr_L R01_Shr_b = True by kernel_rfl).mpr trivial
theorem R01_Shr_jo : JoinsOK R01_Shr_C R01_Shr_L R01_Shr_b := (show JoinsOK R01_Shr_C R01_Shr_L R01_Shr_b = True by kernel_rfl).mpr trivial
theorem R01_Shr_ok : EntOK Try.prog 50 R01_Shr_e :=
  entOf_ok (e := evFn R01_Shr_C R01_Shr_L Try.f50) (fun v n K => Eq.trans (R01_Shr_def v.1 v.2.1 (fun (r0 : Int) => K (.t true (.int .i64) r0) [])) (by kernel_rfl)) (evFn_ok (mkC_all (fns := R01_Shr_f) tys_ok ⟨⟨R01_Mod_ok, Try.call74⟩, trivial⟩ mixed) Try.func50 (show Try.f50.body = some R01_Shr_b by kernel_rfl) ⟨R01_Shr_lo, R01_Shr_jo, by kernel_rfl⟩)

def R08_Amp_e : Ent := entOf [.tm (.int .i64), .tm (.int .i64)] fun (v : Int × Int × Unit) n K => R08_Amp v.1 v.2.1 (fun (r0 : Int) => K (.t true (.int .i64) r0) [])
def R08_Amp_f : List (Nat × Ent) := [(63, R08_step_e), (50, R01_Shr_e)]
def R08_Amp_C : Cfg := mkC tys R08_Amp_f
def R08_Amp_b : Code := match Try.f30.body with | some c => c | none => .skip
def R08_Amp_L : Cuts := mkL [] []
theorem R08_Amp_lo : LoopsOK R08_Amp_C R08_Amp_L R08_Amp_b := (show LoopsOK R08_Amp_C R08_Amp_L R08_Amp_b = True by kernel_rfl).mpr trivial
theorem R08_Amp_jo : JoinsOK R08_Amp_C R08_Amp_L R08_Amp_b := (show JoinsOK R08_Amp_C R08_Amp_L R08_Amp_b = True by kernel_rfl).mpr trivial
theorem R08_Amp_ok : EntOK Try.prog 30 R08_Amp_e :=
  entOf_ok (e := evFn R08_Amp_C R08_Amp_L Try.f30) (fun v n K => Eq.trans (R08_Amp_def v.1 v.2.1 (fun (r0 : Int) => K (.t true (.int .i64) r0) [])) (by kernel_rfl)) (evFn_ok (mkC_all (fns := R08_Amp_f) tys_ok ⟨⟨R08_step_ok, Try.call63⟩, ⟨R01_Shr_ok, Try.call50⟩, trivial⟩ mixed) Try.func30 (show Try.f30.body = some R08_Amp_b by kernel_rfl) ⟨R08_Amp_lo, R08_Amp_jo, by kernel_rfl⟩)

def R01_Abs_e : Ent := entOf [.tm (.int .i64)] fun (v : Int × Unit) n K => R01_Abs v.1 (fun (r0 : Int) => K (.t true (.int .i64) r0) [])
def R01_Abs_f : List (Nat × Ent) := []
def R01_Abs_C : Cfg := mkC tys R01_Abs_f
def R01_Abs_b : Code := match Try.f31.body with | some c => c | none => .skip
def R01_Abs_L : Cuts := mkL [] []
theorem R01_Abs_lo : LoopsOK R01_Abs_C R01_Abs_L R01_Abs_b := (show LoopsOK R01_Abs_C R01_Abs_L R01_Abs_b = True by kernel_rfl).mpr trivial
theorem R01_Abs_jo : JoinsOK R01_Abs_C R01_Abs_L R01_Abs_b := (show JoinsOK R01_Abs_C R01_Abs_L R01_Abs_b = True by kernel_rfl).mpr trivial
theorem R01_Abs_ok : EntOK Try.prog 31 R01_Abs_e :=
  entOf_ok (e := evFn R01_Abs_C R01_Abs_L Try.f31) (fun v n K => Eq.trans (R01_Abs_def v.1 (fun (r0 : Int) => K (.t true (.int .i64) r0) [])) (by kernel_rfl)) (evFn_ok (mkC_all (fns := R01_Abs_f) tys_ok trivial mixed) Try.func31 (show Try.f31.body = some R01_Abs_b by kernel_rfl) ⟨R01_Abs_lo, R01_Abs_jo, by kernel_rfl⟩)

end
end Go.Eng.A
