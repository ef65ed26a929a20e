/- Each of these functions is what the program computes: printed by program. -/
import Derived.Test.YtjfnkbbcnllfiabEngT
import Derived.Test.YtjfnkbbcnllfiabTrigQuarterP
import Derived.Test.YtjfnkbbcnllfiabProg
import Derived.Test.YtjfnkbbcnllfiabTrigQuarterTa
set_option linter.unusedVariables false
set_option maxRecDepth 100000
namespace Go.Eng.A
open Go Go.Eng Go.Proofs
noncomputable section

def trig_Make_e : Ent := entOf [] fun (v : Unit) n K => trig_Make (fun (r0 : (List Int)) => K (.op (n + 0) (.arr 512 (.int .i64)) []) [.val true true 49 (.arr 512 (.int .i64)) r0])
def trig_Make_f : List (Nat × Ent) := [(42, trig_first_e)]
def trig_Make_C : Cfg := mkC tys trig_Make_f
def trig_Make_b : Code := match Try.f23.body with | some c => c | none => .skip
def trig_Make_y0 : Lay := ⟨47, [(1, .fx (.op 0 (.arr 512 (.int .i64)) [])), (2, .fx (.op 1 (.arr 129 (.int .i64)) [])), (7, .tm true (.int .i64))], [.val true true 49 (.arr 512 (.int .i64)), .val true true 50 (.arr 129 (.int .i64))]⟩
def trig_Make_y1 : Lay := ⟨47, [(1, .fx (.op 0 (.arr 512 (.int .i64)) []))], [.val true true 49 (.arr 512 (.int .i64))]⟩
def trig_Make_l3_F (k : Nat) (v : (Int × Unit) × ((List Int) × (List Int) × Unit)) (K : KK) : Prop := trig_Make_l3 k v.1.1 v.2.1 v.2.2.1 (fun (y0 : (List Int)) => K (.exit 0) (st trig_Make_y1 ((()), (y0, ()))))
def trig_Make_l3_c : Cut := ⟨trig_Make_y0, fun o => match o with | .exit 0 => some trig_Make_y1 | _ => none, fun (v : (Int × Unit) × ((List Int) × (List Int) × Unit)) K => ∃ k, trig_Make_l3_F k v K⟩
def trig_Make_L : Cuts := mkL [(3, trig_Make_l3_c)] []
theorem trig_Make_lo : LoopsOK trig_Make_C trig_Make_L trig_Make_b :=
  (show LoopsOK trig_Make_C trig_Make_L trig_Make_b = ((LoopOK trig_Make_C trig_Make_L trig_Make_l3_c (nthB (loopsOf trig_Make_b) 0) ∧ True) ∧ True) by kernel_rfl).mpr ⟨⟨⟨trig_Make_l3_F, fun v K => by kernel_rfl, fun v K => by kernel_rfl, fun k v K => by kernel_rfl⟩, trivial⟩, trivial⟩
theorem trig_Make_jo : JoinsOK trig_Make_C trig_Make_L trig_Make_b := (show JoinsOK trig_Make_C trig_Make_L trig_Make_b = True by kernel_rfl).mpr trivial
theorem trig_Make_ok : EntOK Try.prog 23 trig_Make_e :=
  entOf_ok (e := evFn trig_Make_C trig_Make_L Try.f23) (fun v n K => Eq.trans (trig_Make_def (fun (r0 : (List Int)) => K (.op (n + 0) (.arr 512 (.int .i64)) []) [.val true true 49 (.arr 512 (.int .i64)) r0])) (by kernel_rfl)) (evFn_ok (mkC_all (fns := trig_Make_f) tys_ok ⟨⟨trig_first_ok, Try.call42⟩, trivial⟩ mixed) Try.func23 (show Try.f23.body = some trig_Make_b by kernel_rfl) ⟨trig_Make_lo, trig_Make_jo, by kernel_rfl⟩)

def trig_Table__Cos_e : Ent := entOf [.tm (.ptr (.arr 512 (.int .i64))), .tm (.int .i64)] fun (v : (List Int) × Int × Unit) n K => trig_Table__Cos v.1 v.2.1 (fun (r0 : Int) => K (.t true (.int .i64) r0) [])
def trig_Table__Cos_f : List (Nat × Ent) := []
def trig_Table__Cos_C : Cfg := mkC tys trig_Table__Cos_f
def trig_Table__Cos_b : Code := match Try.f26.body with | some c => c | none => .skip
def trig_Table__Cos_L : Cuts := mkL [] []
theorem trig_Table__Cos_lo : LoopsOK trig_Table__Cos_C trig_Table__Cos_L trig_Table__Cos_b := (show LoopsOK trig_Table__Cos_C trig_Table__Cos_L trig_Table__Cos_b = True by kernel_rfl).mpr trivial
theorem trig_Table__Cos_jo : JoinsOK trig_Table__Cos_C trig_Table__Cos_L trig_Table__Cos_b := (show JoinsOK trig_Table__Cos_C trig_Table__Cos_L trig_Table__Cos_b = True by kernel_rfl).mpr trivial
theorem trig_Table__Cos_ok : EntOK Try.prog 26 trig_Table__Cos_e :=
  entOf_ok (e := evFn trig_Table__Cos_C trig_Table__Cos_L Try.f26) (fun v n K => Eq.trans (trig_Table__Cos_def v.1 v.2.1 (fun (r0 : Int) => K (.t true (.int .i64) r0) [])) (by kernel_rfl)) (evFn_ok (mkC_all (fns := trig_Table__Cos_f) tys_ok trivial mixed) Try.func26 (show Try.f26.body = some trig_Table__Cos_b by kernel_rfl) ⟨trig_Table__Cos_lo, trig_Table__Cos_jo, by kernel_rfl⟩)

def trig_Table__Sin_e : Ent := entOf [.tm (.ptr (.arr 512 (.int .i64))), .tm (.int .i64)] fun (v : (List Int) × Int × Unit) n K => trig_Table__Sin v.1 v.2.1 (fun (r0 : Int) => K (.t true (.int .i64) r0) [])
def trig_Table__Sin_f : List (Nat × Ent) := [(26, trig_Table__Cos_e)]
def trig_Table__Sin_C : Cfg := mkC tys trig_Table__Sin_f
def trig_Table__Sin_b : Code := match Try.f28.body with | some c => c | none => .skip
def trig_Table__Sin_L : Cuts := mkL [] []
theorem trig_Table__Sin_lo : LoopsOK trig_Table__Sin_C trig_Table__Sin_L trig_Table__Sin_b := (show LoopsOK trig_Table__Sin_C trig_Table__Sin_L trig_Table__Sin_b = True by kernel_rfl).mpr trivial
theorem trig_Table__Sin_jo : JoinsOK trig_Table__Sin_C trig_Table__Sin_L trig_Table__Sin_b := (show JoinsOK trig_Table__Sin_C trig_Table__Sin_L trig_Table__Sin_b = True by kernel_rfl).mpr trivial
theorem trig_Table__Sin_ok : EntOK Try.prog 28 trig_Table__Sin_e :=
  entOf_ok (e := evFn trig_Table__Sin_C trig_Table__Sin_L Try.f28) (fun v n K => Eq.trans (trig_Table__Sin_def v.1 v.2.1 (fun (r0 : Int) => K (.t true (.int .i64) r0) [])) (by kernel_rfl)) (evFn_ok (mkC_all (fns := trig_Table__Sin_f) tys_ok ⟨⟨trig_Table__Cos_ok, Try.call26⟩, trivial⟩ mixed) Try.func28 (show Try.f28.body = some trig_Table__Sin_b by kernel_rfl) ⟨trig_Table__Sin_lo, trig_Table__Sin_jo, by kernel_rfl⟩)

def num_within_e : Ent := entOf [.tm (.int .i64), .tm (.sl (.int .i64))] fun (v : Int × (List Int) × Unit) n K => num_within v.1 v.2.1 (fun (r0 : Bool) => K (.t true .bool r0) [])
def num_within_f : List (Nat × Ent) := []
def num_within_C : Cfg := mkC tys num_within_f
def num_within_b : Code := match Try.f48.body with | some c => c | none => .skip
def num_within_y0 : Lay := ⟨23, [(0, .tm true (.int .i64)), (7, .tm false (.sl (.int .i64))), (8, .tm true (.int .i64)), (9, .tm true (.int .i64))], []⟩
def num_within_y1 : Lay := ⟨23, [(4, .tm true .bool)], []⟩
def num_within_y2 : Lay := ⟨23, [], []⟩
def num_within_l2_F (k : Nat) (v : (Int × (List Int) × Int × Int × Unit) × (Unit)) (K : KK) : Prop := num_within_l2 k v.1.1 v.1.2.1 v.1.2.2.1 v.1.2.2.2.1 (fun (y0 : Bool) => K .ret (st num_within_y1 ((y0, ()), (())))) (K (.exit 0) (st num_within_y2 ((()), (()))))
def num_within_l2_c : Cut := ⟨num_within_y0, fun o => match o with | .ret => some num_within_y1 | .exit 0 => some num_within_y2 | _ => none, fun (v : (Int × (List Int) × Int × Int × Unit) × (Unit)) K => ∃ k, num_within_l2_F k v K⟩
def num_within_L : Cuts := mkL [(2, num_within_l2_c)] []
theorem num_within_lo : LoopsOK num_within_C num_within_L num_within_b :=
  (show LoopsOK num_within_C num_within_L num_within_b = ((LoopOK num_within_C num_within_L num_within_l2_c (nthB (loopsOf num_within_b) 0) ∧ True) ∧ True) by kernel_rfl).mpr ⟨⟨⟨num_within_l2_F, fun v K => by kernel_rfl, fun v K => by kernel_rfl, fun k v K => by kernel_rfl⟩, trivial⟩, trivial⟩
theorem num_within_jo : JoinsOK num_within_C num_within_L num_within_b := (show JoinsOK num_within_C num_within_L num_within_b = True by kernel_rfl).mpr trivial
theorem num_within_ok : EntOK Try.prog 48 num_within_e :=
  entOf_ok (e := evFn num_within_C num_within_L Try.f48) (fun v n K => Eq.trans (num_within_def v.1 v.2.1 (fun (r0 : Bool) => K (.t true .bool r0) [])) (by kernel_rfl)) (evFn_ok (mkC_all (fns := num_within_f) tys_ok trivial mixed) Try.func48 (show Try.f48.body = some num_within_b by kernel_rfl) ⟨num_within_lo, num_within_jo, by kernel_rfl⟩)

def num_Shr_e : Ent := entOf [.tm (.int .i64), .tm (.int .i64)] fun (v : Int × Int × Unit) n K => num_Shr v.1 v.2.1 (fun (r0 : Int) => K (.t true (.int .i64) r0) [])
def num_Shr_f : List (Nat × Ent) := [(48, num_within_e)]
def num_Shr_C : Cfg := mkC tys num_Shr_f
def num_Shr_b : Code := match Try.f38.body with | some c => c | none => .skip
def num_Shr_y0 : Lay := ⟨29, [(0, .tm true (.int .i64)), (1, .tm true (.int .i64)), (5, .tm true .bool)], []⟩
def num_Shr_y1 : Lay := ⟨29, [(4, .tm true (.int .i64))], []⟩
def num_Shr_y2 : Lay := ⟨29, [(0, .tm true (.int .i64)), (1, .tm true (.int .i64))], []⟩
def num_Shr_j2_c : Cut := ⟨num_Shr_y0, fun o => match o with | .ret => some num_Shr_y1 | .nrm => some num_Shr_y2 | _ => none, fun (v : (Int × Int × Bool × Unit) × (Unit)) (K : KK) => num_Shr_j2 v.1.1 v.1.2.1 v.1.2.2.1 (fun (y0 : Int) => K .ret (st num_Shr_y1 ((y0, ()), (())))) (fun (y0 : Int) (y1 : Int) => K .nrm (st num_Shr_y2 ((y0, y1, ()), (()))))⟩
def num_Shr_j5_c : Cut := ⟨num_Shr_y2, fun o => match o with | .ret => some num_Shr_y1 | _ => none, fun (v : (Int × Int × Unit) × (Unit)) (K : KK) => num_Shr_j5 v.1.1 v.1.2.1 (fun (y0 : Int) => K .ret (st num_Shr_y1 ((y0, ()), (()))))⟩
def num_Shr_L : Cuts := mkL [] [(2, num_Shr_j2_c), (5, num_Shr_j5_c)]
theorem num_Shr_lo : LoopsOK num_Shr_C num_Shr_L num_Shr_b := (show LoopsOK num_Shr_C num_Shr_L num_Shr_b = True by kernel_rfl).mpr trivial
theorem num_Shr_jo : JoinsOK num_Shr_C num_Shr_L num_Shr_b :=
  (show JoinsOK num_Shr_C num_Shr_L num_Shr_b = ((JoinOK num_Shr_C num_Shr_L num_Shr_j5_c (nthB (joinsOf num_Shr_L num_Shr_b) 0) ∧ True) ∧ (JoinOK num_Shr_C num_Shr_L num_Shr_j2_c (nthB (joinsOf num_Shr_L num_Shr_b) 1) ∧ True) ∧ True) by kernel_rfl).mpr ⟨⟨fun v K => by kernel_rfl, trivial⟩, ⟨fun v K => by kernel_rfl, trivial⟩, trivial⟩
theorem num_Shr_ok : EntOK Try.prog 38 num_Shr_e :=
  entOf_ok (e := evFn num_Shr_C num_Shr_L Try.f38) (fun v n K => Eq.trans (num_Shr_def v.1 v.2.1 (fun (r0 : Int) => K (.t true (.int .i64) r0) [])) (by kernel_rfl)) (evFn_ok (mkC_all (fns := num_Shr_f) tys_ok ⟨⟨num_within_ok, Try.call48⟩, trivial⟩ mixed) Try.func38 (show Try.f38.body = some num_Shr_b by kernel_rfl) ⟨num_Shr_lo, num_Shr_jo, by kernel_rfl⟩)

def trig_Table__Turn_e : Ent := entOf [.tm (.ptr (.arr 512 (.int .i64))), .tm (.int .i64), .tm (.int .i64), .tm (.int .i64)] fun (v : (List Int) × Int × Int × Int × Unit) n K => trig_Table__Turn v.1 v.2.1 v.2.2.1 v.2.2.2.1 (fun (r0 : Int) (r1 : Int) => K (.tu [.t true (.int .i64) r0, .t true (.int .i64) r1]) [])
def trig_Table__Turn_f : List (Nat × Ent) := [(26, trig_Table__Cos_e), (28, trig_Table__Sin_e), (38, num_Shr_e)]
def trig_Table__Turn_C : Cfg := mkC tys trig_Table__Turn_f
def trig_Table__Turn_b : Code := match Try.f24.body with | some c => c | none => .skip
def trig_Table__Turn_y0 : Lay := ⟨52, [(0, .tm false (.ptr (.arr 512 (.int .i64)))), (1, .tm true (.int .i64)), (2, .tm true (.int .i64)), (3, .tm true (.int .i64)), (29, .tm true .bool)], []⟩
def trig_Table__Turn_y1 : Lay := ⟨52, [(8, .tm true (.int .i64)), (9, .tm true (.int .i64))], []⟩
def trig_Table__Turn_y2 : Lay := ⟨52, [(0, .tm false (.ptr (.arr 512 (.int .i64)))), (1, .tm true (.int .i64)), (2, .tm true (.int .i64)), (3, .tm true (.int .i64))], []⟩
def trig_Table__Turn_j2_c : Cut := ⟨trig_Table__Turn_y0, fun o => match o with | .ret => some trig_Table__Turn_y1 | .nrm => some trig_Table__Turn_y2 | _ => none, fun (v : ((List Int) × Int × Int × Int × Bool × Unit) × (Unit)) (K : KK) => trig_Table__Turn_j2 v.1.1 v.1.2.1 v.1.2.2.1 v.1.2.2.2.1 v.1.2.2.2.2.1 (fun (y0 : Int) (y1 : Int) => K .ret (st trig_Table__Turn_y1 ((y0, y1, ()), (())))) (fun (y0 : (List Int)) (y1 : Int) (y2 : Int) (y3 : Int) => K .nrm (st trig_Table__Turn_y2 ((y0, y1, y2, y3, ()), (()))))⟩
def trig_Table__Turn_j3_c : Cut := ⟨trig_Table__Turn_y2, fun o => match o with | .ret => some trig_Table__Turn_y1 | _ => none, fun (v : ((List Int) × Int × Int × Int × Unit) × (Unit)) (K : KK) => trig_Table__Turn_j3 v.1.1 v.1.2.1 v.1.2.2.1 v.1.2.2.2.1 (fun (y0 : Int) (y1 : Int) => K .ret (st trig_Table__Turn_y1 ((y0, y1, ()), (()))))⟩
def trig_Table__Turn_L : Cuts := mkL [] [(2, trig_Table__Turn_j2_c), (3, trig_Table__Turn_j3_c)]
theorem trig_Table__Turn_lo : LoopsOK trig_Table__Turn_C trig_Table__Turn_L trig_Table__Turn_b := (show LoopsOK trig_Table__Turn_C trig_Table__Turn_L trig_Table__Turn_b = True by kernel_rfl).mpr trivial
theorem trig_Table__Turn_jo : JoinsOK trig_Table__Turn_C trig_Table__Turn_L trig_Table__Turn_b :=
  (show JoinsOK trig_Table__Turn_C trig_Table__Turn_L trig_Table__Turn_b = ((JoinOK trig_Table__Turn_C trig_Table__Turn_L trig_Table__Turn_j3_c (nthB (joinsOf trig_Table__Turn_L trig_Table__Turn_b) 0) ∧ True) ∧ (JoinOK trig_Table__Turn_C trig_Table__Turn_L trig_Table__Turn_j2_c (nthB (joinsOf trig_Table__Turn_L trig_Table__Turn_b) 1) ∧ True) ∧ True) by kernel_rfl).mpr ⟨⟨fun v K => by kernel_rfl, trivial⟩, ⟨fun v K => by kernel_rfl, trivial⟩, trivial⟩
theorem trig_Table__Turn_ok : EntOK Try.prog 24 trig_Table__Turn_e :=
  entOf_ok (e := evFn trig_Table__Turn_C trig_Table__Turn_L Try.f24) (fun v n K => Eq.trans (trig_Table__Turn_def v.1 v.2.1 v.2.2.1 v.2.2.2.1 (fun (r0 : Int) (r1 : Int) => K (.tu [.t true (.int .i64) r0, .t true (.int .i64) r1]) [])) (by kernel_rfl)) (evFn_ok (mkC_all (fns := trig_Table__Turn_f) tys_ok ⟨⟨trig_Table__Cos_ok, Try.call26⟩, ⟨trig_Table__Sin_ok, Try.call28⟩, ⟨num_Shr_ok, Try.call38⟩, trivial⟩ mixed) Try.func24 (show Try.f24.body = some trig_Table__Turn_b by kernel_rfl) ⟨trig_Table__Turn_lo, trig_Table__Turn_jo, by kernel_rfl⟩)

end
end Go.Eng.A
