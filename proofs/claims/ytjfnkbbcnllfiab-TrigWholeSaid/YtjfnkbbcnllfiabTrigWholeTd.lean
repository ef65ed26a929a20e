/- Each of these functions is what the program computes: printed by program. -/
import Derived.Test.YtjfnkbbcnllfiabEngT
import Derived.Test.YtjfnkbbcnllfiabTrigWholeP
import Derived.Test.YtjfnkbbcnllfiabProg
import Derived.Test.YtjfnkbbcnllfiabTrigWholeTc
set_option linter.unusedVariables false
set_option maxRecDepth 100000
namespace Go.Eng.A
open Go Go.Eng Go.Proofs
noncomputable section

def R07_Make_e : Ent := entOf [] fun (v : Unit) n K => R07_Make (fun (r0 : (List Int)) => K (.os (n + 0)) [.val true true 3 (.row (.int .i64)) r0])
def R07_Make_f : List (Nat × Ent) := [(44, R07_quarter_e)]
def R07_Make_C : Cfg := mkC tys R07_Make_f
def R07_Make_b : Code := match Try.f31.body with | some c => c | none => .skip
def R07_Make_y0 : Lay := ⟨33, [(1, .fx (.os 0)), (2, .fx (.os 1)), (3, .tm true (.int .i64))], [.val true true 3 (.row (.int .i64)), .val true true 3 (.row (.int .i64))]⟩
def R07_Make_y1 : Lay := ⟨33, [(2, .fx (.os 0))], [.val true true 3 (.row (.int .i64))]⟩
def R07_Make_l4_F (k : Nat) (v : (Int × Unit) × ((List Int) × (List Int) × Unit)) (K : KK) : Prop := R07_Make_l4 k v.1.1 v.2.1 v.2.2.1 (fun (y0 : (List Int)) => K (.exit 0) (st R07_Make_y1 ((()), (y0, ()))))
def R07_Make_l4_c : Cut := ⟨R07_Make_y0, fun o => match o with | .exit 0 => some R07_Make_y1 | _ => none, fun (v : (Int × Unit) × ((List Int) × (List Int) × Unit)) K => ∃ k, R07_Make_l4_F k v K⟩
def R07_Make_L : Cuts := mkL [(4, R07_Make_l4_c)] []
theorem R07_Make_lo : LoopsOK R07_Make_C R07_Make_L R07_Make_b :=
  (show LoopsOK R07_Make_C R07_Make_L R07_Make_b = ((LoopOK R07_Make_C R07_Make_L R07_Make_l4_c (nthB (loopsOf R07_Make_b) 0) ∧ True) ∧ True) by kernel_rfl).mpr ⟨⟨⟨R07_Make_l4_F, fun v K => by kernel_rfl, fun v K => by kernel_rfl, fun k v K => by kernel_rfl⟩, trivial⟩, trivial⟩
theorem R07_Make_jo : JoinsOK R07_Make_C R07_Make_L R07_Make_b := (show JoinsOK R07_Make_C R07_Make_L R07_Make_b = True by kernel_rfl).mpr trivial
theorem R07_Make_ok : EntOK Try.prog 31 R07_Make_e :=
  entOf_ok (e := evFn R07_Make_C R07_Make_L Try.f31) (fun v n K => Eq.trans (R07_Make_def (fun (r0 : (List Int)) => K (.os (n + 0)) [.val true true 3 (.row (.int .i64)) r0])) (by kernel_rfl)) (evFn_ok (mkC_all (fns := R07_Make_f) tys_ok ⟨⟨R07_quarter_ok, Try.call44⟩, trivial⟩ mixed) Try.func31 (show Try.f31.body = some R07_Make_b by kernel_rfl) ⟨R07_Make_lo, R07_Make_jo, by kernel_rfl⟩)

def trig_Table__Cos__nil0_e : Ent := entOf [.tm .np, .tm (.int .i64)] fun (v : Unit × Int × Unit) n K => trig_Table__Cos__nil0 v.1 v.2.1 (fun (r0 : Int) => K (.t true (.int .i64) r0) [])
def trig_Table__Cos__nil0_f : List (Nat × Ent) := []
def trig_Table__Cos__nil0_C : Cfg := mkC tys trig_Table__Cos__nil0_f
def trig_Table__Cos__nil0_b : Code := match Try.f26.body with | some c => c | none => .skip
def trig_Table__Cos__nil0_L : Cuts := mkL [] []
theorem trig_Table__Cos__nil0_lo : LoopsOK trig_Table__Cos__nil0_C trig_Table__Cos__nil0_L trig_Table__Cos__nil0_b := (show LoopsOK trig_Table__Cos__nil0_C trig_Table__Cos__nil0_L trig_Table__Cos__nil0_b = True by kernel_rfl).mpr trivial
theorem trig_Table__Cos__nil0_jo : JoinsOK trig_Table__Cos__nil0_C trig_Table__Cos__nil0_L trig_Table__Cos__nil0_b := (show JoinsOK trig_Table__Cos__nil0_C trig_Table__Cos__nil0_L trig_Table__Cos__nil0_b = True by kernel_rfl).mpr trivial
theorem trig_Table__Cos__nil0_ok : EntOK Try.prog 26 trig_Table__Cos__nil0_e :=
  entOf_ok (e := evFn trig_Table__Cos__nil0_C trig_Table__Cos__nil0_L Try.f26) (fun v n K => Eq.trans (trig_Table__Cos__nil0_def v.1 v.2.1 (fun (r0 : Int) => K (.t true (.int .i64) r0) [])) (by kernel_rfl)) (evFn_ok (mkC_all (fns := trig_Table__Cos__nil0_f) tys_ok trivial mixed) Try.func26 (show Try.f26.body = some trig_Table__Cos__nil0_b by kernel_rfl) ⟨trig_Table__Cos__nil0_lo, trig_Table__Cos__nil0_jo, by kernel_rfl⟩)

def trig_Table__Sin__nil0_e : Ent := entOf [.tm .np, .tm (.int .i64)] fun (v : Unit × Int × Unit) n K => trig_Table__Sin__nil0 v.1 v.2.1 (fun (r0 : Int) => K (.t true (.int .i64) r0) [])
def trig_Table__Sin__nil0_f : List (Nat × Ent) := [(26, trig_Table__Cos__nil0_e)]
def trig_Table__Sin__nil0_C : Cfg := mkC tys trig_Table__Sin__nil0_f
def trig_Table__Sin__nil0_b : Code := match Try.f28.body with | some c => c | none => .skip
def trig_Table__Sin__nil0_L : Cuts := mkL [] []
theorem trig_Table__Sin__nil0_lo : LoopsOK trig_Table__Sin__nil0_C trig_Table__Sin__nil0_L trig_Table__Sin__nil0_b := (show LoopsOK trig_Table__Sin__nil0_C trig_Table__Sin__nil0_L trig_Table__Sin__nil0_b = True by kernel_rfl).mpr trivial
theorem trig_Table__Sin__nil0_jo : JoinsOK trig_Table__Sin__nil0_C trig_Table__Sin__nil0_L trig_Table__Sin__nil0_b := (show JoinsOK trig_Table__Sin__nil0_C trig_Table__Sin__nil0_L trig_Table__Sin__nil0_b = True by kernel_rfl).mpr trivial
theorem trig_Table__Sin__nil0_ok : EntOK Try.prog 28 trig_Table__Sin__nil0_e :=
  entOf_ok (e := evFn trig_Table__Sin__nil0_C trig_Table__Sin__nil0_L Try.f28) (fun v n K => Eq.trans (trig_Table__Sin__nil0_def v.1 v.2.1 (fun (r0 : Int) => K (.t true (.int .i64) r0) [])) (by kernel_rfl)) (evFn_ok (mkC_all (fns := trig_Table__Sin__nil0_f) tys_ok ⟨⟨trig_Table__Cos__nil0_ok, Try.call26⟩, trivial⟩ mixed) Try.func28 (show Try.f28.body = some trig_Table__Sin__nil0_b by kernel_rfl) ⟨trig_Table__Sin__nil0_lo, trig_Table__Sin__nil0_jo, by kernel_rfl⟩)

def num_within_e : Ent := entOf [.tm (.int .i64), .tm (.sl (.int .i64))] fun (v : Int × (List Int) × Unit) n K => num_within v.1 v.2.1 (fun (r0 : Bool) => K (.t true .bool r0) [])
def num_within_f : List (Nat × Ent) := []
def num_within_C : Cfg := mkC tys num_within_f
def num_within_b : Code := match Try.f48.body with | some c => c | none => .skip
def num_within_y0 : Lay := ⟨23, [(0, .tm true (.int .i64)), (7, .tm false (.sl (.int .i64))), (8, .tm true (.int .i64)), (9, .tm true (.int .i64))], []⟩
def num_within_y1 : Lay := ⟨23, [(4, .tm true .bool)], []⟩
def num_within_y2 : Lay := ⟨23, [], []⟩
def num_within_l2_F (k : Nat) (v : (Int × (List Int) × Int × Int × Unit) × (Unit)) (K : KK) : Prop := num_within_l2 k v.1.1 v.1.2.1 v.1.2.2.1 v.1.2.2.2.1 (fun (y0 : Bool) => K .ret (st num_within_y1 ((y0, ()), (())))) (K (.exit 0) (st num_within_y2 ((()), (()))))
def num_within_l2_c : Cut := ⟨num_within_y0, fun o => match o with | .ret => some num_within_y1 | .exit 0 => some num_within_y2 | _ => none, fun (v : (Int × (List Int) × Int × Int × Unit) × (Unit)) K => ∃ k, num_within_l2_F k v K⟩
def num_within_L : Cuts := mkL [(2, num_within_l2_c)] []
theorem num_within_lo : LoopsOK num_within_C num_within_L num_within_b :=
  (show LoopsOK num_within_C num_within_L num_within_b = ((LoopOK num_within_C num_within_L num_within_l2_c (nthB (loopsOf num_within_b) 0) ∧ True) ∧ True) by kernel_rfl).mpr ⟨⟨⟨num_within_l2_F, fun v K => by kernel_rfl, fun v K => by kernel_rfl, fun k v K => by kernel_rfl⟩, trivial⟩, trivial⟩
theorem num_within_jo : JoinsOK num_within_C num_within_L num_within_b := (show JoinsOK num_within_C num_within_L num_within_b = True by kernel_rfl).mpr trivial
theorem num_within_ok : EntOK Try.prog 48 num_within_e :=
  entOf_ok (e := evFn num_within_C num_within_L Try.f48) (fun v n K => Eq.trans (num_within_def v.1 v.2.1 (fun (r0 : Bool) => K (.t true .bool r0) [])) (by kernel_rfl)) (evFn_ok (mkC_all (fns := num_within_f) tys_ok trivial mixed) Try.func48 (show Try.f48.body = some num_within_b by kernel_rfl) ⟨num_within_lo, num_within_jo, by kernel_rfl⟩)

def num_Shr_e : Ent := entOf [.tm (.int .i64), .tm (.int .i64)] fun (v : Int × Int × Unit) n K => num_Shr v.1 v.2.1 (fun (r0 : Int) => K (.t true (.int .i64) r0) [])
def num_Shr_f : List (Nat × Ent) := [(48, num_within_e)]
def num_Shr_C : Cfg := mkC tys num_Shr_f
def num_Shr_b : Code := match Try.f38.body with | some c => c | none => .skip
def num_Shr_y0 : Lay := ⟨29, [(0, .tm true (.int .i64)), (1, .tm true (.int .i64)), (5, .tm true .bool)], []⟩
def num_Shr_y1 : Lay := ⟨29, [(4, .tm true (.int .i64))], []⟩
def num_Shr_y2 : Lay := ⟨29, [(0, .tm true (.int .i64)), (1, .tm true (.int .i64))], []⟩
def num_Shr_j2_c : Cut := ⟨num_Shr_y0, fun o => match o with | .ret => some num_Shr_y1 | .nrm => some num_Shr_y2 | _ => none, fun (v : (Int × Int × Bool × Unit) × (Unit)) (K : KK) => num_Shr_j2 v.1.1 v.1.2.1 v.1.2.2.1 (fun (y0 : Int) => K .ret (st num_Shr_y1 ((y0, ()), (())))) (fun (y0 : Int) (y1 : Int) => K .nrm (st num_Shr_y2 ((y0, y1, ()), (()))))⟩
def num_Shr_j5_c : Cut := ⟨num_Shr_y2, fun o => match o with | .ret => some num_Shr_y1 | _ => none, fun (v : (Int × Int × Unit) × (Unit)) (K : KK) => num_Shr_j5 v.1.1 v.1.2.1 (fun (y0 : Int) => K .ret (st num_Shr_y1 ((y0, ()), (()))))⟩
def num_Shr_L : Cuts := mkL [] [(2, num_Shr_j2_c), (5, num_Shr_j5_c)]
theorem num_Shr_lo : LoopsOK num_Shr_C num_Shr_L num_Shr_b := (show LoopsOK num_Shr_C num_Shr_L num_Shr_b = True by kernel_rfl).mpr trivial
theorem num_Shr_jo : JoinsOK num_Shr_C num_Shr_L num_Shr_b :=
  (show JoinsOK num_Shr_C num_Shr_L num_Shr_b = ((JoinOK num_Shr_C num_Shr_L num_Shr_j5_c (nthB (joinsOf num_Shr_L num_Shr_b) 0) ∧ True) ∧ (JoinOK num_Shr_C num_Shr_L num_Shr_j2_c (nthB (joinsOf num_Shr_L num_Shr_b) 1) ∧ True) ∧ True) by kernel_rfl).mpr ⟨⟨fun v K => by kernel_rfl, trivial⟩, ⟨fun v K => by kernel_rfl, trivial⟩, trivial⟩
theorem num_Shr_ok : EntOK Try.prog 38 num_Shr_e :=
  entOf_ok (e := evFn num_Shr_C num_Shr_L Try.f38) (fun v n K => Eq.trans (num_Shr_def v.1 v.2.1 (fun (r0 : Int) => K (.t true (.int .i64) r0) [])) (by kernel_rfl)) (evFn_ok (mkC_all (fns := num_Shr_f) tys_ok ⟨⟨num_within_ok, Try.call48⟩, trivial⟩ mixed) Try.func38 (show Try.f38.body = some num_Shr_b by kernel_rfl) ⟨num_Shr_lo, num_Shr_jo, by kernel_rfl⟩)

def trig_Table__Turn__nil0_e : Ent := entOf [.tm .np, .tm (.int .i64), .tm (.int .i64), .tm (.int .i64)] fun (v : Unit × Int × Int × Int × Unit) n K => trig_Table__Turn__nil0 v.1 v.2.1 v.2.2.1 v.2.2.2.1 (fun (r0 : Int) (r1 : Int) => K (.tu [.t true (.int .i64) r0, .t true (.int .i64) r1]) [])
def trig_Table__Turn__nil0_f : List (Nat × Ent) := [(26, trig_Table__Cos__nil0_e), (28, trig_Table__Sin__nil0_e), (38, num_Shr_e)]
def trig_Table__Turn__nil0_C : Cfg := mkC tys trig_Table__Turn__nil0_f
def trig_Table__Turn__nil0_b : Code := match Try.f24.body with | some c => c | none => .skip
def trig_Table__Turn__nil0_y0 : Lay := ⟨52, [(0, .tm true .np), (1, .tm true (.int .i64)), (2, .tm true (.int .i64)), (3, .tm true (.int .i64)), (29, .tm true .bool)], []⟩
def trig_Table__Turn__nil0_y1 : Lay := ⟨52, [(8, .tm true (.int .i64)), (9, .tm true (.int .i64))], []⟩
def trig_Table__Turn__nil0_y2 : Lay := ⟨52, [(0, .tm true .np), (1, .tm true (.int .i64)), (2, .tm true (.int .i64)), (3, .tm true (.int .i64))], []⟩
def trig_Table__Turn__nil0_j2_c : Cut := ⟨trig_Table__Turn__nil0_y0, fun o => match o with | .ret => some trig_Table__Turn__nil0_y1 | .nrm => some trig_Table__Turn__nil0_y2 | _ => none, fun (v : (Unit × Int × Int × Int × Bool × Unit) × (Unit)) (K : KK) => trig_Table__Turn__nil0_j2 v.1.1 v.1.2.1 v.1.2.2.1 v.1.2.2.2.1 v.1.2.2.2.2.1 (fun (y0 : Int) (y1 : Int) => K .ret (st trig_Table__Turn__nil0_y1 ((y0, y1, ()), (())))) (fun (y0 : Unit) (y1 : Int) (y2 : Int) (y3 : Int) => K .nrm (st trig_Table__Turn__nil0_y2 ((y0, y1, y2, y3, ()), (()))))⟩
def trig_Table__Turn__nil0_j3_c : Cut := ⟨trig_Table__Turn__nil0_y2, fun o => match o with | .ret => some trig_Table__Turn__nil0_y1 | _ => none, fun (v : (Unit × Int × Int × Int × Unit) × (Unit)) (K : KK) => trig_Table__Turn__nil0_j3 v.1.1 v.1.2.1 v.1.2.2.1 v.1.2.2.2.1 (fun (y0 : Int) (y1 : Int) => K .ret (st trig_Table__Turn__nil0_y1 ((y0, y1, ()), (()))))⟩
def trig_Table__Turn__nil0_L : Cuts := mkL [] [(2, trig_Table__Turn__nil0_j2_c), (3, trig_Table__Turn__nil0_j3_c)]
theorem trig_Table__Turn__nil0_lo : LoopsOK trig_Table__Turn__nil0_C trig_Table__Turn__nil0_L trig_Table__Turn__nil0_b := (show LoopsOK trig_Table__Turn__nil0_C trig_Table__Turn__nil0_L trig_Table__Turn__nil0_b = True by kernel_rfl).mpr trivial
theorem trig_Table__Turn__nil0_jo : JoinsOK trig_Table__Turn__nil0_C trig_Table__Turn__nil0_L trig_Table__Turn__nil0_b :=
  (show JoinsOK trig_Table__Turn__nil0_C trig_Table__Turn__nil0_L trig_Table__Turn__nil0_b = ((JoinOK trig_Table__Turn__nil0_C trig_Table__Turn__nil0_L trig_Table__Turn__nil0_j3_c (nthB (joinsOf trig_Table__Turn__nil0_L trig_Table__Turn__nil0_b) 0) ∧ True) ∧ (JoinOK trig_Table__Turn__nil0_C trig_Table__Turn__nil0_L trig_Table__Turn__nil0_j2_c (nthB (joinsOf trig_Table__Turn__nil0_L trig_Table__Turn__nil0_b) 1) ∧ True) ∧ True) by kernel_rfl).mpr ⟨⟨fun v K => by kernel_rfl, trivial⟩, ⟨fun v K => by kernel_rfl, trivial⟩, trivial⟩
theorem trig_Table__Turn__nil0_ok : EntOK Try.prog 24 trig_Table__Turn__nil0_e :=
  entOf_ok (e := evFn trig_Table__Turn__nil0_C trig_Table__Turn__nil0_L Try.f24) (fun v n K => Eq.trans (trig_Table__Turn__nil0_def v.1 v.2.1 v.2.2.1 v.2.2.2.1 (fun (r0 : Int) (r1 : Int) => K (.tu [.t true (.int .i64) r0, .t true (.int .i64) r1]) [])) (by kernel_rfl)) (evFn_ok (mkC_all (fns := trig_Table__Turn__nil0_f) tys_ok ⟨⟨trig_Table__Cos__nil0_ok, Try.call26⟩, ⟨trig_Table__Sin__nil0_ok, Try.call28⟩, ⟨num_Shr_ok, Try.call38⟩, trivial⟩ mixed) Try.func24 (show Try.f24.body = some trig_Table__Turn__nil0_b by kernel_rfl) ⟨trig_Table__Turn__nil0_lo, trig_Table__Turn__nil0_jo, by kernel_rfl⟩)

def trig_Table__Cos_e : Ent := entOf [.tm (.ptr (.arr 512 (.int .i64))), .tm (.int .i64)] fun (v : (List Int) × Int × Unit) n K => trig_Table__Cos v.1 v.2.1 (fun (r0 : Int) => K (.t true (.int .i64) r0) [])
def trig_Table__Cos_f : List (Nat × Ent) := []
def trig_Table__Cos_C : Cfg := mkC tys trig_Table__Cos_f
def trig_Table__Cos_b : Code := match Try.f26.body with | some c => c | none => .skip
def trig_Table__Cos_L : Cuts := mkL [] []
theorem trig_Table__Cos_lo : LoopsOK trig_Table__Cos_C trig_Table__Cos_L trig_Table__Cos_b := (show LoopsOK trig_Table__Cos_C trig_Table__Cos_L trig_Table__Cos_b = True by kernel_rfl).mpr trivial
theorem trig_Table__Cos_jo : JoinsOK trig_Table__Cos_C trig_Table__Cos_L trig_Table__Cos_b := (show JoinsOK trig_Table__Cos_C trig_Table__Cos_L trig_Table__Cos_b = True by kernel_rfl).mpr trivial
theorem trig_Table__Cos_ok : EntOK Try.prog 26 trig_Table__Cos_e :=
  entOf_ok (e := evFn trig_Table__Cos_C trig_Table__Cos_L Try.f26) (fun v n K => Eq.trans (trig_Table__Cos_def v.1 v.2.1 (fun (r0 : Int) => K (.t true (.int .i64) r0) [])) (by kernel_rfl)) (evFn_ok (mkC_all (fns := trig_Table__Cos_f) tys_ok trivial mixed) Try.func26 (show Try.f26.body = some trig_Table__Cos_b by kernel_rfl) ⟨trig_Table__Cos_lo, trig_Table__Cos_jo, by kernel_rfl⟩)

end
end Go.Eng.A
