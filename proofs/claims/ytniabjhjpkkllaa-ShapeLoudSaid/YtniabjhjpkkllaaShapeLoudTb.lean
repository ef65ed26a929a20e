/- Each of these functions is what the program computes: printed by program. -/
import Derived.Test.YtniabjhjpkkllaaEngT
import Derived.Test.YtniabjhjpkkllaaShapeLoudP
import Derived.Test.YtniabjhjpkkllaaProg
import Derived.Test.YtniabjhjpkkllaaShapeLoudTa
set_option linter.unusedVariables false
set_option maxRecDepth 100000
namespace Go.Eng.A
open Go Go.Eng Go.Proofs
noncomputable section

def shape_squares_e : Ent := entOf [.tm (.sl (.int .i64))] fun (v : (List Int) × Unit) n K => shape_squares v.1 (fun (r0 : Int) => K (.t true (.int .i64) r0) [])
def shape_squares_f : List (Nat × Ent) := []
def shape_squares_C : Cfg := mkC tys shape_squares_f
def shape_squares_b : Code := match Try.f54.body with | some c => c | none => .skip
def shape_squares_y0 : Lay := ⟨19, [(3, .tm true (.int .i64)), (6, .tm false (.sl (.int .i64))), (7, .tm true (.int .i64)), (8, .tm true (.int .i64))], []⟩
def shape_squares_y1 : Lay := ⟨19, [(3, .tm true (.int .i64))], []⟩
def shape_squares_l3_F (k : Nat) (v : (Int × (List Int) × Int × Int × Unit) × (Unit)) (K : KK) : Prop := shape_squares_l3 k v.1.1 v.1.2.1 v.1.2.2.1 v.1.2.2.2.1 (fun (y0 : Int) => K (.exit 0) (st shape_squares_y1 ((y0, ()), (()))))
def shape_squares_l3_c : Cut := ⟨shape_squares_y0, fun o => match o with | .exit 0 => some shape_squares_y1 | _ => none, fun (v : (Int × (List Int) × Int × Int × Unit) × (Unit)) K => ∃ k, shape_squares_l3_F k v K⟩
def shape_squares_L : Cuts := mkL [(3, shape_squares_l3_c)] []
theorem shape_squares_lo : LoopsOK shape_squares_C shape_squares_L shape_squares_b :=
  (show LoopsOK shape_squares_C shape_squares_L shape_squares_b = ((LoopOK shape_squares_C shape_squares_L shape_squares_l3_c (nthB (loopsOf shape_squares_b) 0) ∧ True) ∧ True) by kernel_rfl).mpr ⟨⟨⟨shape_squares_l3_F, fun v K => by kernel_rfl, fun v K => by kernel_rfl, fun k v K => by kernel_rfl⟩, trivial⟩, trivial⟩
theorem shape_squares_jo : JoinsOK shape_squares_C shape_squares_L shape_squares_b := (show JoinsOK shape_squares_C shape_squares_L shape_squares_b = True by kernel_rfl).mpr trivial
theorem shape_squares_ok : EntOK Try.prog 54 shape_squares_e :=
  entOf_ok (e := evFn shape_squares_C shape_squares_L Try.f54) (fun v n K => Eq.trans (shape_squares_def v.1 (fun (r0 : Int) => K (.t true (.int .i64) r0) [])) (by kernel_rfl)) (evFn_ok (mkC_all (fns := shape_squares_f) tys_ok trivial mixed) Try.func54 (show Try.f54.body = some shape_squares_b by kernel_rfl) ⟨shape_squares_lo, shape_squares_jo, by kernel_rfl⟩)

def root_Sqrt_e : Ent := entOf [.tm (.int .i64)] fun (v : Int × Unit) n K => root_Sqrt v.1 (fun (r0 : Int) => K (.t true (.int .i64) r0) [])
def root_Sqrt_f : List (Nat × Ent) := []
def root_Sqrt_C : Cfg := mkC tys root_Sqrt_f
def root_Sqrt_b : Code := match Try.f53.body with | some c => c | none => .skip
def root_Sqrt_y0 : Lay := ⟨30, [(0, .tm true (.int .i64)), (3, .tm true (.int .i64)), (13, .tm true (.int .i64))], []⟩
def root_Sqrt_y1 : Lay := ⟨30, [(3, .tm true (.int .i64))], []⟩
def root_Sqrt_l5_F (k : Nat) (v : (Int × Int × Int × Unit) × (Unit)) (K : KK) : Prop := root_Sqrt_l5 k v.1.1 v.1.2.1 v.1.2.2.1 (fun (y0 : Int) => K (.exit 0) (st root_Sqrt_y1 ((y0, ()), (()))))
def root_Sqrt_l5_c : Cut := ⟨root_Sqrt_y0, fun o => match o with | .exit 0 => some root_Sqrt_y1 | _ => none, fun (v : (Int × Int × Int × Unit) × (Unit)) K => ∃ k, root_Sqrt_l5_F k v K⟩
def root_Sqrt_L : Cuts := mkL [(5, root_Sqrt_l5_c)] []
theorem root_Sqrt_lo : LoopsOK root_Sqrt_C root_Sqrt_L root_Sqrt_b :=
  (show LoopsOK root_Sqrt_C root_Sqrt_L root_Sqrt_b = ((LoopOK root_Sqrt_C root_Sqrt_L root_Sqrt_l5_c (nthB (loopsOf root_Sqrt_b) 0) ∧ True) ∧ True) by kernel_rfl).mpr ⟨⟨⟨root_Sqrt_l5_F, fun v K => by kernel_rfl, fun v K => by kernel_rfl, fun k v K => by kernel_rfl⟩, trivial⟩, trivial⟩
theorem root_Sqrt_jo : JoinsOK root_Sqrt_C root_Sqrt_L root_Sqrt_b := (show JoinsOK root_Sqrt_C root_Sqrt_L root_Sqrt_b = True by kernel_rfl).mpr trivial
theorem root_Sqrt_ok : EntOK Try.prog 53 root_Sqrt_e :=
  entOf_ok (e := evFn root_Sqrt_C root_Sqrt_L Try.f53) (fun v n K => Eq.trans (root_Sqrt_def v.1 (fun (r0 : Int) => K (.t true (.int .i64) r0) [])) (by kernel_rfl)) (evFn_ok (mkC_all (fns := root_Sqrt_f) tys_ok trivial mixed) Try.func53 (show Try.f53.body = some root_Sqrt_b by kernel_rfl) ⟨root_Sqrt_lo, root_Sqrt_jo, by kernel_rfl⟩)

def num_Mod_e : Ent := entOf [.tm (.int .i64), .tm (.int .i64)] fun (v : Int × Int × Unit) n K => num_Mod v.1 v.2.1 (fun (r0 : Int) (r1 : Int) => K (.tu [.t true (.int .i64) r0, .t true (.int .i64) r1]) [])
def num_Mod_f : List (Nat × Ent) := []
def num_Mod_C : Cfg := mkC tys num_Mod_f
def num_Mod_b : Code := match Try.f91.body with | some c => c | none => .skip
def num_Mod_y0 : Lay := ⟨32, [(0, .tm true (.int .i64)), (1, .tm true (.int .i64)), (6, .tm true (.int .i64)), (22, .tm true .bool)], []⟩
def num_Mod_y1 : Lay := ⟨32, [(4, .tm true (.int .i64)), (5, .tm true (.int .i64))], []⟩
def num_Mod_y2 : Lay := ⟨32, [(0, .tm true (.int .i64)), (1, .tm true (.int .i64)), (6, .tm true (.int .i64))], []⟩
def num_Mod_j7_c : Cut := ⟨num_Mod_y0, fun o => match o with | .ret => some num_Mod_y1 | .nrm => some num_Mod_y2 | _ => none, fun (v : (Int × Int × Int × Bool × Unit) × (Unit)) (K : KK) => num_Mod_j7 v.1.1 v.1.2.1 v.1.2.2.1 v.1.2.2.2.1 (fun (y0 : Int) (y1 : Int) => K .ret (st num_Mod_y1 ((y0, y1, ()), (())))) (fun (y0 : Int) (y1 : Int) (y2 : Int) => K .nrm (st num_Mod_y2 ((y0, y1, y2, ()), (()))))⟩
def num_Mod_j8_c : Cut := ⟨num_Mod_y2, fun o => match o with | .ret => some num_Mod_y1 | _ => none, fun (v : (Int × Int × Int × Unit) × (Unit)) (K : KK) => num_Mod_j8 v.1.1 v.1.2.1 v.1.2.2.1 (fun (y0 : Int) (y1 : Int) => K .ret (st num_Mod_y1 ((y0, y1, ()), (()))))⟩
def num_Mod_j6_c : Cut := ⟨num_Mod_y2, fun o => match o with | .ret => some num_Mod_y1 | _ => none, fun (v : (Int × Int × Int × Unit) × (Unit)) (K : KK) => num_Mod_j6 v.1.1 v.1.2.1 v.1.2.2.1 (fun (y0 : Int) (y1 : Int) => K .ret (st num_Mod_y1 ((y0, y1, ()), (()))))⟩
def num_Mod_L : Cuts := mkL [] [(7, num_Mod_j7_c), (8, num_Mod_j8_c), (6, num_Mod_j6_c)]
theorem num_Mod_lo : LoopsOK num_Mod_C num_Mod_L num_Mod_b := (show LoopsOK num_Mod_C num_Mod_L num_Mod_b = True by kernel_rfl).mpr trivial
theorem num_Mod_jo : JoinsOK num_Mod_C num_Mod_L num_Mod_b :=
  (show JoinsOK num_Mod_C num_Mod_L num_Mod_b = ((JoinOK num_Mod_C num_Mod_L num_Mod_j6_c (nthB (joinsOf num_Mod_L num_Mod_b) 0) ∧ True) ∧ (JoinOK num_Mod_C num_Mod_L num_Mod_j8_c (nthB (joinsOf num_Mod_L num_Mod_b) 1) ∧ True) ∧ (JoinOK num_Mod_C num_Mod_L num_Mod_j7_c (nthB (joinsOf num_Mod_L num_Mod_b) 2) ∧ True) ∧ True) by kernel_rfl).mpr ⟨⟨fun v K => by kernel_rfl, trivial⟩, ⟨fun v K => by kernel_rfl, trivial⟩, ⟨fun v K => by kernel_rfl, trivial⟩, trivial⟩
theorem num_Mod_ok : EntOK Try.prog 91 num_Mod_e :=
  entOf_ok (e := evFn num_Mod_C num_Mod_L Try.f91) (fun v n K => Eq.trans (num_Mod_def v.1 v.2.1 (fun (r0 : Int) (r1 : Int) => K (.tu [.t true (.int .i64) r0, .t true (.int .i64) r1]) [])) (by kernel_rfl)) (evFn_ok (mkC_all (fns := num_Mod_f) tys_ok trivial mixed) Try.func91 (show Try.f91.body = some num_Mod_b by kernel_rfl) ⟨num_Mod_lo, num_Mod_jo, by kernel_rfl⟩)

def num_Div_e : Ent := entOf [.tm (.int .i64), .tm (.int .i64)] fun (v : Int × Int × Unit) n K => num_Div v.1 v.2.1 (fun (r0 : Int) => K (.t true (.int .i64) r0) [])
def num_Div_f : List (Nat × Ent) := [(90, num_within_e), (91, num_Mod_e)]
def num_Div_C : Cfg := mkC tys num_Div_f
def num_Div_b : Code := match Try.f55.body with | some c => c | none => .skip
def num_Div_L : Cuts := mkL [] []
theorem num_Div_lo : LoopsOK num_Div_C num_Div_L num_Div_b := (show LoopsOK num_Div_C num_Div_L num_Div_b = True by kernel_rfl).mpr trivial
theorem num_Div_jo : JoinsOK num_Div_C num_Div_L num_Div_b := (show JoinsOK num_Div_C num_Div_L num_Div_b = True by kernel_rfl).mpr trivial
theorem num_Div_ok : EntOK Try.prog 55 num_Div_e :=
  entOf_ok (e := evFn num_Div_C num_Div_L Try.f55) (fun v n K => Eq.trans (num_Div_def v.1 v.2.1 (fun (r0 : Int) => K (.t true (.int .i64) r0) [])) (by kernel_rfl)) (evFn_ok (mkC_all (fns := num_Div_f) tys_ok ⟨⟨num_within_ok, Try.call90⟩, ⟨num_Mod_ok, Try.call91⟩, trivial⟩ mixed) Try.func55 (show Try.f55.body = some num_Div_b by kernel_rfl) ⟨num_Div_lo, num_Div_jo, by kernel_rfl⟩)

end
end Go.Eng.A
