/- Each of these functions is what the program computes: printed by program. -/
import Derived.Test.YtjfnkbbcnllfiaaEngT
import Derived.Test.YtjfnkbbcnllfiaaAllocGrowsP
import Derived.Test.YtjfnkbbcnllfiaaProg
set_option linter.unusedVariables false
set_option maxRecDepth 100000
namespace Go.Eng.A
open Go Go.Eng Go.Proofs
noncomputable section

def tys : List Ty := [.no, .no, .no, .sc (.int .i64), .no, .sc (.int .u8), .no, .no, .no, .no, .no, .no, .no, .no, .no, .no, .no, .no, .no, .no, .no, .no, .sl 3 (.int .i64) 8, .no, .no, .no, .no, .no, .no, .no, .no, .no, .no, .no, .no, .no, .no, .no, .no, .no, .no, .no, .no, .no, .no, .no, .no, .no, .no, .no, .no, .no, .no, .arr 13 3 (.int .i64)]
theorem tok3 : TOK Try.prog 3 (.int .i64) := tok_mk Try.type3 Try.underlying3 (by kernel_rfl) (by kernel_rfl) (by kernel_rfl) (.inr (by kernel_rfl))
theorem tok5 : TOK Try.prog 5 (.int .u8) := tok_mk Try.type5 Try.underlying5 (by kernel_rfl) (by kernel_rfl) (by kernel_rfl) (.inr (by kernel_rfl))
theorem tok22 : TOK Try.prog 22 (.sl (.int .i64)) := tok_mk Try.type22 Try.underlying22 (by kernel_rfl) (by kernel_rfl) (by kernel_rfl) (.inr (by kernel_rfl))
theorem tok53 : TOK Try.prog 53 (.arr 13 (.int .i64)) := tok_mk Try.type53 Try.underlying53 (by kernel_rfl) (by kernel_rfl) (by kernel_rfl) (.inr (by kernel_rfl))
theorem tys_ok : TysOK Try.prog 0 tys := ⟨trivial, trivial, trivial, tyok_int tok3 Try.underlying3, trivial, tyok_int tok5 Try.underlying5, trivial, trivial, trivial, trivial, trivial, trivial, trivial, trivial, trivial, trivial, trivial, trivial, trivial, trivial, trivial, trivial, tyok_sl tok22 Try.underlying22 tok3 (by kernel_rfl) (by kernel_rfl) (by kernel_rfl) Try.type3 (by kernel_rfl) Try.type22 (by kernel_rfl), trivial, trivial, trivial, trivial, trivial, trivial, trivial, trivial, trivial, trivial, trivial, trivial, trivial, trivial, trivial, trivial, trivial, trivial, trivial, trivial, trivial, trivial, trivial, trivial, trivial, trivial, trivial, trivial, trivial, trivial, tyok_arr tok53 Try.underlying53 tok3 (by kernel_rfl), trivial⟩
theorem mixed : Try.prog.follows .mixedOrders = true := by kernel_rfl

def alloc_held_int__e : Ent := entOf [.tm (.int .i64), .tm (.int .i64), .tm (.int .i64)] fun (v : Int × Int × Int × Unit) n K => alloc_held_int_ v.1 v.2.1 v.2.2.1 (fun (r0 : Int) => K (.t true (.int .i64) r0) [])
def alloc_held_int__f : List (Nat × Ent) := []
def alloc_held_int__C : Cfg := mkC tys alloc_held_int__f
def alloc_held_int__b : Code := match Try.f45.body with | some c => c | none => .skip
def alloc_held_int__L : Cuts := mkL [] []
theorem alloc_held_int__lo : LoopsOK alloc_held_int__C alloc_held_int__L alloc_held_int__b := (show LoopsOK alloc_held_int__C alloc_held_int__L alloc_held_int__b = True by kernel_rfl).mpr trivial
theorem alloc_held_int__jo : JoinsOK alloc_held_int__C alloc_held_int__L alloc_held_int__b := (show JoinsOK alloc_held_int__C alloc_held_int__L alloc_held_int__b = True by kernel_rfl).mpr trivial
theorem alloc_held_int__ok : EntOK Try.prog 45 alloc_held_int__e :=
  entOf_ok (e := evFn alloc_held_int__C alloc_held_int__L Try.f45) (fun v n K => by kernel_rfl) (evFn_ok (mkC_all (fns := alloc_held_int__f) tys_ok trivial mixed) Try.func45 (show Try.f45.body = some alloc_held_int__b by kernel_rfl) ⟨alloc_held_int__lo, alloc_held_int__jo, by kernel_rfl⟩)

def alloc_good_e : Ent := entOf [.tm (.int .i64)] fun (v : Int × Unit) n K => alloc_good v.1 (fun (r0 : Bool) => K (.t true .bool r0) [])
def alloc_good_f : List (Nat × Ent) := [(45, alloc_held_int__e)]
def alloc_good_C : Cfg := mkC tys alloc_good_f
def alloc_good_b : Code := match Try.f44.body with | some c => c | none => .skip
def alloc_good_L : Cuts := mkL [] []
theorem alloc_good_lo : LoopsOK alloc_good_C alloc_good_L alloc_good_b := (show LoopsOK alloc_good_C alloc_good_L alloc_good_b = True by kernel_rfl).mpr trivial
theorem alloc_good_jo : JoinsOK alloc_good_C alloc_good_L alloc_good_b := (show JoinsOK alloc_good_C alloc_good_L alloc_good_b = True by kernel_rfl).mpr trivial
theorem alloc_good_ok : EntOK Try.prog 44 alloc_good_e :=
  entOf_ok (e := evFn alloc_good_C alloc_good_L Try.f44) (fun v n K => by kernel_rfl) (evFn_ok (mkC_all (fns := alloc_good_f) tys_ok ⟨⟨alloc_held_int__ok, Try.call45⟩, trivial⟩ mixed) Try.func44 (show Try.f44.body = some alloc_good_b by kernel_rfl) ⟨alloc_good_lo, alloc_good_jo, by kernel_rfl⟩)

def alloc_times_e : Ent := entOf [.tm (.int .i64)] fun (v : Int × Unit) n K => alloc_times v.1 (fun (r0 : Int) => K (.t true (.int .i64) r0) [])
def alloc_times_f : List (Nat × Ent) := []
def alloc_times_C : Cfg := mkC tys alloc_times_f
def alloc_times_b : Code := match Try.f46.body with | some c => c | none => .skip
def alloc_times_L : Cuts := mkL [] []
theorem alloc_times_lo : LoopsOK alloc_times_C alloc_times_L alloc_times_b := (show LoopsOK alloc_times_C alloc_times_L alloc_times_b = True by kernel_rfl).mpr trivial
theorem alloc_times_jo : JoinsOK alloc_times_C alloc_times_L alloc_times_b := (show JoinsOK alloc_times_C alloc_times_L alloc_times_b = True by kernel_rfl).mpr trivial
theorem alloc_times_ok : EntOK Try.prog 46 alloc_times_e :=
  entOf_ok (e := evFn alloc_times_C alloc_times_L Try.f46) (fun v n K => by kernel_rfl) (evFn_ok (mkC_all (fns := alloc_times_f) tys_ok trivial mixed) Try.func46 (show Try.f46.body = some alloc_times_b by kernel_rfl) ⟨alloc_times_lo, alloc_times_jo, by kernel_rfl⟩)

def alloc_Band_e : Ent := entOf [.tm (.int .i64), .tm (.int .i64), .tm (.int .i64)] fun (v : Int × Int × Int × Unit) n K => alloc_Band v.1 v.2.1 v.2.2.1 (fun (r0 : Int) => K (.t true (.int .i64) r0) [])
def alloc_Band_f : List (Nat × Ent) := [(44, alloc_good_e), (45, alloc_held_int__e), (46, alloc_times_e)]
def alloc_Band_C : Cfg := mkC tys alloc_Band_f
def alloc_Band_b : Code := match Try.f25.body with | some c => c | none => .skip
def alloc_Band_L : Cuts := mkL [] []
theorem alloc_Band_lo : LoopsOK alloc_Band_C alloc_Band_L alloc_Band_b := (show LoopsOK alloc_Band_C alloc_Band_L alloc_Band_b = True by kernel_rfl).mpr trivial
theorem alloc_Band_jo : JoinsOK alloc_Band_C alloc_Band_L alloc_Band_b := (show JoinsOK alloc_Band_C alloc_Band_L alloc_Band_b = True by kernel_rfl).mpr trivial
theorem alloc_Band_ok : EntOK Try.prog 25 alloc_Band_e :=
  entOf_ok (e := evFn alloc_Band_C alloc_Band_L Try.f25) (fun v n K => by kernel_rfl) (evFn_ok (mkC_all (fns := alloc_Band_f) tys_ok ⟨⟨alloc_good_ok, Try.call44⟩, ⟨alloc_held_int__ok, Try.call45⟩, ⟨alloc_times_ok, Try.call46⟩, trivial⟩ mixed) Try.func25 (show Try.f25.body = some alloc_Band_b by kernel_rfl) ⟨alloc_Band_lo, alloc_Band_jo, by kernel_rfl⟩)

def energy_Right_e : Ent := entOf [.tm (.sl (.int .i64))] fun (v : (List Int) × Unit) n K => energy_Right v.1 (fun (r0 : Bool) => K (.t true .bool r0) [])
def energy_Right_f : List (Nat × Ent) := []
def energy_Right_C : Cfg := mkC tys energy_Right_f
def energy_Right_b : Code := match Try.f37.body with | some c => c | none => .skip
def energy_Right_y0 : Lay := ⟨21, [(0, .tm false (.sl (.int .i64))), (5, .tm false (.sl (.int .i64))), (6, .tm true (.int .i64)), (7, .tm true (.int .i64))], []⟩
def energy_Right_y1 : Lay := ⟨21, [(2, .tm true .bool)], []⟩
def energy_Right_y2 : Lay := ⟨21, [(0, .tm false (.sl (.int .i64)))], []⟩
def energy_Right_l2_F (k : Nat) (v : ((List Int) × (List Int) × Int × Int × Unit) × (Unit)) (K : KK) : Prop := energy_Right_l2 k v.1.1 v.1.2.1 v.1.2.2.1 v.1.2.2.2.1 (fun (y0 : Bool) => K .ret (st energy_Right_y1 ((y0, ()), (())))) (fun (y0 : (List Int)) => K (.exit 0) (st energy_Right_y2 ((y0, ()), (()))))
def energy_Right_l2_c : Cut := ⟨energy_Right_y0, fun o => match o with | .ret => some energy_Right_y1 | .exit 0 => some energy_Right_y2 | _ => none, fun (v : ((List Int) × (List Int) × Int × Int × Unit) × (Unit)) K => ∃ k, energy_Right_l2_F k v K⟩
def energy_Right_L : Cuts := mkL [(2, energy_Right_l2_c)] []
theorem energy_Right_lo : LoopsOK energy_Right_C energy_Right_L energy_Right_b :=
  (show LoopsOK energy_Right_C energy_Right_L energy_Right_b = ((∀ cut, energy_Right_L.loop 2 = some cut → LoopOK energy_Right_C energy_Right_L cut (nthB (loopsOf energy_Right_b) 0)) ∧ True) by kernel_rfl).mpr ⟨of_some (a := energy_Right_l2_c) (by kernel_rfl) ⟨energy_Right_l2_F, fun v K => by kernel_rfl, fun v K => by kernel_rfl, fun k v K => by kernel_rfl⟩, trivial⟩
theorem energy_Right_jo : JoinsOK energy_Right_C energy_Right_L energy_Right_b := (show JoinsOK energy_Right_C energy_Right_L energy_Right_b = True by kernel_rfl).mpr trivial
theorem energy_Right_ok : EntOK Try.prog 37 energy_Right_e :=
  entOf_ok (e := evFn energy_Right_C energy_Right_L Try.f37) (fun v n K => by kernel_rfl) (evFn_ok (mkC_all (fns := energy_Right_f) tys_ok trivial mixed) Try.func37 (show Try.f37.body = some energy_Right_b by kernel_rfl) ⟨energy_Right_lo, energy_Right_jo, by kernel_rfl⟩)

def layout_widths_e : Ent := entOf [] fun (v : Unit) n K => layout_widths (fun (r0 : (List Int)) => K (.t true (.arr 13 (.int .i64)) r0) [])
def layout_widths_f : List (Nat × Ent) := []
def layout_widths_C : Cfg := mkC tys layout_widths_f
def layout_widths_b : Code := match Try.f56.body with | some c => c | none => .skip
def layout_widths_L : Cuts := mkL [] []
theorem layout_widths_lo : LoopsOK layout_widths_C layout_widths_L layout_widths_b := (show LoopsOK layout_widths_C layout_widths_L layout_widths_b = True by kernel_rfl).mpr trivial
theorem layout_widths_jo : JoinsOK layout_widths_C layout_widths_L layout_widths_b := (show JoinsOK layout_widths_C layout_widths_L layout_widths_b = True by kernel_rfl).mpr trivial
theorem layout_widths_ok : EntOK Try.prog 56 layout_widths_e :=
  entOf_ok (e := evFn layout_widths_C layout_widths_L Try.f56) (fun v n K => by kernel_rfl) (evFn_ok (mkC_all (fns := layout_widths_f) tys_ok trivial mixed) Try.func56 (show Try.f56.body = some layout_widths_b by kernel_rfl) ⟨layout_widths_lo, layout_widths_jo, by kernel_rfl⟩)

def layout_Width_e : Ent := entOf [.tm (.int .i64)] fun (v : Int × Unit) n K => layout_Width v.1 (fun (r0 : Int) => K (.t true (.int .i64) r0) [])
def layout_Width_f : List (Nat × Ent) := [(56, layout_widths_e)]
def layout_Width_C : Cfg := mkC tys layout_Width_f
def layout_Width_b : Code := match Try.f47.body with | some c => c | none => .skip
def layout_Width_L : Cuts := mkL [] []
theorem layout_Width_lo : LoopsOK layout_Width_C layout_Width_L layout_Width_b := (show LoopsOK layout_Width_C layout_Width_L layout_Width_b = True by kernel_rfl).mpr trivial
theorem layout_Width_jo : JoinsOK layout_Width_C layout_Width_L layout_Width_b := (show JoinsOK layout_Width_C layout_Width_L layout_Width_b = True by kernel_rfl).mpr trivial
theorem layout_Width_ok : EntOK Try.prog 47 layout_Width_e :=
  entOf_ok (e := evFn layout_Width_C layout_Width_L Try.f47) (fun v n K => by kernel_rfl) (evFn_ok (mkC_all (fns := layout_Width_f) tys_ok ⟨⟨layout_widths_ok, Try.call56⟩, trivial⟩ mixed) Try.func47 (show Try.f47.body = some layout_Width_b by kernel_rfl) ⟨layout_Width_lo, layout_Width_jo, by kernel_rfl⟩)

def alloc_All_e : Ent := entOf [.tm (.int .i64), .tm (.sl (.int .i64))] fun (v : Int × (List Int) × Unit) n K => alloc_All v.1 v.2.1 (K (.ns) []) (fun (r0 : (List Int)) => K (.os (n + 0)) [.val true true 3 (.row (.int .i64)) r0])
def alloc_All_f : List (Nat × Ent) := [(44, alloc_good_e), (37, energy_Right_e), (47, layout_Width_e), (25, alloc_Band_e)]
def alloc_All_C : Cfg := mkC tys alloc_All_f
def alloc_All_b : Code := match Try.f27.body with | some c => c | none => .skip
def alloc_All_y0 : Lay := ⟨36, [(0, .tm true (.int .i64)), (5, .fx (.os 0)), (19, .tm false (.sl (.int .i64))), (20, .tm true (.int .i64)), (21, .tm true (.int .i64))], [.val true true 3 (.row (.int .i64))]⟩
def alloc_All_y1 : Lay := ⟨36, [(5, .fx (.os 0))], [.val true true 3 (.row (.int .i64))]⟩
def alloc_All_l5_F (k : Nat) (v : (Int × (List Int) × Int × Int × Unit) × ((List Int) × Unit)) (K : KK) : Prop := alloc_All_l5 k v.1.1 v.1.2.1 v.1.2.2.1 v.1.2.2.2.1 v.2.1 (fun (y0 : (List Int)) => K (.exit 0) (st alloc_All_y1 ((()), (y0, ()))))
def alloc_All_l5_c : Cut := ⟨alloc_All_y0, fun o => match o with | .exit 0 => some alloc_All_y1 | _ => none, fun (v : (Int × (List Int) × Int × Int × Unit) × ((List Int) × Unit)) K => ∃ k, alloc_All_l5_F k v K⟩
def alloc_All_L : Cuts := mkL [(5, alloc_All_l5_c)] []
theorem alloc_All_lo : LoopsOK alloc_All_C alloc_All_L alloc_All_b :=
  (show LoopsOK alloc_All_C alloc_All_L alloc_All_b = ((∀ cut, alloc_All_L.loop 5 = some cut → LoopOK alloc_All_C alloc_All_L cut (nthB (loopsOf alloc_All_b) 0)) ∧ True) by kernel_rfl).mpr ⟨of_some (a := alloc_All_l5_c) (by kernel_rfl) ⟨alloc_All_l5_F, fun v K => by kernel_rfl, fun v K => by kernel_rfl, fun k v K => by kernel_rfl⟩, trivial⟩
theorem alloc_All_jo : JoinsOK alloc_All_C alloc_All_L alloc_All_b := (show JoinsOK alloc_All_C alloc_All_L alloc_All_b = True by kernel_rfl).mpr trivial
theorem alloc_All_ok : EntOK Try.prog 27 alloc_All_e :=
  entOf_ok (e := evFn alloc_All_C alloc_All_L Try.f27) (fun v n K => by kernel_rfl) (evFn_ok (mkC_all (fns := alloc_All_f) tys_ok ⟨⟨alloc_good_ok, Try.call44⟩, ⟨energy_Right_ok, Try.call37⟩, ⟨layout_Width_ok, Try.call47⟩, ⟨alloc_Band_ok, Try.call25⟩, trivial⟩ mixed) Try.func27 (show Try.f27.body = some alloc_All_b by kernel_rfl) ⟨alloc_All_lo, alloc_All_jo, by kernel_rfl⟩)

def L15_awake_e : Ent := entOf [] fun (v : Unit) n K => L15_awake (fun (r0 : Bool) => K (.t true .bool r0) [])
def L15_awake_f : List (Nat × Ent) := [(25, alloc_Band_e), (27, alloc_All_e)]
def L15_awake_C : Cfg := mkC tys L15_awake_f
def L15_awake_b : Code := match Try.f24.body with | some c => c | none => .skip
def L15_awake_L : Cuts := mkL [] []
theorem L15_awake_lo : LoopsOK L15_awake_C L15_awake_L L15_awake_b := (show LoopsOK L15_awake_C L15_awake_L L15_awake_b = True by kernel_rfl).mpr trivial
theorem L15_awake_jo : JoinsOK L15_awake_C L15_awake_L L15_awake_b := (show JoinsOK L15_awake_C L15_awake_L L15_awake_b = True by kernel_rfl).mpr trivial
theorem L15_awake_ok : EntOK Try.prog 24 L15_awake_e :=
  entOf_ok (e := evFn L15_awake_C L15_awake_L Try.f24) (fun v n K => by kernel_rfl) (evFn_ok (mkC_all (fns := L15_awake_f) tys_ok ⟨⟨alloc_Band_ok, Try.call25⟩, ⟨alloc_All_ok, Try.call27⟩, trivial⟩ mixed) Try.func24 (show Try.f24.body = some L15_awake_b by kernel_rfl) ⟨L15_awake_lo, L15_awake_jo, by kernel_rfl⟩)

def L15_AllocGrows_e : Ent := entOf [.tm (.int .u8), .tm (.int .u8), .tm (.int .u8)] fun (v : Int × Int × Int × Unit) n K => L15_AllocGrows v.1 v.2.1 v.2.2.1 (fun (r0 : Bool) => K (.t true .bool r0) [])
def L15_AllocGrows_f : List (Nat × Ent) := [(25, alloc_Band_e), (24, L15_awake_e)]
def L15_AllocGrows_C : Cfg := mkC tys L15_AllocGrows_f
def L15_AllocGrows_b : Code := match Try.f8.body with | some c => c | none => .skip
def L15_AllocGrows_y0 : Lay := ⟨82, [(7, .tm true (.int .i64)), (8, .tm true (.int .i64)), (10, .tm true (.int .i64))], []⟩
def L15_AllocGrows_y1 : Lay := ⟨82, [(6, .tm true .bool)], []⟩
def L15_AllocGrows_j8_c : Cut := ⟨L15_AllocGrows_y0, fun o => match o with | .ret => some L15_AllocGrows_y1 | _ => none, fun (v : (Int × Int × Int × Unit) × (Unit)) (K : KK) => L15_AllocGrows_j8 v.1.1 v.1.2.1 v.1.2.2.1 (fun (y0 : Bool) => K .ret (st L15_AllocGrows_y1 ((y0, ()), (()))))⟩
def L15_AllocGrows_L : Cuts := mkL [] [(8, L15_AllocGrows_j8_c)]
theorem L15_AllocGrows_lo : LoopsOK L15_AllocGrows_C L15_AllocGrows_L L15_AllocGrows_b := (show LoopsOK L15_AllocGrows_C L15_AllocGrows_L L15_AllocGrows_b = True by kernel_rfl).mpr trivial
theorem L15_AllocGrows_jo : JoinsOK L15_AllocGrows_C L15_AllocGrows_L L15_AllocGrows_b :=
  (show JoinsOK L15_AllocGrows_C L15_AllocGrows_L L15_AllocGrows_b = ((∀ cut, L15_AllocGrows_L.join 8 = some cut → JoinOK L15_AllocGrows_C L15_AllocGrows_L cut (nthB (joinsOf L15_AllocGrows_L L15_AllocGrows_b) 0)) ∧ True) by kernel_rfl).mpr ⟨of_some (a := L15_AllocGrows_j8_c) (by kernel_rfl) (fun v K => by kernel_rfl), trivial⟩
theorem L15_AllocGrows_ok : EntOK Try.prog 8 L15_AllocGrows_e :=
  entOf_ok (e := evFn L15_AllocGrows_C L15_AllocGrows_L Try.f8) (fun v n K => by kernel_rfl) (evFn_ok (mkC_all (fns := L15_AllocGrows_f) tys_ok ⟨⟨alloc_Band_ok, Try.call25⟩, ⟨L15_awake_ok, Try.call24⟩, trivial⟩ mixed) Try.func8 (show Try.f8.body = some L15_AllocGrows_b by kernel_rfl) ⟨L15_AllocGrows_lo, L15_AllocGrows_jo, by kernel_rfl⟩)

end
end Go.Eng.A
