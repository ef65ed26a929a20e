/- Each of these functions is what the program computes: printed by program. -/
import Derived.Test.YtkgapcdnpcjcmaaEngT
import Derived.Test.YtkgapcdnpcjcmaaPvqOrderP
import Derived.Test.YtkgapcdnpcjcmaaProg
set_option linter.unusedVariables false
set_option maxRecDepth 100000
namespace Go.Eng.A
open Go Go.Eng Go.Proofs
noncomputable section

def tys : List Ty := [.no, .no, .no, .sc (.int .i64), .sc .bool, .sc (.int .u8), .no, .no, .no, .no, .no, .no, .no, .no, .no, .no, .no, .no, .no, .no, .no, .no, .sl 3 (.int .i64) 8, .no, .no, .no, .no, .no, .no, .no, .no, .no, .no, .no, .no, .no, .no, .no, .no, .no, .no, .no, .no, .no, .no, .no, .no, .sc (.int .u32), .no, .no, .no, .no, .no, .no, .no, .no, .no, .no, .no, .no, .arr 25 3 (.int .i64), .no, .no, .no, .pt 60 (.arr 25 (.int .i64)), .no, .no, .no, .no, .no, .no, .no, .arr 9 60 (.arr 25 (.int .i64))]
theorem tok3 : TOK Try.prog 3 (.int .i64) := tok_mk Try.type3 Try.underlying3 (by kernel_rfl) (by kernel_rfl) (by kernel_rfl) (.inr (by kernel_rfl))
theorem tok4 : TOK Try.prog 4 .bool := tok_mk Try.type4 Try.underlying4 (by kernel_rfl) (by kernel_rfl) (by kernel_rfl) (.inr (by kernel_rfl))
theorem tok5 : TOK Try.prog 5 (.int .u8) := tok_mk Try.type5 Try.underlying5 (by kernel_rfl) (by kernel_rfl) (by kernel_rfl) (.inr (by kernel_rfl))
theorem tok22 : TOK Try.prog 22 (.sl (.int .i64)) := tok_mk Try.type22 Try.underlying22 (by kernel_rfl) (by kernel_rfl) (by kernel_rfl) (.inr (by kernel_rfl))
theorem tok47 : TOK Try.prog 47 (.int .u32) := tok_mk Try.type47 Try.underlying47 (by kernel_rfl) (by kernel_rfl) (by kernel_rfl) (.inr (by kernel_rfl))
theorem tok60 : TOK Try.prog 60 (.arr 25 (.int .i64)) := tok_mk Try.type60 Try.underlying60 (by kernel_rfl) (by kernel_rfl) (by kernel_rfl) (.inr (by kernel_rfl))
theorem tok72 : TOK Try.prog 72 (.arr 9 (.arr 25 (.int .i64))) := tok_mk Try.type72 Try.underlying72 (by kernel_rfl) (by kernel_rfl) (by kernel_rfl) (.inr (by kernel_rfl))
theorem tys_ok : TysOK Try.prog 0 tys := ⟨trivial, trivial, trivial, tyok_int tok3 Try.underlying3, tyok_bool tok4 Try.underlying4, tyok_int tok5 Try.underlying5, trivial, trivial, trivial, trivial, trivial, trivial, trivial, trivial, trivial, trivial, trivial, trivial, trivial, trivial, trivial, trivial, tyok_sl tok22 Try.underlying22 tok3 (by kernel_rfl) (by kernel_rfl) (by kernel_rfl) Try.type3 (by kernel_rfl) Try.type22 (by kernel_rfl), trivial, trivial, trivial, trivial, trivial, trivial, trivial, trivial, trivial, trivial, trivial, trivial, trivial, trivial, trivial, trivial, trivial, trivial, trivial, trivial, trivial, trivial, trivial, trivial, tyok_int tok47 Try.underlying47, trivial, trivial, trivial, trivial, trivial, trivial, trivial, trivial, trivial, trivial, trivial, trivial, tyok_arr tok60 Try.underlying60 tok3 (by kernel_rfl), trivial, trivial, trivial, tyok_pt Try.underlying64 (by kernel_rfl) Try.type64 (by kernel_rfl), trivial, trivial, trivial, trivial, trivial, trivial, trivial, tyok_arr tok72 Try.underlying72 tok60 (by kernel_rfl), trivial⟩
theorem mixed : Try.prog.follows .mixedOrders = true := by kernel_rfl

def pvq_made_e : Ent := entOf [] fun (v : Unit) n K => pvq_made (fun (r0 : (List (List Int))) => K (.t true (.ptr (.arr 9 (.arr 25 (.int .i64)))) r0) [])
def pvq_made_f : List (Nat × Ent) := []
def pvq_made_C : Cfg := mkC tys pvq_made_f
def pvq_made_b : Code := match Try.f54.body with | some c => c | none => .skip
def pvq_made_y0 : Lay := ⟨58, [(1, .fx (.op 0 (.arr 9 (.arr 25 (.int .i64))) [])), (2, .tm true (.int .i64)), (10, .tm true (.int .i64)), (19, .tm true (.int .i64))], [.val true true 72 (.arr 9 (.arr 25 (.int .i64)))]⟩
def pvq_made_y1 : Lay := ⟨58, [(1, .fx (.op 0 (.arr 9 (.arr 25 (.int .i64))) [])), (10, .tm true (.int .i64))], [.val true true 72 (.arr 9 (.arr 25 (.int .i64)))]⟩
def pvq_made_l8_F (k : Nat) (v : (Int × Int × Int × Unit) × ((List (List Int)) × Unit)) (K : KK) : Prop := pvq_made_l8 k v.1.1 v.1.2.1 v.1.2.2.1 v.2.1 (fun (y0 : Int) (y1 : (List (List Int))) => K (.exit 2) (st pvq_made_y1 ((y0, ()), (y1, ()))))
def pvq_made_l8_c : Cut := ⟨pvq_made_y0, fun o => match o with | .exit 2 => some pvq_made_y1 | _ => none, fun (v : (Int × Int × Int × Unit) × ((List (List Int)) × Unit)) K => ∃ k, pvq_made_l8_F k v K⟩
def pvq_made_y2 : Lay := ⟨58, [(1, .fx (.op 0 (.arr 9 (.arr 25 (.int .i64))) []))], [.val true true 72 (.arr 9 (.arr 25 (.int .i64)))]⟩
def pvq_made_l4_F (k : Nat) (v : (Int × Unit) × ((List (List Int)) × Unit)) (K : KK) : Prop := pvq_made_l4 k v.1.1 v.2.1 (fun (y0 : (List (List Int))) => K (.exit 0) (st pvq_made_y2 ((()), (y0, ()))))
def pvq_made_l4_c : Cut := ⟨pvq_made_y1, fun o => match o with | .exit 0 => some pvq_made_y2 | _ => none, fun (v : (Int × Unit) × ((List (List Int)) × Unit)) K => ∃ k, pvq_made_l4_F k v K⟩
def pvq_made_L : Cuts := mkS ((.ptr (.arr 9 (.arr 25 (.int .i64))))) [(8, pvq_made_l8_c), (4, pvq_made_l4_c)] []
theorem pvq_made_lo : LoopsOK pvq_made_C pvq_made_L pvq_made_b :=
  (show LoopsOK pvq_made_C pvq_made_L pvq_made_b = ((LoopOK pvq_made_C pvq_made_L pvq_made_l4_c (nthB (loopsOf pvq_made_b) 0) ∧ True) ∧ (LoopOK pvq_made_C pvq_made_L pvq_made_l8_c (nthB (loopsOf pvq_made_b) 1) ∧ True) ∧ True) by kernel_rfl).mpr ⟨⟨⟨pvq_made_l4_F, fun v K => by kernel_rfl, fun v K => by kernel_rfl, fun k v K => by kernel_rfl⟩, trivial⟩, ⟨⟨pvq_made_l8_F, fun v K => by kernel_rfl, fun v K => by kernel_rfl, fun k v K => by kernel_rfl⟩, trivial⟩, trivial⟩
theorem pvq_made_jo : JoinsOK pvq_made_C pvq_made_L pvq_made_b := (show JoinsOK pvq_made_C pvq_made_L pvq_made_b = True by kernel_rfl).mpr trivial
theorem pvq_made_ok : EntOK Try.prog 54 pvq_made_e :=
  entOf_ok (e := evFn pvq_made_C pvq_made_L Try.f54) (fun v n K => Eq.trans (pvq_made_def (fun (r0 : (List (List Int))) => K (.t true (.ptr (.arr 9 (.arr 25 (.int .i64)))) r0) [])) (by kernel_rfl)) (evFn_ok (mkC_all (fns := pvq_made_f) tys_ok trivial mixed) Try.func54 (show Try.f54.body = some pvq_made_b by kernel_rfl) ⟨pvq_made_lo, pvq_made_jo, by kernel_rfl⟩)

def pvq_Count_e : Ent := entOf [.tm (.int .i64), .tm (.int .i64)] fun (v : Int × Int × Unit) n K => pvq_Count v.1 v.2.1 (fun (r0 : Int) => K (.t true (.int .i64) r0) [])
def pvq_Count_f : List (Nat × Ent) := [(54, pvq_made_e)]
def pvq_Count_C : Cfg := mkC tys pvq_Count_f
def pvq_Count_b : Code := match Try.f35.body with | some c => c | none => .skip
def pvq_Count_L : Cuts := mkL [] []
theorem pvq_Count_lo : LoopsOK pvq_Count_C pvq_Count_L pvq_Count_b := (show LoopsOK pvq_Count_C pvq_Count_L pvq_Count_b = True by kernel_rfl).mpr trivial
theorem pvq_Count_jo : JoinsOK pvq_Count_C pvq_Count_L pvq_Count_b := (show JoinsOK pvq_Count_C pvq_Count_L pvq_Count_b = True by kernel_rfl).mpr trivial
theorem pvq_Count_ok : EntOK Try.prog 35 pvq_Count_e :=
  entOf_ok (e := evFn pvq_Count_C pvq_Count_L Try.f35) (fun v n K => Eq.trans (pvq_Count_def v.1 v.2.1 (fun (r0 : Int) => K (.t true (.int .i64) r0) [])) (by kernel_rfl)) (evFn_ok (mkC_all (fns := pvq_Count_f) tys_ok ⟨⟨pvq_made_ok, Try.call54⟩, trivial⟩ mixed) Try.func35 (show Try.f35.body = some pvq_Count_b by kernel_rfl) ⟨pvq_Count_lo, pvq_Count_jo, by kernel_rfl⟩)

def pvq_first_e : Ent := entOf [.tm (.ptr (.arr 25 (.int .i64))), .tm (.int .i64), .tm (.int .i64)] fun (v : (List Int) × Int × Int × Unit) n K => pvq_first v.1 v.2.1 v.2.2.1 (fun (r0 : Int) (r1 : Int) => K (.tu [.t true (.int .i64) r0, .t true (.int .i64) r1]) [])
def pvq_first_f : List (Nat × Ent) := []
def pvq_first_C : Cfg := mkC tys pvq_first_f
def pvq_first_b : Code := match Try.f56.body with | some c => c | none => .skip
def pvq_first_y0 : Lay := ⟨68, [(0, .tm false (.ptr (.arr 25 (.int .i64)))), (1, .tm true (.int .i64)), (2, .tm true (.int .i64)), (8, .tm true (.int .i64))], []⟩
def pvq_first_l5_F (k : Nat) (v : ((List Int) × Int × Int × Int × Unit) × (Unit)) (K : KK) : Prop := pvq_first_l5 k v.1.1 v.1.2.1 v.1.2.2.1 v.1.2.2.2.1 (fun (y0 : (List Int)) (y1 : Int) (y2 : Int) (y3 : Int) => K (.exit 0) (st pvq_first_y0 ((y0, y1, y2, y3, ()), (()))))
def pvq_first_l5_c : Cut := ⟨pvq_first_y0, fun o => match o with | .exit 0 => some pvq_first_y0 | _ => none, fun (v : ((List Int) × Int × Int × Int × Unit) × (Unit)) K => ∃ k, pvq_first_l5_F k v K⟩
def pvq_first_L : Cuts := mkL [(5, pvq_first_l5_c)] []
theorem pvq_first_lo : LoopsOK pvq_first_C pvq_first_L pvq_first_b :=
  (show LoopsOK pvq_first_C pvq_first_L pvq_first_b = ((LoopOK pvq_first_C pvq_first_L pvq_first_l5_c (nthB (loopsOf pvq_first_b) 0) ∧ True) ∧ True) by kernel_rfl).mpr ⟨⟨⟨pvq_first_l5_F, fun v K => by kernel_rfl, fun v K => by kernel_rfl, fun k v K => by kernel_rfl⟩, trivial⟩, trivial⟩
theorem pvq_first_jo : JoinsOK pvq_first_C pvq_first_L pvq_first_b := (show JoinsOK pvq_first_C pvq_first_L pvq_first_b = True by kernel_rfl).mpr trivial
theorem pvq_first_ok : EntOK Try.prog 56 pvq_first_e :=
  entOf_ok (e := evFn pvq_first_C pvq_first_L Try.f56) (fun v n K => Eq.trans (pvq_first_def v.1 v.2.1 v.2.2.1 (fun (r0 : Int) (r1 : Int) => K (.tu [.t true (.int .i64) r0, .t true (.int .i64) r1]) [])) (by kernel_rfl)) (evFn_ok (mkC_all (fns := pvq_first_f) tys_ok trivial mixed) Try.func56 (show Try.f56.body = some pvq_first_b by kernel_rfl) ⟨pvq_first_lo, pvq_first_jo, by kernel_rfl⟩)

def num_within_e : Ent := entOf [.tm (.int .i64), .tm (.sl (.int .i64))] fun (v : Int × (List Int) × Unit) n K => num_within v.1 v.2.1 (fun (r0 : Bool) => K (.t true .bool r0) [])
def num_within_f : List (Nat × Ent) := []
def num_within_C : Cfg := mkC tys num_within_f
def num_within_b : Code := match Try.f58.body with | some c => c | none => .skip
def num_within_y0 : Lay := ⟨23, [(0, .tm true (.int .i64)), (7, .tm false (.sl (.int .i64))), (8, .tm true (.int .i64)), (9, .tm true (.int .i64))], []⟩
def num_within_y1 : Lay := ⟨23, [(4, .tm true .bool)], []⟩
def num_within_y2 : Lay := ⟨23, [], []⟩
def num_within_l2_F (k : Nat) (v : (Int × (List Int) × Int × Int × Unit) × (Unit)) (K : KK) : Prop := num_within_l2 k v.1.1 v.1.2.1 v.1.2.2.1 v.1.2.2.2.1 (fun (y0 : Bool) => K .ret (st num_within_y1 ((y0, ()), (())))) (K (.exit 0) (st num_within_y2 ((()), (()))))
def num_within_l2_c : Cut := ⟨num_within_y0, fun o => match o with | .ret => some num_within_y1 | .exit 0 => some num_within_y2 | _ => none, fun (v : (Int × (List Int) × Int × Int × Unit) × (Unit)) K => ∃ k, num_within_l2_F k v K⟩
def num_within_L : Cuts := mkL [(2, num_within_l2_c)] []
theorem num_within_lo : LoopsOK num_within_C num_within_L num_within_b :=
  (show LoopsOK num_within_C num_within_L num_within_b = ((LoopOK num_within_C num_within_L num_within_l2_c (nthB (loopsOf num_within_b) 0) ∧ True) ∧ True) by kernel_rfl).mpr ⟨⟨⟨num_within_l2_F, fun v K => by kernel_rfl, fun v K => by kernel_rfl, fun k v K => by kernel_rfl⟩, trivial⟩, trivial⟩
theorem num_within_jo : JoinsOK num_within_C num_within_L num_within_b := (show JoinsOK num_within_C num_within_L num_within_b = True by kernel_rfl).mpr trivial
theorem num_within_ok : EntOK Try.prog 58 num_within_e :=
  entOf_ok (e := evFn num_within_C num_within_L Try.f58) (fun v n K => Eq.trans (num_within_def v.1 v.2.1 (fun (r0 : Bool) => K (.t true .bool r0) [])) (by kernel_rfl)) (evFn_ok (mkC_all (fns := num_within_f) tys_ok trivial mixed) Try.func58 (show Try.f58.body = some num_within_b by kernel_rfl) ⟨num_within_lo, num_within_jo, by kernel_rfl⟩)

def num_Abs_e : Ent := entOf [.tm (.int .i64)] fun (v : Int × Unit) n K => num_Abs v.1 (fun (r0 : Int) => K (.t true (.int .i64) r0) [])
def num_Abs_f : List (Nat × Ent) := [(58, num_within_e)]
def num_Abs_C : Cfg := mkC tys num_Abs_f
def num_Abs_b : Code := match Try.f52.body with | some c => c | none => .skip
def num_Abs_L : Cuts := mkL [] []
theorem num_Abs_lo : LoopsOK num_Abs_C num_Abs_L num_Abs_b := (show LoopsOK num_Abs_C num_Abs_L num_Abs_b = True by kernel_rfl).mpr trivial
theorem num_Abs_jo : JoinsOK num_Abs_C num_Abs_L num_Abs_b := (show JoinsOK num_Abs_C num_Abs_L num_Abs_b = True by kernel_rfl).mpr trivial
theorem num_Abs_ok : EntOK Try.prog 52 num_Abs_e :=
  entOf_ok (e := evFn num_Abs_C num_Abs_L Try.f52) (fun v n K => Eq.trans (num_Abs_def v.1 (fun (r0 : Int) => K (.t true (.int .i64) r0) [])) (by kernel_rfl)) (evFn_ok (mkC_all (fns := num_Abs_f) tys_ok ⟨⟨num_within_ok, Try.call58⟩, trivial⟩ mixed) Try.func52 (show Try.f52.body = some num_Abs_b by kernel_rfl) ⟨num_Abs_lo, num_Abs_jo, by kernel_rfl⟩)

end
end Go.Eng.A
