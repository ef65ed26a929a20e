/- Each of these functions is what the program computes: printed by program. -/
import Derived.Test.YtkgapcdnpcjcmaaEngT
import Derived.Test.YtkgapcdnpcjcmaaPvqBackP
import Derived.Test.YtkgapcdnpcjcmaaProg
import Derived.Test.YtkgapcdnpcjcmaaPvqBackTc
set_option linter.unusedVariables false
set_option maxRecDepth 100000
namespace Go.Eng.A
open Go Go.Eng Go.Proofs
noncomputable section

def L16_PvqBack_e : Ent := entOf [.tm (.sl (.int .i64)), .tm (.int .u8), .tm (.int .u8), .tm (.int .u32)] fun (v : (List Int) × Int × Int × Int × Unit) n K => L16_PvqBack v.1 v.2.1 v.2.2.1 v.2.2.2.1 (fun (r0 : Bool) => K (.t true .bool r0) [])
def L16_PvqBack_f : List (Nat × Ent) := [(32, L16_awake_e), (33, pvq_Size_e), (37, pvq_Index_e), (39, pvq_Vector_e), (35, pvq_Count_e), (29, R01_Same_e)]
def L16_PvqBack_C : Cfg := mkC tys L16_PvqBack_f
def L16_PvqBack_b : Code := match Try.f9.body with | some c => c | none => .skip
def L16_PvqBack_y0 : Lay := ⟨131, [(0, .tm false (.sl (.int .i64))), (1, .tm true (.int .u8)), (2, .tm true (.int .u8)), (3, .tm true (.int .u32)), (9, .tm true (.int .i64)), (11, .tm true (.int .i64)), (13, .fx (.os 0)), (14, .tm true .bool)], [.val true true 3 (.row (.int .i64))]⟩
def L16_PvqBack_y1 : Lay := ⟨131, [(8, .tm true .bool)], []⟩
def L16_PvqBack_y2 : Lay := ⟨131, [(1, .tm true (.int .u8)), (2, .tm true (.int .u8)), (3, .tm true (.int .u32))], []⟩
def L16_PvqBack_j9_c : Cut := ⟨L16_PvqBack_y0, fun o => match o with | .ret => some L16_PvqBack_y1 | .nrm => some L16_PvqBack_y2 | _ => none, fun (v : ((List Int) × Int × Int × Int × Int × Int × Bool × Unit) × ((List Int) × Unit)) (K : KK) => L16_PvqBack_j9 v.1.1 v.1.2.1 v.1.2.2.1 v.1.2.2.2.1 v.1.2.2.2.2.1 v.1.2.2.2.2.2.1 v.1.2.2.2.2.2.2.1 v.2.1 (fun (y0 : Bool) => K .ret (st L16_PvqBack_y1 ((y0, ()), (())))) (fun (y0 : Int) (y1 : Int) (y2 : Int) => K .nrm (st L16_PvqBack_y2 ((y0, y1, y2, ()), (()))))⟩
def L16_PvqBack_y3 : Lay := ⟨131, [(3, .tm true (.int .u32)), (15, .tm true (.int .i64)), (16, .tm true (.int .i64)), (17, .tm true (.int .i64)), (18, .fx (.os 0)), (19, .tm true .bool)], [.val true true 3 (.row (.int .i64))]⟩
def L16_PvqBack_j16_c : Cut := ⟨L16_PvqBack_y3, fun o => match o with | .ret => some L16_PvqBack_y1 | _ => none, fun (v : (Int × Int × Int × Int × Bool × Unit) × ((List Int) × Unit)) (K : KK) => L16_PvqBack_j16 v.1.1 v.1.2.1 v.1.2.2.1 v.1.2.2.2.1 v.1.2.2.2.2.1 v.2.1 (fun (y0 : Bool) => K .ret (st L16_PvqBack_y1 ((y0, ()), (()))))⟩
def L16_PvqBack_j11_c : Cut := ⟨L16_PvqBack_y2, fun o => match o with | .ret => some L16_PvqBack_y1 | _ => none, fun (v : (Int × Int × Int × Unit) × (Unit)) (K : KK) => L16_PvqBack_j11 v.1.1 v.1.2.1 v.1.2.2.1 (fun (y0 : Bool) => K .ret (st L16_PvqBack_y1 ((y0, ()), (()))))⟩
def L16_PvqBack_L : Cuts := mkL [] [(9, L16_PvqBack_j9_c), (16, L16_PvqBack_j16_c), (11, L16_PvqBack_j11_c)]
theorem L16_PvqBack_lo : LoopsOK L16_PvqBack_C L16_PvqBack_L L16_PvqBack_b := (show LoopsOK L16_PvqBack_C L16_PvqBack_L L16_PvqBack_b = True by kernel_rfl).mpr trivial
theorem L16_PvqBack_jo : JoinsOK L16_PvqBack_C L16_PvqBack_L L16_PvqBack_b :=
  (show JoinsOK L16_PvqBack_C L16_PvqBack_L L16_PvqBack_b = ((JoinOK L16_PvqBack_C L16_PvqBack_L L16_PvqBack_j11_c (nthB (joinsOf L16_PvqBack_L L16_PvqBack_b) 0) ∧ True) ∧ (JoinOK L16_PvqBack_C L16_PvqBack_L L16_PvqBack_j9_c (nthB (joinsOf L16_PvqBack_L L16_PvqBack_b) 1) ∧ True) ∧ (JoinOK L16_PvqBack_C L16_PvqBack_L L16_PvqBack_j16_c (nthB (joinsOf L16_PvqBack_L L16_PvqBack_b) 2) ∧ True) ∧ True) by kernel_rfl).mpr ⟨⟨fun v K => by kernel_rfl, trivial⟩, ⟨fun v K => by kernel_rfl, trivial⟩, ⟨fun v K => by kernel_rfl, trivial⟩, trivial⟩
theorem L16_PvqBack_ok : EntOK Try.prog 9 L16_PvqBack_e :=
  entOf_ok (e := evFn L16_PvqBack_C L16_PvqBack_L Try.f9) (fun v n K => Eq.trans (L16_PvqBack_def v.1 v.2.1 v.2.2.1 v.2.2.2.1 (fun (r0 : Bool) => K (.t true .bool r0) [])) (by kernel_rfl)) (evFn_ok (mkC_all (fns := L16_PvqBack_f) tys_ok ⟨⟨L16_awake_ok, Try.call32⟩, ⟨pvq_Size_ok, Try.call33⟩, ⟨pvq_Index_ok, Try.call37⟩, ⟨pvq_Vector_ok, Try.call39⟩, ⟨pvq_Count_ok, Try.call35⟩, ⟨R01_Same_ok, Try.call29⟩, trivial⟩ mixed) Try.func9 (show Try.f9.body = some L16_PvqBack_b by kernel_rfl) ⟨L16_PvqBack_lo, L16_PvqBack_jo, by kernel_rfl⟩)

end
end Go.Eng.A
