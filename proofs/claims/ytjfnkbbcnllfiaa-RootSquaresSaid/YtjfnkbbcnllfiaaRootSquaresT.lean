/- Each of these functions is what the program computes: printed by program. -/
import Derived.Test.YtjfnkbbcnllfiaaEngT
import Derived.Test.YtjfnkbbcnllfiaaRootSquaresP
import Derived.Test.YtjfnkbbcnllfiaaProg
set_option linter.unusedVariables false
set_option maxRecDepth 100000
namespace Go.Eng.A
open Go Go.Eng Go.Proofs
noncomputable section

def tys : List Ty := [.no, .no, .no, .sc (.int .i64), .no, .sc (.int .u8), .no, .no, .no, .sc .str, .no, .no, .no, .no, .no, .no, .no, .no, .no, .no, .no, .no, .no, .no, .no, .no, .no, .no, .no, .no, .no, .no, .no, .no, .no, .no, .no, .no, .no, .no, .no, .no, .no, .no, .no, .no, .no, .sc (.int .u64)]
theorem tok3 : TOK Try.prog 3 (.int .i64) := tok_mk Try.type3 Try.underlying3 (by kernel_rfl) (by kernel_rfl) (by kernel_rfl) (.inr (by kernel_rfl))
theorem tok5 : TOK Try.prog 5 (.int .u8) := tok_mk Try.type5 Try.underlying5 (by kernel_rfl) (by kernel_rfl) (by kernel_rfl) (.inr (by kernel_rfl))
theorem tok9 : TOK Try.prog 9 .str := tok_mk Try.type9 Try.underlying9 (by kernel_rfl) (by kernel_rfl) (by kernel_rfl) (.inr (by kernel_rfl))
theorem tok47 : TOK Try.prog 47 (.int .u64) := tok_mk Try.type47 Try.underlying47 (by kernel_rfl) (by kernel_rfl) (by kernel_rfl) (.inr (by kernel_rfl))
theorem tys_ok : TysOK Try.prog 0 tys := ⟨trivial, trivial, trivial, tyok_int tok3 Try.underlying3, trivial, tyok_int tok5 Try.underlying5, trivial, trivial, trivial, tyok_str tok9 Try.underlying9, trivial, trivial, trivial, trivial, trivial, trivial, trivial, trivial, trivial, trivial, trivial, trivial, trivial, trivial, trivial, trivial, trivial, trivial, trivial, trivial, trivial, trivial, trivial, trivial, trivial, trivial, trivial, trivial, trivial, trivial, trivial, trivial, trivial, trivial, trivial, trivial, trivial, tyok_int tok47 Try.underlying47, trivial⟩
theorem mixed : Try.prog.follows .mixedOrders = true := by kernel_rfl

def root_Sqrt_e : Ent := entOf [.tm (.int .i64)] fun (v : Int × Unit) n K => root_Sqrt v.1 (fun (r0 : Int) => K (.t true (.int .i64) r0) [])
def root_Sqrt_f : List (Nat × Ent) := []
def root_Sqrt_C : Cfg := mkC tys root_Sqrt_f
def root_Sqrt_b : Code := match Try.f17.body with | some c => c | none => .skip
def root_Sqrt_y0 : Lay := ⟨30, [(0, .tm true (.int .i64)), (3, .tm true (.int .i64)), (13, .tm true (.int .i64))], []⟩
def root_Sqrt_y1 : Lay := ⟨30, [(3, .tm true (.int .i64))], []⟩
def root_Sqrt_l5_F (k : Nat) (v : (Int × Int × Int × Unit) × (Unit)) (K : KK) : Prop := root_Sqrt_l5 k v.1.1 v.1.2.1 v.1.2.2.1 (fun (y0 : Int) => K (.exit 0) (st root_Sqrt_y1 ((y0, ()), (()))))
def root_Sqrt_l5_c : Cut := ⟨root_Sqrt_y0, fun o => match o with | .exit 0 => some root_Sqrt_y1 | _ => none, fun (v : (Int × Int × Int × Unit) × (Unit)) K => ∃ k, root_Sqrt_l5_F k v K⟩
def root_Sqrt_L : Cuts := mkL [(5, root_Sqrt_l5_c)] []
theorem root_Sqrt_lo : LoopsOK root_Sqrt_C root_Sqrt_L root_Sqrt_b :=
  (show LoopsOK root_Sqrt_C root_Sqrt_L root_Sqrt_b = ((∀ cut, root_Sqrt_L.loop 5 = some cut → LoopOK root_Sqrt_C root_Sqrt_L cut (nthB (loopsOf root_Sqrt_b) 0)) ∧ True) by kernel_rfl).mpr ⟨of_some (a := root_Sqrt_l5_c) (by kernel_rfl) ⟨root_Sqrt_l5_F, fun v K => by kernel_rfl, fun v K => by kernel_rfl, fun k v K => by kernel_rfl⟩, trivial⟩
theorem root_Sqrt_jo : JoinsOK root_Sqrt_C root_Sqrt_L root_Sqrt_b := (show JoinsOK root_Sqrt_C root_Sqrt_L root_Sqrt_b = True by kernel_rfl).mpr trivial
theorem root_Sqrt_ok : EntOK Try.prog 17 root_Sqrt_e :=
  entOf_ok (e := evFn root_Sqrt_C root_Sqrt_L Try.f17) (fun v n K => by kernel_rfl) (evFn_ok (mkC_all (fns := root_Sqrt_f) tys_ok trivial mixed) Try.func17 (show Try.f17.body = some root_Sqrt_b by kernel_rfl) ⟨root_Sqrt_lo, root_Sqrt_jo, by kernel_rfl⟩)

def bits_Len64_e : Ent := entOf [.tm (.int .u64)] fun (v : Int × Unit) n K => bits_Len64 v.1 (fun (r0 : Int) => K (.t true (.int .i64) r0) [])
def bits_Len64_f : List (Nat × Ent) := []
def bits_Len64_C : Cfg := mkC tys bits_Len64_f
def bits_Len64_b : Code := match Try.f43.body with | some c => c | none => .skip
def bits_Len64_y0 : Lay := ⟨25, [(0, .tm true (.int .u64)), (2, .tm true (.int .i64))], []⟩
def bits_Len64_y1 : Lay := ⟨25, [(2, .tm true (.int .i64))], []⟩
def bits_Len64_j10_c : Cut := ⟨bits_Len64_y0, fun o => match o with | .ret => some bits_Len64_y1 | _ => none, fun (v : (Int × Int × Unit) × (Unit)) (K : KK) => bits_Len64_j10 v.1.1 v.1.2.1 (fun (y0 : Int) => K .ret (st bits_Len64_y1 ((y0, ()), (()))))⟩
def bits_Len64_j7_c : Cut := ⟨bits_Len64_y0, fun o => match o with | .ret => some bits_Len64_y1 | _ => none, fun (v : (Int × Int × Unit) × (Unit)) (K : KK) => bits_Len64_j7 v.1.1 v.1.2.1 (fun (y0 : Int) => K .ret (st bits_Len64_y1 ((y0, ()), (()))))⟩
def bits_Len64_j4_c : Cut := ⟨bits_Len64_y0, fun o => match o with | .ret => some bits_Len64_y1 | _ => none, fun (v : (Int × Int × Unit) × (Unit)) (K : KK) => bits_Len64_j4 v.1.1 v.1.2.1 (fun (y0 : Int) => K .ret (st bits_Len64_y1 ((y0, ()), (()))))⟩
def bits_Len64_L : Cuts := mkL [] [(10, bits_Len64_j10_c), (7, bits_Len64_j7_c), (4, bits_Len64_j4_c)]
theorem bits_Len64_lo : LoopsOK bits_Len64_C bits_Len64_L bits_Len64_b := (show LoopsOK bits_Len64_C bits_Len64_L bits_Len64_b = True by kernel_rfl).mpr trivial
theorem bits_Len64_jo : JoinsOK bits_Len64_C bits_Len64_L bits_Len64_b :=
  (show JoinsOK bits_Len64_C bits_Len64_L bits_Len64_b = ((∀ cut, bits_Len64_L.join 4 = some cut → JoinOK bits_Len64_C bits_Len64_L cut (nthB (joinsOf bits_Len64_L bits_Len64_b) 0)) ∧ (∀ cut, bits_Len64_L.join 7 = some cut → JoinOK bits_Len64_C bits_Len64_L cut (nthB (joinsOf bits_Len64_L bits_Len64_b) 1)) ∧ (∀ cut, bits_Len64_L.join 10 = some cut → JoinOK bits_Len64_C bits_Len64_L cut (nthB (joinsOf bits_Len64_L bits_Len64_b) 2)) ∧ True) by kernel_rfl).mpr ⟨of_some (a := bits_Len64_j4_c) (by kernel_rfl) (fun v K => by kernel_rfl), of_some (a := bits_Len64_j7_c) (by kernel_rfl) (fun v K => by kernel_rfl), of_some (a := bits_Len64_j10_c) (by kernel_rfl) (fun v K => by kernel_rfl), trivial⟩
theorem bits_Len64_ok : EntOK Try.prog 43 bits_Len64_e :=
  entOf_ok (e := evFn bits_Len64_C bits_Len64_L Try.f43) (fun v n K => by kernel_rfl) (evFn_ok (mkC_all (fns := bits_Len64_f) tys_ok trivial mixed) Try.func43 (show Try.f43.body = some bits_Len64_b by kernel_rfl) ⟨bits_Len64_lo, bits_Len64_jo, by kernel_rfl⟩)

def root_Log_e : Ent := entOf [.tm (.int .i64)] fun (v : Int × Unit) n K => root_Log v.1 (fun (r0 : Int) => K (.t true (.int .i64) r0) [])
def root_Log_f : List (Nat × Ent) := [(43, bits_Len64_e)]
def root_Log_C : Cfg := mkC tys root_Log_f
def root_Log_b : Code := match Try.f19.body with | some c => c | none => .skip
def root_Log_L : Cuts := mkL [] []
theorem root_Log_lo : LoopsOK root_Log_C root_Log_L root_Log_b := (show LoopsOK root_Log_C root_Log_L root_Log_b = True by kernel_rfl).mpr trivial
theorem root_Log_jo : JoinsOK root_Log_C root_Log_L root_Log_b := (show JoinsOK root_Log_C root_Log_L root_Log_b = True by kernel_rfl).mpr trivial
theorem root_Log_ok : EntOK Try.prog 19 root_Log_e :=
  entOf_ok (e := evFn root_Log_C root_Log_L Try.f19) (fun v n K => by kernel_rfl) (evFn_ok (mkC_all (fns := root_Log_f) tys_ok ⟨⟨bits_Len64_ok, Try.call43⟩, trivial⟩ mixed) Try.func19 (show Try.f19.body = some root_Log_b by kernel_rfl) ⟨root_Log_lo, root_Log_jo, by kernel_rfl⟩)

def root_Near_e : Ent := entOf [.tm (.int .i64)] fun (v : Int × Unit) n K => root_Near v.1 (fun (r0 : Int) => K (.t true (.int .i64) r0) [])
def root_Near_f : List (Nat × Ent) := [(17, root_Sqrt_e)]
def root_Near_C : Cfg := mkC tys root_Near_f
def root_Near_b : Code := match Try.f21.body with | some c => c | none => .skip
def root_Near_y0 : Lay := ⟨24, [(3, .tm true (.int .i64)), (20, .tm true .bool)], []⟩
def root_Near_y1 : Lay := ⟨24, [(2, .tm true (.int .i64))], []⟩
def root_Near_y2 : Lay := ⟨24, [(3, .tm true (.int .i64))], []⟩
def root_Near_j3_c : Cut := ⟨root_Near_y0, fun o => match o with | .ret => some root_Near_y1 | .nrm => some root_Near_y2 | _ => none, fun (v : (Int × Bool × Unit) × (Unit)) (K : KK) => root_Near_j3 v.1.1 v.1.2.1 (fun (y0 : Int) => K .ret (st root_Near_y1 ((y0, ()), (())))) (fun (y0 : Int) => K .nrm (st root_Near_y2 ((y0, ()), (()))))⟩
def root_Near_L : Cuts := mkL [] [(3, root_Near_j3_c)]
theorem root_Near_lo : LoopsOK root_Near_C root_Near_L root_Near_b := (show LoopsOK root_Near_C root_Near_L root_Near_b = True by kernel_rfl).mpr trivial
theorem root_Near_jo : JoinsOK root_Near_C root_Near_L root_Near_b :=
  (show JoinsOK root_Near_C root_Near_L root_Near_b = ((∀ cut, root_Near_L.join 3 = some cut → JoinOK root_Near_C root_Near_L cut (nthB (joinsOf root_Near_L root_Near_b) 0)) ∧ True) by kernel_rfl).mpr ⟨of_some (a := root_Near_j3_c) (by kernel_rfl) (fun v K => by kernel_rfl), trivial⟩
theorem root_Near_ok : EntOK Try.prog 21 root_Near_e :=
  entOf_ok (e := evFn root_Near_C root_Near_L Try.f21) (fun v n K => by kernel_rfl) (evFn_ok (mkC_all (fns := root_Near_f) tys_ok ⟨⟨root_Sqrt_ok, Try.call17⟩, trivial⟩ mixed) Try.func21 (show Try.f21.body = some root_Near_b by kernel_rfl) ⟨root_Near_lo, root_Near_jo, by kernel_rfl⟩)

def L06_awake_e : Ent := entOf [] fun (v : Unit) n K => L06_awake (fun (r0 : Bool) => K (.t true .bool r0) [])
def L06_awake_f : List (Nat × Ent) := [(17, root_Sqrt_e), (19, root_Log_e), (21, root_Near_e)]
def L06_awake_C : Cfg := mkC tys L06_awake_f
def L06_awake_b : Code := match Try.f23.body with | some c => c | none => .skip
def L06_awake_L : Cuts := mkL [] []
theorem L06_awake_lo : LoopsOK L06_awake_C L06_awake_L L06_awake_b := (show LoopsOK L06_awake_C L06_awake_L L06_awake_b = True by kernel_rfl).mpr trivial
theorem L06_awake_jo : JoinsOK L06_awake_C L06_awake_L L06_awake_b := (show JoinsOK L06_awake_C L06_awake_L L06_awake_b = True by kernel_rfl).mpr trivial
theorem L06_awake_ok : EntOK Try.prog 23 L06_awake_e :=
  entOf_ok (e := evFn L06_awake_C L06_awake_L Try.f23) (fun v n K => by kernel_rfl) (evFn_ok (mkC_all (fns := L06_awake_f) tys_ok ⟨⟨root_Sqrt_ok, Try.call17⟩, ⟨root_Log_ok, Try.call19⟩, ⟨root_Near_ok, Try.call21⟩, trivial⟩ mixed) Try.func23 (show Try.f23.body = some L06_awake_b by kernel_rfl) ⟨L06_awake_lo, L06_awake_jo, by kernel_rfl⟩)

def L06_RootSquares_e : Ent := entOf [.tm (.int .i64), .tm (.int .i64)] fun (v : Int × Int × Unit) n K => L06_RootSquares v.1 v.2.1 (fun (r0 : Bool) => K (.t true .bool r0) [])
def L06_RootSquares_f : List (Nat × Ent) := [(23, L06_awake_e), (17, root_Sqrt_e), (19, root_Log_e), (21, root_Near_e)]
def L06_RootSquares_C : Cfg := mkC tys L06_RootSquares_f
def L06_RootSquares_b : Code := match Try.f6.body with | some c => c | none => .skip
def L06_RootSquares_y0 : Lay := ⟨108, [(0, .tm true (.int .i64)), (1, .tm true (.int .i64)), (22, .tm true .bool)], []⟩
def L06_RootSquares_y1 : Lay := ⟨108, [(4, .tm true .bool)], []⟩
def L06_RootSquares_y2 : Lay := ⟨108, [(0, .tm true (.int .i64)), (1, .tm true (.int .i64))], []⟩
def L06_RootSquares_j2_c : Cut := ⟨L06_RootSquares_y0, fun o => match o with | .ret => some L06_RootSquares_y1 | .nrm => some L06_RootSquares_y2 | _ => none, fun (v : (Int × Int × Bool × Unit) × (Unit)) (K : KK) => L06_RootSquares_j2 v.1.1 v.1.2.1 v.1.2.2.1 (fun (y0 : Bool) => K .ret (st L06_RootSquares_y1 ((y0, ()), (())))) (fun (y0 : Int) (y1 : Int) => K .nrm (st L06_RootSquares_y2 ((y0, y1, ()), (()))))⟩
def L06_RootSquares_y3 : Lay := ⟨108, [(0, .tm true (.int .i64)), (5, .tm true (.int .i64))], []⟩
def L06_RootSquares_j9_c : Cut := ⟨L06_RootSquares_y3, fun o => match o with | .ret => some L06_RootSquares_y1 | _ => none, fun (v : (Int × Int × Unit) × (Unit)) (K : KK) => L06_RootSquares_j9 v.1.1 v.1.2.1 (fun (y0 : Bool) => K .ret (st L06_RootSquares_y1 ((y0, ()), (()))))⟩
def L06_RootSquares_j6_c : Cut := ⟨L06_RootSquares_y3, fun o => match o with | .ret => some L06_RootSquares_y1 | _ => none, fun (v : (Int × Int × Unit) × (Unit)) (K : KK) => L06_RootSquares_j6 v.1.1 v.1.2.1 (fun (y0 : Bool) => K .ret (st L06_RootSquares_y1 ((y0, ()), (()))))⟩
def L06_RootSquares_j3_c : Cut := ⟨L06_RootSquares_y2, fun o => match o with | .ret => some L06_RootSquares_y1 | _ => none, fun (v : (Int × Int × Unit) × (Unit)) (K : KK) => L06_RootSquares_j3 v.1.1 v.1.2.1 (fun (y0 : Bool) => K .ret (st L06_RootSquares_y1 ((y0, ()), (()))))⟩
def L06_RootSquares_L : Cuts := mkL [] [(2, L06_RootSquares_j2_c), (9, L06_RootSquares_j9_c), (6, L06_RootSquares_j6_c), (3, L06_RootSquares_j3_c)]
theorem L06_RootSquares_lo : LoopsOK L06_RootSquares_C L06_RootSquares_L L06_RootSquares_b := (show LoopsOK L06_RootSquares_C L06_RootSquares_L L06_RootSquares_b = True by kernel_rfl).mpr trivial
theorem L06_RootSquares_jo : JoinsOK L06_RootSquares_C L06_RootSquares_L L06_RootSquares_b :=
  (show JoinsOK L06_RootSquares_C L06_RootSquares_L L06_RootSquares_b = ((∀ cut, L06_RootSquares_L.join 3 = some cut → JoinOK L06_RootSquares_C L06_RootSquares_L cut (nthB (joinsOf L06_RootSquares_L L06_RootSquares_b) 0)) ∧ (∀ cut, L06_RootSquares_L.join 2 = some cut → JoinOK L06_RootSquares_C L06_RootSquares_L cut (nthB (joinsOf L06_RootSquares_L L06_RootSquares_b) 1)) ∧ (∀ cut, L06_RootSquares_L.join 6 = some cut → JoinOK L06_RootSquares_C L06_RootSquares_L cut (nthB (joinsOf L06_RootSquares_L L06_RootSquares_b) 2)) ∧ (∀ cut, L06_RootSquares_L.join 9 = some cut → JoinOK L06_RootSquares_C L06_RootSquares_L cut (nthB (joinsOf L06_RootSquares_L L06_RootSquares_b) 3)) ∧ True) by kernel_rfl).mpr ⟨of_some (a := L06_RootSquares_j3_c) (by kernel_rfl) (fun v K => by kernel_rfl), of_some (a := L06_RootSquares_j2_c) (by kernel_rfl) (fun v K => by kernel_rfl), of_some (a := L06_RootSquares_j6_c) (by kernel_rfl) (fun v K => by kernel_rfl), of_some (a := L06_RootSquares_j9_c) (by kernel_rfl) (fun v K => by kernel_rfl), trivial⟩
theorem L06_RootSquares_ok : EntOK Try.prog 6 L06_RootSquares_e :=
  entOf_ok (e := evFn L06_RootSquares_C L06_RootSquares_L Try.f6) (fun v n K => by kernel_rfl) (evFn_ok (mkC_all (fns := L06_RootSquares_f) tys_ok ⟨⟨L06_awake_ok, Try.call23⟩, ⟨root_Sqrt_ok, Try.call17⟩, ⟨root_Log_ok, Try.call19⟩, ⟨root_Near_ok, Try.call21⟩, trivial⟩ mixed) Try.func6 (show Try.f6.body = some L06_RootSquares_b by kernel_rfl) ⟨L06_RootSquares_lo, L06_RootSquares_jo, by kernel_rfl⟩)

end
end Go.Eng.A
