/- The abstract evaluator: what the types are; single operations that only look. -/
import Derived.Test.YtniabjhjpkkllaaEngC
import Derived.WalkSpells
namespace Go.Eng
open Go Go.RowKit

def isAggD : TypeDesc → Bool
  | .struct _ | .array _ _ => true
  | _ => false

/-- Type t's values have code c. -/
def TOK (P : Program) (t : TypeId) (c : Cd) : Prop :=
  norow c = true ∧ ∃ i d, P.info? t = some i ∧ P.underlying t = some d ∧ i.size = csz c ∧ isAggD d = agg c ∧
    (noptr c = true → ∃ z, i.zero = some z ∧ ∀ w Z, ∃ cs, VT w Z c (dflt c) cs ∧ pk c cs z)

def TyOK (P : Program) (t : TypeId) : Ty → Prop
  | .no => True
  | .sc c => TOK P t c ∧ (match c with
    | .bool => P.underlying t = some .bool
    | .int k => P.underlying t = some (.int k)
    | .str => P.underlying t = some .string
    | _ => False)
  | .sl e c by_ => P.underlying t = some (.slice e) ∧ TOK P t (.sl c) ∧ TOK P e c ∧ 0 < csz c ∧ noptr c = true ∧ 0 < by_ ∧ (∃ i, P.info? e = some i ∧ i.bytes = by_) ∧ ∃ i, P.info? t = some i ∧ i.zero = some (.slice none 0 0)
  | .arr n e c => P.underlying t = some (.array n e) ∧ TOK P t (.arr n c) ∧ TOK P e c ∧ 0 < csz c
  | .st c => agg c = true ∧ TOK P t c ∧ ∃ fs, P.underlying t = some (.struct fs) ∧ (∀ j d, pcode c [.fd j] = some d → ∃ f, fs[j]? = some f ∧ f.offset = offs c [.fd j] ∧ 0 < csz d ∧ TOK P f.type d) ∧
      ∃ places, fs.toList.mapM (fun f => (P.info? f.type).map fun i => (f.offset, i.size)) = some places ∧ ∀ j d, pcode c [.fd j] = some d → places[j]? = some (offs c [.fd j], csz d)
  | .pt e c => P.underlying t = some (.pointer e) ∧ norow c = true ∧ ∃ i, P.info? t = some i ∧ i.size = 1
  | .fn => ∃ d i, P.underlying t = some d ∧ isAggD d = false ∧ P.info? t = some i ∧ i.size = 1

section
variable {P : Program} {B : Bz} {n : Nat} {ρ : Nat → Value} {H : List Blk} {w : World}

theorem TOK.norow {t : TypeId} {c : Cd} (h : TOK P t c) : norow c = true := h.1

theorem run_isAgg {t : TypeId} {d : TypeDesc} (h : P.underlying t = some d) : (isAgg t).run P w = .ok (isAggD d) w := by
  cases d <;> simp [isAgg, run_underlying h, isAggD]

theorem run_sizeOf {t : TypeId} {i : TypeInfo} (h : P.info? t = some i) : (sizeOf t).run P w = .ok i.size w := by
  simp [sizeOf, typeInfo, h]

theorem size_one_of {c : Cd} (hn : Eng.norow c = true) (h : agg c = false) : csz c = 1 := by
  cases c <;> simp_all [agg, Eng.norow, csz]

/-- A variable is read. -/
theorem run_loadVar {t : TypeId} {c : Cd} (ht : TOK P t c) {b o : Nat} {cs : List Value} (hm : Mem w b o cs) (hl : cs.length = csz c) :
    ∃ v, (loadVar t ⟨b, o, none⟩).run P w = .ok v w ∧ pk c cs v := by
  obtain ⟨hn, i, d, hi, hd, hs, hg, _⟩ := ht
  by_cases ha : agg c = true
  · refine ⟨.agg cs.toArray, ?_, by simp [pk, ha]⟩
    have hc := run_loadCells_list (P := P) w ⟨b, o, none⟩ cs (fun j v hj => by
      have := hm j v hj
      have e : (⟨b, o, none⟩ : Addr).add j = ⟨b, o + j, none⟩ := by unfold Addr.add; split <;> simp_all
      rw [e]; exact this)
    rw [hl] at hc
    simp [loadVar, run_isAgg hd, hg, ha, run_sizeOf hi, hs, hc]
  · have ha : agg c = false := by simpa using ha
    have h1 := size_one_of hn ha
    rw [h1] at hl
    obtain ⟨v, rfl⟩ := List.length_eq_one_iff.1 hl
    have := hm 0 v (by simp)
    rw [Nat.add_zero] at this
    refine ⟨v, ?_, by simp [pk, ha]⟩
    simp [loadVar, run_isAgg hd, hg, ha, this]

/-! ### Operands -/

theorem cst_spec : ∀ (v : Value), VR n B ρ H w (cst v) v
  | .bool b => by simp [cst, VR, VT, pk, agg]
  | .int k m => by simp [cst, VR, VT, pk, agg]
  | .string s => by simp [cst, VR, VT, pk, agg]
  | .slice none 0 0 => by simp [cst, VR]
  | .slice none 0 (_ + 1) => by simp [cst, VR]
  | .slice none (_ + 1) _ => by simp [cst, VR]
  | .slice (some _) _ _ => by simp [cst, VR]
  | .pointer none => by simp [cst, VR, VT, pk, agg]
  | .pointer (some _) => by simp [cst, VR]
  | .float _ _ => by simp [cst, VR]
  | .complex _ _ _ => by simp [cst, VR]
  | .map _ => by simp [cst, VR]
  | .chan _ => by simp [cst, VR]
  | .func _ _ _ => by simp [cst, VR]
  | .nilFunc => by simp [cst, VR]
  | .iface _ _ => by simp [cst, VR]
  | .nilIface => by simp [cst, VR]
  | .agg _ => by simp [cst, VR]
  | .tuple _ => by simp [cst, VR]

/-- Slots. -/
def TR (n : Nat) (B : Bz) (ρ : Nat → Value) (H : List Blk) (w : World) (tmps : List AV) (a : Act) : Prop :=
  tmps.length ≤ a.tmps.size ∧ ∀ i, VR n B ρ H w (lk tmps i) (a.tmps.getD i undef)

theorem opv_spec {tmps : List AV} {a : Act} (h : TR n B ρ H w tmps a) : ∀ x : Operand, VR n B ρ H w (opv tmps x) (a.eval x)
  | .tmp t => h.2 t
  | .const v => cst_spec v
  | .global g => by simp [opv, VR]
  | .func f => by simp [opv, VR, VRs, Act.eval]

theorem opvs_spec {tmps : List AV} {a : Act} (h : TR n B ρ H w tmps a) : ∀ xs : List Operand, VRs n B ρ H w (opvs tmps xs) (xs.map a.eval)
  | [] => by simp [opvs, VRs]
  | x :: xs => by simp only [opvs, VRs, List.map_cons]; exact ⟨_, _, rfl, opv_spec h x, opvs_spec h xs⟩

theorem TR.put {tmps : List AV} {a : Act} (h : TR n B ρ H w tmps a) (dst : Option Tmp) {x : AV} {v : Value} (hv : VR n B ρ H w x v) : TR n B ρ H w (putT tmps dst x) (a.put dst v) := by
  cases dst with
  | none => exact h
  | some d =>
    refine ⟨by simpa [putT, Act.put, length_up] using h.1, fun i => ?_⟩
    simp only [putT, Act.put, lk_up]
    by_cases e : i = d
    · subst e
      by_cases hl : i < tmps.length
      · have : i < a.tmps.size := Nat.lt_of_lt_of_le hl h.1
        simp [hl, this]; exact hv
      · rw [if_neg (by simp [hl]), lk_ge _ _ (by omega)]; simp [VR]
    · rw [if_neg (by simp [e])]
      have := h.2 i
      rw [show (a.tmps.setIfInBounds d v).getD i undef = a.tmps.getD i undef by simp [Array.getElem?_setIfInBounds_ne (Ne.symm e)]]
      exact this

theorem TR.up {tmps : List AV} {a : Act} (h : TR n B ρ H w tmps a) {d : Nat} {x : AV} (hv : VR n B ρ H w x (a.tmps.getD d undef)) : TR n B ρ H w (up tmps d x) a := by
  refine ⟨by simpa [length_up] using h.1, fun i => ?_⟩
  rw [lk_up]
  split
  · rename_i e; rw [e.1]; exact hv
  · exact h.2 i

/-! ### Values of a kind -/

theorem VR_int {fr : Bool} {k : IntKind} {x : Int} {v : Value} (h : VR n B ρ H w (.t fr (.int k) x) v) : v = .int k x := by
  simp only [VR, VT] at h; obtain ⟨cs, rfl, h⟩ := h; simp [pk, agg] at h; exact h.symm
theorem VR_bool {fr : Bool} {x : Bool} {v : Value} (h : VR n B ρ H w (.t fr .bool x) v) : v = .bool x := by
  simp only [VR, VT] at h; obtain ⟨cs, rfl, h⟩ := h; simp [pk, agg] at h; exact h.symm
theorem VR_str {fr : Bool} {x : ByteArray} {v : Value} (h : VR n B ρ H w (.t fr .str x) v) : v = .string x := by
  simp only [VR, VT] at h; obtain ⟨cs, rfl, h⟩ := h; simp [pk, agg] at h; exact h.symm
theorem VR_np {fr : Bool} {x : El .np} {v : Value} (h : VR n B ρ H w (.t fr .np x) v) : v = .pointer none := by
  simp only [VR, VT] at h; obtain ⟨cs, rfl, h⟩ := h; simp [pk, agg] at h; exact h.symm
theorem VR_bI (k : IntKind) (x : Int) : VR n B ρ H w (bI k x) (.int k x) := by simp [bI, VR, VT, pk, agg]
theorem VR_bB (x : Bool) : VR n B ρ H w (bB x) (.bool x) := by simp [bB, VR, VT, pk, agg]
theorem VR_ptr {fr : Bool} {c : Cd} {x : El c} {v : Value} (h : VR n B ρ H w (.t fr (.ptr c) x) v) :
    ∃ b o cells, v = .pointer (some ⟨b, o, none⟩) ∧ Zn B ρ H fr b ∧ CellsAt w b ∧ Mem w b o cells ∧ VT w (Zn B ρ H fr) c x cells := by
  simp only [VR, VT] at h; obtain ⟨cs, ⟨b, o, cells, rfl, hz, hlt, hm, hv⟩, h⟩ := h; simp [pk, agg] at h; exact ⟨b, o, cells, h.symm, hz, hlt, hm, hv⟩
theorem VR_sl {fr : Bool} {c : Cd} {xs : List (El c)} {v : Value} (h : VR n B ρ H w (.t fr (.sl c) xs) v) :
    ∃ a cap, v = .slice a xs.length cap ∧ xs.length ≤ cap ∧ (xs = [] ∨ ∃ b o cells, a = some ⟨b, o, none⟩ ∧ Zn B ρ H fr b ∧ CellsAt w b ∧ Mem w b o cells ∧ Flat (VT w (Zn B ρ H fr) c) xs cells) := by
  simp only [VR, VT] at h; obtain ⟨cs, ⟨a, cap, rfl, hr⟩, h⟩ := h; simp [pk, agg] at h; exact ⟨a, cap, h.symm, hr⟩

/-! ### Operations on numbers -/

theorem equalIn_bool {t : TypeId} (hd : P.underlying t = some .bool) (d : Nat) (a b : Bool) : (Op.equalIn (d + 1) t (.bool a) (.bool b)).run P w = .ok (a == b) w := by
  simp [Op.equalIn, run_underlying hd]
theorem equalIn_nn {t e : TypeId} (hd : P.underlying t = some (.pointer e)) (d : Nat) : (Op.equalIn (d + 1) t (.pointer none) (.pointer none)).run P w = .ok true w := by
  simp [Op.equalIn, run_underlying hd]
theorem equalIn_pn {t e : TypeId} (hd : P.underlying t = some (.pointer e)) (d : Nat) (x : Addr) : (Op.equalIn (d + 1) t (.pointer (some x)) (.pointer none)).run P w = .ok false w := by
  simp [Op.equalIn, run_underlying hd]
theorem equal_bool {t : TypeId} (hd : P.underlying t = some .bool) (a b : Bool) : (Op.equal t (.bool a) (.bool b)).run P w = .ok (a == b) w := equalIn_bool hd 9999 a b
theorem equal_nn {t e : TypeId} (hd : P.underlying t = some (.pointer e)) : (Op.equal t (.pointer none) (.pointer none)).run P w = .ok true w := equalIn_nn hd 9999
theorem equalIn_sn {t e : TypeId} (hd : P.underlying t = some (.slice e)) (d : Nat) (x : Addr) (n c : Nat) : (Op.equalIn (d + 1) t (.slice (some x) n c) (.slice none 0 0)).run P w = .ok false w := by
  simp [Op.equalIn, run_underlying hd]
theorem equal_sn {t e : TypeId} (hd : P.underlying t = some (.slice e)) (x : Addr) (n c : Nat) : (Op.equal t (.slice (some x) n c) (.slice none 0 0)).run P w = .ok false w := equalIn_sn hd 9999 x n c
theorem equal_pn {t e : TypeId} (hd : P.underlying t = some (.pointer e)) (x : Addr) : (Op.equal t (.pointer (some x)) (.pointer none)).run P w = .ok false w := equalIn_pn hd 9999 x

theorem evBin_spec {op : BinOp} {ty : Ty} {t : TypeId} (ht : TyOK P t ty) {x y : AV} {u v : Value} {K : AV → Prop} (hx : VR n B ρ H w x u) (hy : VR n B ρ H w y v) (ox oy : Operand)
    (h : evBin op ty x y K) : ∃ r a, (do eqGuard op t ox oy u v; binOp op t u v : Sem Value).run P w = .ok r w ∧ K a ∧ VR n B ρ H w a r := by
  unfold evBin at h
  split at h
  · rename_i fr k a fr' k' b
    have hu := VR_int hx; have hv := VR_int hy
    subst hu hv
    split at h
    · obtain ⟨hb, h⟩ := Br_ft h
      have hb : ¬ (b : Int) < 0 := of_decide_eq_false hb
      exact ⟨_, _, by simp [eqGuard, binOp, Op.shift, hb]; rfl, h, VR_bI _ _⟩
    · obtain ⟨hb, h⟩ := Br_ft h
      have hb : ¬ (b : Int) < 0 := of_decide_eq_false hb
      exact ⟨_, _, by simp [eqGuard, binOp, Op.shift, hb]; rfl, h, VR_bI _ _⟩
    all_goals
      obtain ⟨hk, h⟩ := Br_tf h
      have hk := of_decide_eq_true hk
      subst hk
    · exact ⟨_, _, by simp [eqGuard, binOp, Op.intArith]; rfl, h, VR_bI _ _⟩
    · exact ⟨_, _, by simp [eqGuard, binOp, Op.intArith]; rfl, h, VR_bI _ _⟩
    · exact ⟨_, _, by simp [eqGuard, binOp, Op.intArith]; rfl, h, VR_bI _ _⟩
    · obtain ⟨hb, h⟩ := Br_ft h
      have hb : ¬ (b : Int) = 0 := of_decide_eq_false hb
      exact ⟨_, _, by simp [eqGuard, binOp, Op.intDiv, hb]; rfl, h, VR_bI _ _⟩
    · obtain ⟨hb, h⟩ := Br_ft h
      have hb : ¬ (b : Int) = 0 := of_decide_eq_false hb
      exact ⟨_, _, by simp [eqGuard, binOp, Op.intDiv, hb]; rfl, h, VR_bI _ _⟩
    · exact ⟨_, _, by simp [eqGuard, binOp, Op.intBits]; rfl, h, VR_bI _ _⟩
    · exact ⟨_, _, by simp [eqGuard, binOp, Op.intBits]; rfl, h, VR_bI _ _⟩
    · exact ⟨_, _, by simp [eqGuard, binOp, Op.intBits]; rfl, h, VR_bI _ _⟩
    · exact ⟨_, _, by simp [eqGuard, binOp, Op.intBits, iandn], h, VR_bI _ _⟩
    · exact ⟨.bool ((a : Int) == b), _, by simp [eqGuard, binOp, Op.intCmp], h, by rw [show ((a : Int) == b) = decide ((a : Int) = b) from rfl]; exact VR_bB _⟩
    · exact ⟨.bool ((a : Int) != b), _, by simp [eqGuard, binOp, Op.intCmp], h, by rw [show ((a : Int) != b) = !decide ((a : Int) = b) from rfl]; exact VR_bB _⟩
    · exact ⟨_, _, by simp [eqGuard, binOp, Op.intCmp], h, VR_bB _⟩
    · exact ⟨_, _, by simp [eqGuard, binOp, Op.intCmp], h, VR_bB _⟩
    · exact ⟨.bool (decide ((a : Int) > b)), _, by simp [eqGuard, binOp, Op.intCmp], h, VR_bB _⟩
    · exact ⟨.bool (decide ((a : Int) ≥ b)), _, by simp [eqGuard, binOp, Op.intCmp], h, VR_bB _⟩
  · rename_i fr a fr' b
    have hu := VR_bool hx; have hv := VR_bool hy
    subst hu hv
    split at h
    · have hd : P.underlying t = some .bool := ht.2
      exact ⟨_, _, by simp [eqGuard, binOp, equal_bool hd], h, VR_bB _⟩
    · have hd : P.underlying t = some .bool := ht.2
      exact ⟨_, _, by simp [eqGuard, binOp, equal_bool hd], h, VR_bB _⟩
    · exact h.elim
  · have hu := VR_np hx; have hv := VR_np hy
    subst hu hv
    split at h
    · have hd := ht.1
      exact ⟨_, _, by simp [eqGuard, binOp, equal_nn hd], h, VR_bB _⟩
    · have hd := ht.1
      exact ⟨_, _, by simp [eqGuard, binOp, equal_nn hd], h, VR_bB _⟩
    · exact h.elim
  · obtain ⟨b, o, cells, hu, _⟩ := VR_ptr hx
    have hv := VR_np hy
    subst hu hv
    split at h
    · have hd := ht.1
      exact ⟨_, _, by simp [eqGuard, binOp, equal_pn hd], h, VR_bB _⟩
    · have hd := ht.1
      exact ⟨_, _, by simp [eqGuard, binOp, equal_pn hd], h, VR_bB _⟩
    · exact h.elim
  · simp only [VR] at hx
    obtain ⟨_, b, _, hu⟩ := hx
    have hv := VR_np hy
    subst hu hv
    split at h
    · have hd := ht.1
      exact ⟨_, _, by simp [eqGuard, binOp, equal_pn hd], h, VR_bB _⟩
    · have hd := ht.1
      exact ⟨_, _, by simp [eqGuard, binOp, equal_pn hd], h, VR_bB _⟩
    · exact h.elim
  · rename_i fr c a
    obtain ⟨cs, hvt, hpk⟩ := VR.len_t hx
    simp only [VR] at hy
    subst hy
    simp only [VT] at hvt
    obtain ⟨ad, cap, rfl, hcap, hr⟩ := hvt
    have hu : u = .slice ad (List.length a) cap := by simpa [pk, agg] using hpk.symm
    subst hu
    split at h
    · obtain ⟨hb, h⟩ := Br_tf h
      have hb := of_decide_eq_true hb
      have hd : P.underlying t = some (.slice _) := ht.1
      rcases hr with rfl | ⟨b, o, cells, rfl, _⟩
      · simp at hb
      · exact ⟨_, _, by simp [eqGuard, binOp, equal_sn hd], h, VR_bB _⟩
    · obtain ⟨hb, h⟩ := Br_tf h
      have hb := of_decide_eq_true hb
      have hd : P.underlying t = some (.slice _) := ht.1
      rcases hr with rfl | ⟨b, o, cells, rfl, _⟩
      · simp at hb
      · exact ⟨_, _, by simp [eqGuard, binOp, equal_sn hd], h, VR_bB _⟩
    · exact h.elim
  · exact h.elim

theorem evUn_spec {op : UnOp} {x : AV} {u : Value} {K : AV → Prop} (hx : VR n B ρ H w x u) (h : evUn op x K) : ∃ r a, (Op.unary op u).run P w = .ok r w ∧ K a ∧ VR n B ρ H w a r := by
  unfold evUn at h
  split at h
  · have hu := VR_int hx; subst hu
    exact ⟨_, _, by simp [Op.unary, Op.intArith, isub], h, VR_bI _ _⟩
  · have hu := VR_int hx; subst hu
    exact ⟨_, _, by simp [Op.unary, Op.intBits]; rfl, h, VR_bI _ _⟩
  · have hu := VR_bool hx; subst hu
    exact ⟨_, _, by simp [Op.unary], h, VR_bB _⟩
  · exact h.elim

end
end Go.Eng
