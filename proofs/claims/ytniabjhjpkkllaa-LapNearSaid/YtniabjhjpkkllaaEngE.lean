/- The abstract evaluator: operations that look at memory. -/
import Derived.Test.YtniabjhjpkkllaaEngD
namespace Go.Eng
open Go Go.RowKit

theorem add_at (b o n : Nat) : (⟨b, o, none⟩ : Addr).add n = ⟨b, o + n, none⟩ := by unfold Addr.add; split <;> simp_all

mutual
/-- Values of a type may be compared, part by part. -/
def EqS (P : Program) : Cd → TypeId → Prop
  | .bool, t => P.underlying t = some .bool
  | .int k, t => P.underlying t = some (.int k)
  | .arr n c, t => ∃ e, P.underlying t = some (.array n e) ∧ TOK P e c ∧ EqS P c e
  | .cons c d, t => ∃ fs f r, P.underlying t = some (.struct fs) ∧ P.stoodInHeld t = false ∧ fs.toList = f :: r ∧ f.name ≠ "_" ∧ f.offset = 0 ∧ TOK P f.type c ∧ EqS P c f.type ∧ EqF P d r (csz c)
  | _, _ => False
def EqF (P : Program) : Cd → List Field → Nat → Prop
  | .cons c d, f :: fs, o => f.name ≠ "_" ∧ f.offset = o ∧ TOK P f.type c ∧ EqS P c f.type ∧ EqF P d fs (o + csz c)
  | .nil, [], _ => True
  | _, _, _ => False
end
def rk : Cd → Nat
  | .arr _ c => rk c + 1
  | .cons c d => max (rk c + 1) (rk d)
  | _ => 1
def EqOK (P : Program) (t : TypeId) (c : Cd) : Prop := agg c = true ∧ EqS P c t ∧ P.eqGuardType P.depth t = false ∧ rk c ≤ 100

section
variable {P : Program} {X : Ctx} {ρ : Nat → Value} {H : List Blk} {w : World}

abbrev VH (X : Ctx) (ρ : Nat → Value) (H : List Blk) (w : World) : AV → Value → Prop := VR (hlen H) X.B ρ H w

/-- What a slice's value leads to. -/
def SlOf (B : Bz) (ρ : Nat → Value) (H : List Blk) (w : World) (fr : Bool) (c : Cd) (ys : List (El c)) (u : Value) : Prop :=
  ∃ a cap, u = .slice a ys.length cap ∧ ys.length ≤ cap ∧ (ys = [] ∨ ∃ b o cells, a = some ⟨b, o, none⟩ ∧ CellsAt w b ∧ Mem w b o cells ∧ Flat (VT w (Zn B ρ H fr) c) ys cells)

theorem RH.row (h : RH X ρ H w) {r : Nat} {wr fr : Bool} {E : TypeId} {c : Cd} {x : List (El c)} (hr : r < hlen H) (e : hk H r = .val wr fr E (.row c) x) :
    norow c = true ∧ 0 < csz c ∧ ∃ cells, w.ownsRow 0 E (csz c) (ρ r) x.length cells ∧ Flat (VT w (Zn X.B ρ H fr) c) x cells := by
  have := h.blk r hr; rw [e] at this; exact this

theorem RH.val (h : RH X ρ H w) {r : Nat} {wr fr : Bool} {E : TypeId} {c : Cd} {x : El c} (hr : r < hlen H) (e : hk H r = .val wr fr E c x) (hc : ∀ d, c ≠ .row d) :
    norow c = true ∧ ∃ b cells, ρ r = .pointer (some ⟨b, 0, none⟩) ∧ w.heap[b]? = some (.cells (List.toArray cells) E (0, 0)) ∧ VT w (Zn X.B ρ H fr) c x cells := by
  have := h.blk r hr; rw [e] at this
  cases c <;> first | exact this | exact absurd rfl (hc _)

theorem RH.lt (_h : RH X ρ H w) {r : Nat} {b : Blk} (e : hk H r = b) (hd : dead b = false) : r < hlen H := hk_lt (by rw [e]; exact hd)

/-- The cells of an own row, from one place on. -/
theorem own_mem {E sz n : Nat} {v : Value} {cells : List Value} (h : w.ownsRow 0 E sz v n cells) {b : Nat} (hb : blkOf v = some b) : Mem w b 0 cells ∧ CellsAt w b := by
  rcases h.2 with ⟨rfl, _⟩ | ⟨g, cap, cur, rfl, _, hg, _, _, _, ht⟩
  · simp [blkOf] at hb
  · simp [blkOf] at hb; subst hb
    refine ⟨fun i v hi => ?_, ⟨_, _, _, hg⟩⟩
    rw [← ht, List.getElem?_take] at hi
    split at hi
    · simp only [World.cell?, hg, Nat.zero_add]; simpa using hi
    · cases hi

theorem own_sl {fr : Bool} {E : TypeId} {c : Cd} {x : List (El c)} {v : Value} {cells : List Value} (hown : w.ownsRow 0 E (csz c) v x.length cells) (hf : Flat (VT w (Zn X.B ρ H fr) c) x cells) :
    SlOf X.B ρ H w fr c x v := by
  rcases hown.2 with ⟨rfl, hn⟩ | ⟨g, cap, cur, rfl, _, hg, hc, _⟩
  · have : x = [] := List.eq_nil_of_length_eq_zero hn
    subst this
    exact ⟨none, 0, rfl, Nat.le_refl _, .inl rfl⟩
  · obtain ⟨hm, hlt⟩ := own_mem hown (b := g) rfl
    exact ⟨_, cap, rfl, hc, .inr ⟨g, 0, cells, rfl, hlt, hm, hf⟩⟩

theorem Mem.from {b o : Nat} {cs : List Value} (h : Mem w b o cs) (i : Nat) : Mem w b (o + i) (cs.drop i) := by
  intro j v hj
  rw [List.getElem?_drop] at hj
  have := h (i + j) v hj
  rwa [← Nat.add_assoc] at this
theorem Mem.upto {b o : Nat} {cs : List Value} (h : Mem w b o cs) (k : Nat) : Mem w b o (cs.take k) := by
  intro j v hj
  rw [List.getElem?_take] at hj
  split at hj
  · exact h j v hj
  · cases hj

/-- A part of a stretch of memory. -/
theorem part_mem {R : (c : Cd) → El c → List Value → Prop} {c : Cd} {x : List (El c)} {cells : List Value} {b o lo hi : Nat} (hl : ∀ (x : El c) cs, R c x cs → cs.length = csz c) (hm : Mem w b o cells) (hf : Flat (R c) x cells) :
    Mem w b (o + lo * csz c) (((cells.drop (lo * csz c))).take ((hi - lo) * csz c)) ∧ Flat (R c) ((x.drop lo).take (hi - lo)) ((cells.drop (lo * csz c)).take ((hi - lo) * csz c)) :=
  ⟨(hm.from _).upto _, Flat.take hl _ (Flat.drop hl _ hf)⟩

theorem length_part {α : Type} {x : List α} {lo hi : Nat} (h1 : lo ≤ hi) (h2 : hi ≤ x.length) : ((x.drop lo).take (hi - lo)).length = hi - lo := by simp; omega

/-- A part of an own block. -/
theorem ox_sl {fr : Bool} {c : Cd} {x : List (El c)} {lo hi r : Nat} {u : Value} {cells : List Value} (hn : norow c = true) (h1 : lo ≤ hi) (h2 : hi ≤ x.length)
    (hm : ∀ b, blkOf (ρ r) = some b → Mem w b 0 cells ∧ CellsAt w b) (hf : Flat (VT w (Zn X.B ρ H fr) c) x cells) (hv : VH X ρ H w (.ox r c lo hi) u) :
    SlOf X.B ρ H w fr c ((x.drop lo).take (hi - lo)) u := by
  simp only [VH, VR] at hv
  obtain ⟨_, a, cap, rfl, hc, ha⟩ := hv
  refine ⟨a, cap, by rw [length_part h1 h2], by rw [length_part h1 h2]; exact hc, ?_⟩
  rcases ha with ha | ⟨b, hb, rfl⟩
  · left; rw [ha]; simp
  · right
    obtain ⟨hm, hlt⟩ := hm b hb
    obtain ⟨k1, k2⟩ := part_mem (R := VT w (Zn X.B ρ H fr)) (lo := lo) (hi := hi) (fun x cs hx => hx.len hn) hm hf
    rw [Nat.zero_add] at k1
    exact ⟨b, _, _, rfl, hlt, k1, k2⟩

theorem elems0_spec (h : RH X ρ H w) {v : AV} {u : Value} {c : Cd} {K : Bool → List (El c) → Prop} (hv : VH X ρ H w v u) (he : elems0 H v c K) :
    ∃ fr ys, K fr ys ∧ SlOf X.B ρ H w fr c ys u := by
  unfold elems0 at he
  split at he
  · rename_i fr c' x
    obtain ⟨e, he⟩ := asC_spec he
    cases e
    refine ⟨fr, x, he, ?_⟩
    obtain ⟨a, cap, rfl, hc, hr⟩ := VR_sl hv
    exact ⟨a, cap, rfl, hc, hr.imp id fun ⟨b, o, cells, ea, _, hlt, hm, hf⟩ => ⟨b, o, cells, ea, hlt, hm, hf⟩⟩
  · simp only [VH, VR] at hv
    subst hv
    exact ⟨true, [], he, none, 0, rfl, Nat.le_refl _, .inl rfl⟩
  · rename_i r
    split at he
    · rename_i wr fr E c' x hb
      obtain ⟨e, he⟩ := asC_spec he
      cases e
      have hr := h.lt hb rfl
      obtain ⟨_, _, cells, hown, hf⟩ := h.row hr hb
      simp only [VH, VR] at hv
      rw [hv.2]
      exact ⟨fr, x, he, own_sl hown hf⟩
    · exact he.elim
  · rename_i r c'' lo hi
    split at he
    · rename_i wr fr E c' x hb
      replace he := Br_tf he
      obtain ⟨hd, he⟩ := he
      simp only [Bool.and_eq_true, decide_eq_true_eq] at hd
      obtain ⟨e, he⟩ := asC_spec he
      cases e
      obtain ⟨⟨e2, h1⟩, h2⟩ := hd
      subst e2
      have hr := h.lt hb rfl
      obtain ⟨hn, _, cells, hown, hf⟩ := h.row hr hb
      exact ⟨fr, _, he, ox_sl hn h1 h2 (fun b hb' => own_mem hown hb') hf hv⟩
    · rename_i wr fr E n c' x hb
      replace he := Br_tf he
      obtain ⟨hd, he⟩ := he
      simp only [Bool.and_eq_true, decide_eq_true_eq] at hd
      obtain ⟨e, he⟩ := asC_spec he
      cases e
      obtain ⟨⟨e2, h1⟩, h2⟩ := hd
      subst e2
      have hr := h.lt hb rfl
      obtain ⟨hn, b, cells, hρ, hg, hl, hf⟩ := h.val hr hb (by intro d; simp)
      refine ⟨fr, _, he, ox_sl (by simpa [norow] using hn) h1 h2 (fun b' hb' => ?_) hf hv⟩
      rw [hρ] at hb'; simp [blkOf] at hb'; subst hb'
      exact ⟨Mem.of_block hg, ⟨_, _, _, hg⟩⟩
    · exact he.elim
  · exact he.elim

theorem elems_spec (h : RH X ρ H w) {v : AV} {u : Value} {c : Cd} {K : Bool → List (El c) → Prop} (hv : VH X ρ H w v u) (he : elems H v c K) :
    ∃ fr ys, K fr ys ∧ SlOf X.B ρ H w fr c ys u := by
  obtain ⟨fr, ys, hK, a, cap, e, hc, hr⟩ := elems0_spec h hv he
  refine ⟨_, ys, hK, a, cap, e, hc, hr.imp id fun ⟨b, o, cells, ea, hlt, hm, hf⟩ => ⟨b, o, cells, ea, hlt, hm, hf.mono fun x cs hx => ?_⟩⟩
  cases hfl : flat c with
  | true => exact VT.flat hfl hx
  | false => simpa using hx

theorem evLen_spec (h : RH X ρ H w) {v : AV} {u : Value} {ty : Ty} {t rt : TypeId} (ht : TyOK P t ty) {K : AV → Prop} (hv : VH X ρ H w v u) (he : evLen H v ty K) :
    ∃ r a, (Builtin.len_ #[t] rt #[u]).run P w = .ok r w ∧ K a ∧ VH X ρ H w a r := by
  unfold evLen at he
  split at he
  · obtain ⟨a, cap, rfl, _⟩ := VR_sl hv
    exact ⟨_, _, by simp [Builtin.len_, run_underlying ht.1, goInt], he, VR_bI _ _⟩
  · simp only [VH, VR] at hv
    subst hv
    exact ⟨_, _, by simp [Builtin.len_, run_underlying ht.1, goInt], he, VR_bI _ _⟩
  · split at he
    · rename_i hb
      have hr := h.lt hb rfl
      obtain ⟨_, _, cells, hown, hf⟩ := h.row hr hb
      obtain ⟨a, cap, e, _⟩ := own_sl (X := X) (H := H) hown hf
      simp only [VH, VR] at hv
      rw [hv.2, e]
      exact ⟨_, _, by simp [Builtin.len_, run_underlying ht.1, goInt], he, VR_bI _ _⟩
    · exact he.elim
  · simp only [VH, VR] at hv
    obtain ⟨_, a, cap, rfl, _⟩ := hv
    exact ⟨_, _, by simp [Builtin.len_, run_underlying ht.1, goInt], he, VR_bI _ _⟩
  · have := VR_str hv
    subst this
    have hd : P.underlying t = some .string := ht.2
    exact ⟨_, _, by simp [Builtin.len_, run_underlying hd, goInt], he, VR_bI _ _⟩
  · exact ⟨_, _, by simp [Builtin.len_, run_underlying ht.1, goInt], he, VR_bI _ _⟩
  · exact he.elim

/-! ### Slicing -/

theorem bnd_int {i : Int} {n cap : Nat} {k : IntKind} {code : BoundsCode} (h : (decide (0 ≤ i) && decide (i ≤ (n : Int))) = true) (hn : n ≤ cap) :
    i.toNat ≤ n ∧ (Instr.sliceBound (.int k i) cap code).run P w = .ok i.toNat w := by
  simp only [Bool.and_eq_true, decide_eq_true_eq] at h
  have h2 : i ≤ (cap : Int) := by omega
  exact ⟨by omega, by simp [Instr.sliceBound, asIntOf, h.1, h2]⟩

theorem bnd_spec {n dfl cap : Nat} {v : Option AV} {u : Option Value} {K : Nat → Prop} {code : BoundsCode} (hn : n ≤ cap) (hd : dfl ≤ n) (hv : match v, u with | none, none => True | some a, some b => VH X ρ H w a b | _, _ => False)
    (he : bnd v n dfl K) : ∃ i, K i ∧ i ≤ n ∧ (match u with | some b => Instr.sliceBound b cap code | none => pure dfl : Sem Nat).run P w = .ok i w := by
  unfold bnd at he
  split at he
  · cases u with
    | none => exact ⟨dfl, he, hd, by simp⟩
    | some b => exact hv.elim
  · cases u with
    | none => exact hv.elim
    | some b =>
      replace he := Br_tf he
      have := VR_int hv
      subst this
      obtain ⟨h1, h2⟩ := bnd_int (P := P) (w := w) (code := code) he.1 hn
      exact ⟨_, he.2, h1, h2⟩
  · exact he.elim

def optR (X : Ctx) (ρ : Nat → Value) (H : List Blk) (w : World) (v : Option AV) (u : Option Value) : Prop :=
  match v, u with | none, none => True | some a, some b => VH X ρ H w a b | _, _ => False

theorem bounds_spec {n cap : Nat} {lo hi : Option AV} {ul uh : Option Value} {K : Nat → Nat → Prop} (isSlice : Bool) (hn : n ≤ cap) (hl : optR X ρ H w lo ul) (hh : optR X ρ H w hi uh)
    (he : bnd hi n n fun h => bnd lo h 0 fun l => K h l) : ∃ h l, K h l ∧ h ≤ n ∧ l ≤ h ∧ (Instr.sliceBounds isSlice n cap ul uh none).run P w = .ok (l, h, cap) w := by
  obtain ⟨h, he, hle, hr⟩ := bnd_spec (P := P) (code := if isSlice then .sliceAcap else .sliceAlen) hn (Nat.le_refl _) hh he
  obtain ⟨l, he, hll, hr2⟩ := bnd_spec (P := P) (code := .sliceB) (cap := h) (Nat.le_refl _) (Nat.zero_le _) hl he
  refine ⟨h, l, he, hle, hll, ?_⟩
  cases uh <;> cases ul <;> simp_all [Instr.sliceBounds]

theorem zone_sl {fr : Bool} {c : Cd} {x : List (El c)} {v : Value} {lo hi : Nat} {a : Option Addr} {cap : Nat} (hn : norow c = true) (hv : VH X ρ H w (.t fr (.sl c) x) (.slice a x.length cap)) (h1 : lo ≤ hi) (h2 : hi ≤ x.length)
    (e : v = .slice (if cap = lo then a else a.map (·.add (lo * csz c))) (hi - lo) (cap - lo)) : VH X ρ H w (.t fr (.sl c) ((x.drop lo).take (hi - lo))) v := by
  obtain ⟨a', cap', e', hc, hr⟩ := VR_sl hv
  simp only [Value.slice.injEq, true_and] at e'
  obtain ⟨rfl, rfl⟩ := e'
  subst e
  simp only [VH, VR, VT]
  refine ⟨_, ⟨if cap = lo then a else a.map (·.add (lo * csz c)), cap - lo, rfl, by rw [length_part h1 h2]; omega, ?_⟩, by simp [pk, agg, length_part h1 h2]⟩
  rcases hr with rfl | ⟨b, o, cells, rfl, hz, hlt, hm, hf⟩
  · left; simp
  · by_cases he : hi = lo
    · left; subst he; simp
    · right
      obtain ⟨k1, k2⟩ := part_mem (R := VT w (Zn X.B ρ H fr)) (lo := lo) (hi := hi) (fun x cs hx => hx.len hn) hm hf
      refine ⟨b, _, _, ?_, hz, hlt, k1, k2⟩
      rw [if_neg (by omega)]
      simp [add_at]

theorem evSlice_spec (h : RH X ρ H w) {x : AV} {u : Value} {ty : Ty} {t : TypeId} (ht : TyOK P t ty) {lo hi : Option AV} {ul uh : Option Value} {K : AV → Prop} (hv : VH X ρ H w x u) (hl : optR X ρ H w lo ul) (hh : optR X ρ H w hi uh)
    (he : evSlice H x ty lo hi K) : ∃ r a, (Instr.sliceAt t u ul uh none).run P w = .ok r w ∧ K a ∧ VH X ρ H w a r := by
  unfold evSlice at he
  split at he
  · rename_i e c by_ fr c' x
    obtain ⟨ec, he⟩ := asC_spec he
    cases ec
    obtain ⟨hd, _, hte, _⟩ := ht
    obtain ⟨hn, i, d, hi', hd', hs, _⟩ := hte
    obtain ⟨a, cap, rfl, hc, hr⟩ := VR_sl hv
    obtain ⟨hh', ll, hK, hle, hll, hb⟩ := bounds_spec (P := P) true hc hl hh he
    refine ⟨_, _, ?_, hK, zone_sl hn hv hll hle rfl⟩
    simp [Instr.sliceAt, run_underlying hd, Instr.slice, hb, run_sizeOf hi', hs]
  · rename_i e c by_ r
    obtain ⟨hd, _, hte, _⟩ := ht
    obtain ⟨hn, i, d, hi', hd', hs, _⟩ := hte
    split at he
    · rename_i wr fr E c' x hb
      have hr := h.lt hb rfl
      obtain ⟨_, _, cells, hown, hf⟩ := h.row hr hb
      obtain ⟨a, cap, ea, hc, _⟩ := own_sl (X := X) (H := H) hown hf
      simp only [VH, VR] at hv
      obtain ⟨hrl, rfl⟩ := hv
      rw [ea]
      split at he
      · have h1 : ul = none := by cases ul with | none => rfl | some _ => exact hl.elim
        have h2 : uh = none := by cases uh with | none => rfl | some _ => exact hh.elim
        subst h1 h2
        refine ⟨.slice a x.length cap, _, ?_, he, ?_⟩
        rotate_left
        · simp only [VH, VR]; exact ⟨hrl, ea.symm⟩
        · by_cases h0 : cap = 0
          · simp [Instr.sliceAt, run_underlying hd, Instr.slice, Instr.sliceBounds, run_sizeOf hi', h0]
          · have : ∀ a : Option Addr, a.map (·.add 0) = a := by intro a; cases a <;> simp [Addr.add]
            simp [Instr.sliceAt, run_underlying hd, Instr.slice, Instr.sliceBounds, run_sizeOf hi', this]
      · replace he := Br_tf he
        obtain ⟨hcc, he⟩ := he
        have hcc := of_decide_eq_true hcc
        subst hcc
        obtain ⟨hh', ll, hK, hle, hll, hb2⟩ := bounds_spec (P := P) true hc hl hh he
        refine ⟨.slice (if cap = ll then a else a.map (·.add (ll * csz c'))) (hh' - ll) (cap - ll), _, ?_, hK, ?_⟩
        rotate_left
        · simp only [VH, VR]
          refine ⟨hrl, _, _, rfl, by omega, ?_⟩
          by_cases h0 : hh' = ll
          · left; omega
          · right
            rcases hown.2 with ⟨e0, hx0⟩ | ⟨g, cap', cur, e0, _⟩
            · omega
            · rw [e0] at ea
              simp only [Value.slice.injEq, true_and] at ea
              refine ⟨g, by rw [e0]; rfl, ?_⟩
              rw [if_neg (by omega), ← ea.1]
              simp [add_at]
        · simp [Instr.sliceAt, run_underlying hd, Instr.slice, hb2, run_sizeOf hi', hs]
    · exact he.elim
  · rename_i e c by_ r c' a b
    obtain ⟨hd, _, hte, _⟩ := ht
    obtain ⟨hn, i, d, hi', hd', hs, _⟩ := hte
    replace he := Br_tf he
    obtain ⟨hcc, he⟩ := he
    have hcc := of_decide_eq_true hcc
    subst hcc
    simp only [VH, VR] at hv
    obtain ⟨hrl, ad, cap, rfl, hc, ha⟩ := hv
    obtain ⟨hh', ll, hK, hle, hll, hb2⟩ := bounds_spec (P := P) true hc hl hh he
    refine ⟨.slice (if cap = ll then ad else ad.map (·.add (ll * csz c'))) (hh' - ll) (cap - ll), _, ?_, hK, ?_⟩
    rotate_left
    · simp only [VH, VR]
      refine ⟨hrl, if cap = ll then ad else ad.map (·.add (ll * csz c')), cap - ll, by congr 1; omega, by omega, ?_⟩
      by_cases h0 : hh' = ll
      · left; omega
      · right
        rcases ha with ha | ⟨bb, hbb, rfl⟩
        · omega
        · refine ⟨bb, hbb, ?_⟩
          rw [if_neg (by omega)]
          simp [add_at, Nat.add_mul]
    · simp [Instr.sliceAt, run_underlying hd, Instr.slice, hb2, run_sizeOf hi', hs]
  · rename_i n e c r c'
    obtain ⟨hd, _, hte, _⟩ := ht
    obtain ⟨hn, i, d, hi', hd', hs, _⟩ := hte
    replace he := Br_tf he
    obtain ⟨hcc, he⟩ := he
    have hcc := of_decide_eq_true hcc
    subst hcc
    simp only [VH, VR] at hv
    obtain ⟨hrl, bb, hbb, rfl⟩ := hv
    obtain ⟨hh', ll, hK, hle, hll, hb2⟩ := bounds_spec (P := P) false (Nat.le_refl n) hl hh he
    refine ⟨.slice (some (if n = ll then ⟨bb, 0, none⟩ else (⟨bb, 0, none⟩ : Addr).add (ll * csz c))) (hh' - ll) (n - ll), _, ?_, hK, ?_⟩
    rotate_left
    · simp only [VH, VR]
      refine ⟨hrl, _, _, rfl, by omega, ?_⟩
      by_cases h0 : hh' = ll
      · left; omega
      · right
        refine ⟨bb, hbb, ?_⟩
        rw [if_neg (by omega)]
        simp [add_at]
    · simp [Instr.sliceAt, run_underlying hd, Instr.sureAddr, hb2, run_sizeOf hi', hs, offs]
  · exact he.elim


/-! ### Addresses of parts, parts, loads -/

theorem inB_int {i : Int} {n : Nat} (h : (decide (0 ≤ i) && decide (i < (n : Int))) = true) : 0 ≤ i ∧ i < (n : Int) ∧ i.toNat < n := by
  simp only [Bool.and_eq_true, decide_eq_true_eq] at h
  omega

theorem inB_spec {i : AV} {u : Value} {n : Nat} {K : Nat → Prop} (hv : VH X ρ H w i u) (he : inB i n K) :
    ∃ (k : IntKind) (j : Int), u = .int k j ∧ 0 ≤ j ∧ j < (n : Int) ∧ j.toNat < n ∧ K j.toNat := by
  unfold inB at he
  split at he
  · rename_i fr k j
    replace he := Br_tf he
    have := VR_int hv
    obtain ⟨h0, h1, h2⟩ := inB_int he.1
    exact ⟨k, _, this, h0, h1, h2, he.2⟩
  · exact he.elim

theorem optEq_spec {x : Option Cd} {c : Cd} (h : optEq x c = true) : x = some c := by
  unfold optEq at h
  cases x with
  | none => simp at h
  | some d => simp at h; rw [h]

/-- A pointer to a part that is only read. -/
theorem VR_ptr_mk {fr : Bool} {c : Cd} {x : El c} {b o : Nat} {cells : List Value} (hz : Zn X.B ρ H fr b) (hlt : CellsAt w b) (hm : Mem w b o cells) (hv : VT w (Zn X.B ρ H fr) c x cells) :
    VH X ρ H w (.t fr (.ptr c) x) (.pointer (some ⟨b, o, none⟩)) := by
  simp only [VH, VR, VT]
  exact ⟨_, ⟨b, o, cells, rfl, hz, hlt, hm, hv⟩, by simp [pk, agg]⟩

theorem Flat_at {fr : Bool} {c : Cd} {x : List (El c)} {cells : List Value} {b o j : Nat} (hn : norow c = true) (hm : Mem w b o cells) (hf : Flat (VT w (Zn X.B ρ H fr) c) x cells) (hj : j < x.length) :
    ∃ a, Mem w b (o + j * csz c) a ∧ VT w (Zn X.B ρ H fr) c (x.getD j (dflt c)) a := by
  obtain ⟨a, ha, he⟩ := Flat.get (k := csz c) (fun x cs hx => VT.len (Z := Zn X.B ρ H fr) hn hx) j _ hf (getD_some hj (dflt c))
  exact ⟨a, he ▸ hm.sub _ _, ha⟩

theorem run_indexAt_slice {t e : TypeId} {i : TypeInfo} (hd : P.underlying t = some (.slice e)) (hi : P.info? e = some i) {a : Addr} {n cap : Nat} {k : IntKind} {j : Int} (h0 : 0 ≤ j) (h1 : j < (n : Int)) :
    (Instr.indexAt t (.slice (some a) n cap) (.int k j)).run P w = .ok (.pointer (some (a.add (j.toNat * i.size)))) w := by
  simp [Instr.indexAt, asIntOf, run_underlying hd, h0, h1, run_sizeOf hi]

theorem run_indexAt_array {t e : TypeId} {m : Nat} {i : TypeInfo} (hd : P.underlying t = some (.array m e)) (hi : P.info? e = some i) {a : Addr} {k : IntKind} {j : Int} (h0 : 0 ≤ j) (h1 : j < (m : Int)) :
    (Instr.indexAt t (.pointer (some a)) (.int k j)).run P w = .ok (.pointer (some (a.add (j.toNat * i.size)))) w := by
  simp [Instr.indexAt, asIntOf, run_underlying hd, h0, h1, run_sizeOf hi, Instr.sureAddr]

theorem evIxAddr_spec (h : RH X ρ H w) {x i : AV} {u v : Value} {ty : Ty} {t : TypeId} (ht : TyOK P t ty) {K : AV → Prop} (hx : VH X ρ H w x u) (hi : VH X ρ H w i v) (he : evIxAddr H x i ty K) :
    ∃ r a, (Instr.indexAt t u v).run P w = .ok r w ∧ K a ∧ VH X ρ H w a r := by
  unfold evIxAddr at he
  split at he
  · rename_i e c by_ fr c' x
    obtain ⟨ec, he⟩ := asC_spec he
    cases ec
    obtain ⟨k, j, rfl, h0, h1, h2, hK⟩ := inB_spec hi he
    obtain ⟨hd, _, ⟨hn, ii, d, hi', hd', hs, _⟩, _⟩ := ht
    obtain ⟨a, cap, rfl, hc, hr⟩ := VR_sl hx
    rcases hr with rfl | ⟨b, o, cells, rfl, hz, hlt, hm, hf⟩
    · simp at h2
    · obtain ⟨cs, k1, k2⟩ := Flat_at (X := X) hn hm hf h2
      refine ⟨_, _, run_indexAt_slice hd hi' h0 h1, hK, ?_⟩
      rw [add_at, hs]
      exact VR_ptr_mk hz hlt k1 k2
  · rename_i e c by_ r
    split at he
    · rename_i wr fr E c' x hb
      replace he := Br_tf he
      obtain ⟨hcc, he⟩ := he
      have hcc := of_decide_eq_true hcc
      subst hcc
      obtain ⟨k, j, rfl, h0, h1, h2, hK⟩ := inB_spec hi he
      obtain ⟨hd, _, ⟨hn, ii, d, hi', hd', hs, _⟩, _⟩ := ht
      have hr := h.lt hb rfl
      obtain ⟨_, _, cells, hown, hf⟩ := h.row hr hb
      simp only [VH, VR] at hx
      obtain ⟨hrl, rfl⟩ := hx
      rcases hown.2 with ⟨_, hx0⟩ | ⟨g, cap, cur, e0, _⟩
      · omega
      · rw [e0]
        refine ⟨_, _, run_indexAt_slice hd hi' h0 h1, hK, ?_⟩
        simp only [VH, VR]
        exact ⟨hrl, g, by rw [e0]; rfl, by simp [add_at, offs, hs]⟩
    · exact he.elim
  · rename_i e c by_ r c'' lo hi_
    obtain ⟨hd, _, ⟨hn, ii, d, hi', hd', hs, _⟩, _⟩ := ht
    split at he
    · rename_i wr fr E c' x hb
      replace he := Br_tf he
      obtain ⟨hcc, he⟩ := he
      simp only [Bool.and_eq_true, decide_eq_true_eq] at hcc
      obtain ⟨rfl, rfl⟩ := hcc
      obtain ⟨k, j, rfl, h0, h1, h2, hK⟩ := inB_spec hi he
      simp only [VH, VR] at hx
      obtain ⟨hrl, a, cap, rfl, hc, ha⟩ := hx
      rcases ha with ha | ⟨b, hbb, rfl⟩
      · omega
      · refine ⟨_, _, run_indexAt_slice hd hi' h0 h1, hK, ?_⟩
        simp only [VH, VR]
        exact ⟨hrl, b, hbb, by simp [add_at, offs, hs, Nat.add_mul]⟩
    · rename_i wr fr E n c' x hb
      replace he := Br_tf he
      obtain ⟨hcc, he⟩ := he
      simp only [Bool.and_eq_true, decide_eq_true_eq] at hcc
      obtain ⟨rfl, rfl⟩ := hcc
      obtain ⟨k, j, rfl, h0, h1, h2, hK⟩ := inB_spec hi he
      simp only [VH, VR] at hx
      obtain ⟨hrl, a, cap, rfl, hc, ha⟩ := hx
      rcases ha with ha | ⟨b, hbb, rfl⟩
      · omega
      · refine ⟨_, _, run_indexAt_slice hd hi' h0 h1, hK, ?_⟩
        simp only [VH, VR]
        exact ⟨hrl, b, hbb, by simp [add_at, offs, hs, Nat.add_mul]⟩
    · exact he.elim
  · rename_i n e c fr c' x
    obtain ⟨ec, he⟩ := asC_spec he
    cases ec
    obtain ⟨k, j, rfl, h0, h1, h2, hK⟩ := inB_spec hi he
    obtain ⟨hd, _, ⟨hn, ii, d, hi', hd', hs, _⟩, _⟩ := ht
    obtain ⟨b, o, cells, rfl, hz, hlt, hm, hxl, hf⟩ := VR_ptr hx
    obtain ⟨cs, k1, k2⟩ := Flat_at (X := X) hn hm hf (by rw [hxl]; exact h2)
    refine ⟨_, _, run_indexAt_array hd hi' h0 h1, hK, ?_⟩
    rw [add_at, hs]
    exact VR_ptr_mk hz hlt k1 k2
  · rename_i n e c r c' p
    replace he := Br_tf he
    obtain ⟨hp, he⟩ := he
    have hp := optEq_spec hp
    obtain ⟨k, j, rfl, h0, h1, h2, hK⟩ := inB_spec hi he
    obtain ⟨hd, _, ⟨hn, ii, d, hi', hd', hs, _⟩, _⟩ := ht
    simp only [VH, VR] at hx
    obtain ⟨hrl, b, hbb, rfl⟩ := hx
    refine ⟨_, _, run_indexAt_array hd hi' h0 h1, hK, ?_⟩
    simp only [VH, VR]
    exact ⟨hrl, b, hbb, by rw [offs_snoc c' p _ _ hp]; simp [add_at, offs, hs]⟩
  · exact he.elim

theorem run_fieldAt {t : TypeId} {fs : Array Field} {f : Field} {j : Nat} {i : TypeInfo} (hd : P.underlying t = some (.struct fs)) (hf : fs[j]? = some f) (hi : P.info? f.type = some i) (hs : 0 < i.size) {a : Addr} :
    (Instr.fieldAt t (.pointer (some a)) j).run P w = .ok (.pointer (some (a.add f.offset))) w := by
  have : ¬ i.size = 0 := by omega
  simp [Instr.fieldAt, run_underlying hd, hf, Instr.sureAddr, fieldPlace, run_sizeOf hi, this]

theorem evFieldAddr_spec {x : AV} {u : Value} {ty : Ty} {t : TypeId} (ht : TyOK P t ty) {j : Nat} {K : AV → Prop} (hx : VH X ρ H w x u) (he : evFieldAddr x ty j K) :
    ∃ r a, (Instr.fieldAt t u j).run P w = .ok r w ∧ K a ∧ VH X ρ H w a r := by
  unfold evFieldAddr at he
  split at he
  · rename_i c fr c' x
    obtain ⟨ec, he⟩ := asC_spec he
    cases ec
    obtain ⟨_, ⟨hn, _⟩, fs, hd, hfs, _⟩ := ht
    obtain ⟨b, o, cells, rfl, hz, hlt, hm, hv⟩ := VR_ptr hx
    obtain ⟨d, y, hK, hp, hle, hy⟩ := fld_spec _ _ _ _ _ hn hv he
    obtain ⟨f, hf, ho, hsz, ⟨_, ii, dd, hi', hd', hs, _⟩⟩ := hfs j d hp
    refine ⟨_, _, run_fieldAt hd hf hi' (by rw [hs]; exact hsz), hK, ?_⟩
    rw [add_at, ho]
    exact VR_ptr_mk hz hlt (hm.sub _ _) hy
  · rename_i c r c' p
    replace he := Br_tf he
    obtain ⟨hp, he⟩ := he
    simp only [Bool.and_eq_true] at hp
    obtain ⟨hp, hj⟩ := hp
    have hp := optEq_spec hp
    obtain ⟨d, hj⟩ := Option.isSome_iff_exists.1 hj
    obtain ⟨_, ⟨hn, _⟩, fs, hd, hfs, _⟩ := ht
    obtain ⟨f, hf, ho, hsz, ⟨_, ii, dd, hi', hd', hs, _⟩⟩ := hfs j d hj
    simp only [VH, VR] at hx
    obtain ⟨hrl, b, hbb, rfl⟩ := hx
    refine ⟨_, _, run_fieldAt hd hf hi' (by rw [hs]; exact hsz), he, ?_⟩
    simp only [VH, VR]
    exact ⟨hrl, b, hbb, by rw [offs_snoc c' p _ _ hp]; simp [add_at, ho]⟩
  · exact he.elim

theorem run_part {t : TypeId} {c : Cd} (ht : TOK P t c) {cs : List Value} {o : Nat} (hle : o + csz c ≤ cs.length) :
    ∃ v, (part t cs.toArray o).run P w = .ok v w ∧ pk c ((cs.drop o).take (csz c)) v := by
  obtain ⟨hn, i, d, hi, hd, hs, hg, _⟩ := ht
  by_cases ha : agg c = true
  · exact ⟨.agg ((cs.drop o).take (csz c)).toArray, by simp [part, run_isAgg hd, hg, ha, run_sizeOf hi, hs], by simp [pk, ha]⟩
  · have ha : agg c = false := by simpa using ha
    have h1 := size_one_of hn ha
    have hlt : o < cs.length := by omega
    refine ⟨cs[o], by simp [part, run_isAgg hd, hg, ha, hlt], ?_⟩
    simp only [pk, ha, h1]
    rw [List.drop_eq_getElem_cons hlt, if_neg (by simp)]
    rfl

theorem forAll_run {α : Type} (f : α → Option Bool × PUnit → Sem (ForInStep (Option Bool × PUnit))) (r : α → Bool) : ∀ l : List α,
    (∀ a ∈ l, ∀ s, (f a s).run P w = .ok (if r a then .yield (none, ()) else .done (some false, ())) w) → (forIn l (none, ()) f).run P w = .ok (if l.all r then (none, ()) else (some false, ())) w
  | [], _ => by simp
  | a :: l, h => by
    have ih := forAll_run f r l fun b hb s => h b (List.mem_cons_of_mem _ hb) s
    have h1 := h a List.mem_cons_self (none, ())
    by_cases hr : r a = true
    · rw [if_pos hr] at h1
      simp only [List.forIn_cons, Sem.run_bind, h1, Result.andThen_ok, List.all_cons, hr, Bool.true_and]
      exact ih
    · rw [if_neg hr] at h1
      simp [List.forIn_cons, Sem.run_bind, h1, List.all_cons, hr]

theorem pk_agg {c : Cd} {cs : List Value} {u : Value} (h : pk c cs u) (ha : agg c = true) : u = .agg cs.toArray := by
  unfold pk at h; rw [if_pos ha] at h; exact h
theorem pk_one {c : Cd} {cs : List Value} {u : Value} (h : pk c cs u) (ha : agg c = false) : cs = [u] := by
  unfold pk at h; rw [if_neg (by simp [ha])] at h; exact h

theorem flat_at {Z : Nat → Prop} {c : Cd} {xs : List (El c)} {cs : List Value} {i : Nat} (hn : norow c = true) (hf : Flat (VT w Z c) xs cs) (hi : i < xs.length) :
    i * csz c + csz c ≤ cs.length ∧ VT w Z c (xs.getD i (dflt c)) ((cs.drop (i * csz c)).take (csz c)) := by
  have hk : ∀ (x : El c) cs, VT w Z c x cs → cs.length = csz c := fun x cs hx => hx.len hn
  obtain ⟨a, h1, h2⟩ := Flat.get hk i (xs.getD i (dflt c)) hf (getD_some hi _)
  have hl := hf.length hk
  refine ⟨?_, by rw [h2]; exact h1⟩
  rw [hl]
  have : i * csz c + csz c = (i + 1) * csz c := by rw [Nat.succ_mul]
  rw [this]
  exact Nat.mul_le_mul_right _ hi

mutual
theorem eqS_run : ∀ (c : Cd) (t : TypeId) (D : Nat), EqS P c t → rk c ≤ D → ∀ {Z Z' : Nat → Prop} {x y : El c} {cs ds : List Value} {u v : Value}, VT w Z c x cs → VT w Z' c y ds → pk c cs u → pk c ds v →
    (Op.equalIn D t u v).run P w = .ok (eqv c x y) w
  | .bool, t, D, he, hD, Z, Z', x, y, cs, ds, u, v, hx, hy, hu, hv => by
    obtain ⟨D, rfl⟩ : ∃ d, D = d + 1 := ⟨D - 1, by simp only [rk] at hD; omega⟩
    simp only [EqS] at he
    have h1 := pk_one hu rfl; have h2 := pk_one hv rfl
    simp only [VT] at hx hy
    rw [h1] at hx; rw [h2] at hy
    simp only [List.cons.injEq, and_true] at hx hy
    subst hx hy
    unfold Op.equalIn
    simp [run_underlying he, eqv]
  | .int k, t, D, he, hD, Z, Z', x, y, cs, ds, u, v, hx, hy, hu, hv => by
    obtain ⟨D, rfl⟩ : ∃ d, D = d + 1 := ⟨D - 1, by simp only [rk] at hD; omega⟩
    simp only [EqS] at he
    have h1 := pk_one hu rfl; have h2 := pk_one hv rfl
    simp only [VT] at hx hy
    rw [h1] at hx; rw [h2] at hy
    simp only [List.cons.injEq, and_true] at hx hy
    subst hx hy
    unfold Op.equalIn
    simp only [run_underlying he, Sem.run_bind, Result.andThen_ok, if_true, Sem.run_pure, eqv]
    rfl
  | .arr n c, t, D, he, hD, Z, Z', x, y, cs, ds, u, v, hx, hy, hu, hv => by
    obtain ⟨D, rfl⟩ : ∃ d, D = d + 1 := ⟨D - 1, by simp only [rk] at hD; omega⟩
    simp only [rk] at hD
    simp only [EqS] at he
    obtain ⟨e, hd, htok, hes⟩ := he
    have h1 := pk_agg hu rfl; have h2 := pk_agg hv rfl
    subst h1 h2
    simp only [VT] at hx hy
    obtain ⟨hlx, hfx⟩ := hx
    obtain ⟨hly, hfy⟩ := hy
    have htok' := htok
    obtain ⟨hn, i, dd, hi, _, hs, _⟩ := htok'
    unfold Op.equalIn
    have key := forAll_run (P := P) (w := w) (fun i (__s : Option Bool × PUnit) => do
              let __do_lift ← part e cs.toArray (i * csz c)
              let __do_lift_1 ← part e ds.toArray (i * csz c)
              let __do_lift ← Op.equalIn D e __do_lift __do_lift_1
              if __do_lift = false then pure (ForInStep.done (some false, ())) else pure (ForInStep.yield (none, ()))) (fun i => eqv c (List.getD x i (dflt c)) (List.getD y i (dflt c))) (List.range' 0 n) (by
      intro i hi s
      have hin : i < n := by
        obtain ⟨k, hk, rfl⟩ := List.mem_range'.1 hi
        omega
      obtain ⟨g1, g2⟩ := flat_at hn hfx (i := i) (by omega)
      obtain ⟨g3, g4⟩ := flat_at hn hfy (i := i) (by omega)
      obtain ⟨v1, r1, p1⟩ := run_part (P := P) (w := w) htok g1
      obtain ⟨v2, r2, p2⟩ := run_part (P := P) (w := w) htok g3
      have r3 := eqS_run c e D hes (by omega) g2 g4 p1 p2
      simp only [Sem.run_bind, r1, r2, r3, Result.andThen_ok]
      cases eqv c (List.getD x i (dflt c)) (List.getD y i (dflt c)) <;> simp)
    simp [run_underlying hd, run_sizeOf hi, hs]
    simp only [key, Result.andThen_ok, eqv]
    generalize (List.range' 0 n).all (fun i => eqv c (List.getD x i (dflt c)) (List.getD y i (dflt c))) = b
    cases b <;> simp
  | .cons c d, t, D, he, hD, Z, Z', x, y, cs, ds, u, v, hx, hy, hu, hv => by
    obtain ⟨D, rfl⟩ : ∃ d, D = d + 1 := ⟨D - 1, by simp only [rk] at hD; omega⟩
    simp only [rk] at hD
    simp only [EqS] at he
    obtain ⟨fs, f, r, hd, hst, hfs, hnm, ho, htok, hes, hef⟩ := he
    have h1 := pk_agg hu rfl; have h2 := pk_agg hv rfl
    subst h1 h2
    have key := eqF_run (.cons c d) (f :: r) 0 D (by simp only [EqF]; exact ⟨hnm, ho, htok, hes, by rw [Nat.zero_add]; exact hef⟩) (by simp only [rk]; omega) (Nat.zero_le _) (Nat.zero_le _) (cs := cs) (ds := ds) (x := x) (y := y) (by simpa using hx) (by simpa using hy)
    unfold Op.equalIn
    simp [run_underlying hd, hst]
    rw [← Array.forIn_toList, hfs]
    simp only [key, Result.andThen_ok]
    generalize eqv (.cons c d) x y = b
    cases b <;> simp
  | .str, _, _, he, _, _, _, _, _, _, _, _, _, _, _, _, _ => by simp only [EqS] at he
  | .np, _, _, he, _, _, _, _, _, _, _, _, _, _, _, _, _ => by simp only [EqS] at he
  | .sl _, _, _, he, _, _, _, _, _, _, _, _, _, _, _, _, _ => by simp only [EqS] at he
  | .ptr _, _, _, he, _, _, _, _, _, _, _, _, _, _, _, _, _ => by simp only [EqS] at he
  | .row _, _, _, he, _, _, _, _, _, _, _, _, _, _, _, _, _ => by simp only [EqS] at he
  | .nil, _, _, he, _, _, _, _, _, _, _, _, _, _, _, _, _ => by simp only [EqS] at he
theorem eqF_run : ∀ (c : Cd) (fs : List Field) (o D : Nat), EqF P c fs o → rk c ≤ D + 1 → ∀ {Z Z' : Nat → Prop} {x y : El c} {cs ds : List Value}, o ≤ cs.length → o ≤ ds.length → VT w Z c x (cs.drop o) → VT w Z' c y (ds.drop o) →
    (forIn fs (none, ()) fun f (__s : Option Bool × PUnit) => if f.name = "_" then pure (ForInStep.yield (none, ())) else do
                let __do_lift ← part f.type cs.toArray f.offset
                let __do_lift_1 ← part f.type ds.toArray f.offset
                let __do_lift ← Op.equalIn D f.type __do_lift __do_lift_1
                if __do_lift = false then pure (ForInStep.done (some false, ())) else pure (ForInStep.yield (none, ())) : Sem (Option Bool × PUnit)).run P w = .ok (if eqv c x y then (none, ()) else (some false, ())) w
  | .nil, [], _, _, _, _, _, _, _, _, _, _, _, _, _, _ => by simp [eqv]
  | .nil, _ :: _, _, _, he, _, _, _, _, _, _, _, _, _, _, _ => by simp only [EqF] at he
  | .cons c d, [], _, _, he, _, _, _, _, _, _, _, _, _, _, _ => by simp only [EqF] at he
  | .cons c d, f :: fs, o, D, he, hD, Z, Z', x, y, cs, ds, oc, od, hx, hy => by
    simp only [rk] at hD
    simp only [EqF] at he
    obtain ⟨hnm, ho, htok, hes, hef⟩ := he
    simp only [VT] at hx hy
    obtain ⟨a, b, e1, hx1, hx2⟩ := hx
    obtain ⟨a', b', e2, hy1, hy2⟩ := hy
    have hn := htok.1
    have l1 := hx1.len hn
    have l2 := hy1.len hn
    have t1 : (cs.drop o).take (csz c) = a := by rw [e1, ← l1]; simp
    have t2 : (ds.drop o).take (csz c) = a' := by rw [e2, ← l2]; simp
    have b1 : o + csz c ≤ cs.length := by
      have := congrArg List.length e1
      simp at this; omega
    have b2 : o + csz c ≤ ds.length := by
      have := congrArg List.length e2
      simp at this; omega
    obtain ⟨v1, r1, p1⟩ := run_part (P := P) (w := w) htok b1
    obtain ⟨v2, r2, p2⟩ := run_part (P := P) (w := w) htok b2
    rw [t1] at p1; rw [t2] at p2
    have r3 := eqS_run c f.type D hes (by omega) hx1 hy1 p1 p2
    have d1 : cs.drop (o + csz c) = b := by rw [← List.drop_drop, e1, ← l1]; simp
    have d2 : ds.drop (o + csz c) = b' := by rw [← List.drop_drop, e2, ← l2]; simp
    have ih := eqF_run d fs (o + csz c) D hef (by omega) (cs := cs) (ds := ds) b1 b2 (by rw [d1]; exact hx2) (by rw [d2]; exact hy2)
    rw [show eqv (.cons c d) x y = (eqv c x.1 y.1 && eqv d x.2 y.2) from rfl]
    simp only [List.forIn_cons, if_neg hnm, Sem.run_bind, ho, r1, r2, r3, Result.andThen_ok]
    by_cases hq : eqv c x.1 y.1 = true
    · rw [hq]
      simp only [Bool.true_eq_false, if_false, Sem.run_pure, Result.andThen_ok, Bool.true_and]
      exact ih
    · have hq : eqv c x.1 y.1 = false := by simpa using hq
      rw [hq]
      simp
  | .bool, _, _, _, he, _, _, _, _, _, _, _, _, _, _, _ => by simp only [EqF] at he
  | .int _, _, _, _, he, _, _, _, _, _, _, _, _, _, _, _ => by simp only [EqF] at he
  | .str, _, _, _, he, _, _, _, _, _, _, _, _, _, _, _ => by simp only [EqF] at he
  | .np, _, _, _, he, _, _, _, _, _, _, _, _, _, _, _ => by simp only [EqF] at he
  | .sl _, _, _, _, he, _, _, _, _, _, _, _, _, _, _, _ => by simp only [EqF] at he
  | .ptr _, _, _, _, he, _, _, _, _, _, _, _, _, _, _, _ => by simp only [EqF] at he
  | .row _, _, _, _, he, _, _, _, _, _, _, _, _, _, _, _ => by simp only [EqF] at he
  | .arr _ _, _, _, _, he, _, _, _, _, _, _, _, _, _, _, _ => by simp only [EqF] at he
end
theorem evEq_spec {op : BinOp} {c : Cd} {t : TypeId} (ht : EqOK P t c) {x y : AV} {u v : Value} {K : AV → Prop} (hx : VH X ρ H w x u) (hy : VH X ρ H w y v) (ox oy : Operand) (h : evEq c op x y K) :
    ∃ r a, (do eqGuard op t ox oy u v; binOp op t u v : Sem Value).run P w = .ok r w ∧ K a ∧ VH X ρ H w a r := by
  obtain ⟨ha, hs, hg, hk⟩ := ht
  unfold evEq at h
  split at h
  · rename_i fr c1 a fr' c2 b
    obtain ⟨e, h⟩ := asC_spec h
    subst e
    obtain ⟨e, h⟩ := asC_spec h
    subst e
    obtain ⟨cs, k1, k2⟩ := VR.len_t hx
    obtain ⟨ds, k3, k4⟩ := VR.len_t hy
    have hr := eqS_run (P := P) (w := w) _ t Op.maxDepth hs (by have : Op.maxDepth = 10000 := rfl; omega) k1 k3 k2 k4
    have h1 := pk_agg k2 ha; have h2 := pk_agg k4 ha
    subst h1 h2
    simp only at h
    split at h
    · exact ⟨_, _, by simp [eqGuard, binOp, Op.equal, hg, hr], h, VR_bB _⟩
    · exact ⟨_, _, by simp [eqGuard, binOp, Op.equal, hg, hr], h, VR_bB _⟩
    · exact h.elim
  · exact h.elim

theorem evField_spec {x : AV} {u : Value} {ty : Ty} {t : TypeId} (ht : TyOK P t ty) {j : Nat} {K : AV → Prop} (hx : VH X ρ H w x u) (he : evField x ty j K) :
    ∃ r a, (Instr.field t u j).run P w = .ok r w ∧ K a ∧ VH X ρ H w a r := by
  unfold evField at he
  split at he
  · rename_i c fr c' x
    obtain ⟨ec, he⟩ := asC_spec he
    cases ec
    obtain ⟨hag, ⟨hn, _⟩, fs, hd, hfs, _⟩ := ht
    simp only [VH, VR] at hx
    obtain ⟨cs, hv, hpk⟩ := hx
    simp only [pk, hag, if_true] at hpk
    subst hpk
    obtain ⟨d, y, hK, hp, hle, hy⟩ := fld_spec _ _ _ _ _ hn hv he
    obtain ⟨f, hf, ho, hsz, htf⟩ := hfs j d hp
    obtain ⟨v, hr, hpk⟩ := run_part (P := P) (w := w) htf hle
    refine ⟨v, _, ?_, hK, ?_⟩
    · simp [Instr.field, run_underlying hd, hf, asAgg, ho, hr]
    · simp only [VH, VR]; exact ⟨_, hy, hpk⟩
  · exact he.elim

theorem evIndex_spec {x i : AV} {u v : Value} {ty : Ty} {t : TypeId} (ht : TyOK P t ty) {K : AV → Prop} (hx : VH X ρ H w x u) (hi : VH X ρ H w i v) (he : evIndex x i ty K) :
    ∃ r a, (Instr.index t u v).run P w = .ok r w ∧ K a ∧ VH X ρ H w a r := by
  unfold evIndex at he
  split at he
  · rename_i fr s
    obtain ⟨k, j, rfl, h0, h1, h2, hK⟩ := inB_spec hi he
    simp only [VH, VR, VT] at hx
    obtain ⟨cs, rfl, hpk⟩ := hx
    have hu : u = .string s := by simpa [pk, agg] using hpk.symm
    subst hu
    have hd : P.underlying t = some .string := ht.2
    refine ⟨.int .u8 (byteAt s j.toNat), _, ?_, hK, VR_bI _ _⟩
    have hg : s[j.toNat]? = some (s[j.toNat]'h2) := by simp [h2]
    have hb : byteAt s j.toNat = ((s[j.toNat]'h2).toNat : Int) := by
      have h3 : j.toNat < s.data.size := h2
      simp only [byteAt]
      rw [Array.getD_eq_getD_getElem?, Array.getElem?_eq_getElem h3]
      rfl
    simp [Instr.index, asIntOf, run_underlying hd, h0, hg, hb]
  · rename_i n e c fr c' x
    obtain ⟨ec, he⟩ := asC_spec he
    cases ec
    obtain ⟨k, j, rfl, h0, h1, h2, hK⟩ := inB_spec hi he
    obtain ⟨hd, _, hte, _⟩ := ht
    have hte' := hte
    obtain ⟨hn, ii, d, hi', hd', hs, _⟩ := hte
    simp only [VH, VR] at hx
    obtain ⟨cs, ⟨hxl, hf⟩, hpk⟩ := hx
    simp only [pk, agg, if_true] at hpk
    subst hpk
    have hlen : ∀ (x : El c) cs, VT w (Zn X.B ρ H fr) c x cs → cs.length = csz c := fun x cs hx => hx.len hn
    obtain ⟨a, ha, hea⟩ := Flat.get (k := csz c) hlen j.toNat _ hf (getD_some (by rw [hxl]; exact h2) (dflt c))
    have hfl := Flat.length hlen hf
    have hmul : j.toNat * csz c + csz c ≤ x.length * csz c := by rw [← Nat.succ_mul]; exact Nat.mul_le_mul_right _ (by omega)
    obtain ⟨v, hr, hpk⟩ := run_part (P := P) (w := w) hte' (cs := cs) (o := j.toNat * csz c) (by omega)
    refine ⟨v, _, ?_, hK, ?_⟩
    · simp [Instr.index, asIntOf, run_underlying hd, h0, h1, run_sizeOf hi', hs, hr]
    · simp only [VH, VR]; exact ⟨_, ha, by rw [← hea]; exact hpk⟩
  · exact he.elim

theorem Ty.code_tok {t : TypeId} {ty : Ty} {c : Cd} (ht : TyOK P t ty) (hc : ty.code = some c) (hp : ∀ e d, ty ≠ .pt e d) : TOK P t c := by
  cases ty with
  | no => simp [Ty.code] at hc
  | sc d => simp [Ty.code] at hc; subst hc; exact ht.1
  | sl e d b => simp [Ty.code] at hc; subst hc; exact ht.2.1
  | arr n e d => simp [Ty.code] at hc; subst hc; exact ht.2.1
  | st d => simp [Ty.code] at hc; subst hc; exact ht.2.1
  | pt e d => exact absurd rfl (hp e d)
  | fn => simp [Ty.code] at hc

theorem VR_weak {fr : Bool} {c : Cd} {x : El c} {cs : List Value} (h : VT w (Zn X.B ρ H fr) c x cs) : VT w (Zn X.B ρ H (fr || flat c)) c x cs := by
  cases hf : flat c with
  | true => exact VT.flat hf h
  | false => simpa using h

/-- A load of code c from cells. -/
theorem load_at {t : TypeId} {ty : Ty} {c : Cd} (ht : TyOK P t ty) (hc : ty.code = some c) {b o : Nat} {cs : List Value} (hm : Mem w b o cs) (hl : cs.length = csz c) (h1 : ∀ u ∈ cs, u.oneCell' = true) :
    ∃ v, (Instr.loadAt t (.pointer (some ⟨b, o, none⟩))).run P w = .ok v w ∧ pk c cs v := by
  by_cases hp : ∃ e d, ty = .pt e d
  · obtain ⟨e, d, rfl⟩ := hp
    simp [Ty.code] at hc; subst hc
    obtain ⟨hd, _, i, hi, hs⟩ := ht
    simp [csz] at hl
    obtain ⟨v, rfl⟩ := List.length_eq_one_iff.1 hl
    have := hm 0 v (by simp)
    rw [Nat.add_zero] at this
    refine ⟨v, ?_, by simp [pk, agg]⟩
    simp [Instr.loadAt, Instr.sureAddr, loadVar, run_isAgg hd, isAggD, this]
  · obtain ⟨v, hr, hpk⟩ := run_loadVar (P := P) (Ty.code_tok ht hc fun e d hh => hp ⟨e, d, hh⟩) hm hl
    exact ⟨v, by simp [Instr.loadAt, Instr.sureAddr, hr], hpk⟩

theorem evLoad_spec (h : RH X ρ H w) {x : AV} {u : Value} {ty : Ty} {t : TypeId} (ht : TyOK P t ty) {K : AV → Prop} (hx : VH X ρ H w x u) (he : evLoad H x ty K) :
    ∃ r a, (Instr.loadAt t u).run P w = .ok r w ∧ K a ∧ VH X ρ H w a r := by
  unfold evLoad at he
  split at he
  · rename_i r c p
    simp only [VH, VR] at hx
    obtain ⟨hrl, b, hbb, rfl⟩ := hx
    split at he
    · rename_i wr fr E c' x hb
      obtain ⟨ec, he⟩ := asC_spec he
      cases ec
      -- the block's cells, and the part that is loaded
      have key : ∃ d y cs, (match ty.code with | some d' => asC d y d' fun z => K (.t (fr || flat d') d' z) | none => False) ∧ norow d = true ∧ Mem w b (offs c p) cs ∧ cs.length = csz d ∧ VT w (Zn X.B ρ H fr) d y cs := by
        by_cases hc : ∃ d, c = .row d
        · obtain ⟨d, rfl⟩ := hc
          obtain ⟨hn, _, cells, hown, hf⟩ := h.row hrl hb
          obtain ⟨hm, _⟩ := own_mem hown hbb
          by_cases hp0 : p = []
          · subst hp0
            simp only [getP] at he
            cases hcd : ty.code with
            | none => rw [hcd] at he; exact he.elim
            | some d' =>
              rw [hcd] at he
              obtain ⟨e2, _⟩ := asC_spec he
              subst e2
              cases ty <;> simp [Ty.code] at hcd
              · subst hcd; exact absurd ht.1.1 (by simp [norow])
              · subst hcd; exact absurd ht.2.1.1 (by simp [norow])
          · obtain ⟨d', y, hK, hnd, hp, hle, hy⟩ := getP_row hn hf hp0 he
            have := hm.sub (offs (.row d) p) (csz d')
            rw [Nat.zero_add] at this
            exact ⟨d', y, _, hK, hnd, this, by simp; omega, hy⟩
        · obtain ⟨hn, b', cells, hρ, hg, hv⟩ := h.val hrl hb (fun d hd => hc ⟨d, hd⟩)
          rw [hρ] at hbb; simp [blkOf] at hbb; subst hbb
          obtain ⟨d', y, hK, hp, hle, hy⟩ := getP_spec _ _ _ _ _ hn hv he
          have := (Mem.of_block hg).sub (offs c p) (csz d')
          rw [Nat.zero_add] at this
          exact ⟨d', y, _, hK, pcode_norow _ _ _ hn hp, this, by simp; omega, hy⟩
      obtain ⟨d, y, cs, hK, hnd, hm, hl, hy⟩ := key
      cases hcd : ty.code with
      | none => rw [hcd] at hK; exact hK.elim
      | some d' =>
        rw [hcd] at hK
        obtain ⟨e2, hK⟩ := asC_spec hK
        subst e2
        obtain ⟨v, hr, hpk⟩ := load_at (P := P) ht hcd hm hl hy.one
        refine ⟨v, _, hr, hK, ?_⟩
        simp only [VH, VR]
        exact ⟨cs, VR_weak hy, hpk⟩
    · rename_i a hb
      split at he
      · replace he := Br_tf he
        obtain ⟨hty, hK⟩ := he
        have hr := h.lt hb rfl
        have hbk := h.blk r hr
        rw [hb] at hbk
        obtain ⟨b', E, v, hρ, hg, h1, hva⟩ := hbk
        rw [hρ] at hbb; simp [blkOf] at hbb; subst hbb
        refine ⟨v, a, ?_, hK, hva⟩
        have hm : w.cell? ⟨b', 0, none⟩ = some v := by simp [World.cell?, hg]
        have hag : ∃ d, P.underlying t = some d ∧ isAggD d = false := by
          cases ty with
          | no => simp at hty
          | sc c =>
            obtain ⟨_, i, d, _, hd, _, hg, _⟩ := ht.1
            refine ⟨d, hd, ?_⟩
            have h2 := ht.2
            cases c <;> simp_all [agg]
          | sl e c b => exact ⟨_, ht.1, rfl⟩
          | arr n e c => simp at hty
          | st c => simp at hty
          | pt e c => exact ⟨_, ht.1, rfl⟩
          | fn => obtain ⟨d, i, hd, hg, _⟩ := ht; exact ⟨d, hd, hg⟩
        obtain ⟨d, hd, hag⟩ := hag
        simp [Instr.loadAt, Instr.sureAddr, loadVar, run_isAgg hd, hag, offs, hm]
      · exact he.elim
    · exact he.elim
  · rename_i fr c x
    obtain ⟨b, o, cells, rfl, hz, hlt, hm, hv⟩ := VR_ptr hx
    cases hcd : ty.code with
    | none => rw [hcd] at he; exact he.elim
    | some d' =>
      rw [hcd] at he
      obtain ⟨e2, hK⟩ := asC_spec he
      subst e2
      have hn : norow c = true := by
        cases ty <;> simp [Ty.code] at hcd <;> subst hcd
        · exact ht.1.1
        · exact ht.2.1.1
        · exact ht.2.1.1
        · exact ht.2.1.1
        · simpa [norow] using ht.2.1
      obtain ⟨v, hr, hpk⟩ := load_at (P := P) ht hcd hm (hv.len hn) hv.one
      refine ⟨v, _, hr, hK, ?_⟩
      simp only [VH, VR]
      exact ⟨cells, VR_weak hv, hpk⟩
  · exact he.elim

end
end Go.Eng
