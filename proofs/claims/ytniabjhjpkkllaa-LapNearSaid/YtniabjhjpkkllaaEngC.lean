/- The abstract evaluator: laws of own memory, of paths, of operands. -/
import Derived.Test.YtniabjhjpkkllaaEngB
namespace Go.Eng
open Go Go.RowKit

/-! ### Lists of blocks and of slots -/

theorem hlen_eq : ∀ H : List Blk, hlen H = H.length
  | [] => rfl
  | _ :: H => by simp [hlen, hlen_eq H]

theorem lk_up : ∀ (l : List AV) (d i : Nat) (x : AV), lk (up l d x) i = if i = d ∧ d < l.length then x else lk l i
  | [], d, i, x => by simp [up, lk]
  | v :: l, 0, 0, x => by simp [up, lk]
  | v :: l, 0, i + 1, x => by simp [up, lk]
  | v :: l, d + 1, 0, x => by simp [up, lk]
  | v :: l, d + 1, i + 1, x => by simp [up, lk, lk_up l d i x]
theorem length_up : ∀ (l : List AV) (d : Nat) (x : AV), (up l d x).length = l.length
  | [], _, _ => rfl
  | _ :: _, 0, _ => rfl
  | _ :: l, d + 1, x => by simp [up, length_up l d x]
theorem lk_ge : ∀ (l : List AV) (i : Nat), l.length ≤ i → lk l i = .any
  | [], _, _ => rfl
  | _ :: _, 0, h => by simp at h
  | _ :: l, i + 1, h => by simp [lk, lk_ge l i (by simpa using h)]

theorem hlen_hup : ∀ (H : List Blk) (r : Nat) (x : Blk), hlen (hup H r x) = hlen H
  | [], _, _ => rfl
  | _ :: _, 0, _ => rfl
  | _ :: H, r + 1, x => by simp [hup, hlen, hlen_hup H r x]
theorem hk_hup : ∀ (H : List Blk) (r i : Nat) (x : Blk), hk (hup H r x) i = if i = r ∧ r < hlen H then x else hk H i
  | [], r, i, x => by simp [hup, hk, hlen]
  | v :: H, 0, 0, x => by simp [hup, hk, hlen]
  | v :: H, 0, i + 1, x => by simp [hup, hk]
  | v :: H, r + 1, 0, x => by simp [hup, hk]
  | v :: H, r + 1, i + 1, x => by simp [hup, hk, hlen, hk_hup H r i x]
theorem hlen_happ : ∀ (H K : List Blk), hlen (happ H K) = hlen H + hlen K
  | [], K => by simp [happ, hlen]
  | _ :: H, K => by simp [happ, hlen, hlen_happ H K]; omega
theorem hk_happ : ∀ (H K : List Blk) (i : Nat), hk (happ H K) i = if i < hlen H then hk H i else hk K (i - hlen H)
  | [], K, i => by simp [happ, hlen]
  | v :: H, K, 0 => by simp [happ, hk, hlen]
  | v :: H, K, i + 1 => by
    simp only [happ, hk, hlen, hk_happ H K i, Nat.add_lt_add_iff_right]
    congr 2
    omega
theorem hk_ge : ∀ (H : List Blk) (i : Nat), hlen H ≤ i → hk H i = .dead
  | [], _, _ => rfl
  | _ :: _, 0, h => by simp [hlen] at h
  | _ :: H, i + 1, h => by simp [hk, hk_ge H i (by simpa [hlen] using h)]
theorem hk_lt {H : List Blk} {r : Nat} (h : dead (hk H r) = false) : r < hlen H := by
  rcases Nat.lt_or_ge r (hlen H) with h' | h'
  · exact h'
  · rw [hk_ge H r h'] at h; simp [dead] at h

theorem app_eq : ∀ a b : List AV, app a b = a ++ b
  | [], _ => rfl
  | x :: a, b => by simp [app, app_eq a b]
theorem anys_eq : ∀ n, anys n = List.replicate n .any
  | 0 => rfl
  | n + 1 => by simp [anys, anys_eq n, List.replicate_succ]
theorem lk_anys (n i : Nat) : lk (anys n) i = .any := by
  induction n generalizing i with
  | zero => rfl
  | succ n ih => cases i <;> simp [anys, lk, ih]

theorem Br_true {b : Bool} {A B : Prop} (h : Br b A B) (hB : ¬ B) : b = true ∧ A := by
  cases b
  · exact absurd h hB
  · exact ⟨rfl, h⟩
theorem Br_tf {b : Bool} {A : Prop} (h : Br b A False) : b = true ∧ A := Br_true h id
theorem Br_ft {b : Bool} {B : Prop} (h : Br b False B) : b = false ∧ B := by
  cases b
  · exact ⟨rfl, h⟩
  · exact h.elim
theorem Br_cases {b : Bool} {A B : Prop} (h : Br b A B) : (b = true ∧ A) ∨ (b = false ∧ B) := by
  cases b
  · exact .inr ⟨rfl, h⟩
  · exact .inl ⟨rfl, h⟩

theorem asC_spec {c d : Cd} {x : El c} {K : El d → Prop} (h : asC c x d K) : ∃ e : c = d, K (e ▸ x) := by
  unfold asC at h
  split at h
  · exact ⟨_, h⟩
  · exact h.elim

/-! ### Own memory -/

section
variable {X : Ctx} {ρ : Nat → Value} {H : List Blk} {w : World}

theorem live_dead {b : Blk} (h : live b = true) : dead b = false := by cases b <;> simp_all [live, dead]

theorem BR.blk_lt {n : Nat} {B : Bz} {H' : List Blk} {b : Blk} {v : Value} {k : Nat} (h : BR n B ρ H' w b v) (hd : dead b = false) (hk : blkOf v = some k) : k < w.heap.size := by
  cases b with
  | dead => simp [dead] at hd
  | val wr fr E c x =>
    by_cases hc : ∃ d, c = .row d
    · obtain ⟨d, rfl⟩ := hc
      obtain ⟨_, _, cells, hown, _⟩ := h
      rcases hown.2 with ⟨rfl, _⟩ | ⟨g, cap, cur, rfl, _, hg, _⟩
      · simp [blkOf] at hk
      · simp [blkOf] at hk; subst hk; exact (Array.getElem?_eq_some_iff.1 hg).1
    · have h' : norow c = true ∧ ∃ b cells, v = .pointer (some ⟨b, 0, none⟩) ∧ w.heap[b]? = some (.cells (List.toArray cells) E (0, 0)) ∧ VT w (Zn B ρ H' fr) c x cells := by
        cases c <;> first | exact h | exact absurd ⟨_, rfl⟩ hc
      obtain ⟨_, b, cells, rfl, hg, _⟩ := h'
      simp [blkOf] at hk; subst hk; exact (Array.getElem?_eq_some_iff.1 hg).1
  | av a =>
    obtain ⟨b, E, u, rfl, hg, _⟩ := h
    simp [blkOf] at hk; subst hk; exact (Array.getElem?_eq_some_iff.1 hg).1

theorem RH.blk_lt (h : RH X ρ H w) {r b : Nat} (hr : r < hlen H) (hd : dead (hk H r) = false) (hb : blkOf (ρ r) = some b) : b < w.heap.size := (h.blk r hr).blk_lt hd hb

theorem ownsRow_of_block {w' : World} {base E size n : Nat} {v : Value} {xs : List Value} (h : w.ownsRow base E size v n xs) (hb : ∀ b, blkOf v = some b → w'.heap[b]? = w.heap[b]?) : w'.ownsRow base E size v n xs := by
  refine ⟨h.1, h.2.imp id fun ⟨g, cap, cur, hv, hg, hh, r⟩ => ⟨g, cap, cur, hv, hg, ?_, r⟩⟩
  subst hv
  rw [hb g rfl]; exact hh

/-- A block whose cells stay says the same. -/
theorem BR.ext {B : Bz} {ρ' : Nat → Value} {H' : List Blk} {w' : World} (e : Ext B ρ H w ρ' H' w') {b : Blk} {v : Value} (h : BR (hlen H) B ρ H w b v)
    (hb : ∀ k, dead b = false → blkOf v = some k → w'.heap[k]? = w.heap[k]?) : BR (hlen H') B ρ' H' w' b v := by
  cases b with
  | dead => trivial
  | val wr fr E c x =>
    by_cases hc : ∃ d, c = .row d
    · obtain ⟨d, rfl⟩ := hc
      obtain ⟨h1, h2, cells, hown, hf⟩ := h
      exact ⟨h1, h2, cells, ownsRow_of_block hown (fun b => hb b rfl), hf.mono fun _ _ hx => VT.ext e hx⟩
    · have h' : norow c = true ∧ ∃ b cells, v = .pointer (some ⟨b, 0, none⟩) ∧ w.heap[b]? = some (.cells (List.toArray cells) E (0, 0)) ∧ VT w (Zn B ρ H fr) c x cells := by
        cases c <;> first | exact h | exact absurd ⟨_, rfl⟩ hc
      obtain ⟨h1, b, cells, rfl, hg, hv⟩ := h'
      have : norow c = true ∧ ∃ b' cells, Value.pointer (some ⟨b, 0, none⟩) = .pointer (some ⟨b', 0, none⟩) ∧ w'.heap[b']? = some (.cells (List.toArray cells) E (0, 0)) ∧ VT w' (Zn B ρ' H' fr) c x cells :=
        ⟨h1, b, cells, rfl, by rw [hb b rfl rfl]; exact hg, VT.ext e hv⟩
      cases c <;> first | exact this | exact absurd ⟨_, rfl⟩ hc
  | av a =>
    obtain ⟨b, E, u, rfl, hg, h1, hv⟩ := h
    exact ⟨b, E, u, rfl, by rw [hb b rfl rfl]; exact hg, h1, VR.ext e hv⟩

/-- The general step: blocks below keep what they say; what is new says what it should. -/
theorem RH.step (h : RH X ρ H w) {ρ' : Nat → Value} {H' : List Blk} {w' : World} (e : Ext X.B ρ H w ρ' H' w')
    (hos : w'.os = w.os) (htape : w'.tape = w.tape) (hout : w'.output = w.output)
    (hb : ∀ r, r < hlen H' → BR (hlen H') X.B ρ' H' w' (hk H' r) (ρ' r))
    (hinj : ∀ r r' b, r < hlen H' → r' < hlen H' → dead (hk H' r) = false → dead (hk H' r') = false → blkOf (ρ' r) = some b → blkOf (ρ' r') = some b → r = r')
    (hnew : ∀ r b, r < hlen H' → dead (hk H' r) = false → blkOf (ρ' r) = some b → X.B.N b)
    (hown : ∀ b, b < w.heap.size → Own ρ' H' b → Own ρ H b) : RH X ρ' H' w' where
  blk := hb
  inj := hinj
  new := hnew
  os := hos.trans h.os
  tape := htape.trans h.tape
  output := hout.trans h.output
  size := Nat.le_trans h.size e.hs
  keep b hb' ho := by
    have hlt : b < w.heap.size := Nat.lt_of_lt_of_le hb' h.size
    have hno : ¬ Own ρ H b := fun hh => ho (h.own b hb' hh)
    rw [(e.hz b hlt hno).2, h.keep b hb' ho]
  own b hb' ho := h.own b hb' (hown b (Nat.lt_of_lt_of_le hb' h.size) ho)
  bsz := h.bsz

/-- The reference that is laid next. -/
def upd (ρ : Nat → Value) (n : Nat) (v : Value) : Nat → Value := fun r => if r = n then v else ρ r
theorem upd_new (ρ : Nat → Value) (n : Nat) (v : Value) : upd ρ n v n = v := by simp [upd]
theorem upd_old (ρ : Nat → Value) {n r : Nat} (v : Value) (h : r < n) : upd ρ n v r = ρ r := by simp [upd, Nat.ne_of_lt h]

theorem dead_hup_dead {H : List Blk} {r k : Nat} (h : dead (hk (hup H r .dead) k) = false) : k ≠ r ∧ dead (hk H k) = false := by
  rw [hk_hup] at h
  split at h
  · simp [dead] at h
  · rename_i hn
    refine ⟨fun e => ?_, h⟩
    subst e
    exact hn ⟨rfl, hk_lt h⟩

/-- A new block. 'dr': one block that is given up at the same time. -/
theorem RH.push (h : RH X ρ H w) {w' : World} {b : Blk} {v : Value}
    (hos : w'.os = w.os) (htape : w'.tape = w.tape) (hout : w'.output = w.output) (hs : w.heap.size ≤ w'.heap.size)
    (hkeep : ∀ k, k < w.heap.size → w'.heap[k]? = w.heap[k]?)
    (hv : ∀ k, blkOf v = some k → w.heap.size ≤ k)
    (hbr : Ext X.B ρ H w (upd ρ (hlen H) v) (happ H [b]) w' → BR (hlen (happ H [b])) X.B (upd ρ (hlen H) v) (happ H [b]) w' b v) :
    Ext X.B ρ H w (upd ρ (hlen H) v) (happ H [b]) w' ∧ RH X (upd ρ (hlen H) v) (happ H [b]) w' := by
  have hl : hlen (happ H [b]) = hlen H + 1 := by simp [hlen_happ, hlen]
  have hko : ∀ r, r < hlen H → hk (happ H [b]) r = hk H r := fun r hr => by rw [hk_happ, if_pos hr]
  have hkn : hk (happ H [b]) (hlen H) = b := by rw [hk_happ, if_neg (by omega), Nat.sub_self]; rfl
  have hownold : ∀ k, k < w.heap.size → Own (upd ρ (hlen H) v) (happ H [b]) k → Own ρ H k := by
    rintro k hk ⟨r, hr, hlv, hbk⟩
    by_cases e : r = hlen H
    · subst e
      rw [upd_new] at hbk
      have := hv k hbk
      omega
    · have hr' : r < hlen H := by omega
      rw [hko r hr'] at hlv
      rw [upd_old _ _ hr'] at hbk
      exact ⟨r, hr', hlv, hbk⟩
  have ext : Ext X.B ρ H w (upd ρ (hlen H) v) (happ H [b]) w' :=
    ⟨by omega, fun r hr => upd_old _ _ hr, hs, fun k hk ho => ⟨fun ho' => ho (hownold k hk ho'), hkeep k hk⟩⟩
  refine ⟨ext, h.step ext hos htape hout ?_ ?_ ?_ hownold⟩
  · intro r hr
    by_cases e : r = hlen H
    · subst e; rw [hkn, upd_new]; exact hbr ext
    · have hr' : r < hlen H := by omega
      rw [hko r hr', upd_old _ _ hr']
      exact (h.blk r hr').ext ext fun k hd hb => hkeep k (h.blk_lt hr' hd hb)
  · intro r r' k hr hr' hd hd' hb hb'
    by_cases e : r = hlen H <;> by_cases e' : r' = hlen H
    · rw [e, e']
    · subst e
      have hr'' : r' < hlen H := by omega
      rw [hko r' hr''] at hd'; rw [upd_old _ _ hr''] at hb'; rw [upd_new] at hb
      have := h.blk_lt hr'' hd' hb'; have := hv k hb; omega
    · subst e'
      have hr'' : r < hlen H := by omega
      rw [hko r hr''] at hd; rw [upd_old _ _ hr''] at hb; rw [upd_new] at hb'
      have := h.blk_lt hr'' hd hb; have := hv k hb'; omega
    · have h1 : r < hlen H := by omega
      have h2 : r' < hlen H := by omega
      rw [hko r h1] at hd; rw [hko r' h2] at hd'; rw [upd_old _ _ h1] at hb; rw [upd_old _ _ h2] at hb'
      exact h.inj r r' k h1 h2 hd hd' hb hb'
  · intro r k hr hd hb
    by_cases e : r = hlen H
    · subst e; rw [upd_new] at hb
      exact h.bsz k (Nat.le_trans h.size (hv k hb))
    · have h1 : r < hlen H := by omega
      rw [hko r h1] at hd; rw [upd_old _ _ h1] at hb
      exact h.new r k h1 hd hb

/-- A block changes: its cells are written, or it is given up, or no more to be written. -/
theorem RH.change (h : RH X ρ H w) {w' : World} {r : Nat} {b : Blk} (hr : r < hlen H)
    (hos : w'.os = w.os) (htape : w'.tape = w.tape) (hout : w'.output = w.output) (hs : w.heap.size ≤ w'.heap.size)
    (hkeep : ∀ k, k < w.heap.size → (w'.heap[k]? = w.heap[k]? ∨ (live (hk H r) = true ∧ blkOf (ρ r) = some k)))
    (hlive : live b = true → live (hk H r) = true) (hdead : dead b = false → dead (hk H r) = false)
    (hstill : ∀ k, blkOf (ρ r) = some k → live b = false → w'.heap[k]? = w.heap[k]?)
    (hbr : Ext X.B ρ H w ρ (hup H r b) w' → BR (hlen (hup H r b)) X.B ρ (hup H r b) w' b (ρ r)) :
    Ext X.B ρ H w ρ (hup H r b) w' ∧ RH X ρ (hup H r b) w' := by
  have hl : hlen (hup H r b) = hlen H := hlen_hup H r b
  have hkr : hk (hup H r b) r = b := by rw [hk_hup, if_pos ⟨rfl, hr⟩]
  have hko : ∀ i, i ≠ r → hk (hup H r b) i = hk H i := fun i hi => by rw [hk_hup, if_neg (fun e => hi e.1)]
  have hownold : ∀ k, Own ρ (hup H r b) k → Own ρ H k := by
    rintro k ⟨i, hi, hlv, hbk⟩
    rw [hl] at hi
    by_cases e : i = r
    · subst e; rw [hkr] at hlv; exact ⟨i, hi, hlive hlv, hbk⟩
    · rw [hko i e] at hlv; exact ⟨i, hi, hlv, hbk⟩
  have ext : Ext X.B ρ H w ρ (hup H r b) w' :=
    ⟨by omega, fun _ _ => rfl, hs, fun k hk ho => ⟨fun ho' => ho (hownold k ho'), (hkeep k hk).resolve_right fun ⟨h1, h2⟩ => ho ⟨r, hr, h1, h2⟩⟩⟩
  refine ⟨ext, h.step ext hos htape hout ?_ ?_ ?_ (fun k _ => hownold k)⟩
  · intro i hi
    rw [hl] at hi
    by_cases e : i = r
    · subst e; rw [hkr]; exact hbr ext
    · rw [hko i e]
      refine (h.blk i hi).ext ext fun k hd hb => ?_
      refine (hkeep k (h.blk_lt hi hd hb)).resolve_right fun ⟨h1, h2⟩ => ?_
      exact e (h.inj i r k hi hr hd (live_dead h1) hb h2)
  · intro i i' k hi hi' hd hd' hb hb'
    rw [hl] at hi hi'
    have f : ∀ j, dead (hk (hup H r b) j) = false → dead (hk H j) = false := fun j hj => by
      by_cases e : j = r
      · subst e; rw [hkr] at hj; exact hdead hj
      · rwa [hko j e] at hj
    exact h.inj i i' k hi hi' (f i hd) (f i' hd') hb hb'
  · intro i k hi hd hb
    rw [hl] at hi
    have f : dead (hk H i) = false := by
      by_cases e : i = r
      · subst e; rw [hkr] at hd; exact hdead hd
      · rwa [hko i e] at hd
    exact h.new i k hi f hb

end

/-! ### Paths -/

theorem pcode_norow : ∀ (c : Cd) (p : List Sg) (d : Cd), norow c = true → pcode c p = some d → norow d = true
  | c, [], d, h, e => by simp [pcode] at e; exact e ▸ h
  | .arr _ c, .ix i :: p, d, h, e => by simp only [pcode] at e; exact pcode_norow c p d (by simpa [norow] using h) e
  | .row c, .ix i :: p, d, h, e => by simp [norow] at h
  | .cons c _, .fd 0 :: p, d, h, e => by simp only [pcode] at e; simp only [norow, Bool.and_eq_true] at h; exact pcode_norow c p d h.1 e
  | .cons _ c, .fd (j + 1) :: p, d, h, e => by simp only [pcode] at e; simp only [norow, Bool.and_eq_true] at h; exact pcode_norow c (.fd j :: p) d h.2 e
  | .bool, _ :: _, _, _, e => by simp [pcode] at e
  | .int _, _ :: _, _, _, e => by simp [pcode] at e
  | .str, _ :: _, _, _, e => by simp [pcode] at e
  | .np, _ :: _, _, _, e => by simp [pcode] at e
  | .sl _, _ :: _, _, _, e => by simp [pcode] at e
  | .ptr _, _ :: _, _, _, e => by simp [pcode] at e
  | .nil, _ :: _, _, _, e => by simp [pcode] at e
  | .arr _ _, .fd _ :: _, _, _, e => by simp [pcode] at e
  | .row _, .fd _ :: _, _, _, e => by simp [pcode] at e
  | .cons _ _, .ix _ :: _, _, _, e => by simp [pcode] at e

/-- Codes of own blocks: a row of what is no row, or what is no row. -/
def topc (c : Cd) : Prop := norow c = true ∨ ∃ d, c = .row d ∧ norow d = true

section
variable {w : World} {Z : Nat → Prop}

theorem list_seg {cs ds : List Value} {o k i m : Nat} (h : (cs.drop o).take k = ds) (hle : i + m ≤ k) : (ds.drop i).take m = (cs.drop (o + i)).take m := by
  subst h
  rw [List.drop_take, List.drop_drop, List.take_take]
  congr 1
  omega

theorem getD_some {α : Type} {xs : List α} {i : Nat} (h : i < xs.length) (d : α) : xs[i]? = some (xs.getD i d) := by
  simp [List.getD, h]

theorem getP_spec : ∀ (c : Cd) (x : El c) (p : List Sg) (K : (d : Cd) → El d → Prop) (cs : List Value), norow c = true → VT w Z c x cs → getP c x p K →
    ∃ d y, K d y ∧ pcode c p = some d ∧ offs c p + csz d ≤ cs.length ∧ VT w Z d y ((cs.drop (offs c p)).take (csz d))
  | c, x, [], K, cs, hn, hv, h => by
    have hl := hv.len hn
    refine ⟨c, x, by simpa only [getP] using h, by simp [pcode], by simp [offs, hl], ?_⟩
    simpa [offs, ← hl] using hv
  | .arr n c, x, .ix i :: p, K, cs, hn, hv, h => by
    simp only [getP] at h
    obtain ⟨hi, h⟩ := Br_tf h
    have hi := of_decide_eq_true hi
    have hnc : norow c = true := by simpa [norow] using hn
    have hlen : ∀ (x : El c) cs, VT w Z c x cs → cs.length = csz c := fun x cs hx => hx.len hnc
    obtain ⟨hxl, hf⟩ := hv
    obtain ⟨a, ha, he⟩ := Flat.get (k := csz c) hlen i _ hf (getD_some hi (dflt c))
    obtain ⟨d, y, hK, hp, hle, hy⟩ := getP_spec c _ p K a hnc ha h
    have hal := hlen _ _ ha
    have hfl := Flat.length hlen hf
    have hmul : i * csz c + csz c ≤ x.length * csz c := by rw [← Nat.succ_mul]; exact Nat.mul_le_mul_right _ hi
    refine ⟨d, y, hK, by simpa only [pcode] using hp, ?_, ?_⟩
    · simp only [offs]; omega
    · simp only [offs]
      rw [← list_seg he (by omega)]; exact hy
  | .row c, x, .ix i :: p, K, cs, hn, hv, h => by simp [norow] at hn
  | .cons c d', x, .fd 0 :: p, K, cs, hn, hv, h => by
    simp only [norow, Bool.and_eq_true] at hn
    simp only [getP] at h
    obtain ⟨a, b, e, ha, hb⟩ := hv
    obtain ⟨d, y, hK, hp, hle, hy⟩ := getP_spec c _ p K a hn.1 ha h
    refine ⟨d, y, hK, by simpa only [pcode] using hp, by subst e; simp only [offs, List.length_append]; omega, ?_⟩
    simp only [offs]; subst e
    rw [List.drop_append_of_le_length (by omega), List.take_append_of_le_length (by simp; omega)]; exact hy
  | .cons c d', x, .fd (j + 1) :: p, K, cs, hn, hv, h => by
    simp only [norow, Bool.and_eq_true] at hn
    simp only [getP] at h
    obtain ⟨a, b, e, ha, hb⟩ := hv
    have hal := ha.len hn.1
    obtain ⟨d, y, hK, hp, hle, hy⟩ := getP_spec d' _ (.fd j :: p) K b hn.2 hb h
    refine ⟨d, y, hK, by simpa only [pcode] using hp, by subst e; simp only [offs, List.length_append]; omega, ?_⟩
    simp only [offs]; subst e
    rw [← hal, List.drop_append, List.drop_eq_nil_of_le (by omega)]
    simpa using hy
  | .bool, _, _ :: _, _, _, _, _, h => by simp [getP] at h
  | .int _, _, _ :: _, _, _, _, _, h => by simp [getP] at h
  | .str, _, _ :: _, _, _, _, _, h => by simp [getP] at h
  | .np, _, _ :: _, _, _, _, _, h => by simp [getP] at h
  | .sl _, _, _ :: _, _, _, _, _, h => by simp [getP] at h
  | .ptr _, _, _ :: _, _, _, _, _, h => by simp [getP] at h
  | .nil, _, _ :: _, _, _, _, _, h => by simp [getP] at h
  | .arr _ _, _, .fd _ :: _, _, _, _, _, h => by simp [getP] at h
  | .row _, _, .fd _ :: _, _, _, _, _, h => by simp [getP] at h
  | .cons _ _, _, .ix _ :: _, _, _, _, _, h => by simp [getP] at h


theorem set_seg {cs : List Value} {o k i m : Nat} {a ds : List Value} (ha : (cs.drop o).take k = a) (hok : o + k ≤ cs.length) (hle : i + m ≤ k) (hds : ds.length = m) :
    cs.take o ++ (a.take i ++ ds ++ a.drop (i + m)) ++ cs.drop (o + k) = cs.take (o + i) ++ ds ++ cs.drop (o + i + m) := by
  have h1 : cs = cs.take o ++ (a ++ cs.drop (o + k)) := by
    rw [← ha, ← List.drop_drop, List.take_append_drop, List.take_append_drop]
  have h2 : a.length = k := by rw [← ha]; simp; omega
  have h3 : (cs.take o).length = o := by simp; omega
  clear ha
  generalize cs.take o = A at *
  generalize cs.drop (o + k) = C at *
  subst h1 h3
  rw [List.take_length_add_append, show A.length + i + m = A.length + (i + m) by omega, List.drop_length_add_append,
    List.take_append_of_le_length (by omega), List.drop_append_of_le_length (by omega)]
  simp [List.append_assoc]

theorem setP_spec : ∀ (c : Cd) (x : El c) (p : List Sg) (d : Cd) (y : El d) (K : El c → Prop) (cs ds : List Value), norow c = true → VT w Z c x cs → VT w Z d y ds → setP c x p d y K →
    ∃ z, K z ∧ pcode c p = some d ∧ offs c p + csz d ≤ cs.length ∧ VT w Z c z (cs.take (offs c p) ++ ds ++ cs.drop (offs c p + csz d))
  | c, x, [], d, y, K, cs, ds, hn, hv, hy, h => by
    simp only [setP] at h
    obtain ⟨e, h⟩ := asC_spec h
    subst e
    have hl := hv.len hn
    refine ⟨_, h, by simp [pcode], by simp [offs, hl], ?_⟩
    simpa [offs, ← hl] using hy
  | .arr n c, x, .ix i :: p, d, y, K, cs, ds, hn, hv, hy, h => by
    simp only [setP] at h
    obtain ⟨hi, h⟩ := Br_tf h
    have hi := of_decide_eq_true hi
    have hnc : norow c = true := by simpa [norow] using hn
    have hlen : ∀ (x : El c) cs, VT w Z c x cs → cs.length = csz c := fun x cs hx => hx.len hnc
    obtain ⟨hxl, hf⟩ := hv
    obtain ⟨a, ha, he⟩ := Flat.get (k := csz c) hlen i _ hf (getD_some hi (dflt c))
    obtain ⟨z, hK, hp, hle, hz⟩ := setP_spec c _ p d y _ a ds hnc ha hy h
    have hal := hlen _ _ ha
    have hfl := Flat.length hlen hf
    have hmul : i * csz c + csz c ≤ x.length * csz c := by rw [← Nat.succ_mul]; exact Nat.mul_le_mul_right _ hi
    have hd : ds.length = csz d := hy.len (pcode_norow c p d hnc hp)
    refine ⟨_, hK, by simpa only [pcode] using hp, by simp only [offs]; omega, by simpa using hxl, ?_⟩
    simp only [offs]
    have := Flat.set (k := csz c) hlen i z _ hf hi hz
    rw [set_seg he (by omega) (by omega) hd] at this
    exact this
  | .row c, x, .ix i :: p, d, y, K, cs, ds, hn, hv, hy, h => by simp [norow] at hn
  | .cons c d', x, .fd 0 :: p, d, y, K, cs, ds, hn, hv, hy, h => by
    simp only [norow, Bool.and_eq_true] at hn
    simp only [setP] at h
    obtain ⟨a, b, e, ha, hb⟩ := hv
    obtain ⟨z, hK, hp, hle, hz⟩ := setP_spec c _ p d y _ a ds hn.1 ha hy h
    refine ⟨_, hK, by simpa only [pcode] using hp, by subst e; simp only [offs, List.length_append]; omega, _, b, ?_, hz, hb⟩
    simp only [offs]; subst e
    rw [List.take_append_of_le_length (by omega), List.drop_append_of_le_length (by omega)]
    simp
  | .cons c d', x, .fd (j + 1) :: p, d, y, K, cs, ds, hn, hv, hy, h => by
    simp only [norow, Bool.and_eq_true] at hn
    simp only [setP] at h
    obtain ⟨a, b, e, ha, hb⟩ := hv
    have hal := ha.len hn.1
    obtain ⟨z, hK, hp, hle, hz⟩ := setP_spec d' _ (.fd j :: p) d y _ b ds hn.2 hb hy h
    refine ⟨_, hK, by simpa only [pcode] using hp, by subst e; simp only [offs, List.length_append]; omega, a, _, ?_, ha, hz⟩
    simp only [offs]; subst e
    rw [← hal, List.take_append, List.take_of_length_le (by omega), show a.length + offs d' (.fd j :: p) - a.length = offs d' (.fd j :: p) by omega,
      show a.length + offs d' (.fd j :: p) + csz d = a.length + (offs d' (.fd j :: p) + csz d) by omega, List.drop_append, List.drop_eq_nil_of_le (by omega)]
    simp
  | .bool, _, _ :: _, _, _, _, _, _, _, _, _, h => by simp [setP] at h
  | .int _, _, _ :: _, _, _, _, _, _, _, _, _, h => by simp [setP] at h
  | .str, _, _ :: _, _, _, _, _, _, _, _, _, h => by simp [setP] at h
  | .np, _, _ :: _, _, _, _, _, _, _, _, _, h => by simp [setP] at h
  | .sl _, _, _ :: _, _, _, _, _, _, _, _, _, h => by simp [setP] at h
  | .ptr _, _, _ :: _, _, _, _, _, _, _, _, _, h => by simp [setP] at h
  | .nil, _, _ :: _, _, _, _, _, _, _, _, _, h => by simp [setP] at h
  | .arr _ _, _, .fd _ :: _, _, _, _, _, _, _, _, _, h => by simp [setP] at h
  | .row _, _, .fd _ :: _, _, _, _, _, _, _, _, _, h => by simp [setP] at h
  | .cons _ _, _, .ix _ :: _, _, _, _, _, _, _, _, _, h => by simp [setP] at h

/-- In a row. -/
theorem getP_row {c : Cd} {x : List (El c)} {p : List Sg} {K : (d : Cd) → El d → Prop} {cs : List Value} (hn : norow c = true) (hf : Flat (VT w Z c) x cs) (hp0 : p ≠ []) (h : getP (.row c) x p K) :
    ∃ d y, K d y ∧ norow d = true ∧ pcode (.row c) p = some d ∧ offs (.row c) p + csz d ≤ cs.length ∧ VT w Z d y ((cs.drop (offs (.row c) p)).take (csz d)) := by
  match p, hp0, h with
  | .ix i :: p, _, h =>
    obtain ⟨d, y, hK, hp, hle, hy⟩ := getP_spec (w := w) (Z := Z) (.arr x.length c) x (.ix i :: p) K cs (by simpa [norow] using hn) ⟨rfl, hf⟩ (by simpa only [getP] using h)
    exact ⟨d, y, hK, pcode_norow _ _ _ (by simpa [norow] using hn) hp, by simpa only [pcode] using hp, by simpa only [offs] using hle, by simpa only [offs] using hy⟩
  | .fd _ :: _, _, h => simp [getP] at h

theorem setP_row {c : Cd} {x : List (El c)} {p : List Sg} {d : Cd} {y : El d} {K : List (El c) → Prop} {cs ds : List Value} (hn : norow c = true) (hf : Flat (VT w Z c) x cs) (hy : VT w Z d y ds) (hp0 : p ≠ [])
    (h : setP (.row c) x p d y K) : ∃ z, K z ∧ z.length = x.length ∧ norow d = true ∧ pcode (.row c) p = some d ∧ offs (.row c) p + csz d ≤ cs.length ∧
      Flat (VT w Z c) z (cs.take (offs (.row c) p) ++ ds ++ cs.drop (offs (.row c) p + csz d)) := by
  match p, hp0, h with
  | .ix i :: p, _, h =>
    have h' : setP (.arr x.length c) x (.ix i :: p) d y K := by simpa only [setP] using h
    obtain ⟨z, hK, hp, hle, hz⟩ := setP_spec (w := w) (Z := Z) (.arr x.length c) x (.ix i :: p) d y K cs ds (by simpa [norow] using hn) ⟨rfl, hf⟩ hy h'
    exact ⟨z, hK, hz.1, pcode_norow _ _ _ (by simpa [norow] using hn) hp, by simpa only [pcode] using hp, by simpa only [offs] using hle, by simpa only [offs] using hz.2⟩
  | .fd _ :: _, _, h => simp [setP] at h

theorem offs_snoc : ∀ (c : Cd) (p : List Sg) (s : Sg) (d : Cd), pcode c p = some d → offs c (p ++ [s]) = offs c p + offs d [s]
  | c, [], s, d, h => by simp [pcode] at h; subst h; simp [offs]
  | .arr _ c, .ix i :: p, s, d, h => by simp only [pcode] at h; simp only [List.cons_append, offs, offs_snoc c p s d h]; omega
  | .row c, .ix i :: p, s, d, h => by simp only [pcode] at h; simp only [List.cons_append, offs, offs_snoc c p s d h]; omega
  | .cons c _, .fd 0 :: p, s, d, h => by simp only [pcode] at h; simp only [List.cons_append, offs, offs_snoc c p s d h]
  | .cons c e, .fd (j + 1) :: p, s, d, h => by
    simp only [pcode] at h
    have := offs_snoc e (.fd j :: p) s d h
    simp only [List.cons_append] at this
    simp only [List.cons_append, offs, this]; omega
  | .bool, _ :: _, _, _, h => by simp [pcode] at h
  | .int _, _ :: _, _, _, h => by simp [pcode] at h
  | .str, _ :: _, _, _, h => by simp [pcode] at h
  | .np, _ :: _, _, _, h => by simp [pcode] at h
  | .sl _, _ :: _, _, _, h => by simp [pcode] at h
  | .ptr _, _ :: _, _, _, h => by simp [pcode] at h
  | .nil, _ :: _, _, _, h => by simp [pcode] at h
  | .arr _ _, .fd _ :: _, _, _, h => by simp [pcode] at h
  | .row _, .fd _ :: _, _, _, h => by simp [pcode] at h
  | .cons _ _, .ix _ :: _, _, _, h => by simp [pcode] at h

theorem fld_spec : ∀ (c : Cd) (x : El c) (j : Nat) (K : (d : Cd) → El d → Prop) (cs : List Value), norow c = true → VT w Z c x cs → fld c x j K →
    ∃ d y, K d y ∧ pcode c [.fd j] = some d ∧ offs c [.fd j] + csz d ≤ cs.length ∧ VT w Z d y ((cs.drop (offs c [.fd j])).take (csz d))
  | .cons c d, x, 0, K, cs, hn, hv, h => by
    simp only [norow, Bool.and_eq_true] at hn
    obtain ⟨a, b, e, ha, hb⟩ := hv
    have hal := ha.len hn.1
    refine ⟨c, x.1, by simpa only [fld] using h, by simp [pcode], by subst e; simp [offs, hal], ?_⟩
    subst e; simpa [offs, ← hal] using ha
  | .cons c d, x, j + 1, K, cs, hn, hv, h => by
    simp only [norow, Bool.and_eq_true] at hn
    simp only [fld] at h
    obtain ⟨a, b, e, ha, hb⟩ := hv
    have hal := ha.len hn.1
    obtain ⟨d', y, hK, hp, hle, hy⟩ := fld_spec d _ j K b hn.2 hb h
    refine ⟨d', y, hK, by simpa only [pcode] using hp, by subst e; simp only [offs, List.length_append]; omega, ?_⟩
    simp only [offs]; subst e
    rw [← hal, List.drop_append, List.drop_eq_nil_of_le (by omega)]
    simpa using hy
  | .bool, _, _, _, _, _, _, h => by simp [fld] at h
  | .int _, _, _, _, _, _, _, h => by simp [fld] at h
  | .str, _, _, _, _, _, _, h => by simp [fld] at h
  | .np, _, _, _, _, _, _, h => by simp [fld] at h
  | .sl _, _, _, _, _, _, _, h => by simp [fld] at h
  | .ptr _, _, _, _, _, _, _, h => by simp [fld] at h
  | .nil, _, _, _, _, _, _, h => by simp [fld] at h
  | .arr _ _, _, _, _, _, _, _, h => by simp [fld] at h
  | .row _, _, _, _, _, _, _, h => by simp [fld] at h

/-- A stretch of cells in memory. -/
theorem Mem.sub {b o : Nat} {cs : List Value} (h : Mem w b o cs) (i k : Nat) : Mem w b (o + i) ((cs.drop i).take k) := by
  intro j v hj
  rw [List.getElem?_take] at hj
  split at hj
  · rw [List.getElem?_drop] at hj
    have := h (i + j) v hj
    rwa [← Nat.add_assoc] at this
  · cases hj

theorem Mem.of_block {b : Nat} {cells : List Value} {E : TypeId} {f : Nat × Nat} (h : w.heap[b]? = some (.cells cells.toArray E f)) : Mem w b 0 cells := by
  intro i v hi
  simp [World.cell?, h, hi]

end
end Go.Eng
