/- The abstract evaluator: what abstract values say of memory; laws of these relations. -/
import Derived.Test.YtniabjhjpkkllaaEngA
import Derived.Laws.MakeOwn
import Derived.Laws.IdiomCopy
import Derived.Below
set_option linter.unusedVariables false
set_option linter.unusedSimpArgs false
namespace Go.Eng
open Go Go.RowKit

def Flat {α : Type} (R : α → List Value → Prop) : List α → List Value → Prop
  | [], cs => cs = []
  | x :: xs, cs => ∃ a b, cs = a ++ b ∧ R x a ∧ Flat R xs b

def Mem (w : World) (b o : Nat) (cs : List Value) : Prop := ∀ i v, cs[i]? = some v → w.cell? ⟨b, o + i, none⟩ = some v

/-- Block b holds cells. -/
def CellsAt (w : World) (b : Nat) : Prop := ∃ cs E f, w.heap[b]? = some (.cells cs E f)
theorem CellsAt.lt {w : World} {b : Nat} (h : CellsAt w b) : b < w.heap.size := let ⟨_, _, _, h⟩ := h; (Array.getElem?_eq_some_iff.1 h).1
theorem CellsAt.of {w w' : World} {b : Nat} (h : CellsAt w b) (e : w'.heap[b]? = w.heap[b]?) : CellsAt w' b := let ⟨cs, E, f, h⟩ := h; ⟨cs, E, f, e.trans h⟩

/-- The cells that hold a pure value; what they lead to lies in blocks of Z. -/
def VT (w : World) (Z : Nat → Prop) : (c : Cd) → El c → List Value → Prop
  | .bool, b, cs => cs = [.bool b]
  | .int k, n, cs => cs = [.int k n]
  | .str, s, cs => cs = [.string s]
  | .np, _, cs => cs = [.pointer none]
  | .sl c, xs, cs => ∃ a cap, cs = [.slice a xs.length cap] ∧ xs.length ≤ cap ∧
      (xs = [] ∨ ∃ b o cells, a = some ⟨b, o, none⟩ ∧ Z b ∧ CellsAt w b ∧ Mem w b o cells ∧ Flat (VT w Z c) xs cells)
  | .ptr c, x, cs => ∃ b o cells, cs = [.pointer (some ⟨b, o, none⟩)] ∧ Z b ∧ CellsAt w b ∧ Mem w b o cells ∧ VT w Z c x cells
  | .arr n c, xs, cs => xs.length = n ∧ Flat (VT w Z c) xs cs
  | .row c, xs, cs => Flat (VT w Z c) xs cs
  | .nil, _, cs => cs = []
  | .cons c d, x, cs => ∃ a b, cs = a ++ b ∧ VT w Z c x.1 a ∧ VT w Z d x.2 b

theorem Flat.mono {α : Type} {R R' : α → List Value → Prop} (h : ∀ x cs, R x cs → R' x cs) : ∀ {xs : List α} {cs : List Value}, Flat R xs cs → Flat R' xs cs
  | [], _, hf => hf
  | _ :: _, _, ⟨a, b, e, hr, hf⟩ => ⟨a, b, e, h _ _ hr, Flat.mono h hf⟩

theorem Flat.length {α : Type} {R : α → List Value → Prop} {k : Nat} (h : ∀ x cs, R x cs → cs.length = k) : ∀ {xs : List α} {cs : List Value}, Flat R xs cs → cs.length = xs.length * k
  | [], cs, hf => by simp only [Flat] at hf; simp [hf]
  | x :: xs, cs, ⟨a, b, e, hr, hf⟩ => by
    subst e
    rw [List.length_append, h _ _ hr, Flat.length h hf, List.length_cons, Nat.succ_mul]; omega

theorem Flat.append {α : Type} {R : α → List Value → Prop} : ∀ {xs ys : List α} {cs ds : List Value}, Flat R xs cs → Flat R ys ds → Flat R (xs ++ ys) (cs ++ ds)
  | [], _, cs, _, hf, hg => by simp only [Flat] at hf; subst hf; simpa using hg
  | _ :: _, _, _, _, ⟨a, b, e, hr, hf⟩, hg => by subst e; exact ⟨a, b ++ _, by simp, hr, Flat.append hf hg⟩

/-- The i-th element's cells. -/
theorem Flat.get {α : Type} {R : α → List Value → Prop} {k : Nat} (h : ∀ x cs, R x cs → cs.length = k) : ∀ {xs : List α} {cs : List Value} (i : Nat) (x : α), Flat R xs cs → xs[i]? = some x →
    ∃ a, R x a ∧ (cs.drop (i * k)).take k = a
  | [], _, i, x, _, hi => by simp at hi
  | y :: xs, cs, 0, x, ⟨a, b, e, hr, hf⟩, hi => by
    simp at hi; subst hi; subst e
    exact ⟨a, hr, by rw [← h _ _ hr]; simp⟩
  | y :: xs, cs, i + 1, x, ⟨a, b, e, hr, hf⟩, hi => by
    simp at hi; subst e
    obtain ⟨c, hc, he⟩ := Flat.get h i x hf hi
    refine ⟨c, hc, ?_⟩
    rw [← he, show (i + 1) * k = a.length + i * k by rw [h _ _ hr, Nat.succ_mul]; omega, List.drop_append, List.drop_eq_nil_of_le (by omega)]
    simp

theorem Flat.set {α : Type} {R : α → List Value → Prop} {k : Nat} (h : ∀ x cs, R x cs → cs.length = k) : ∀ {xs : List α} {cs : List Value} (i : Nat) (x : α) (a : List Value), Flat R xs cs → i < xs.length → R x a →
    Flat R (xs.set i x) (cs.take (i * k) ++ a ++ cs.drop (i * k + k))
  | [], _, i, x, _, _, hi, _ => by simp at hi
  | y :: xs, cs, 0, x, a', ⟨a, b, e, hr, hf⟩, hi, ha => by
    subst e
    refine ⟨a', b, ?_, ha, hf⟩
    have := h _ _ hr
    subst this
    simp
  | y :: xs, cs, i + 1, x, a', ⟨a, b, e, hr, hf⟩, hi, ha => by
    subst e
    have ih := Flat.set h i x a' hf (by simpa using hi) ha
    refine ⟨a, _, ?_, hr, ih⟩
    have := h _ _ hr
    subst this
    rw [show (i + 1) * a.length = a.length + i * a.length by rw [Nat.succ_mul]; omega]
    rw [show a.length + i * a.length + a.length = a.length + (i * a.length + a.length) by omega]
    rw [List.take_append, List.drop_append]
    simp [List.take_of_length_le]

theorem Flat.take {α : Type} {R : α → List Value → Prop} {k : Nat} (h : ∀ x cs, R x cs → cs.length = k) : ∀ {xs : List α} {cs : List Value} (n : Nat), Flat R xs cs → Flat R (xs.take n) (cs.take (n * k))
  | [], cs, n, hf => by simp only [Flat] at hf; subst hf; simp [Flat]
  | y :: xs, cs, 0, _ => by simp [Flat]
  | y :: xs, cs, n + 1, ⟨a, b, e, hr, hf⟩ => by
    subst e
    refine ⟨a, _, ?_, hr, Flat.take h n hf⟩
    have := h _ _ hr
    subst this
    rw [show (n + 1) * a.length = a.length + n * a.length by rw [Nat.succ_mul]; omega, List.take_append]
    simp [List.take_of_length_le]

theorem Flat.drop {α : Type} {R : α → List Value → Prop} {k : Nat} (h : ∀ x cs, R x cs → cs.length = k) : ∀ {xs : List α} {cs : List Value} (n : Nat), Flat R xs cs → Flat R (xs.drop n) (cs.drop (n * k))
  | [], cs, n, hf => by simp only [Flat] at hf; subst hf; simp [Flat]
  | y :: xs, cs, 0, hf => by simpa using hf
  | y :: xs, cs, n + 1, ⟨a, b, e, hr, hf⟩ => by
    subst e
    have := h _ _ hr
    subst this
    rw [show (n + 1) * a.length = a.length + n * a.length by rw [Nat.succ_mul]; omega, List.drop_append, List.drop_eq_nil_of_le (Nat.le_add_right a.length (n * a.length))]
    simpa using Flat.drop h n hf

theorem Flat.replicate {α : Type} {R : α → List Value → Prop} {x : α} {a : List Value} (h : R x a) : ∀ n, Flat R (List.replicate n x) (List.replicate n a).flatten
  | 0 => by simp [Flat]
  | n + 1 => ⟨a, (List.replicate n a).flatten, by simp [List.replicate_succ], h, Flat.replicate h n⟩

theorem Flat.one {α : Type} {R : α → List Value → Prop} {p : Value → Prop} (h : ∀ x cs, R x cs → ∀ v ∈ cs, p v) : ∀ {xs : List α} {cs : List Value}, Flat R xs cs → ∀ v ∈ cs, p v
  | [], cs, hf => by simp only [Flat] at hf; simp [hf]
  | x :: xs, cs, ⟨a, b, e, hr, hf⟩ => by
    subst e
    intro v hv
    rcases List.mem_append.1 hv with hv | hv
    · exact h _ _ hr v hv
    · exact Flat.one h hf v hv

section
variable {w w' : World} {Z Z' : Nat → Prop}

theorem VT.len : ∀ {c : Cd} {x : El c} {cs : List Value}, norow c = true → VT w Z c x cs → cs.length = csz c
  | .bool, _, cs, _, h => by simp only [VT] at h; simp [h, csz]
  | .int _, _, cs, _, h => by simp only [VT] at h; simp [h, csz]
  | .str, _, cs, _, h => by simp only [VT] at h; simp [h, csz]
  | .np, _, cs, _, h => by simp only [VT] at h; simp [h, csz]
  | .sl _, _, cs, _, h => by obtain ⟨a, cap, e, _⟩ := h; simp [e, csz]
  | .ptr _, _, cs, _, h => by obtain ⟨b, o, cells, e, _⟩ := h; simp [e, csz]
  | .arr n c, xs, cs, hr, h => by
    obtain ⟨hl, hf⟩ := h
    rw [Flat.length (fun x cs hx => VT.len (by simpa [norow] using hr) hx) hf, hl]; rfl
  | .row _, _, _, hr, _ => by simp [norow] at hr
  | .nil, _, cs, _, h => by simp only [VT] at h; simp [h, csz]
  | .cons c d, x, cs, hr, h => by
    obtain ⟨a, b, e, ha, hb⟩ := h
    simp only [norow, Bool.and_eq_true] at hr
    rw [e, List.length_append, VT.len hr.1 ha, VT.len hr.2 hb]; rfl

theorem VT.one : ∀ {c : Cd} {x : El c} {cs : List Value}, VT w Z c x cs → ∀ v ∈ cs, v.oneCell' = true
  | .bool, _, cs, h => by simp only [VT] at h; simp [h, Value.oneCell']
  | .int _, _, cs, h => by simp only [VT] at h; simp [h, Value.oneCell']
  | .str, _, cs, h => by simp only [VT] at h; simp [h, Value.oneCell']
  | .np, _, cs, h => by simp only [VT] at h; simp [h, Value.oneCell']
  | .sl _, _, cs, h => by obtain ⟨a, cap, e, _⟩ := h; simp [e, Value.oneCell']
  | .ptr _, _, cs, h => by obtain ⟨b, o, cells, e, _⟩ := h; simp [e, Value.oneCell']
  | .arr n c, xs, cs, h => Flat.one (p := fun v => v.oneCell' = true) (fun x cs hx => VT.one hx) h.2
  | .row c, xs, cs, h => Flat.one (p := fun v => v.oneCell' = true) (fun x cs hx => VT.one hx) h
  | .nil, _, cs, h => by simp only [VT] at h; simp [h]
  | .cons c d, x, cs, h => by
    obtain ⟨a, b, e, ha, hb⟩ := h
    intro v hv
    rw [e] at hv
    rcases List.mem_append.1 hv with hv | hv
    · exact VT.one ha v hv
    · exact VT.one hb v hv

theorem Mem.mono {b o : Nat} {cs : List Value} (h : w'.heap[b]? = w.heap[b]?) (hm : Mem w b o cs) : Mem w' b o cs :=
  fun i v hi => (World.cell?_of_block (w := w) (w' := w') (a := ⟨b, o + i, none⟩) h).trans (hm i v hi)

theorem VT.mono (hz : ∀ b, CellsAt w b → Z b → Z' b ∧ w'.heap[b]? = w.heap[b]?) (hs : w.heap.size ≤ w'.heap.size) : ∀ {c : Cd} {x : El c} {cs : List Value}, VT w Z c x cs → VT w' Z' c x cs
  | .bool, _, _, h => h
  | .int _, _, _, h => h
  | .str, _, _, h => h
  | .np, _, _, h => h
  | .sl _, _, _, ⟨a, cap, e, hc, hr⟩ => ⟨a, cap, e, hc, hr.imp id fun ⟨b, o, cells, ea, hb, hlt, hm, hf⟩ =>
      ⟨b, o, cells, ea, (hz b hlt hb).1, hlt.of (hz b hlt hb).2, hm.mono (hz b hlt hb).2, hf.mono fun _ _ hx => VT.mono hz hs hx⟩⟩
  | .ptr _, _, _, ⟨b, o, cells, e, hb, hlt, hm, hf⟩ => ⟨b, o, cells, e, (hz b hlt hb).1, hlt.of (hz b hlt hb).2, hm.mono (hz b hlt hb).2, VT.mono hz hs hf⟩
  | .arr _ _, _, _, h => ⟨h.1, h.2.mono fun _ _ hx => VT.mono hz hs hx⟩
  | .row _, _, _, h => Flat.mono (fun _ _ hx => VT.mono hz hs hx) h
  | .nil, _, _, h => h
  | .cons _ _, _, _, ⟨a, b, e, ha, hb⟩ => ⟨a, b, e, VT.mono hz hs ha, VT.mono hz hs hb⟩

/-- Where nothing lies in memory the blocks don't matter. -/
theorem VT.flat : ∀ {c : Cd} {x : El c} {cs : List Value}, flat c = true → VT w Z c x cs → VT w' Z' c x cs
  | .bool, _, _, _, h => h
  | .int _, _, _, _, h => h
  | .str, _, _, _, h => h
  | .np, _, _, _, h => h
  | .sl _, _, _, hf, _ => by simp [Eng.flat] at hf
  | .ptr _, _, _, hf, _ => by simp [Eng.flat] at hf
  | .arr _ _, _, _, hf, h => ⟨h.1, h.2.mono fun _ _ hx => VT.flat (by simpa [Eng.flat] using hf) hx⟩
  | .row _, _, _, hf, _ => by simp [Eng.flat] at hf
  | .nil, _, _, _, h => h
  | .cons _ _, _, _, hf, ⟨a, b, e, ha, hb⟩ => by
    simp only [Eng.flat, Bool.and_eq_true] at hf
    exact ⟨a, b, e, VT.flat hf.1 ha, VT.flat hf.2 hb⟩
end

/-- A value in a slot. -/
def pk (c : Cd) (cs : List Value) (v : Value) : Prop := if agg c = true then v = .agg cs.toArray else cs = [v]

theorem pk.cells {c : Cd} {cs : List Value} {v : Value} (h : pk c cs v) (h1 : ∀ u ∈ cs, u.oneCell' = true) : v.cells.toList = cs := by
  unfold pk at h
  split at h
  · subst h; simp [Value.cells]
  · subst h
    have := h1 v (by simp)
    cases v <;> simp_all [Value.cells, Value.oneCell']

/-! ### Own blocks -/

def blkOf : Value → Option Nat
  | .slice (some a) _ _ => some a.block
  | .pointer (some a) => some a.block
  | _ => none

def live : Blk → Bool
  | .val wr _ _ _ _ => wr
  | .av _ => true
  | .dead => false

def dead : Blk → Bool
  | .dead => true
  | _ => false

def Own (ρ : Nat → Value) (H : List Blk) (b : Nat) : Prop := ∃ r, r < hlen H ∧ live (hk H r) = true ∧ blkOf (ρ r) = some b

/-- N: blocks that are the call's own make; Z: elder blocks that may be looked at. -/
structure Bz where
  N : Nat → Prop
  Z : Nat → Prop

structure Ctx where
  w0 : World
  B : Bz
  own0 : Nat → Prop

def Zn (B : Bz) (ρ : Nat → Value) (H : List Blk) (fr : Bool) (b : Nat) : Prop := ¬ Own ρ H b ∧ (B.N b ∨ (fr = false ∧ B.Z b))

mutual
def VR (n : Nat) (B : Bz) (ρ : Nat → Value) (H : List Blk) (w : World) : AV → Value → Prop
  | .any, _ => True
  | .t fr c x, v => ∃ cs, VT w (Zn B ρ H fr) c x cs ∧ pk c cs v
  | .ns, v => v = .slice none 0 0
  | .os r, v => r < n ∧ v = ρ r
  | .ox r c lo hi, v => r < n ∧ ∃ a cap, v = .slice a (hi - lo) cap ∧ hi - lo ≤ cap ∧ (hi - lo = 0 ∨ ∃ b, blkOf (ρ r) = some b ∧ a = some ⟨b, lo * csz c, none⟩)
  | .op r c p, v => r < n ∧ ∃ b, blkOf (ρ r) = some b ∧ v = .pointer (some ⟨b, offs c p, none⟩)
  | .fn f caps, v => ∃ vs, v = .func (.func f) #[] (List.toArray vs) ∧ VRs n B ρ H w caps vs
  | .tu us, v => ∃ vs, v = .tuple (List.toArray vs) ∧ VRs n B ρ H w us vs
def VRs (n : Nat) (B : Bz) (ρ : Nat → Value) (H : List Blk) (w : World) : List AV → List Value → Prop
  | [], vs => vs = []
  | a :: as, vs => ∃ v r, vs = v :: r ∧ VR n B ρ H w a v ∧ VRs n B ρ H w as r
end

/-- What a block says of memory; v: the slice, or the pointer, that leads to it. -/
def BR (n : Nat) (B : Bz) (ρ : Nat → Value) (H : List Blk) (w : World) : Blk → Value → Prop
  | .dead, _ => True
  | .val _ fr E (.row c) x, v => norow c = true ∧ 0 < csz c ∧ ∃ cells, w.ownsRow 0 E (csz c) v (List.length x) cells ∧ Flat (VT w (Zn B ρ H fr) c) x cells
  | .val _ fr E c x, v => norow c = true ∧ ∃ b cells, v = .pointer (some ⟨b, 0, none⟩) ∧ w.heap[b]? = some (.cells (List.toArray cells) E (0, 0)) ∧ VT w (Zn B ρ H fr) c x cells
  | .av a, v => ∃ b E u, v = .pointer (some ⟨b, 0, none⟩) ∧ w.heap[b]? = some (.cells #[u] E (0, 0)) ∧ u.oneCell' = true ∧ VR n B ρ H w a u

structure RH (X : Ctx) (ρ : Nat → Value) (H : List Blk) (w : World) : Prop where
  blk : ∀ r, r < hlen H → BR (hlen H) X.B ρ H w (hk H r) (ρ r)
  inj : ∀ r r' b, r < hlen H → r' < hlen H → dead (hk H r) = false → dead (hk H r') = false → blkOf (ρ r) = some b → blkOf (ρ r') = some b → r = r'
  new : ∀ r b, r < hlen H → dead (hk H r) = false → blkOf (ρ r) = some b → X.B.N b
  os : w.os = X.w0.os
  tape : w.tape = X.w0.tape
  output : w.output = X.w0.output
  size : X.w0.heap.size ≤ w.heap.size
  keep : ∀ b, b < X.w0.heap.size → ¬ X.own0 b → w.heap[b]? = X.w0.heap[b]?
  own : ∀ b, b < X.w0.heap.size → Own ρ H b → X.own0 b
  bsz : ∀ b, X.w0.heap.size ≤ b → X.B.N b

/-- What was known stays known. -/
structure Ext (B : Bz) (ρ : Nat → Value) (H : List Blk) (w : World) (ρ' : Nat → Value) (H' : List Blk) (w' : World) : Prop where
  hn : hlen H ≤ hlen H'
  hρ : ∀ r, r < hlen H → ρ' r = ρ r
  hs : w.heap.size ≤ w'.heap.size
  hz : ∀ b, b < w.heap.size → ¬ Own ρ H b → ¬ Own ρ' H' b ∧ w'.heap[b]? = w.heap[b]?

section
variable {B : Bz} {ρ ρ' ρ'' : Nat → Value} {H H' H'' : List Blk} {w w' w'' : World}

theorem Ext.refl : Ext B ρ H w ρ H w := ⟨Nat.le_refl _, fun _ _ => rfl, Nat.le_refl _, fun _ _ h => ⟨h, rfl⟩⟩
theorem Ext.trans (h : Ext B ρ H w ρ' H' w') (k : Ext B ρ' H' w' ρ'' H'' w'') : Ext B ρ H w ρ'' H'' w'' :=
  ⟨Nat.le_trans h.hn k.hn, fun r hr => (k.hρ r (Nat.lt_of_lt_of_le hr h.hn)).trans (h.hρ r hr), Nat.le_trans h.hs k.hs,
   fun b hb ho => let ⟨h1, h2⟩ := h.hz b hb ho; let ⟨k1, k2⟩ := k.hz b (Nat.lt_of_lt_of_le hb h.hs) h1; ⟨k1, k2.trans h2⟩⟩

theorem Ext.zn (h : Ext B ρ H w ρ' H' w') (fr : Bool) : ∀ b, CellsAt w b → Zn B ρ H fr b → Zn B ρ' H' fr b ∧ w'.heap[b]? = w.heap[b]? :=
  fun b hb ⟨ho, hB⟩ => let ⟨h1, h2⟩ := h.hz b hb.lt ho; ⟨⟨h1, hB⟩, h2⟩

theorem VT.ext (h : Ext B ρ H w ρ' H' w') {fr : Bool} {c : Cd} {x : El c} {cs : List Value} (hv : VT w (Zn B ρ H fr) c x cs) : VT w' (Zn B ρ' H' fr) c x cs := hv.mono (h.zn fr) h.hs

mutual
theorem VR.ext (h : Ext B ρ H w ρ' H' w') : ∀ {a : AV} {v : Value}, VR (hlen H) B ρ H w a v → VR (hlen H') B ρ' H' w' a v
  | .any, _, hv => by simp only [VR]
  | .t _ _ _, _, hv => by simp only [VR] at hv ⊢; obtain ⟨cs, h1, h2⟩ := hv; exact ⟨cs, VT.ext h h1, h2⟩
  | .ns, _, hv => by simp only [VR] at hv ⊢; exact hv
  | .os r, _, hv => by simp only [VR] at hv ⊢; exact ⟨Nat.lt_of_lt_of_le hv.1 h.hn, by rw [h.hρ r hv.1]; exact hv.2⟩
  | .ox r c lo hi, _, hv => by
    simp only [VR] at hv ⊢; refine ⟨Nat.lt_of_lt_of_le hv.1 h.hn, ?_⟩; rw [h.hρ r hv.1]; exact hv.2
  | .op r c p, _, hv => by
    simp only [VR] at hv ⊢; refine ⟨Nat.lt_of_lt_of_le hv.1 h.hn, ?_⟩; rw [h.hρ r hv.1]; exact hv.2
  | .fn _ _, _, hv => by simp only [VR] at hv ⊢; obtain ⟨vs, e, hs⟩ := hv; exact ⟨vs, e, VRs.ext h hs⟩
  | .tu _, _, hv => by simp only [VR] at hv ⊢; obtain ⟨vs, e, hs⟩ := hv; exact ⟨vs, e, VRs.ext h hs⟩
theorem VRs.ext (h : Ext B ρ H w ρ' H' w') : ∀ {as : List AV} {vs : List Value}, VRs (hlen H) B ρ H w as vs → VRs (hlen H') B ρ' H' w' as vs
  | [], _, hv => by simp only [VRs] at hv ⊢; exact hv
  | _ :: _, _, hv => by simp only [VRs] at hv ⊢; obtain ⟨v, r, e, h1, h2⟩ := hv; exact ⟨v, r, e, VR.ext h h1, VRs.ext h h2⟩
end

theorem VR.len_t {n : Nat} {fr : Bool} {c : Cd} {x : El c} {v : Value} (h : VR n B ρ H w (.t fr c x) v) : ∃ cs, VT w (Zn B ρ H fr) c x cs ∧ pk c cs v := by simpa only [VR] using h
end

end Go.Eng
