/- The abstract evaluator: functions that are ranged over; two parties that step in turn. -/
import Derived.Test.YtniabjhjpkkllaaEngW
import Derived.LoopNIn
import Derived.RangeFuncSeq
set_option linter.unusedVariables false
set_option linter.unusedSimpArgs false
namespace Go.Eng
open Go Go.RowKit

section
variable {P : Program} {F : Fence} {n : Nat} {b : Frame} {a : Act} {k : List Item} {cs : List Frame} {w : World} {Q : Exit → Act → World → Prop}
theorem stepR_scope {c : Code} : step P (lone (b.atR a (.code (.scope c) :: k)) cs w) = .next (lone (b.atR a (.code c :: .inScope c :: k)) cs w) :=
  step_lone_go (by simp [stepG, stepG.exec, Frame.atR])
theorem stepR_inScope {c : Code} : step P (lone (b.atR a (.inScope c :: k)) cs w) = .next (lone (b.atR a k) cs w) :=
  step_lone_go (by simp [stepG, stepG.exec, Frame.atR])
theorem wpIn_scope_straight {c : Code} (h : c.wpIn F n P (Exit.noGoto Q) a w) : (Code.scope c).wpIn F n P Q a w := by
  intro b k cs hro hb hr
  obtain ⟨e, a₁, w₁, hq, harr⟩ := h b (.inScope c :: k) cs hro hb hr
  have s0 : StepsIn (Machine.fenced P F) P (lone (b.atR a (.code (.scope c) :: k)) cs w) (lone (b.atR a (.code c :: .inScope c :: k)) cs w) := .one (fenced_calm hb hr rfl) stepR_scope
  cases e with
  | normal => exact ⟨.normal, a₁, w₁, hq, .of_steps s0 (StepsIn.trans harr (.one (fenced_calm hb hr rfl) stepR_inScope))⟩
  | exit id => exact ⟨.exit id, a₁, w₁, hq, .of_steps s0 ⟨fun k' hk => harr.1 k' (by simp [exitTo, hk]), fun hs hk => harr.2 hs (by simp [exitTo, hk])⟩⟩
  | goto l => exact hq.elim
  | ret => exact ⟨_, a₁, w₁, hq, .of_steps s0 harr⟩
  | panic ch => exact ⟨_, a₁, w₁, hq, .of_steps s0 harr⟩
  | outgrown => exact ⟨_, a₁, w₁, hq, .of_steps s0 harr⟩
end

section
variable {P : Program} {ρ : Nat → Value} {H : List Blk} {w w' : World} {B B' : Bz}

/-- What a party's memory says, standing still. -/
abbrev RHs (B : Bz) (ρ : Nat → Value) (H : List Blk) (w : World) : Prop := RH ⟨w, B, Own ρ H⟩ ρ H w

theorem RH.stat {X : Ctx} (h : RH X ρ H w) : RHs X.B ρ H w := h.rebase

/-- Another party's step, and another reading of what may be looked at. -/
theorem RHs.move (h : RHs B ρ H w) (hz : ∀ fr b, CellsAt w b → Zn B ρ H fr b → Zn B' ρ H fr b ∧ w'.heap[b]? = w.heap[b]?) (ho : ∀ b, Own ρ H b → w'.heap[b]? = w.heap[b]? ∧ B'.N b)
    (hs : w.heap.size ≤ w'.heap.size) (hb : ∀ b, w'.heap.size ≤ b → B'.N b) : RHs B' ρ H w' := by
  have key : ∀ r b, r < hlen H → dead (hk H r) = false → blkOf (ρ r) = some b → w'.heap[b]? = w.heap[b]? ∧ B'.N b := by
    intro r b hr hd hbk
    by_cases ho' : Own ρ H b
    · exact ho b ho'
    · have := hz true b (blk_cells h hr hd hbk) ⟨ho', .inl (h.new r b hr hd hbk)⟩
      refine ⟨this.2, ?_⟩
      rcases this.1.2 with hn | ⟨e, _⟩
      · exact hn
      · cases e
  refine ⟨fun r hr => ?_, h.inj, fun r b hr hd hbk => (key r b hr hd hbk).2, rfl, rfl, rfl, Nat.le_refl _, fun _ _ _ => rfl, fun _ _ h => h, hb⟩
  exact (h.blk r hr).conv (p := fun _ => True) hz hs (fun r hr _ => ⟨hr, rfl⟩) (fun a _ => arefs_true a) fun j hd hj => (key r j hr hd hj).1

theorem TR.move (hz : ∀ fr b, CellsAt w b → Zn B ρ H fr b → Zn B' ρ H fr b ∧ w'.heap[b]? = w.heap[b]?) (hs : w.heap.size ≤ w'.heap.size) {n : Nat} {tmps : List AV} {a : Act} (h : TR n B ρ H w tmps a) : TR n B' ρ H w' tmps a :=
  ⟨h.1, fun i => (h.2 i).conv (p := fun _ => True) hz hs (fun r hr _ => ⟨hr, rfl⟩) (arefs_true _)⟩

/-- Without the blocks of another party. -/
def mns (B : Bz) (O : Nat → Prop) : Bz := ⟨fun b => B.N b ∧ ¬ O b, fun b => B.Z b ∧ ¬ O b⟩
/-- What both may look at. -/
def ZZ (B : Bz) (O O' : Nat → Prop) (fr : Bool) (b : Nat) : Prop := ¬ O b ∧ ¬ O' b ∧ (B.N b ∨ (fr = false ∧ B.Z b))

theorem zz_of_first {O' : Nat → Prop} {fr : Bool} {b : Nat} (h : Zn (mns B O') ρ H fr b) : ZZ B (Own ρ H) O' fr b :=
  ⟨h.1, h.2.elim (fun h => h.2) (fun h => h.2.2), h.2.elim (fun h => .inl h.1) (fun h => .inr ⟨h.1, h.2.1⟩)⟩
theorem zz_of_second {O : Nat → Prop} {fr : Bool} {b : Nat} (h : Zn (mns B O) ρ H fr b) : ZZ B O (Own ρ H) fr b :=
  ⟨h.2.elim (fun h => h.2) (fun h => h.2.2), h.1, h.2.elim (fun h => .inl h.1) (fun h => .inr ⟨h.1, h.2.1⟩)⟩
theorem zn_first {O' : Nat → Prop} {fr : Bool} {b : Nat} (h : ZZ B (Own ρ H) O' fr b) : Zn (mns B O') ρ H fr b :=
  ⟨h.1, h.2.2.elim (fun k => .inl ⟨k, h.2.1⟩) (fun k => .inr ⟨k.1, k.2, h.2.1⟩)⟩
theorem zn_second {O : Nat → Prop} {fr : Bool} {b : Nat} (h : ZZ B O (Own ρ H) fr b) : Zn (mns B O) ρ H fr b :=
  ⟨h.2.1, h.2.2.elim (fun k => .inl ⟨k, h.1⟩) (fun k => .inr ⟨k.1, k.2, h.1⟩)⟩

/-- Data that go from one party to the other. -/
def DataR (w : World) (Z : Bool → Nat → Prop) : List AV → List Value → Prop
  | [], us => us = []
  | v :: as, us => ∃ u r, us = u :: r ∧ (match v with
    | .t fr c x => ∃ cs, VT w (Z fr) c x cs ∧ pk c cs u
    | _ => False) ∧ DataR w Z as r

theorem DataR.vrs {Z : Bool → Nat → Prop} {n : Nat} (hz : ∀ fr b, Z fr b → Zn B ρ H fr b) : ∀ {as : List AV} {us : List Value}, DataR w Z as us → VRs n B ρ H w as us
  | [], us, h => by simp only [DataR] at h; subst h; simp only [VRs]
  | v :: as, us, h => by
    simp only [DataR] at h
    obtain ⟨u, r, rfl, hv, hr⟩ := h
    simp only [VRs]
    refine ⟨u, r, rfl, ?_, DataR.vrs hz hr⟩
    cases v with
    | t fr c x =>
      obtain ⟨cs, h1, h2⟩ := hv
      simp only [VR]
      exact ⟨cs, h1.mono (fun b _ hb => ⟨hz fr b hb, rfl⟩) (Nat.le_refl _), h2⟩
    | _ => exact hv.elim

theorem DataR.of {Z : Bool → Nat → Prop} {n : Nat} (hz : ∀ fr b, Zn B ρ H fr b → Z fr b) : ∀ {as : List AV} {us : List Value}, allT as = true → VRs n B ρ H w as us → DataR w Z as us
  | [], us, _, h => by simp only [VRs] at h; subst h; simp only [DataR]
  | v :: as, us, ht, h => by
    simp only [VRs] at h
    obtain ⟨u, r, rfl, hv, hr⟩ := h
    simp only [DataR]
    cases v with
    | t fr c x =>
      simp only [VR] at hv
      obtain ⟨cs, h1, h2⟩ := hv
      exact ⟨u, r, rfl, ⟨cs, h1.mono (fun b _ hb => ⟨hz fr b hb, rfl⟩) (Nat.le_refl _), h2⟩, DataR.of hz (by simpa only [allT] using ht) hr⟩
    | _ => simp [allT] at ht

theorem DataR.mono {Z Z' : Bool → Nat → Prop} (hz : ∀ fr b, CellsAt w b → Z fr b → Z' fr b ∧ w'.heap[b]? = w.heap[b]?) (hs : w.heap.size ≤ w'.heap.size) : ∀ {as : List AV} {us : List Value}, DataR w Z as us → DataR w' Z' as us
  | [], us, h => h
  | v :: as, us, h => by
    simp only [DataR] at h ⊢
    obtain ⟨u, r, rfl, hv, hr⟩ := h
    refine ⟨u, r, rfl, ?_, DataR.mono hz hs hr⟩
    cases v with
    | t fr c x =>
      obtain ⟨cs, h1, h2⟩ := hv
      exact ⟨cs, h1.mono (hz fr) hs, h2⟩
    | _ => exact hv.elim

/-- A party with own blocks O steps. -/
structure Moves (O : Nat → Prop) (w w' : World) : Prop where
  size : w.heap.size ≤ w'.heap.size
  os : w'.os = w.os
  tape : w'.tape = w.tape
  output : w'.output = w.output
  keep : ∀ b, b < w.heap.size → ¬ O b → w'.heap[b]? = w.heap[b]?

/-- The other party's invariant: s: its state; O: its own blocks; O': this party's. -/
structure Inv {S : Type} (I : S → (Nat → Prop) → (Nat → Prop) → World → Prop) : Prop where
  own : ∀ {s O O' W}, I s O O' W → ∀ b, O b → b < W.heap.size ∧ ¬ O' b
  turn : ∀ {s O O' O'' W W'}, I s O O' W → Moves O' W W' → (∀ b, O'' b → (b < W.heap.size → O' b) ∧ CellsAt W' b) → I s O O'' W'

/-- What a round leaves. -/
structure RoundTo (O O1 : Nat → Prop) (w w' : World) : Prop where
  size : w.heap.size ≤ w'.heap.size
  cells : ∀ b, CellsAt w b → ¬ O b → w'.heap[b]? = w.heap[b]?
  own : ∀ b, b < w.heap.size → O1 b → O b

/-- What is asked of a round. -/
def RoundOK (P : Program) (B : Bz) {S : Type} (I : S → (Nat → Prop) → (Nat → Prop) → World → Prop) (l : Nat) (rd : Rnd S) : Prop :=
  ∀ (us : List Value) (s : S) (O O' : Nat → Prop) (W : World) (as : List AV) (Kb : Bool → S → Prop), rd as s Kb → I s O O' W → DataR W (ZZ B O O') as us →
    YieldAt (FW none) 0 P l us.toArray W fun e W' => ∃ b s' O1, e = .returned (.bool b) ∧ Kb b s' ∧ I s' O1 O' W' ∧ RoundTo O O1 W W'

/-- What a function that is ranged over owes. -/
def ItOK (P : Program) (f : FuncId) (it : ItE) : Prop :=
  ∀ (caps : List AV) (S : Type) (rd : Rnd S) (s : S) (K : S → Prop), it caps S rd s K →
    ∀ (B : Bz) (I : S → (Nat → Prop) → (Nat → Prop) → World → Prop) (_ : Inv I) (l : Nat) (vals : List Value) (w : World) (O : Nat → Prop),
      (∀ b, w.heap.size ≤ b → B.N b) → I s O (fun _ => False) w → DataR w (ZZ B O fun _ => False) caps vals → RoundOK P B I l rd →
      CallsIn (FW none) 0 P f (#[.func (.yield l) #[] #[]] ++ vals.toArray) w fun e w' => ∃ v s' O1 O2, e = .returned v ∧ K s' ∧ I s' O1 O2 w'

/-- What is known at a place of a function that is ranged over. -/
structure AtI {S : Type} (B : Bz) (I : S → (Nat → Prop) → (Nat → Prop) → World → Prop) (n0 : Nat) (Jp : Array Value → Prop) (σ : St) (s : S) (a : Act) (w : World) : Prop where
  ex : ∃ Ws O O' ρ, n0 ≤ Ws.heap.size ∧ I s O O' Ws ∧ RH ⟨Ws, mns B O, O'⟩ ρ σ.H w ∧ TR (hlen σ.H) (mns B O) ρ σ.H w σ.tmps a
  df : a.defers = []
  jp : Jp a.tmps

theorem AtI.dec {S : Type} {I : S → (Nat → Prop) → (Nat → Prop) → World → Prop} {n0 : Nat} {Jp : Array Value → Prop} {σ : St} {s : S} {a : Act} {w : World} (h : AtI B I n0 Jp σ s a w) {l : Lay} {J : Vals l → Prop} (hd : dec l σ J) : ∃ v, J v ∧ AtI B I n0 Jp (st l v) s a w := by
  obtain ⟨⟨Ws, O, O', ρ, h0, h1, h2, h3⟩, h4, h5⟩ := h
  obtain ⟨v, hJ, ρ', h6, h7⟩ := dec_spec h2 h3 hd
  exact ⟨v, hJ, ⟨Ws, O, O', ρ', h0, h1, h6, h7⟩, h4, h5⟩

/-- The other party goes on. -/
theorem AtI.turn {S : Type} {I : S → (Nat → Prop) → (Nat → Prop) → World → Prop} (hI : Inv I) {s : S} {O O' : Nat → Prop} {Ws : World} (h1 : I s O O' Ws) (h2 : RH ⟨Ws, mns B O, O'⟩ ρ H w) : I s O (Own ρ H) w :=
  hI.turn h1 ⟨h2.size, h2.os, h2.tape, h2.output, h2.keep⟩ fun b hb => ⟨fun hlt => h2.own b hlt hb, own_cells h2 hb⟩

/-- It has gone a round. -/
theorem AtI.round {S : Type} {I : S → (Nat → Prop) → (Nat → Prop) → World → Prop} (hI : Inv I) {n0 : Nat} (hn0 : ∀ b, n0 ≤ b → B.N b) {s : S} {X : Ctx} {O O1 : Nat → Prop} (hX : X.B = mns B O) (hw : n0 ≤ w.heap.size) (h : RH X ρ H w) (hi : I s O1 (Own ρ H) w') (hr : RoundTo O O1 w w') :
    RH ⟨w', mns B O1, Own ρ H⟩ ρ H w' ∧ ∀ {n : Nat} {tmps : List AV} {a : Act}, TR n (mns B O) ρ H w tmps a → TR n (mns B O1) ρ H w' tmps a := by
  have hz : ∀ fr b, CellsAt w b → Zn (mns B O) ρ H fr b → Zn (mns B O1) ρ H fr b ∧ w'.heap[b]? = w.heap[b]? := by
    intro fr b hc hzn
    have hO : ¬ O b := hzn.2.elim (fun h => h.2) (fun h => h.2.2)
    have hO1 : ¬ O1 b := fun h => hO (hr.own b hc.lt h)
    exact ⟨⟨hzn.1, hzn.2.elim (fun h => .inl ⟨h.1, hO1⟩) (fun h => .inr ⟨h.1, h.2.1, hO1⟩)⟩, hr.cells b hc hO⟩
  have hs : RHs (mns B O) ρ H w := by have := h.stat; rwa [hX] at this
  refine ⟨hs.move hz (fun b hb => ?_) hr.size (fun b hb => ⟨hn0 b (by have := hr.size; omega), fun ho => by have := (hI.own hi b ho).1; omega⟩), fun ht => ht.move hz hr.size⟩
  have hc := own_cells h hb
  have hN : (mns B O).N b := by
    obtain ⟨r, hlt, hl, hbk⟩ := hb
    have := h.new r b hlt (live_dead hl) hbk
    rwa [hX] at this
  exact ⟨hr.cells b hc hN.2, hN.1, fun ho => hN.2 (hr.own b hc.lt ho)⟩
end
end Go.Eng
