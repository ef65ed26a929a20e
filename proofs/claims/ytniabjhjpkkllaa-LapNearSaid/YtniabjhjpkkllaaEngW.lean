/- The abstract evaluator: what holds on under another party's steps; rebasing. -/
import Derived.Test.YtniabjhjpkkllaaEngP
import Derived.RangeFuncLeaves
import Derived.RangeFuncRecord
set_option linter.unusedVariables false
set_option linter.unusedSimpArgs false
namespace Go.Eng
open Go Go.RowKit

section
variable {P : Program} {X : Ctx} {ρ : Nat → Value} {H : List Blk} {w w' : World}

mutual
theorem arefs_true : ∀ a : AV, arefs (fun _ => True) a
  | .any | .t _ _ _ | .ns => trivial
  | .os _ | .ox _ _ _ _ | .op _ _ _ => trivial
  | .fn _ vs => by simp only [arefs]; exact arefsL_true vs
  | .tu vs => by simp only [arefs]; exact arefsL_true vs
theorem arefsL_true : ∀ as : List AV, arefsL (fun _ => True) as
  | [] => trivial
  | a :: as => ⟨arefs_true a, arefsL_true as⟩
end

/-- Blocks are cells. -/
theorem blk_cells (h : RH X ρ H w) {r b : Nat} (hr : r < hlen H) (hd : dead (hk H r) = false) (hb : blkOf (ρ r) = some b) : CellsAt w b := by
  cases hk0 : hk H r with
  | dead => rw [hk0] at hd; simp [dead] at hd
  | val wr fr E c x => exact (h.cells hk0 hb).choose_spec.2.1
  | av a =>
    have := h.blk r hr
    rw [hk0] at this
    obtain ⟨b', E, u, e, hg, _⟩ := this
    rw [e] at hb
    simp [blkOf] at hb
    subst hb
    exact ⟨_, _, _, hg⟩
theorem own_cells (h : RH X ρ H w) {b : Nat} (ho : Own ρ H b) : CellsAt w b := by
  obtain ⟨r, hr, hl, hb⟩ := ho
  refine blk_cells h hr ?_ hb
  cases hk0 : hk H r <;> rw [hk0] at hl <;> simp_all [dead, live]

/-- A step of another party: cells lie as they lay, and what the call found there does. -/
structure Aside (X : Ctx) (w w' : World) : Prop where
  cells : ∀ b, CellsAt w b → w'.heap[b]? = w.heap[b]?
  elder : ∀ b, b < X.w0.heap.size → w'.heap[b]? = w.heap[b]?
  size : w.heap.size ≤ w'.heap.size
  os : w'.os = w.os
  tape : w'.tape = w.tape
  output : w'.output = w.output

theorem VR.aside (a : Aside X w w') {n : Nat} {v : AV} {u : Value} (h : VR n X.B ρ H w v u) : VR n X.B ρ H w' v u :=
  h.conv (p := fun _ => True) (fun fr b hc hz => ⟨hz, a.cells b hc⟩) a.size (fun r hr _ => ⟨hr, rfl⟩) (arefs_true v)

theorem RH.aside (h : RH X ρ H w) (a : Aside X w w') : RH X ρ H w' := by
  refine ⟨fun r hr => ?_, h.inj, h.new, a.os.trans h.os, a.tape.trans h.tape, a.output.trans h.output, Nat.le_trans h.size a.size, fun b hb ho => (a.elder b hb).trans (h.keep b hb ho), h.own, h.bsz⟩
  refine (h.blk r hr).conv (p := fun _ => True) (fun fr b hc hz => ⟨hz, a.cells b hc⟩) a.size (fun r hr _ => ⟨hr, rfl⟩) (fun a _ => arefs_true a) fun j hd hj => ?_
  exact a.cells j (blk_cells h hr hd hj)

theorem TR.aside (a : Aside X w w') {n : Nat} {tmps : List AV} {act : Act} (h : TR n X.B ρ H w tmps act) : TR n X.B ρ H w' tmps act := ⟨h.1, fun i => (h.2 i).aside a⟩

/-! ### Rebasing -/

/-- From here on: what lies here and is not own is elder. -/
def rebased (X : Ctx) (ρ : Nat → Value) (H : List Blk) (w : World) : Ctx := ⟨w, X.B, Own ρ H⟩

theorem RH.rebase (h : RH X ρ H w) : RH (rebased X ρ H w) ρ H w :=
  ⟨h.blk, h.inj, h.new, rfl, rfl, rfl, Nat.le_refl _, fun _ _ _ => rfl, fun _ _ h => h, fun b hb => h.bsz b (Nat.le_trans h.size hb)⟩

theorem RH.back {ρ' : Nat → Value} {H' : List Blk} (h : RH X ρ H w) (k : RH (rebased X ρ H w) ρ' H' w') : RH X ρ' H' w' := by
  refine ⟨k.blk, k.inj, k.new, k.os.trans h.os, k.tape.trans h.tape, k.output.trans h.output, Nat.le_trans h.size k.size, fun b hb ho => ?_, fun b hb ho => ?_, h.bsz⟩
  · refine (k.keep b (Nat.lt_of_lt_of_le hb h.size) fun hn => ho (h.own b hb hn)).trans (h.keep b hb ho)
  · exact h.own b hb (k.own b (Nat.lt_of_lt_of_le hb h.size) ho)

/-- Data that were known at the base are known at the end. -/
theorem VR.over {ρ' : Nat → Value} {H' : List Blk} (h : RH X ρ H w) (k : RH (rebased X ρ H w) ρ' H' w') {n n' : Nat} {fr : Bool} {c : Cd} {x : El c} {u : Value} (hv : VR n X.B ρ H w (.t fr c x) u) : VR n' X.B ρ' H' w' (.t fr c x) u := by
  simp only [VR] at hv ⊢
  obtain ⟨cs, h1, h2⟩ := hv
  refine ⟨cs, h1.mono (fun b hc hz => ?_) k.size, h2⟩
  have hlt : b < w.heap.size := by
    obtain ⟨_, _, _, e⟩ := hc
    exact (Array.getElem?_eq_some_iff.1 e).1
  exact ⟨⟨fun ho => hz.1 (k.own b hlt ho), hz.2⟩, k.keep b hlt hz.1⟩

/-- The marks that ranges over functions leave. -/
def Marks (ds : List Deferred) (w : World) : Prop := ∀ d ∈ ds, ∃ D, d = { target := .collected D, args := #[] } ∧ w.heap[D]? = some (.deferred (some []))

theorem Marks.ext {ρ' : Nat → Value} {H' : List Blk} (h : RH X ρ H w) (e : Ext X.B ρ H w ρ' H' w') {ds : List Deferred} (hm : Marks ds w) : Marks ds w' := by
  intro d hd
  obtain ⟨D, e1, e2⟩ := hm d hd
  refine ⟨D, e1, ?_⟩
  have hlt : D < w.heap.size := (Array.getElem?_eq_some_iff.1 e2).1
  refine (e.hz D hlt fun ho => ?_).2.trans e2
  obtain ⟨_, _, _, hc⟩ := own_cells h ho
  rw [e2] at hc; cases hc

theorem Aside.refl : Aside X w w := ⟨fun _ _ => rfl, fun _ _ => rfl, Nat.le_refl _, rfl, rfl, rfl⟩
theorem Aside.trans {w'' : World} (h : Aside X w w') (k : Aside X w' w'') : Aside X w w'' :=
  ⟨fun b hc => (k.cells b (hc.of (h.cells b hc))).trans (h.cells b hc), fun b hb => (k.elder b hb).trans (h.elder b hb), Nat.le_trans h.size k.size, k.os.trans h.os, k.tape.trans h.tape, k.output.trans h.output⟩

/-- Turning a record. -/
theorem Aside.putObj {D : Nat} {o o' : Obj} (hl : X.w0.heap.size ≤ D) (ho : w.heap[D]? = some o) (hc : ∀ cs E f, o ≠ .cells cs E f) : Aside X w (w.putObj D o') := by
  refine ⟨fun b hb => World.putObj_heap_other fun e => ?_, fun b hb => World.putObj_heap_other (by omega), by simp, rfl, rfl, rfl⟩
  subst e
  obtain ⟨cs, E, f, h⟩ := hb
  rw [ho] at h; cases h
  exact hc _ _ _ rfl

/-- Marks whose records are apart, and the call's own. -/
def MarksX (X : Ctx) : List Deferred → World → Prop
  | [], _ => True
  | d :: ds, w => ∃ D, X.w0.heap.size ≤ D ∧ d = { target := .collected D, args := #[] } ∧ w.heap[D]? = some (.deferred (some [])) ∧ (∀ d' ∈ ds, ∀ D', d'.target = .collected D' → D' ≠ D) ∧ MarksX X ds w

theorem MarksX.other {D : Nat} {o : Obj} : ∀ {ds : List Deferred}, (∀ d' ∈ ds, ∀ D', d'.target = .collected D' → D' ≠ D) → MarksX X ds w → MarksX X ds (w.putObj D o)
  | [], _, _ => trivial
  | d :: ds, hn, ⟨D', h1, h2, h3, h4, h5⟩ => by
    have hne : D' ≠ D := hn d List.mem_cons_self D' (by rw [h2])
    exact ⟨D', h1, h2, (World.putObj_heap_other hne).trans h3, h4, h5.other fun d' hd => hn d' (List.mem_cons_of_mem _ hd)⟩

/-- A function's end, its marks taken in. -/
theorem leavesM {F : Fence} {n : Nat} {fn : Func} {tmps : Array Value} {R : Ending → World → Prop} : ∀ (ds : List Deferred) (w : World), MarksX X ds w →
    (∀ w2, Aside X w w2 → ∃ v, (results fn tmps).run P w2 = .ok v w2 ∧ R (.returned v) w2) → LeavesInM F n P fn tmps R ds .returning w
  | [], w, _, h => h w Aside.refl
  | d :: ds, w, ⟨D, h1, h2, h3, h4, h5⟩, h => by
    have ha : Aside X w (w.putObj D (.deferred none)) := Aside.putObj h1 h3 (fun _ _ _ e => by cases e)
    refine ⟨(by intro e; cases e), .inl ⟨D, _, by rw [h2], run_takeDeferred h3, ?_⟩⟩
    exact leavesM ds _ (h5.other h4) fun w2 k => h w2 (ha.trans k)

theorem MarksX.ext {ρ' : Nat → Value} {H' : List Blk} (h : RH X ρ H w) (e : Ext X.B ρ H w ρ' H' w') : ∀ {ds : List Deferred}, MarksX X ds w → MarksX X ds w'
  | [], _ => trivial
  | d :: ds, ⟨D, h1, h2, h3, h4, h5⟩ => by
    have hlt : D < w.heap.size := (Array.getElem?_eq_some_iff.1 h3).1
    refine ⟨D, h1, h2, (e.hz D hlt fun ho => ?_).2.trans h3, h4, h5.ext h e⟩
    obtain ⟨_, _, _, hc⟩ := own_cells h ho
    rw [h3] at hc; cases hc
end
end Go.Eng
