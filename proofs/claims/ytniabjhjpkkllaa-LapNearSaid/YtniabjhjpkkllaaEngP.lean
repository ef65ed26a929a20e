/- The abstract evaluator: code, functions. -/
import Derived.Test.YtniabjhjpkkllaaEngO
import Derived.Test.YtniabjhjpkkllaaEngZ
set_option linter.unusedVariables false
set_option linter.unusedSimpArgs false
namespace Go.Eng
open Go Go.RowKit

def toExit : Out → Exit
  | .nrm => .normal
  | .exit id => .exit id
  | .ret => .ret

def AllL {α : Type} (R : α → Prop) : List α → Prop
  | [] => True
  | x :: l => R x ∧ AllL R l
theorem AllL.append {α : Type} {R : α → Prop} : ∀ {a b : List α}, AllL R (a ++ b) → AllL R a ∧ AllL R b
  | [], _, h => ⟨trivial, h⟩
  | _ :: a, _, h => let ⟨h1, h2⟩ := AllL.append (a := a) h.2; ⟨⟨h.1, h1⟩, h2⟩

/-- The loops of a code, each by its first region. -/
def loopsOf : Code → List (Nat × Code)
  | .seq a b => loopsOf a ++ loopsOf b
  | .cond _ a b => loopsOf a ++ loopsOf b
  | .block _ b => loopsOf b
  | .scope b => loopsOf b
  | .loop b => (match first b with
    | some i => [(i, b)]
    | none => []) ++ loopsOf b
  | .rangeFunc _ _ a b => loopsOf a ++ loopsOf b
  | _ => []

def joinsOf (L : Cuts) : Code → List (Nat × Code)
  | .seq a b => (match first b with
    | some i => match L.join i with
      | [] => []
      | _ => [(i, b)]
    | none => []) ++ (joinsOf L a ++ joinsOf L b)
  | .cond _ a b => joinsOf L a ++ joinsOf L b
  | .block _ b => joinsOf L b
  | .scope b => joinsOf L b
  | .loop b => joinsOf L b
  | .rangeFunc _ _ a b => joinsOf L a ++ joinsOf L b
  | _ => []

def drawsB (L : Cuts) : Code → Bool
  | .region id ops d => L.bad id || (match L.mix id with
    | true => d && mixB ops
    | false => !d || drawOK ops)
  | .seq a b => drawsB L a && drawsB L b
  | .cond _ a b => drawsB L a && drawsB L b
  | .block _ b => drawsB L b
  | .scope b => drawsB L b
  | .loop b => drawsB L b
  | .rangeFunc _ _ a b => drawsB L a && drawsB L b
  | _ => true

/-- The ranges over functions of a code. -/
def rangesOf : Code → List (Nat × List Nat × Code × Code)
  | .seq a b => rangesOf a ++ rangesOf b
  | .cond _ a b => rangesOf a ++ rangesOf b
  | .block _ b => rangesOf b
  | .scope b => rangesOf b
  | .loop b => rangesOf b
  | .rangeFunc _ ps a b => (match first (.seq a b) with
    | some i => [(i, ps.toList, a, b)]
    | none => []) ++ (rangesOf a ++ rangesOf b)
  | _ => []

def noRange : Code → Bool
  | .seq a b => noRange a && noRange b
  | .cond _ a b => noRange a && noRange b
  | .block _ b => noRange b
  | .scope b => noRange b
  | .loop b => noRange b
  | .rangeFunc _ _ _ _ => false
  | _ => true
/-- Is a slot not written? -/
def noDst (i : Nat) : Code → Bool
  | .region _ ops _ => noDstL i ops.toList
  | .seq a b => noDst i a && noDst i b
  | .cond _ a b => noDst i a && noDst i b
  | .block _ b => noDst i b
  | .scope b => noDst i b
  | .loop b => noDst i b
  | .rangeFunc _ _ _ _ => false
  | _ => true
def slotsB (ps : List Nat) (a b : Code) : List (Nat × Kd) → Bool
  | [] => true
  | (i, _) :: l => !(nmem i ps) && (noDst i a && noDst i b) && slotsB ps a b l
def outsB (ps : List Nat) (a b : Code) : List (Out × Lay) → Bool
  | [] => true
  | (_, l) :: r => slotsB ps a b l.slots && outsB ps a b r
def rangeB (ps : List Nat) (a b : Code) (c : RCut) : Bool := noRange a && noRange b && slotsB ps a b c.lay.slots && outsB ps a b c.outs

def loopK (c : Cut) (F : Vals c.lay → KK → Prop) (K : KK) : KK := fun o σ => match o with
  | .nrm => dec c.lay σ fun v => F v K
  | o => outK c.outs o σ K
def joinK (c : Cut) (K : KK) : KK := fun o σ => outK c.outs o σ K

/-- A loop is what its rounds say. -/
def LoopOK (C : Cfg) (L : Cuts) (c : Cut) (b : Code) : Prop :=
  ∃ Fk : Nat → Vals c.lay → KK → Prop, (∀ v K, c.F v K = ∃ k, Fk k v K) ∧ (∀ v K, Fk 0 v K = False) ∧ ∀ k v K, Fk (k + 1) v K = evCode C L b (st c.lay v) (loopK c (Fk k) K)
def JoinOK (C : Cfg) (L : Cuts) (c : Cut) (b : Code) : Prop := ∀ v K, c.F v K = evCode C L b (st c.lay v) (joinK c K)

def LoopsOK (C : Cfg) (L : Cuts) (c : Code) : Prop := AllL (fun p => AllL (fun cut => LoopOK C L cut p.2) (L.loop p.1)) (loopsOf c)
def JoinsOK (C : Cfg) (L : Cuts) (c : Code) : Prop := AllL (fun p => AllL (fun cut => JoinOK C L cut p.2) (L.join p.1)) (joinsOf L c)

/-- A range over a function is what its rounds say. -/
def RngOK (C : Cfg) (L : Cuts) (c : RCut) (ps : List Nat) (a b : Code) : Prop := rangeB ps a b c = true ∧ ∀ cv v K, c.F cv v K = rngSem C L c ps a b cv v K
def RngsOK (C : Cfg) (L : Cuts) (c : Code) : Prop := AllL (fun p => ∀ cut, L.rng p.1 = some cut → RngOK C L cut p.2.1 p.2.2.1 p.2.2.2) (rangesOf c)

structure CodeOK (C : Cfg) (L : Cuts) (c : Code) : Prop where
  loops : LoopsOK C L c
  joins : JoinsOK C L c
  draws : drawsB L c = true
  rngs : RngsOK C L c

section
variable {C : Cfg} {L : Cuts}

theorem pick_all {R : Cut → Prop} : ∀ {l : List Cut} {σ : St} {c : Cut}, AllL R l → pick l σ = some c → R c
  | [], _, _, _, h => by simp [pick] at h
  | [c], _, _, hl, h => by simp [pick] at h; subst h; exact hl.1
  | c :: d :: l, σ, c', hl, h => by
    simp only [pick] at h
    split at h
    · simp at h; subst h; exact hl.1
    · exact pick_all hl.2 h

theorem CodeOK.seq {a b : Code} (h : CodeOK C L (.seq a b)) : CodeOK C L a ∧ CodeOK C L b ∧ ∀ σ c, ((first b).bind fun i => pick (L.join i) σ) = some c → JoinOK C L c b := by
  obtain ⟨h1, h2, h3, h4⟩ := h
  simp only [LoopsOK, loopsOf] at h1
  simp only [JoinsOK, joinsOf] at h2
  simp only [drawsB, Bool.and_eq_true] at h3
  simp only [RngsOK, rangesOf] at h4
  obtain ⟨l1, l2⟩ := h1.append
  obtain ⟨j0, j12⟩ := h2.append
  obtain ⟨j1, j2⟩ := j12.append
  refine ⟨⟨l1, j1, h3.1, h4.append.1⟩, ⟨l2, j2, h3.2, h4.append.2⟩, fun σ c hc => ?_⟩
  cases hf : first b with
  | none => rw [hf] at hc; simp at hc
  | some i =>
    rw [hf] at hc
    simp only [Option.bind_some] at hc
    rw [hf] at j0
    simp only at j0
    split at j0
    · rename_i hn; rw [hn] at hc; simp [pick] at hc
    · exact pick_all j0.1 hc
theorem CodeOK.cond {x : Operand} {a b : Code} (h : CodeOK C L (.cond x a b)) : CodeOK C L a ∧ CodeOK C L b := by
  obtain ⟨h1, h2, h3, h4⟩ := h
  simp only [LoopsOK, loopsOf] at h1
  simp only [JoinsOK, joinsOf] at h2
  simp only [drawsB, Bool.and_eq_true] at h3
  simp only [RngsOK, rangesOf] at h4
  exact ⟨⟨h1.append.1, h2.append.1, h3.1, h4.append.1⟩, ⟨h1.append.2, h2.append.2, h3.2, h4.append.2⟩⟩
theorem CodeOK.block {i : Nat} {b : Code} (h : CodeOK C L (.block i b)) : CodeOK C L b := ⟨h.1, h.2, h.3, h.4⟩
theorem CodeOK.scope {b : Code} (h : CodeOK C L (.scope b)) : CodeOK C L b := ⟨h.1, h.2, h.3, h.4⟩
theorem CodeOK.region {i : Nat} {ops : Array Oper} {d : Bool} (h : CodeOK C L (.region i ops d)) (hb : L.bad i = false) (hm : L.mix i = false) (hd : d = true) : drawOK ops = true := by
  have := h.draws; simp only [drawsB, hb, hm, hd] at this; simpa using this
theorem CodeOK.mixed {i : Nat} {ops : Array Oper} {d : Bool} (h : CodeOK C L (.region i ops d)) (hb : L.bad i = false) (hm : L.mix i = true) : d = true ∧ mixB ops = true := by
  have := h.draws; simp only [drawsB, hb, hm] at this; simpa using this
theorem CodeOK.range {g : Operand} {ps : Array Tmp} {a b : Code} (h : CodeOK C L (.rangeFunc g ps a b)) : CodeOK C L a ∧ CodeOK C L b ∧ ∀ c, ((first (.seq a b)).bind L.rng) = some c → RngOK C L c ps.toList a b := by
  obtain ⟨h1, h2, h3, h4⟩ := h
  simp only [LoopsOK, loopsOf] at h1
  simp only [JoinsOK, joinsOf] at h2
  simp only [drawsB, Bool.and_eq_true] at h3
  simp only [RngsOK, rangesOf] at h4
  obtain ⟨k1, k2⟩ := h4.append
  refine ⟨⟨h1.append.1, h2.append.1, h3.1, k2.append.1⟩, ⟨h1.append.2, h2.append.2, h3.2, k2.append.2⟩, fun c hc => ?_⟩
  cases hf : first (.seq a b) with
  | none => rw [hf] at hc; simp at hc
  | some i =>
    rw [hf] at hc k1
    simp only [Option.bind_some] at hc
    exact k1.1 c hc
theorem CodeOK.loop {b : Code} (h : CodeOK C L (.loop b)) : CodeOK C L b ∧ ∀ σ c, ((first b).bind fun i => pick (L.loop i) σ) = some c → LoopOK C L c b := by
  obtain ⟨h1, h2, h3, h4⟩ := h
  simp only [LoopsOK, loopsOf] at h1
  refine ⟨⟨h1.append.2, h2, h3, h4⟩, fun σ c hc => ?_⟩
  cases hf : first b with
  | none => rw [hf] at hc; simp at hc
  | some i =>
    rw [hf] at hc
    simp only [Option.bind_some] at hc
    have := h1.append.1
    rw [hf] at this
    exact pick_all this.1 hc

/-! ### One outcome, or none -/

theorem sel_deC : ∀ (vs : List AV) (l : List (Bool × Cd)), Sel1 fun (J : CV l → Prop) => deC vs l J
  | [], [] => by simp only [deC]; exact Sel1.pt _
  | [], _ :: _ => by simp only [deC]; exact Sel1.no
  | _ :: _, [] => by simp only [deC]; exact Sel1.no
  | a :: as, (fr, c) :: r => by
    simp only [deC]
    cases a with
    | t fr' c' x => exact Sel1.br _ (Sel1.asC _ _ _ fun y => (sel_deC as r).then1 fun z => Sel1.pt _) Sel1.no
    | _ => exact Sel1.no

theorem sel_deS (tmps : List AV) (H : List Blk) : ∀ l : List (Nat × Kd), Sel1 fun (J : SV l → Prop) => deS tmps H l J
  | [] => by simp only [deS]; exact Sel1.pt _
  | (s, .tm fr c) :: l => by
    simp only [deS]
    cases lk tmps s with
    | t fr' c' x => exact Sel1.br _ (Sel1.asC _ _ _ fun y => (sel_deS tmps H l).then1 fun z => Sel1.pt _) Sel1.no
    | ns => cases c <;> first | exact Sel1.no | exact (sel_deS tmps H l).then1 fun z => Sel1.pt _
    | _ => exact Sel1.no
  | (s, .fx v) :: l => by simp only [deS]; exact (sel_deS tmps H l).then1 fun z => Sel1.pt _
  | (s, .cl f cl) :: l => by
    simp only [deS]
    cases lk tmps s with
    | fn g vs => exact Sel1.br _ ((sel_deC vs cl).then1 fun y => (sel_deS tmps H l).then1 fun z => Sel1.pt _) Sel1.no
    | _ => exact Sel1.no

theorem sel_deB (m : Ren) (H : List Blk) : ∀ (l : List BK) (r : Nat), Sel1 fun (J : BV l → Prop) => deB m H l r J
  | [], r => by simp only [deB]; exact Sel1.pt _
  | .val wr fr E c :: l, r => by
    simp only [deB]
    cases src m r with
    | some s =>
      simp only
      cases hk H s with
      | val wr' fr' E' c' x => exact Sel1.br _ (Sel1.asC _ _ _ fun y => (sel_deB m H l (r + 1)).then1 fun z => Sel1.pt _) Sel1.no
      | _ => exact Sel1.no
    | none => cases c <;> first | exact Sel1.no | exact Sel1.br _ ((sel_deB m H l (r + 1)).then1 fun z => Sel1.pt _) Sel1.no
  | .av v :: l, r => by simp only [deB]; exact (sel_deB m H l (r + 1)).then1 fun z => Sel1.pt _
  | .dead :: l, r => by simp only [deB]; exact (sel_deB m H l (r + 1)).then1 fun z => Sel1.pt _

theorem sel_dec (l : Lay) (σ : St) : Sel1 (dec l σ) := by
  unfold dec
  refine Sel1.br _ ?_ Sel1.no
  cases mtS σ.tmps l.slots [] with
  | none => exact Sel1.no
  | some m =>
    simp only
    cases mtB σ.H l.blks 0 m with
    | none => exact Sel1.no
    | some m' => exact Sel1.br _ ((sel_deS _ _ _).then1 fun x => (sel_deB _ _ _ _).then1 fun y => Sel1.pt _) Sel1.no

theorem sel_outK (outs : Out → Option Lay) (o : Out) (σ : St) : Sel2 (outK outs o σ) := by
  unfold outK
  cases outs o with
  | none => exact Sel2.no
  | some l => exact (sel_dec l σ).then2 fun v => Sel2.pt _ _

theorem sel_evOps (hS : ∀ f e, C.fn f = some e → SelE e) (ops : List Oper) : ∀ (l : List Oper) (tmps : List AV) (H : List Blk), Sel2 fun K => evOps C ops l tmps H K
  | [], tmps, H => by simp only [evOps]; exact Sel2.pt _ _
  | o :: l, tmps, H => by
    simp only [evOps]
    unfold want
    have A : ∀ t, Sel2 fun (K : List AV → List Blk → Prop) => evOp C false t H o fun v H' => evOps C ops l (putT t o.dst v) H' K := fun t => (sel_evOp hS false t o).then2 fun v H' => sel_evOps hS ops l _ H'
    have B : ∀ t, Sel2 fun (K : List AV → List Blk → Prop) => evOps C ops l (putT t o.dst skp) H K := fun t => sel_evOps hS ops l _ H
    cases o.guard with
    | none => exact A _
    | some g =>
      obtain ⟨j, b⟩ := g
      simp only
      cases onth ops j with
      | none => exact Sel2.no
      | some oj =>
        simp only
        cases oj.dst with
        | none => exact Sel2.no
        | some d =>
          simp only
          cases lk tmps d with
          | t fr c x => cases c <;> first | exact Sel2.no | (cases b; exact Sel2.br _ (B _) (A _); exact Sel2.br _ (A _) (B _))
          | tu vs => cases vs <;> first | exact B _ | exact Sel2.no
          | _ => exact Sel2.no

theorem sel_evHead (hS : ∀ f e, C.fn f = some e → SelE e) (ops : List Oper) (H : List Blk) : ∀ (l : List Oper) (tmps : List AV) (M : List Blk), Sel2 fun K => evHead C ops l tmps H M K
  | [], tmps, M => by simp only [evHead]; exact Sel2.pt _ _
  | o :: l, tmps, M => by
    simp only [evHead]
    unfold want
    have A : ∀ t, Sel2 fun (K : List AV → List Blk → Prop) => match carry o.op with
        | some (s, none) => evHead C ops l (putT t o.dst (lk t s)) H M K
        | some (s, some i) => match lk t s with
          | .tu vs => Br (Nat.blt i vs.length) (evHead C ops l (putT t o.dst (lk vs i)) H M K) False
          | _ => False
        | none => Br (refsLtL (hlen H) (opvs t o.op.operands.toList)) (evOp C true t H o fun v H' =>
            place (hotB o.dst l) (hlen H) H' M v fun v' M' => evHead C ops l (putT t o.dst v') H M' K) False := by
      intro t
      cases carry o.op with
      | none => exact Sel2.br _ ((sel_evOp hS true t o).then2 fun v H' => (sel_place _ _ _ _).then2 fun v' M' => sel_evHead hS ops H l _ M') Sel2.no
      | some p =>
        obtain ⟨s, i⟩ := p
        cases i with
        | none => exact sel_evHead hS ops H l _ M
        | some i =>
          simp only
          cases lk t s with
          | tu vs => exact Sel2.br _ (sel_evHead hS ops H l _ M) Sel2.no
          | _ => exact Sel2.no
    have B : ∀ t, Sel2 fun (K : List AV → List Blk → Prop) => evHead C ops l (putT t o.dst skp) H M K := fun t => sel_evHead hS ops H l _ M
    cases o.guard with
    | none => exact A _
    | some g =>
      obtain ⟨j, b⟩ := g
      simp only
      cases onth ops j with
      | none => exact Sel2.no
      | some oj =>
        simp only
        cases oj.dst with
        | none => exact Sel2.no
        | some d =>
          simp only
          cases lk tmps d with
          | t fr c x => cases c <;> first | exact Sel2.no | (cases b; exact Sel2.br _ (B _) (A _); exact Sel2.br _ (A _) (B _))
          | tu vs => cases vs <;> first | exact B _ | exact Sel2.no
          | _ => exact Sel2.no

theorem sel_evRegion (hS : ∀ f e, C.fn f = some e → SelE e) (ops : List Oper) (draw : Bool) (σ : St) : Sel1 (evRegion C ops draw σ) := by
  unfold evRegion
  cases draw with
  | false => exact (sel_evOps hS ops ops σ.tmps σ.H).then1 fun t H => Sel1.pt _
  | true => exact (sel_evHead hS ops σ.H _ σ.tmps []).then1 fun t M => (sel_evOps hS ops _ t (happ σ.H M)).then1 fun t H => Sel1.pt _

/-- Cuts that go on with one outcome. -/
def SelC (c : Cut) : Prop := ∀ v, Sel2 (c.F v)

theorem sel_loop (c : Cut) {b : Code} (hb : ∀ σ, Sel2 fun K => evCode C L b σ K) (h : LoopOK C L c b) : SelC c := by
  obtain ⟨Fk, hF, h0, hs⟩ := h
  have hsel : ∀ k v, Sel2 (Fk k v) := by
    intro k
    induction k with
    | zero => intro v; exact .inl fun K hk => by rw [h0] at hk; exact hk
    | succ k ih =>
      intro v
      have e : Fk (k + 1) v = fun K => evCode C L b (st c.lay v) (loopK c (Fk k) K) := funext fun K => hs k v K
      rw [e]
      refine (hb _).then2 (G := fun o σ K => loopK c (Fk k) K o σ) fun o σ => ?_
      cases o with
      | nrm => exact (sel_dec c.lay σ).then2 fun v => ih v
      | exit i => exact sel_outK _ _ _
      | ret => exact sel_outK _ _ _
  have hup : ∀ k v K, Fk k v K → Fk (k + 1) v K := by
    intro k
    induction k with
    | zero => intro v K h; rw [h0] at h; exact h.elim
    | succ k ih =>
      intro v K h
      rw [hs] at h ⊢
      rcases hb (st c.lay v) with hn | ⟨o, σ, hn⟩
      · exact (hn _ h).elim
      · have h := (hn _).1 h
        refine (hn _).2 ?_
        cases o with
        | nrm =>
          simp only [loopK] at h ⊢
          rcases sel_dec c.lay σ with hd | ⟨v', hd⟩
          · exact (hd _ h).elim
          · exact (hd _).2 (ih v' K ((hd _).1 h))
        | exit i => exact h
        | ret => exact h
  have hle : ∀ k d v K, Fk k v K → Fk (k + d) v K := by
    intro k d v K h
    induction d with
    | zero => exact h
    | succ d ih => exact hup _ _ _ ih
  intro v
  by_cases hex : ∃ k K, Fk k v K
  · obtain ⟨k, K, hk⟩ := hex
    rcases hsel k v with hn | ⟨o, σ, hn⟩
    · exact (hn K hk).elim
    · refine .inr ⟨o, σ, fun K' => ?_⟩
      rw [hF]
      constructor
      · rintro ⟨k', hk'⟩
        have h1 := hle k' k v K' hk'
        rcases hsel (k' + k) v with hn2 | ⟨o2, σ2, hn2⟩
        · exact (hn2 _ h1).elim
        · have h2 : Fk (k' + k) v (fun a b => a = o ∧ b = σ) := by
            have := hle k k' v (fun a b => a = o ∧ b = σ) ((hn _).2 ⟨rfl, rfl⟩)
            rwa [Nat.add_comm] at this
          obtain ⟨e1, e2⟩ := (hn2 _).1 h2
          subst e1 e2
          exact (hn2 _).1 h1
      · intro hk'
        exact ⟨k, (hn _).2 hk'⟩
  · refine .inl fun K h => ?_
    rw [hF] at h
    obtain ⟨k, hk⟩ := h
    exact hex ⟨k, K, hk⟩

theorem sel_evMix (hS : ∀ f e, C.fn f = some e → SelE e) (n0 : Nat) : ∀ (l : List Oper) (T : List AV) (H : List Blk), Sel2 fun K => evMix C n0 l T H K
  | [], T, H => by simp only [evMix]; exact Sel2.pt _ _
  | o :: l, T, H => by
    simp only [evMix]
    cases mixPure o.op with
    | true => exact Sel2.br _ ((sel_evOp hS false T o).then2 fun v H' => sel_evMix hS n0 l _ H') Sel2.no
    | false => exact Sel2.br _ ((sel_evOp hS false T o).then2 fun v H' => sel_evMix hS n0 l _ H') Sel2.no
theorem sel_pureC : ∀ (vs : List AV) (H : List Blk), Sel2 fun K => pureC H vs K
  | [], H => by simp only [pureC]; exact Sel2.pt _ _
  | v :: vs, H => by
    simp only [pureC]
    cases v with
    | t fr c x => exact (sel_pureC vs H).then2 fun ws H' => Sel2.pt _ _
    | op r c p =>
      cases p with
      | nil => exact (sel_toT true (.op r c []) (.ptr c)).then2 fun fr y H1 => (sel_pureC vs H1).then2 fun ws H' => Sel2.pt _ _
      | cons _ _ => exact Sel2.no
    | _ => exact Sel2.no

theorem sel_decJ (o : Out) (σ : St) : ∀ l : List (Out × Lay), Sel1 fun (J : JV l → Prop) => decJ o σ l J
  | [] => by simp only [decJ]; exact Sel1.no
  | (o', l) :: r => by simp only [decJ]; exact Sel1.br _ ((sel_dec l σ).then1 fun v => Sel1.pt _) ((sel_decJ o σ r).then1 fun j => Sel1.pt _)

theorem sel_jK : ∀ (l : List (Out × Lay)) (j : JV l), Sel2 fun K => jK l K j
  | [], j => by simp only [jK]; exact Sel2.no
  | (o, l) :: r, .inl v => by simp only [jK, jon]; exact Sel2.pt _ _
  | (o, l) :: r, .inr j => by simp only [jK, jon]; exact sel_jK r j

/-- What is ranged over goes on with one answer, or with none, where its rounds do. -/
def SelIt (it : ItE) : Prop := ∀ (caps : List AV) (S : Type) (rd : Rnd S), (∀ us s, Sel2 (rd us s)) → ∀ s, Sel1 fun K => it caps S rd s K

theorem sel_rng (hI : ∀ f e, C.it f = some e → SelIt e) {c : RCut} {ps : List Nat} {a b : Code} (ha : ∀ σ, Sel2 fun K => evCode C L a σ K) (hb : ∀ σ, Sel2 fun K => evCode C L b σ K) (cv : CV c.caps) (v : Vals c.lay) :
    Sel2 fun K => rngSem C L c ps a b cv v K := by
  unfold rngSem
  cases hc : C.it c.f with
  | none => exact Sel2.no
  | some it =>
    refine (hI _ _ hc _ _ _ (fun us s => ?_) (.go v)).then2 (G := fun s K => finR c K s) fun s => ?_
    · unfold rndE
      cases s with
      | jp j => exact Sel2.no
      | go v =>
        refine (sel_deC us c.es).then2 fun x => (ha _).then2 (G := fun o σ Kb => match o with
          | .nrm => evCode C L b σ (rEnd c Kb)
          | _ => False) fun o σ => ?_
        cases o with
        | nrm =>
          refine (hb σ).then2 (G := fun o σ Kb => rEnd c Kb o σ) fun o σ => ?_
          unfold rEnd
          cases o with
          | nrm => exact (sel_dec _ _).then2 fun v => Sel2.pt _ _
          | exit i => exact (sel_decJ _ _ _).then2 fun j => Sel2.pt _ _
          | ret => exact (sel_decJ _ _ _).then2 fun j => Sel2.pt _ _
        | exit i => exact Sel2.no
        | ret => exact Sel2.no
    · unfold finR
      cases s with
      | go v => exact Sel2.pt _ _
      | jp j => exact sel_jK _ j

theorem sel_evCode (hS : ∀ f e, C.fn f = some e → SelE e) (hI : ∀ f e, C.it f = some e → SelIt e) : ∀ (c : Code) (_ : CodeOK C L c) (σ : St), Sel2 fun K => evCode C L c σ K
  | .skip, _, σ => by simp only [evCode]; exact Sel2.pt _ _
  | .label _, _, σ => by simp only [evCode]; exact Sel2.pt _ _
  | .region id ops d, _, σ => by
    simp only [evCode]
    cases L.bad id with
    | true => exact Sel2.no
    | false =>
      simp only
      cases L.mix id with
      | true => exact (sel_evMix hS _ _ _ _).then2 fun t H => Sel2.pt _ _
      | false => exact (sel_evRegion hS _ _ σ).then2 fun σ' => Sel2.pt _ _
  | .seq a b, h, σ => by
    obtain ⟨ha, hb, hj⟩ := h.seq
    simp only [evCode]
    refine (sel_evCode hS hI a ha σ).then2 (G := fun o σ' K => match o with
      | .nrm => match (first b).bind fun i => pick (L.join i) σ' with
        | some c => dec c.lay σ' fun v => c.F v K
        | none => evCode C L b σ' K
      | o => K o σ') fun o σ' => ?_
    cases o with
    | nrm =>
      simp only
      cases hc : (first b).bind fun i => pick (L.join i) σ' with
      | none => exact sel_evCode hS hI b hb σ'
      | some c =>
        refine (sel_dec c.lay σ').then2 fun v => ?_
        have e : c.F v = fun K => evCode C L b (st c.lay v) (joinK c K) := funext fun K => hj _ c hc v K
        rw [e]
        exact (sel_evCode hS hI b hb _).then2 (G := fun o σ K => joinK c K o σ) fun o σ => sel_outK _ _ _
    | exit i => exact Sel2.pt _ _
    | ret => exact Sel2.pt _ _
  | .cond x a b, h, σ => by
    obtain ⟨ha, hb⟩ := h.cond
    simp only [evCode]
    cases opv σ.tmps x with
    | t fr c y => cases c <;> first | exact Sel2.no | exact Sel2.br _ (sel_evCode hS hI a ha _) (sel_evCode hS hI b hb _)
    | _ => exact Sel2.no
  | .block id b, h, σ => by
    simp only [evCode]
    refine (sel_evCode hS hI b h.block σ).then2 (G := fun o σ' K => match o with
      | .exit j => Br (Nat.beq j id) (K .nrm σ') (K (.exit j) σ')
      | o => K o σ') fun o σ' => ?_
    cases o with
    | nrm => exact Sel2.pt _ _
    | exit i => exact Sel2.br _ (Sel2.pt _ _) (Sel2.pt _ _)
    | ret => exact Sel2.pt _ _
  | .scope b, h, σ => by simp only [evCode]; exact sel_evCode hS hI b h.scope σ
  | .loop b, h, σ => by
    obtain ⟨hb, hl⟩ := h.loop
    simp only [evCode]
    cases hc : (first b).bind fun i => pick (L.loop i) σ with
    | none => exact Sel2.no
    | some c =>
      have := sel_loop c (fun σ => sel_evCode hS hI b hb σ) (hl _ c hc)
      exact (sel_dec c.lay σ).then2 fun v => this v
  | .exit _, _, σ => by simp only [evCode]; exact Sel2.pt _ _
  | .ret, _, σ => by simp only [evCode]; exact Sel2.pt _ _
  | .rangeFunc g ps a b, h, σ => by
    obtain ⟨ha, hb, hr⟩ := h.range
    simp only [evCode]
    cases opv σ.tmps g with
    | fn f cs =>
      simp only
      cases hc : (first (.seq a b)).bind L.rng with
      | none => exact Sel2.no
      | some c =>
        refine Sel2.br _ ((sel_pureC _ _).then2 fun cs' H' => (sel_deC _ _).then2 fun cv => (sel_dec _ _).then2 fun v => ?_) Sel2.no
        have e : c.F cv v = fun K => rngSem C L c ps.toList a b cv v K := funext fun K => (hr c hc).2 cv v K
        rw [e]
        exact sel_rng hI (fun σ => sel_evCode hS hI a ha σ) (fun σ => sel_evCode hS hI b hb σ) cv v
    | _ => exact Sel2.no
  | .goto _, _, σ => by simp only [evCode]; exact Sel2.no
  | .refuse _, _, σ => by simp only [evCode]; exact Sel2.no

end
end Go.Eng
