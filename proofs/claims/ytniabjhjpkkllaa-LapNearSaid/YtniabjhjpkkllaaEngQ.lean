/- The abstract evaluator: it is right. -/
import Derived.Test.YtniabjhjpkkllaaEngY
import Derived.RangeFuncIn
set_option linter.unusedVariables false
set_option linter.unusedSimpArgs false
namespace Go.Eng
open Go Go.RowKit

section
variable {P : Program} {X : Ctx} {C : Cfg} {L : Cuts}

/-- What is known at a place. -/
structure At (X : Ctx) (ro : Option Nat) (J : Array Value → Prop) (σ : St) (a : Act) (w : World) : Prop where
  ex : ∃ ρ, RH X ρ σ.H w ∧ TR (hlen σ.H) X.B ρ σ.H w σ.tmps a
  df : ro = none → MarksX X a.defers w
  sz : J a.tmps

theorem At.dec {ro : Option Nat} {J : Array Value → Prop} {σ : St} {a : Act} {w : World} (h : At X ro J σ a w) {l : Lay} {G : Vals l → Prop} (hd : dec l σ G) : ∃ v, G v ∧ At X ro J (st l v) a w := by
  obtain ⟨⟨ρ, h1, h2⟩, h3, h4⟩ := h
  obtain ⟨v, hJ, ρ', h5, h6⟩ := dec_spec h1 h2 hd
  exact ⟨v, hJ, ⟨ρ', h5, h6⟩, h3, h4⟩

/-- A post: some outcome that the evaluator goes on with. -/
def Post (X : Ctx) (ro : Option Nat) (J : Array Value → Prop) (K : KK) : Exit → Act → World → Prop := fun e a w => ∃ o σ, e = toExit o ∧ K o σ ∧ At X ro J σ a w

/-! ### Ranges over functions -/

def jst : (l : List (Out × Lay)) → JV l → St
  | [], e => nomatch e
  | (_, l) :: _, .inl v => st l v
  | _ :: r, .inr j => jst r j
def jo : (l : List (Out × Lay)) → JV l → Out
  | [], e => nomatch e
  | (o, _) :: _, .inl _ => o
  | _ :: r, .inr j => jo r j
def jcode : Out → Code
  | .exit i => .exit i
  | _ => .ret
theorem jK_eq {K : KK} : ∀ (l : List (Out × Lay)) (j : JV l), jK l K j → K (jo l j) (jst l j)
  | [], e, _ => nomatch e
  | (_, _) :: _, .inl _, h => h
  | _ :: r, .inr j, h => jK_eq r j h
theorem outB_eq : ∀ {o o' : Out}, outB o o' = true → o = o' ∧ o ≠ .nrm
  | .ret, .ret, _ => ⟨rfl, by intro h; cases h⟩
  | .exit i, .exit j, h => ⟨by rw [Nat.eq_of_beq_eq_true h], by intro h; cases h⟩
  | .nrm, _, h => by cases ‹Out› <;> simp [outB] at h
  | .ret, .nrm, h => by simp [outB] at h
  | .ret, .exit _, h => by simp [outB] at h
  | .exit _, .nrm, h => by simp [outB] at h
  | .exit _, .ret, h => by simp [outB] at h

theorem At.decJ {ro : Option Nat} {J : Array Value → Prop} {σ : St} {a : Act} {w : World} (h : At X ro J σ a w) {o : Out} : ∀ {l : List (Out × Lay)} {G : JV l → Prop}, decJ o σ l G → ∃ j, G j ∧ jo l j = o ∧ o ≠ .nrm ∧ At X ro J (jst l j) a w
  | [], _, hd => hd.elim
  | (o', l) :: r, G, hd => by
    simp only [Eng.decJ] at hd
    rcases Br_cases hd with ⟨e, hd⟩ | ⟨_, hd⟩
    · obtain ⟨v, hG, hat⟩ := h.dec hd
      exact ⟨.inl v, hG, (outB_eq e).1.symm, (outB_eq e).2, hat⟩
    · obtain ⟨j, hG, h1, h2, h3⟩ := At.decJ h hd
      exact ⟨.inr j, hG, h1, h2, h3⟩

theorem length_clV : ∀ (l : List (Bool × Cd)) (y : CV l), (clV l y).length = l.length
  | [], _ => rfl
  | _ :: l, y => by simp [clV, length_clV l y.2]
theorem allT_clV : ∀ (l : List (Bool × Cd)) (y : CV l), allT (clV l y) = true
  | [], _ => rfl
  | _ :: l, y => by simp only [clV, allT]; exact allT_clV l y.2

theorem pureC_spec {ρ : Nat → Value} {w : World} : ∀ (cs : List AV) {H : List Blk} {us : List Value} {K : List AV → List Blk → Prop}, RH X ρ H w → VRs (hlen H) X.B ρ H w cs us → pureC H cs K →
    ∃ cs' H', K cs' H' ∧ Ext X.B ρ H w ρ H' w ∧ RH X ρ H' w ∧ VRs (hlen H') X.B ρ H' w cs' us
  | [], H, us, K, h, hv, he => ⟨[], H, he, Ext.refl, h, hv⟩
  | v :: vs, H, us, K, h, hv, he => by
    simp only [VRs] at hv
    obtain ⟨u, r, rfl, h1, h2⟩ := hv
    simp only [pureC] at he
    split at he
    · obtain ⟨cs', H', hK, e, h', hvs⟩ := pureC_spec vs h h2 he
      refine ⟨_, H', hK, e, h', ?_⟩
      simp only [VRs]
      exact ⟨u, r, rfl, VR.ext e h1, hvs⟩
    · obtain ⟨fr, y, H1, cs, hK, e1, hh1, hvt, hpk, _⟩ := toT_spec h h1 he
      obtain ⟨cs', H', hK, e, h', hvs⟩ := pureC_spec vs hh1 (VRs.ext e1 h2) hK
      refine ⟨_, H', hK, e1.trans e, h', ?_⟩
      simp only [VRs]
      refine ⟨u, r, rfl, ?_, hvs⟩
      simp only [VR]
      exact ⟨cs, VT.ext e hvt, hpk⟩
    · exact he.elim

theorem lk_stS {i : Nat} : ∀ (l : List (Nat × Kd)) (x : SV l) (t : List AV), lk (stS l x t) i = lk t i ∨ i ∈ l.map Prod.fst
  | [], _, _ => .inl rfl
  | (s, .tm _ _) :: l, x, t => by
    simp only [stS, lk_up, List.map_cons, List.mem_cons]
    split
    · rename_i e; exact .inr (.inl e.1)
    · exact (lk_stS l x.2 t).imp id .inr
  | (s, .fx _) :: l, x, t => by
    simp only [stS, lk_up, List.map_cons, List.mem_cons]
    split
    · rename_i e; exact .inr (.inl e.1)
    · exact (lk_stS l x t).imp id .inr
  | (s, .cl _ _) :: l, x, t => by
    simp only [stS, lk_up, List.map_cons, List.mem_cons]
    split
    · rename_i e; exact .inr (.inl e.1)
    · exact (lk_stS l x.2 t).imp id .inr

/-- Slots that stay: what a layout says of them holds of the frame that they were in. -/
theorem TR.fixed {n : Nat} {B : Bz} {ρ : Nat → Value} {H : List Blk} {w : World} {l : Lay} {v : Vals l} {a a' : Act} (h : TR n B ρ H w (st l v).tmps a) (hs : a.tmps.size = a'.tmps.size) (hi : ∀ i, i ∈ l.slots.map Prod.fst → a.tmps.getD i undef = a'.tmps.getD i undef) : TR n B ρ H w (st l v).tmps a' := by
  refine ⟨by rw [← hs]; exact h.1, fun i => ?_⟩
  rcases lk_stS (i := i) l.slots v.1 (anys l.n) with e | e
  · have : lk (st l v).tmps i = .any := e.trans (lk_anys _ _)
    rw [this]; simp [VR]
  · rw [← hi i e]; exact h.2 i

/-- The slots of the rounds' states. -/
def inSl (c : RCut) (i : Nat) : Prop := i ∈ c.lay.slots.map Prod.fst ∨ ∃ p ∈ c.outs, i ∈ p.2.slots.map Prod.fst
theorem slotsB_mem {ps : List Nat} {a b : Code} {i : Nat} : ∀ {l : List (Nat × Kd)}, slotsB ps a b l = true → i ∈ l.map Prod.fst → nmem i ps = false ∧ noDst i a = true ∧ noDst i b = true
  | [], _, h => by simp at h
  | (j, _) :: l, h, hi => by
    simp only [slotsB, Bool.and_eq_true, Bool.not_eq_true'] at h
    simp only [List.map_cons, List.mem_cons] at hi
    rcases hi with rfl | hi
    · exact ⟨h.1.1, h.1.2.1, h.1.2.2⟩
    · exact slotsB_mem h.2 hi
theorem outsB_mem {ps : List Nat} {a b : Code} {i : Nat} : ∀ {l : List (Out × Lay)}, outsB ps a b l = true → (∃ p ∈ l, i ∈ p.2.slots.map Prod.fst) → nmem i ps = false ∧ noDst i a = true ∧ noDst i b = true
  | [], _, ⟨_, h, _⟩ => by simp at h
  | (o, l) :: r, h, ⟨p, hp, hi⟩ => by
    simp only [outsB, Bool.and_eq_true] at h
    rcases List.mem_cons.1 hp with rfl | hp
    · exact slotsB_mem h.1 hi
    · exact outsB_mem h.2 ⟨p, hp, hi⟩
theorem rangeB_mem {ps : List Nat} {a b : Code} {c : RCut} (h : rangeB ps a b c = true) {i : Nat} (hi : inSl c i) : nmem i ps = false ∧ noDst i a = true ∧ noDst i b = true := by
  simp only [rangeB, Bool.and_eq_true] at h
  rcases hi with hi | hi
  · exact slotsB_mem h.1.2 hi
  · exact outsB_mem h.2 hi

theorem jst_fixed {n : Nat} {B : Bz} {ρ : Nat → Value} {H : List Blk} {w : World} {a a' : Act} (hs : a.tmps.size = a'.tmps.size) : ∀ {l : List (Out × Lay)} {j : JV l}, (∀ p ∈ l, ∀ i, i ∈ p.2.slots.map Prod.fst → a.tmps.getD i undef = a'.tmps.getD i undef) → TR n B ρ H w (jst l j).tmps a → TR n B ρ H w (jst l j).tmps a'
  | [], e, _, _ => nomatch e
  | (_, l) :: r, .inl v, hi, h => TR.fixed h hs (hi _ List.mem_cons_self)
  | (_, l) :: r, .inr j, hi, h => jst_fixed (l := r) (j := j) hs (fun p hp => hi p (List.mem_cons_of_mem _ hp)) h

theorem stC_forall {J : Nat → Array Value → Prop} : ∀ {c : Code}, (∀ i, StC (J i) c) → StC (fun t => ∀ i, J i t) c
  | .region _ ops _, h => fun o ho a u hj i => h i o ho a u (hj i)
  | .seq a b, h => ⟨stC_forall fun i => (h i).1, stC_forall fun i => (h i).2⟩
  | .cond _ a b, h => ⟨stC_forall fun i => (h i).1, stC_forall fun i => (h i).2⟩
  | .block _ b, h => stC_forall (c := b) h
  | .scope b, h => stC_forall (c := b) h
  | .loop b, h => stC_forall (c := b) h
  | .rangeFunc _ _ _ _, h => trivial
  | .skip, _ | .label _, _ | .exit _, _ | .ret, _ | .goto _, _ | .refuse _, _ => trivial
theorem stC_imp {p : Prop} {J : Array Value → Prop} : ∀ {c : Code}, (p → StC J c) → StC (fun t => p → J t) c
  | .region _ ops _, h => fun o ho a u hj hp => h hp o ho a u (hj hp)
  | .seq a b, h => ⟨stC_imp fun i => (h i).1, stC_imp fun i => (h i).2⟩
  | .cond _ a b, h => ⟨stC_imp fun i => (h i).1, stC_imp fun i => (h i).2⟩
  | .block _ b, h => stC_imp (c := b) h
  | .scope b, h => stC_imp (c := b) h
  | .loop b, h => stC_imp (c := b) h
  | .rangeFunc _ _ _ _, h => trivial
  | .skip, _ | .label _, _ | .exit _, _ | .ret, _ | .goto _, _ | .refuse _, _ => trivial

def setL : List Nat → List Value → Array Value → Array Value
  | p :: ps, v :: vs, t => setL ps vs (t.setIfInBounds p v)
  | _, _, t => t
theorem setL_eq : ∀ (ps : List Nat) (us : List Value) (t : Array Value), (ps.toArray.zip us.toArray).foldl (fun (t : Array Value) (x : Nat × Value) => t.setIfInBounds x.1 x.2) t = setL ps us t := by
  intro ps us t
  rw [← Array.foldl_toList]
  have : (ps.toArray.zip us.toArray).toList = ps.zip us := by simp
  rw [this]
  induction ps generalizing us t with
  | nil => simp [setL]
  | cons p ps ih =>
    cases us with
    | nil => simp [setL]
    | cons u us => simp only [List.zip_cons_cons, List.foldl_cons, setL]; exact ih us _ (by simp)
theorem size_setL : ∀ (ps : List Nat) (us : List Value) (t : Array Value), (setL ps us t).size = t.size
  | [], _, _ => rfl
  | _ :: _, [], _ => rfl
  | p :: ps, u :: us, t => by simp only [setL, size_setL ps us]; simp
theorem getD_setL {i : Nat} : ∀ (ps : List Nat) (us : List Value) (t : Array Value), nmem i ps = false → (setL ps us t).getD i undef = t.getD i undef
  | [], _, _, _ => rfl
  | _ :: _, [], _, _ => rfl
  | p :: ps, u :: us, t, h => by
    simp only [nmem, Bool.or_eq_false_iff] at h
    have hne : p ≠ i := fun e => by have := h.1; rw [e] at this; simp at this
    simp only [setL]
    rw [getD_setL ps us _ h.2]
    simp [Array.getElem?_setIfInBounds_ne hne]
theorem TR.setL {n : Nat} {B : Bz} {ρ : Nat → Value} {H : List Blk} {w : World} : ∀ (ps : List Nat) {vs : List AV} {us : List Value} {t : List AV} {T : Array Value} {ds : List Deferred}, TR n B ρ H w t { tmps := T, defers := ds } → VRs n B ρ H w vs us →
    TR n B ρ H w (upL t ps vs) { tmps := Eng.setL ps us T, defers := ds }
  | [], vs, us, t, T, ds, h, _ => by cases vs <;> cases us <;> exact h
  | p :: ps, [], us, t, T, ds, h, hv => by simp only [VRs] at hv; subst hv; exact h
  | p :: ps, v :: vs, us, t, T, ds, h, hv => by
    simp only [VRs] at hv
    obtain ⟨u, r, rfl, h1, h2⟩ := hv
    simp only [upL, Eng.setL]
    exact TR.setL ps (h.put (some p) h1) h2

/-- What has gone on since the call's beginning. -/
structure Hist (X : Ctx) (O : Nat → Prop) (w : World) : Prop where
  os : w.os = X.w0.os
  tape : w.tape = X.w0.tape
  output : w.output = X.w0.output
  size : X.w0.heap.size ≤ w.heap.size
  keep : ∀ b, b < X.w0.heap.size → ¬ X.own0 b → w.heap[b]? = X.w0.heap[b]?
  own : ∀ b, b < X.w0.heap.size → O b → X.own0 b
theorem RH.hist {ρ : Nat → Value} {H : List Blk} {w : World} (h : RH X ρ H w) : Hist X (Own ρ H) w := ⟨h.os, h.tape, h.output, h.size, h.keep, h.own⟩
theorem Hist.rh {ρ : Nat → Value} {H : List Blk} {w : World} (hb : ∀ b, X.w0.heap.size ≤ b → X.B.N b) (k : Hist X (Own ρ H) w) (h : RHs X.B ρ H w) : RH X ρ H w := ⟨h.blk, h.inj, h.new, k.os, k.tape, k.output, k.size, k.keep, k.own, hb⟩

theorem MarksX.lt {w : World} : ∀ {ds : List Deferred}, MarksX X ds w → ∀ d ∈ ds, ∀ D, d.target = .collected D → D < w.heap.size
  | [], _, _, h, _, _ => by cases h
  | d :: ds, ⟨D, _, h2, h3, _, h5⟩, d', hd, D', hD => by
    rcases List.mem_cons.1 hd with rfl | hd
    · rw [h2] at hD
      cases hD
      exact (Array.getElem?_eq_some_iff.1 h3).1
    · exact h5.lt d' hd D' hD
/-- Records stay where they are not turned. -/
theorem MarksX.stay {w w' : World} (h : ∀ (b : Nat) (ds : Option (List Deferred)), w.heap[b]? = some (.deferred ds) → w'.heap[b]? = w.heap[b]?) : ∀ {ds : List Deferred}, MarksX X ds w → MarksX X ds w'
  | [], _ => trivial
  | d :: ds, ⟨D, h1, h2, h3, h4, h5⟩ => ⟨D, h1, h2, (h D _ h3).trans h3, h4, h5.stay h⟩

/-- The loop's record. -/
def recOf (fn : FuncId) (a : Act) (ps : Array Tmp) (asg body : Code) (D : Nat) (st : LoopState) (pe : Option Code) : Loop := { state := st, pending := pe, fn, tmps := a.tmps, params := ps, assign := asg, body, defers := D }

def sst (c : RCut) : Rs (Vals c.lay) (JV c.outs) → St
  | .go v => st c.lay v
  | .jp j => jst c.outs j
def srec (c : RCut) (fn : FuncId) (a : Act) (ps : Array Tmp) (asg body : Code) (D : Nat) : Rs (Vals c.lay) (JV c.outs) → Loop
  | .go _ => recOf fn a ps asg body D .ready none
  | .jp j => recOf fn a ps asg body D .done (some (jcode (jo c.outs j)))

/-- What holds of the caller between two rounds. -/
structure RI (X : Ctx) (c : RCut) (fn : FuncId) (a : Act) (ps : Array Tmp) (asg body : Code) (D : Nat) (s : Rs (Vals c.lay) (JV c.outs)) (O O' : Nat → Prop) (W : World) : Prop where
  other : ∀ b, O' b → X.w0.heap.size ≤ b ∧ CellsAt W b
  mark : W.heap[D]? = some (.deferred (some []))
  marks : MarksX X a.defers W
  loop : W.heap[D + 1]? = some (.loop (srec c fn a ps asg body D s))
  hist : Hist X O W
  bsz : ∀ b, X.w0.heap.size ≤ b → X.B.N b
  jn : ∀ j, s = .jp j → jo c.outs j ≠ .nrm
  ex : ∃ ρ, O = Own ρ (sst c s).H ∧ RHs (mns X.B O') ρ (sst c s).H W ∧ TR (hlen (sst c s).H) (mns X.B O') ρ (sst c s).H W (sst c s).tmps a

theorem ri_inv (c : RCut) (fn : FuncId) (a : Act) (ps : Array Tmp) (asg body : Code) (D : Nat) : Inv (RI X c fn a ps asg body D) := by
  constructor
  · rintro s O O' W ⟨h1, h2, h3, h4, h5, hb, hjn, ρ, rfl, h6, h7⟩ b ho
    refine ⟨(own_cells h6 ho).lt, ?_⟩
    obtain ⟨r, hr, hl, hbk⟩ := ho
    exact (h6.new r b hr (live_dead hl) hbk).2
  · rintro s O O' O'' W W' ⟨h1, h2, h3, h4, h5, hb, hjn, ρ, rfl, h6, h7⟩ mv hO
    have nocell : ∀ (b : Nat) (o : Obj), W.heap[b]? = some o → (∀ cs E f, o ≠ .cells cs E f) → W'.heap[b]? = W.heap[b]? := fun b o ho hn => mv.keep b (Array.getElem?_eq_some_iff.1 ho).1 fun hO' => by
      obtain ⟨_, cs, E, f, hc⟩ := h1 b hO'
      rw [ho] at hc; cases hc
      exact hn _ _ _ rfl
    have hz : ∀ fr b, CellsAt W b → Zn (mns X.B O') ρ (sst c s).H fr b → Zn (mns X.B O'') ρ (sst c s).H fr b ∧ W'.heap[b]? = W.heap[b]? := by
      intro fr b hc hzn
      have hO' : ¬ O' b := hzn.2.elim (fun h => h.2) (fun h => h.2.2)
      have hO2 : ¬ O'' b := fun h => hO' ((hO b h).1 hc.lt)
      exact ⟨⟨hzn.1, hzn.2.elim (fun h => .inl ⟨h.1, hO2⟩) (fun h => .inr ⟨h.1, h.2.1, hO2⟩)⟩, mv.keep b hc.lt hO'⟩
    refine ⟨fun b ho => ⟨?_, (hO b ho).2⟩, (nocell _ _ h2 (by intro _ _ _ h; cases h)).trans h2, h3.stay fun b ds hd => nocell _ _ hd (by intro _ _ _ h; cases h), (nocell _ _ h4 (by intro _ _ _ h; cases h)).trans h4,
      ⟨mv.os.trans h5.os, mv.tape.trans h5.tape, mv.output.trans h5.output, Nat.le_trans h5.size mv.size, fun b hlt ho => ?_, h5.own⟩, hb, hjn, ρ, rfl, ?_, h7.move hz mv.size⟩
    · rcases Nat.lt_or_ge b W.heap.size with hlt | hge
      · exact (h1 b ((hO b ho).1 hlt)).1
      · exact Nat.le_trans h5.size hge
    · exact (mv.keep b (Nat.lt_of_lt_of_le hlt h5.size) fun h => by have := (h1 b h).1; omega).trans (h5.keep b hlt ho)
    · refine h6.move hz (fun b ho => ?_) mv.size fun b hge => ⟨hb b (Nat.le_trans h5.size (Nat.le_trans mv.size hge)), fun h => by have := (hO b h).2.lt; omega⟩
      have hN : (mns X.B O').N b := by
        obtain ⟨r, hr, hl, hbk⟩ := ho
        exact h6.new r b hr (live_dead hl) hbk
      have hlt := (own_cells h6 ho).lt
      exact ⟨mv.keep b hlt hN.2, hN.1, fun h => hN.2 ((hO b h).1 hlt)⟩

/-- One round. -/
theorem round_ok {c : RCut} {fn : FuncId} {a : Act} {ps : Array Tmp} {asg body : Code} {D : Nat} (hX : X.w0.heap.size ≤ D) (hps : ps.size = c.es.length) (hrb : rangeB ps.toList asg body c = true)
    (hasg : ∀ (Y : Ctx) (J : Array Value → Prop) (σ : St) (a : Act) (w : World) (K : KK), StC J asg → At Y (some (D + 1)) J σ a w → evCode C L asg σ K → asg.wpIn (FW (some (D + 1))) 0 P (Post Y (some (D + 1)) J K) a w)
    (hbody : ∀ (Y : Ctx) (J : Array Value → Prop) (σ : St) (a : Act) (w : World) (K : KK), StC J body → At Y (some (D + 1)) J σ a w → evCode C L body σ K → body.wpIn (FW (some (D + 1))) 0 P (Post Y (some (D + 1)) J K) a w) :
    RoundOK P X.B (RI X c fn a ps asg body D) (D + 1) (rndE C L c ps.toList asg body) := by
  rintro us s O O' W as Kb hrd hi hdata
  cases s with
  | jp j => exact hrd.elim
  | go v =>
    obtain ⟨h1, h2, h3, h4, h5, hb, hjn, ρ, rfl, h6, h7⟩ := hi
    have hvs : VRs (hlen (st c.lay v).H) (mns X.B O') ρ (st c.lay v).H W as us := hdata.vrs fun fr b hz => zn_first hz
    obtain ⟨x, hev, hx⟩ := deC_spec (X := ⟨W, mns X.B O', Own ρ (st c.lay v).H⟩) as c.es us _ hvs hrd
    have hx := hx (hlen (st c.lay v).H) ρ (st c.lay v).H (fun _ _ h => h)
    have hul : us.length = c.es.length := by rw [← (VRs_at hx).1, length_clV]
    have hslot : ∀ i, inSl c i → nmem i ps.toList = false ∧ noDst i asg = true ∧ noDst i body = true := fun i hi => rangeB_mem hrb hi
    let J : Array Value → Prop := fun t => t.size = a.tmps.size ∧ ∀ i, inSl c i → t.getD i undef = a.tmps.getD i undef
    have hJa : StC J asg := stC_and stC_size (stC_forall fun i => stC_imp fun hi => stC_slot (hslot i hi).2.1)
    have hJb : StC J body := stC_and stC_size (stC_forall fun i => stC_imp fun hi => stC_slot (hslot i hi).2.2)
    have hyield := run_yield (P := P) (args := us.toArray) h4 (by simp [srec, recOf, hul, hps])
    refine ⟨_, _, asg, body, hyield, ?_⟩
    refine roundIn_of_wpIn (F := FW none) trivial ?_
    have hfold : ((ps.zip us.toArray).foldl (fun (t : Array Value) (x : Nat × Value) => t.setIfInBounds x.1 x.2) a.tmps) = setL ps.toList us a.tmps := by
      have := setL_eq ps.toList us a.tmps
      simpa using this
    have hat : At ⟨W, mns X.B O', Own ρ (st c.lay v).H⟩ (some (D + 1)) J ⟨upL (st c.lay v).tmps ps.toList (clV c.es x), (st c.lay v).H⟩ { tmps := setL ps.toList us a.tmps, defers := [] } W :=
      ⟨⟨ρ, h6, TR.setL ps.toList (h7 : TR _ _ _ _ _ _ { tmps := a.tmps, defers := [] }) hx⟩, (by intro h; cases h), size_setL _ _ _, fun i hi => getD_setL _ _ _ (hslot i hi).1⟩
    have hwa := hasg _ J _ _ _ _ hJa hat hev
    have e0 : (srec c fn a ps asg body D (.go v)).tmps = a.tmps := rfl
    have e1 : (srec c fn a ps asg body D (.go v)).params = ps := rfl
    rw [e0, e1, hfold]
    refine wpIn_mono hwa ?_
    rintro e a1 w1 ⟨o, σ1, rfl, hK, ⟨⟨ρ1, k1, k2⟩, _, k4⟩⟩
    cases o with
    | exit i => exact hK.elim
    | ret => exact hK.elim
    | nrm =>
      simp only [toExit, Exit.then]
      -- the record, turned
      have own_no : ∀ (b : Nat) (o : Obj), W.heap[b]? = some o → (∀ cs E f, o ≠ .cells cs E f) → ¬ Own ρ (st c.lay v).H b := fun b o ho hn hO => by
        obtain ⟨cs, E, f, hc⟩ := own_cells h6 hO
        rw [ho] at hc; cases hc
        exact hn _ _ _ rfl
      have keep1 : ∀ b, b < W.heap.size → ¬ Own ρ (st c.lay v).H b → w1.heap[b]? = W.heap[b]? := k1.keep
      have hl1 : w1.heap[D + 1]? = some (.loop (srec c fn a ps asg body D (.go v))) := (keep1 _ (Array.getElem?_eq_some_iff.1 h4).1 (own_no _ _ h4 (by intro _ _ _ h; cases h))).trans h4
      have hlt1 : D + 1 < w1.heap.size := (Array.getElem?_eq_some_iff.1 hl1).1
      refine ⟨_, run_beginRound hl1 rfl, ?_⟩
      generalize hw2 : w1.putObj (D + 1) (.loop { srec c fn a ps asg body D (.go v) with state := .busy }) = w2
      have keep2 : ∀ b, b ≠ D + 1 → w2.heap[b]? = w1.heap[b]? := fun b hne => by rw [← hw2]; exact World.putObj_heap_other hne
      have hl2 : w2.heap[D + 1]? = some (.loop { srec c fn a ps asg body D (.go v) with state := .busy }) := by rw [← hw2]; exact World.putObj_heap_same hlt1
      have hs2 : w2.heap.size = w1.heap.size := by rw [← hw2]; simp
      have cell1 : ∀ b, CellsAt w1 b → b ≠ D + 1 := by
        rintro b ⟨cs, E, f, hc⟩ rfl
        rw [hl1] at hc; cases hc
      have hz2 : ∀ fr b, CellsAt w1 b → Zn (mns X.B O') ρ1 σ1.H fr b → Zn (mns X.B O') ρ1 σ1.H fr b ∧ w2.heap[b]? = w1.heap[b]? := fun fr b hc hz => ⟨hz, keep2 b (cell1 b hc)⟩
      have k1s : RHs (mns X.B O') ρ1 σ1.H w1 := k1.stat
      have m2 : RHs (mns X.B O') ρ1 σ1.H w2 := k1s.move hz2 (fun b ho => ⟨keep2 b (cell1 b (own_cells k1 ho)), by
        obtain ⟨r, hr, hl, hbk⟩ := ho
        exact k1.new r b hr (live_dead hl) hbk⟩) (by rw [hs2]; exact Nat.le_refl _) (fun b hge => k1s.bsz b (by rw [hs2] at hge; exact hge))
      have hat2 : At ⟨w2, mns X.B O', Own ρ1 σ1.H⟩ (some (D + 1)) J σ1 a1 w2 := ⟨⟨ρ1, m2, k2.move hz2 (by rw [hs2]; exact Nat.le_refl _)⟩, (by intro h; cases h), k4⟩
      refine wpIn_mono (hbody _ J _ _ _ _ hJb hat2 hK) ?_
      rintro e a3 w3 ⟨o, σ3, rfl, hK3, hat3⟩
      -- how a round ends
      have fin : ∀ (s' : Rs (Vals c.lay) (JV c.outs)) (jump : Option Code) (b : Bool), (∃ ρ3, RH ⟨w2, mns X.B O', Own ρ1 σ1.H⟩ ρ3 (sst c s').H w3 ∧ TR (hlen (sst c s').H) (mns X.B O') ρ3 (sst c s').H w3 (sst c s').tmps a) → jump.isNone = b → (∀ j, s' = .jp j → jo c.outs j ≠ .nrm) →
          { { srec c fn a ps asg body D (.go v) with state := .busy } with state := if jump.isNone then .ready else .done, pending := jump } = srec c fn a ps asg body D s' → Kb b s' →
          ∃ v' w', (Instr.endRound (D + 1) jump).run P w3 = .ok v' w' ∧ ∃ b s' O1, Ending.returned v' = .returned (.bool b) ∧ Kb b s' ∧ RI X c fn a ps asg body D s' O1 O' w' ∧ RoundTo (Own ρ (st c.lay v).H) O1 W w' := by
        rintro s' jump b ⟨ρ3, n1, n2⟩ hjb hjn' hrec hKb
        have own_no2 : ∀ (b : Nat) (o : Obj), w2.heap[b]? = some o → (∀ cs E f, o ≠ .cells cs E f) → ¬ Own ρ1 σ1.H b := fun b o ho hn hO => by
          obtain ⟨cs, E, f, hc⟩ := own_cells m2 hO
          rw [ho] at hc; cases hc
          exact hn _ _ _ rfl
        have keep3 : ∀ b, b < w2.heap.size → ¬ Own ρ1 σ1.H b → w3.heap[b]? = w2.heap[b]? := n1.keep
        have hl3 : w3.heap[D + 1]? = some (.loop { srec c fn a ps asg body D (.go v) with state := .busy }) := (keep3 _ (by rw [hs2]; exact hlt1) (own_no2 _ _ hl2 (by intro _ _ _ h; cases h))).trans hl2
        have hlt3 : D + 1 < w3.heap.size := (Array.getElem?_eq_some_iff.1 hl3).1
        have hend := run_endRound (P := P) jump hl3
        rw [hrec, hjb] at hend
        refine ⟨_, _, hend, b, s', Own ρ3 (sst c s').H, rfl, hKb, ?_, ?_⟩
        all_goals generalize hw4 : w3.putObj (D + 1) (.loop (srec c fn a ps asg body D s')) = w4
        all_goals have keep4 : ∀ b, b ≠ D + 1 → w4.heap[b]? = w3.heap[b]? := fun b hne => by rw [← hw4]; exact World.putObj_heap_other hne
        all_goals have hs4 : w4.heap.size = w3.heap.size := by rw [← hw4]; simp
        all_goals have hsz13 : w1.heap.size ≤ w3.heap.size := by have := n1.size; rw [← hs2]; exact this
        all_goals have hszW : W.heap.size ≤ w1.heap.size := k1.size
        all_goals have ownW : ∀ b, b < W.heap.size → Own ρ1 σ1.H b → Own ρ (st c.lay v).H b := k1.own
        all_goals have own2 : ∀ b, b < w2.heap.size → Own ρ3 (sst c s').H b → Own ρ1 σ1.H b := n1.own
        all_goals have own3 : ∀ b, b < W.heap.size → Own ρ3 (sst c s').H b → Own ρ (st c.lay v).H b := fun b hlt ho => ownW b hlt (own2 b (by omega) ho)
        all_goals have chain : ∀ b, b < W.heap.size → ¬ Own ρ (st c.lay v).H b → b ≠ D + 1 → w4.heap[b]? = W.heap[b]? := fun b hlt ho hne =>
          (keep4 b hne).trans ((keep3 b (by omega) fun h => ho (ownW b hlt h)).trans ((keep2 b hne).trans (keep1 b hlt ho)))
        · have hz4 : ∀ fr b, CellsAt w3 b → Zn (mns X.B O') ρ3 (sst c s').H fr b → Zn (mns X.B O') ρ3 (sst c s').H fr b ∧ w4.heap[b]? = w3.heap[b]? := fun fr b hc hz => ⟨hz, keep4 b (by
            rintro rfl
            obtain ⟨cs, E, f, hc⟩ := hc
            rw [hl3] at hc; cases hc)⟩
          have n1s : RHs (mns X.B O') ρ3 (sst c s').H w3 := n1.stat
          refine ⟨fun b ho => ⟨(h1 b ho).1, ?_⟩, ?_, ?_, ?_, ⟨?_, ?_, ?_, ?_, fun b hlt hno => ?_, fun b hlt ho => ?_⟩, hb, hjn', ρ3, rfl, ?_, n2.move hz4 (by rw [hs4]; exact Nat.le_refl _)⟩
          · have hc := (h1 b ho).2
            refine hc.of (chain b hc.lt (fun hO => ?_) ?_)
            · obtain ⟨r, hr, hl, hbk⟩ := hO
              exact (h6.new r b hr (live_dead hl) hbk).2 ho
            · rintro rfl
              obtain ⟨cs, E, f, hc⟩ := hc
              rw [h4] at hc; cases hc
          · exact (chain _ (Array.getElem?_eq_some_iff.1 h2).1 (own_no _ _ h2 (by intro _ _ _ h; cases h)) (by omega)).trans h2
          · exact h3.stay fun b ds hd => chain _ (Array.getElem?_eq_some_iff.1 hd).1 (own_no _ _ hd (by intro _ _ _ h; cases h)) (by rintro rfl; rw [h4] at hd; cases hd)
          · rw [← hw4]; exact World.putObj_heap_same hlt3
          · rw [← hw4]; exact n1.os.trans ((by rw [← hw2]; rfl : w2.os = w1.os).trans (k1.os.trans h5.os))
          · rw [← hw4]; exact n1.tape.trans ((by rw [← hw2]; rfl : w2.tape = w1.tape).trans (k1.tape.trans h5.tape))
          · rw [← hw4]; exact n1.output.trans ((by rw [← hw2]; rfl : w2.output = w1.output).trans (k1.output.trans h5.output))
          · have := h5.size; omega
          · have := h5.size
            exact (chain b (by omega) (fun hO => hno (h5.own b hlt hO)) (by omega)).trans (h5.keep b hlt hno)
          · have := h5.size
            exact h5.own b hlt (own3 b (by omega) ho)
          · refine n1s.move hz4 (fun b ho => ⟨keep4 b ?_, ?_⟩) (by rw [hs4]; exact Nat.le_refl _) (fun b hge => n1s.bsz b (by rw [hs4] at hge; exact hge))
            · rintro rfl
              obtain ⟨cs, E, f, hc⟩ := own_cells n1 ho
              rw [hl3] at hc; cases hc
            · obtain ⟨r, hr, hl, hbk⟩ := ho
              exact n1.new r b hr (live_dead hl) hbk
        · refine ⟨by omega, fun b hc ho => chain b hc.lt ho ?_, own3⟩
          rintro rfl
          obtain ⟨cs, E, f, hc⟩ := hc
          rw [h4] at hc; cases hc
      have jumped : ∀ (o : Out), decJ o σ3 c.outs (fun j => Kb false (.jp j)) → ∃ v' w', (Instr.endRound (D + 1) (some (jcode o))).run P w3 = .ok v' w' ∧ ∃ b s' O1, Ending.returned v' = .returned (.bool b) ∧ Kb b s' ∧ RI X c fn a ps asg body D s' O1 O' w' ∧ RoundTo (Own ρ (st c.lay v).H) O1 W w' := by
        intro o hd
        obtain ⟨j, hKj, hjo, hnn, hatj⟩ := hat3.decJ hd
        obtain ⟨⟨ρ3, n1, n2⟩, _, n4⟩ := hatj
        refine fin (.jp j) (some (jcode o)) false ⟨ρ3, n1, jst_fixed n4.1 (fun p hp i hi => n4.2 i (.inr ⟨p, hp, hi⟩)) n2⟩ rfl (fun j' e => by cases e; rw [hjo]; exact hnn) ?_ hKj
        simp [srec, recOf, hjo]
      cases o with
      | nrm =>
        simp only [rEnd] at hK3
        obtain ⟨v', hKv, hatv⟩ := hat3.dec hK3
        obtain ⟨⟨ρ3, n1, n2⟩, _, n4⟩ := hatv
        exact fin (.go v') none true ⟨ρ3, n1, n2.fixed n4.1 fun i hi => n4.2 i (.inl hi)⟩ rfl (fun j' e => by cases e) (by simp [srec, recOf]) hKv
      | exit i => exact jumped (.exit i) hK3
      | ret => exact jumped .ret hK3

/-- A range over a function. -/
theorem range_ok (hI : ∀ f e, C.it f = some e → ItOK P f e ∧ FnOK P f) {c : RCut} {g : Operand} {ps : Array Tmp} {asg body : Code} (hok : RngOK C L c ps.toList asg body)
    (hasg : ∀ (l : Nat) (Y : Ctx) (J : Array Value → Prop) (σ : St) (a : Act) (w : World) (K : KK), StC J asg → At Y (some l) J σ a w → evCode C L asg σ K → asg.wpIn (FW (some l)) 0 P (Post Y (some l) J K) a w)
    (hbody : ∀ (l : Nat) (Y : Ctx) (J : Array Value → Prop) (σ : St) (a : Act) (w : World) (K : KK), StC J body → At Y (some l) J σ a w → evCode C L body σ K → body.wpIn (FW (some l)) 0 P (Post Y (some l) J K) a w)
    {J : Array Value → Prop} {σ : St} {a : Act} {w : World} {K : KK} (h : At X none J σ a w) {cs : List AV} (hg : opv σ.tmps g = .fn c.f cs) (hps : ps.size = c.es.length)
    (he : pureC σ.H cs fun cs' H' => deC cs' c.caps fun cv => dec c.lay ⟨σ.tmps, H'⟩ fun v => c.F cv v K) :
    (Code.rangeFunc g ps asg body).wpIn (FW none) 0 P (Post X none J K) a w := by
  obtain ⟨⟨ρ, h1, h2⟩, h3, h4⟩ := h
  have h3 := h3 rfl
  have hv := opv_spec h2 g
  rw [hg] at hv
  simp only [VR] at hv
  obtain ⟨us, hev, hcs⟩ := hv
  obtain ⟨cs', H', he, hx, h1', hcs'⟩ := pureC_spec cs h1 hcs he
  obtain ⟨cv, he, hcv⟩ := deC_spec (X := X) cs' c.caps us _ hcs' he
  obtain ⟨v, he, ρ1, hown, hr, ht⟩ := dec_spec' (σ := ⟨σ.tmps, H'⟩) h1' (h2.ext hx rfl) he
  obtain ⟨hrb, hF⟩ := hok
  rw [hF] at he
  unfold rngSem at he
  cases hit : C.it c.f with
  | none => rw [hit] at he; exact he.elim
  | some it =>
    rw [hit] at he
    simp only at he
    obtain ⟨hIt, hFn⟩ := hI _ _ hit
    refine wpIn_rangeFunc ?_
    intro fn _
    generalize hW : (w.alloc (.deferred (some []))).alloc (.loop (recOf fn a ps asg body w.heap.size .ready none)) = W
    have hWs : W.heap.size = w.heap.size + 2 := by rw [← hW]; simp
    have hWk : ∀ b, b < w.heap.size → W.heap[b]? = w.heap[b]? := fun b hb => by
      rw [← hW]; exact (Below.heap_alloc _ _ b (by simp; omega)).trans (Below.heap_alloc _ _ b hb)
    have hWl : W.heap[w.heap.size + 1]? = some (.loop (recOf fn a ps asg body w.heap.size .ready none)) := by
      rw [← hW]; have := World.alloc_heap_new (w.alloc (.deferred (some []))) (.loop (recOf fn a ps asg body w.heap.size .ready none)); rwa [World.size_alloc] at this
    have hWd : W.heap[w.heap.size]? = some (.deferred (some [])) := by
      rw [← hW]; exact (Below.heap_alloc _ _ _ (by simp)).trans (World.alloc_heap_new w _)
    have hzW : ∀ fr b, CellsAt w b → Zn X.B ρ1 (st c.lay v).H fr b → Zn (mns X.B fun _ => False) ρ1 (st c.lay v).H fr b ∧ W.heap[b]? = w.heap[b]? := fun fr b hc hz =>
      ⟨⟨hz.1, hz.2.elim (fun h => .inl ⟨h, id⟩) (fun h => .inr ⟨h.1, h.2, id⟩)⟩, hWk b hc.lt⟩
    have hstat : RHs (mns X.B fun _ => False) ρ1 (st c.lay v).H W := hr.stat.move hzW (fun b ho => ⟨hWk b (own_cells hr ho).lt, (by
      obtain ⟨r, hlt, hl, hbk⟩ := ho
      exact hr.new r b hlt (live_dead hl) hbk), id⟩) (by omega) (fun b hge => ⟨hr.bsz b (Nat.le_trans hr.size (by omega)), id⟩)
    have hRI : RI X c fn a ps asg body w.heap.size (.go v) (Own ρ1 (st c.lay v).H) (fun _ => False) W := by
      refine ⟨fun _ h => h.elim, hWd, h3.stay fun b ds hd => hWk b (Array.getElem?_eq_some_iff.1 hd).1, hWl, ⟨?_, ?_, ?_, ?_, fun b hlt ho => ?_, hr.own⟩, hr.bsz, (fun j e => by cases e), ρ1, rfl, hstat, ht.move hzW (by omega)⟩
      · rw [← hW]; exact hr.os
      · rw [← hW]; exact hr.tape
      · rw [← hW]; exact hr.output
      · exact Nat.le_trans hr.size (by omega)
      · exact (hWk b (Nat.lt_of_lt_of_le hlt hr.size)).trans (hr.keep b hlt ho)
    have hdata : DataR W (ZZ X.B (Own ρ1 (st c.lay v).H) fun _ => False) (clV c.caps cv) us := by
      have := hcv 0 ρ1 (st c.lay v).H (fun fr b hz => ⟨fun ho => hz.1 (hown b ho), hz.2⟩)
      have : DataR w (ZZ X.B (Own ρ1 (st c.lay v).H) fun _ => False) (clV c.caps cv) us := DataR.of (fun fr b hz => ⟨hz.1, id, hz.2⟩) (allT_clV _ _) this
      exact this.mono (fun fr b hc hz => ⟨hz, hWk b hc.lt⟩) (by omega)
    have hcall := hIt _ _ _ _ _ he X.B _ (ri_inv (X := X) c fn a ps asg body w.heap.size) (w.heap.size + 1) us W _ (fun b hge => hr.bsz b (Nat.le_trans hr.size (by omega))) hRI hdata (round_ok hr.size hps hrb (hasg _) (hbody _))
    refine ⟨w.heap.size + 1, [{ target := .collected w.heap.size, args := #[] }], W, { target := .fn (.func c.f) us.toArray, args := #[.func (.yield (w.heap.size + 1)) #[] #[]] }, W, c.f,
      #[.func (.yield (w.heap.size + 1)) #[] #[]] ++ us.toArray, W, ?_, ?_, fun _ _ => trivial, ?_, ?_, ?_⟩
    · rw [← hW]; exact run_enterLoop_outer _ _ _ _ _
    · simp only [resolve, hev]
      simp [go_sem]
    · simp [invoke, go_sem, hFn _ _]
    · intro h; cases h
    · show CallsIn (FW none) 0 P _ _ _ _
      refine hcall.mono ?_
      rintro e w3 ⟨vv, s', O1, O2, rfl, hK, ⟨g1, g2, g3, g4, g5, gb, gn, ρ3, rfl, g6, g7⟩⟩
      have hne : (srec c fn a ps asg body w.heap.size s').state ≠ .busy := by cases s' <;> simp [srec, recOf]
      have hend := run_endLoop (P := P) g4 hne
      have hlt : w.heap.size + 1 < w3.heap.size := (Array.getElem?_eq_some_iff.1 g4).1
      refine ⟨_, _, hend, ?_⟩
      generalize hw4 : w3.putObj (w.heap.size + 1) (.loop { srec c fn a ps asg body w.heap.size s' with state := .exhausted }) = w4
      have keep4 : ∀ b, b ≠ w.heap.size + 1 → w4.heap[b]? = w3.heap[b]? := fun b hne => by rw [← hw4]; exact World.putObj_heap_other hne
      have hs4 : w4.heap.size = w3.heap.size := by rw [← hw4]; simp
      have hz4 : ∀ fr b, CellsAt w3 b → Zn (mns X.B O2) ρ3 (sst c s').H fr b → Zn X.B ρ3 (sst c s').H fr b ∧ w4.heap[b]? = w3.heap[b]? := fun fr b hc hz =>
        ⟨⟨hz.1, hz.2.elim (fun h => .inl h.1) (fun h => .inr ⟨h.1, h.2.1⟩)⟩, keep4 b (by
          rintro rfl
          obtain ⟨cs, E, f, hc⟩ := hc
          rw [g4] at hc; cases hc)⟩
      have m4 : RHs X.B ρ3 (sst c s').H w4 := g6.move hz4 (fun b ho => ⟨keep4 b (by
        rintro rfl
        obtain ⟨cs, E, f, hc⟩ := own_cells g6 ho
        rw [g4] at hc; cases hc), (by
        obtain ⟨r, hlt, hl, hbk⟩ := ho
        exact (g6.new r b hlt (live_dead hl) hbk).1)⟩) (by rw [hs4]; exact Nat.le_refl _) (fun b hge => gb b (Nat.le_trans g5.size (by omega)))
      have hist4 : Hist X (Own ρ3 (sst c s').H) w4 := by
        refine ⟨?_, ?_, ?_, by rw [hs4]; exact g5.size, fun b hlt ho => ?_, g5.own⟩
        · rw [← hw4]; exact g5.os
        · rw [← hw4]; exact g5.tape
        · rw [← hw4]; exact g5.output
        · exact (keep4 b (by have := hr.size; omega)).trans (g5.keep b hlt ho)
      have hat4 : At X none J (sst c s') { a with defers := { target := .collected w.heap.size, args := #[] } :: a.defers } w4 := by
        refine ⟨⟨ρ3, hist4.rh gb m4, g7.move hz4 (by rw [hs4]; exact Nat.le_refl _)⟩, fun _ => ?_, h4⟩
        refine ⟨w.heap.size, hr.size, rfl, (keep4 _ (by omega)).trans g2, fun d' hd' D' hD' => ?_, g3.stay fun b ds hd => keep4 b ?_⟩
        · have := h3.lt d' hd' D' hD'
          omega
        · rintro rfl
          rw [g4] at hd; cases hd
      cases s' with
      | go v' => exact ⟨.nrm, _, rfl, hK, hat4⟩
      | jp j =>
        have hKj := jK_eq c.outs j hK
        show (jcode (jo c.outs j)).wpIn _ _ _ _ _ _
        have hnn := gn j rfl
        generalize hjo : jo c.outs j = o at hKj hnn
        cases o with
        | nrm => exact (hnn rfl).elim
        | exit i => exact wpIn_exit ⟨.exit i, _, rfl, hKj, hat4⟩
        | ret => exact wpIn_ret ⟨.ret, _, rfl, hKj, hat4⟩

theorem evCode_spec (hC : CfgOK P C) (hS : ∀ f e, C.fn f = some e → SelE e) (hm : P.follows .mixedOrders = true) (hI : ∀ f e, C.it f = some e → ItOK P f e ∧ FnOK P f) : ∀ (c : Code) (_ : CodeOK C L c) {X : Ctx} {ro : Option Nat} (_ : ro = none ∨ noRange c = true) {J : Array Value → Prop} (_ : StC J c) (σ : St) (a : Act) (w : World) (K : KK), At X ro J σ a w → evCode C L c σ K →
    c.wpIn (FW ro) 0 P (Post X ro J K) a w
  | .skip, _, X, ro, _, J, _, σ, a, w, K, h, he => by simp only [evCode] at he; exact wpIn_skip ⟨.nrm, σ, rfl, he, h⟩
  | .label _, _, X, ro, _, J, _, σ, a, w, K, h, he => by simp only [evCode] at he; exact wpIn_label ⟨.nrm, σ, rfl, he, h⟩
  | .region id ops d, hok, X, ro, _, J, hJ, σ, a, w, K, h, he => by
    simp only [evCode] at he
    split at he
    · exact he.elim
    · rename_i hbad
      obtain ⟨⟨ρ, h1, h2⟩, h3, h4⟩ := h
      split at he
      · rename_i hmx
        obtain ⟨rfl, hB⟩ := hok.mixed hbad hmx
        exact evMix_spec (D := a.defers) (J := J) hC hS hm hB hJ h4 h1 h2 rfl he fun t H' ρ' a' w' hK hext h' ht' hd' hs' => ⟨.nrm, ⟨t, H'⟩, rfl, hK, ⟨ρ', h', ht'⟩, fun e => by rw [hd']; exact (h3 e).ext h1 hext, hs'⟩
      rename_i hmx
      exact evRegion_spec (D := a.defers) (J := J) hC hS hm (hok.region hbad hmx) hJ h4 h1 h2 rfl he fun σ' ρ' a' w' hK hext h' ht' hd' hs' => ⟨.nrm, σ', rfl, hK, ⟨ρ', h', ht'⟩, fun e => by rw [hd']; exact (h3 e).ext h1 hext, hs'⟩
  | .seq x y, hok, X, ro, hr, J, hJ, σ, a, w, K, h, he => by
    obtain ⟨hx, hy, hj⟩ := hok.seq
    have hrx : ro = none ∨ noRange x = true := hr.imp id fun h => by simp only [noRange, Bool.and_eq_true] at h; exact h.1
    have hry : ro = none ∨ noRange y = true := hr.imp id fun h => by simp only [noRange, Bool.and_eq_true] at h; exact h.2
    simp only [evCode] at he
    refine wpIn_seq (wpIn_mono (evCode_spec hC hS hm hI x hx hrx hJ.1 σ a w _ h he) fun e a' w' hp => ?_)
    obtain ⟨o, σ', rfl, hK, h'⟩ := hp
    cases o with
    | nrm =>
      simp only [toExit, Exit.then] at hK ⊢
      split at hK
      · rename_i c hc
        obtain ⟨v, hF, hat⟩ := h'.dec hK
        rw [hj _ c hc] at hF
        refine wpIn_mono (evCode_spec hC hS hm hI y hy hry hJ.2 _ a' w' _ hat hF) fun e2 a2 w2 hp => ?_
        obtain ⟨o2, σ2, rfl, hK2, h2⟩ := hp
        simp only [joinK, outK] at hK2
        split at hK2
        · obtain ⟨v2, hK2, h2⟩ := h2.dec hK2
          exact ⟨o2, _, rfl, hK2, h2⟩
        · exact hK2.elim
      · exact evCode_spec hC hS hm hI y hy hry hJ.2 σ' a' w' K h' hK
    | exit i => exact ⟨.exit i, σ', rfl, hK, h'⟩
    | ret => exact ⟨.ret, σ', rfl, hK, h'⟩
  | .cond x b c, hok, X, ro, hr, J, hJ, σ, a, w, K, h, he => by
    obtain ⟨hb, hc⟩ := hok.cond
    have hrb : ro = none ∨ noRange b = true := hr.imp id fun h => by simp only [noRange, Bool.and_eq_true] at h; exact h.1
    have hrc : ro = none ∨ noRange c = true := hr.imp id fun h => by simp only [noRange, Bool.and_eq_true] at h; exact h.2
    simp only [evCode] at he
    obtain ⟨⟨ρ, h1, h2⟩, h3, h4⟩ := h
    split at he
    · rename_i fr t hx
      have hv := opv_spec h2 x
      rw [hx] at hv
      have hv := VR_bool hv
      have hlearn : At X ro J ⟨learn σ.tmps x t, σ.H⟩ a w := by
        refine ⟨⟨ρ, h1, ?_⟩, h3, h4⟩
        cases x with
        | tmp s => exact h2.up (by simp only [Act.eval] at hv; rw [hv]; exact VR_bB _)
        | _ => exact h2
      refine wpIn_cond hv ?_
      rcases Br_cases he with ⟨rfl, he⟩ | ⟨rfl, he⟩
      · exact evCode_spec hC hS hm hI b hb hrb hJ.1 _ a w K hlearn he
      · exact evCode_spec hC hS hm hI c hc hrc hJ.2 _ a w K hlearn he
    · exact he.elim
  | .block id b, hok, X, ro, hr, J, hJ, σ, a, w, K, h, he => by
    simp only [evCode] at he
    refine wpIn_block (wpIn_mono (evCode_spec hC hS hm hI b hok.block hr hJ σ a w _ h he) fun e a' w' hp => ?_)
    obtain ⟨o, σ', rfl, hK, h'⟩ := hp
    cases o with
    | nrm => exact ⟨.nrm, σ', rfl, hK, h'⟩
    | ret => exact ⟨.ret, σ', rfl, hK, h'⟩
    | exit j =>
      simp only [toExit, Exit.inBlock]
      rcases Br_cases hK with ⟨e, hK⟩ | ⟨e, hK⟩
      · rw [if_pos (Nat.eq_of_beq_eq_true e)]
        exact ⟨.nrm, σ', rfl, hK, h'⟩
      · rw [if_neg (Nat.ne_of_beq_eq_false e)]
        exact ⟨.exit j, σ', rfl, hK, h'⟩
  | .scope b, hok, X, ro, hr, J, hJ, σ, a, w, K, h, he => by
    simp only [evCode] at he
    refine wpIn_scope_straight (wpIn_mono (evCode_spec hC hS hm hI b hok.scope hr hJ σ a w _ h he) fun e a' w' hp => ?_)
    obtain ⟨o, σ', rfl, hK, h'⟩ := hp
    cases o with
    | nrm => exact ⟨.nrm, σ', rfl, hK, h'⟩
    | ret => exact ⟨.ret, σ', rfl, hK, h'⟩
    | exit j => exact ⟨.exit j, σ', rfl, hK, h'⟩
  | .loop b, hok, X, ro, hr, J, hJ, σ, a, w, K, h, he => by
    obtain ⟨hb, hl⟩ := hok.loop
    simp only [evCode] at he
    split at he
    · rename_i c hc
      obtain ⟨v, hF, hat⟩ := h.dec he
      obtain ⟨Fk, hF1, hF0, hFs⟩ := hl _ c hc
      rw [hF1] at hF
      obtain ⟨k, hk⟩ := hF
      -- the fuel tells how many rounds are left at most
      have key : ∀ k v a w, Fk k v K → At X ro J (st c.lay v) a w → Code.roundsIn (FW ro) 0 P b (Post X ro J K) k a w := by
        intro k
        induction k with
        | zero => intro v a w hk _; rw [hF0] at hk; exact hk.elim
        | succ k ih =>
          intro v a w hk hat
          rw [roundsIn_succ]
          rw [hFs] at hk
          refine wpIn_mono (evCode_spec hC hS hm hI b hb hr hJ _ a w _ hat hk) fun e a' w' hp => ?_
          obtain ⟨o, σ', rfl, hK, h'⟩ := hp
          cases o with
          | nrm =>
            simp only [loopK] at hK
            obtain ⟨v', hF', hat'⟩ := h'.dec hK
            exact ih v' a' w' hF' hat'
          | exit i =>
            simp only [loopK, outK] at hK
            split at hK
            · obtain ⟨v2, hK2, h2⟩ := h'.dec hK
              exact ⟨.exit i, _, rfl, hK2, h2⟩
            · exact hK.elim
          | ret =>
            simp only [loopK, outK] at hK
            split at hK
            · obtain ⟨v2, hK2, h2⟩ := h'.dec hK
              exact ⟨.ret, _, rfl, hK2, h2⟩
            · exact hK.elim
      exact wpIn_loop_rounds k (key k v a w hk hat)
    · exact he.elim
  | .exit id, _, X, ro, _, J, _, σ, a, w, K, h, he => by simp only [evCode] at he; exact wpIn_exit ⟨.exit id, σ, rfl, he, h⟩
  | .ret, _, X, ro, _, J, _, σ, a, w, K, h, he => by simp only [evCode] at he; exact wpIn_ret ⟨.ret, σ, rfl, he, h⟩
  | .rangeFunc g ps asg body, hok, X, ro, hr, J, _, σ, a, w, K, h, he => by
    have hro : ro = none := hr.elim id fun h => by simp [noRange] at h
    subst hro
    obtain ⟨ha, hb, hc⟩ := hok.range
    simp only [evCode] at he
    split at he
    · rename_i f cs hg
      split at he
      · rename_i c hcc
        replace he := Br_tf he
        obtain ⟨hfe, he⟩ := he
        simp only [Bool.and_eq_true] at hfe
        have e1 := Nat.eq_of_beq_eq_true hfe.1
        have e2 := Nat.eq_of_beq_eq_true hfe.2
        subst e1
        have hrng := hc c hcc
        have hnr : noRange asg = true ∧ noRange body = true := by
          have := hrng.1
          simp only [rangeB, Bool.and_eq_true] at this
          exact ⟨this.1.1.1, this.1.1.2⟩
        exact range_ok hI hrng (fun l Y J σ a w K hJ hat he => evCode_spec hC hS hm hI asg ha (.inr hnr.1) hJ σ a w K hat he) (fun l Y J σ a w K hJ hat he => evCode_spec hC hS hm hI body hb (.inr hnr.2) hJ σ a w K hat he) h hg e2 he
      · exact he.elim
    · exact he.elim
  | .goto _, _, X, ro, _, J, _, σ, a, w, K, h, he => by simp [evCode] at he
  | .refuse _, _, X, ro, _, J, _, σ, a, w, K, h, he => by simp [evCode] at he

/-! ### Functions -/

theorem resV_spec {σ : St} {a : Act} {w : World} {ρ : Nat → Value} (hC : CfgOK P C) (h : RH X ρ σ.H w) (ht : TR (hlen σ.H) X.B ρ σ.H w σ.tmps a) : ∀ (rs : List ResultVar) (K : List AV → Prop), resV C σ rs K →
    ∃ vs us, K vs ∧ VRs (hlen σ.H) X.B ρ σ.H w vs us ∧ (rs.mapM fun (x : ResultVar) => (match x with
      | .tmp t => pure (a.tmps.getD t undef)
      | .cell b t => do loadVar t (← asAddr (a.tmps.getD b undef)) : Sem Value)).run P w = .ok us w
  | [], K, he => ⟨[], [], by simpa only [resV] using he, by simp only [VRs], by simp⟩
  | .tmp t :: rs, K, he => by
    simp only [resV] at he
    obtain ⟨vs, us, hK, hv, hr⟩ := resV_spec hC h ht rs _ he
    exact ⟨_, _, hK, by simp only [VRs]; exact ⟨_, us, rfl, ht.2 t, hv⟩, by simp only [List.mapM_cons, Sem.run_bind, Sem.run_pure, Result.andThen_ok, hr]⟩
  | .cell b t :: rs, K, he => by
    simp only [resV] at he
    obtain ⟨r, v, hl, he, hv1⟩ := evLoad_spec h (hC.ty t) (ht.2 b) he
    obtain ⟨vs, us, hK, hv, hr⟩ := resV_spec hC h ht rs _ he
    refine ⟨_, _, hK, by simp only [VRs]; exact ⟨r, us, rfl, hv1, hv⟩, ?_⟩
    have hl' : (do loadVar t (← asAddr (a.tmps.getD b undef)) : Sem Value).run P w = .ok r w := by
      generalize a.tmps.getD b undef = u at hl
      cases u with
      | pointer ad =>
        cases ad with
        | some ad => simpa [Instr.loadAt, Instr.sureAddr, asAddr] using hl
        | none => simp [Instr.loadAt, Instr.sureAddr, stuck] at hl
      | _ => simp [Instr.loadAt, Instr.sureAddr, stuck] at hl
    simp only [List.mapM_cons, Sem.run_bind, hl', Result.andThen_ok, hr]
    rfl


/-! ### Handing back -/

theorem pos_lt : ∀ {r : Nat} {l : List Nat}, r ∈ l → pos r l < l.length ∧ l[pos r l]? = some r
  | r, [], h => by cases h
  | r, x :: l, h => by
    simp only [pos]
    split
    · rename_i e
      have := Nat.eq_of_beq_eq_true e
      exact ⟨by simp, by simp [this]⟩
    · rename_i e
      rcases List.mem_cons.1 h with h | h
      · subst h; simp at e
      · obtain ⟨h1, h2⟩ := pos_lt h
        exact ⟨by simpa using h1, by simpa using h2⟩

theorem not_nmem {n : Nat} : ∀ {l : List Nat}, nmem n l = false → n ∉ l
  | [], _, h => by cases h
  | x :: l, h, hm => by
    simp only [nmem, Bool.or_eq_false_iff] at h
    rcases List.mem_cons.1 hm with e | hm
    · subst e; simp at h
    · exact not_nmem h.2 hm

theorem pickB_spec {H : List Blk} : ∀ (l : List Nat) (K : List Blk → Prop), pickB H l K → ∃ bs, K bs ∧ hlen bs = l.length ∧ allVal bs ∧ ∀ i r, l[i]? = some r → hk bs i = hk H r
  | [], K, h => ⟨[], h, rfl, trivial, fun i r hi => by simp at hi⟩
  | r :: l, K, h => by
    simp only [pickB] at h
    replace h := Br_tf h
    obtain ⟨bs, hK, hl, hv, hb⟩ := pickB_spec l _ h.2
    refine ⟨_, hK, by simp [hlen, hl], ⟨h.1, hv⟩, fun i r' hi => ?_⟩
    cases i with
    | zero => simp at hi; subst hi; rfl
    | succ i => simpa [hk] using hb i r' (by simpa using hi)

/-- Where the references of a result lead. -/
def eρ (ρ : Nat → Value) (n : Nat) (l : List Nat) (r : Nat) : Value := match l[r - n]? with
  | some s => ρ s
  | none => undef

theorem eρ_pos {ρ : Nat → Value} {n : Nat} {l : List Nat} {r : Nat} (h : r ∈ l) : eρ ρ n l (n + pos r l) = ρ r := by
  unfold eρ; rw [Nat.add_sub_cancel_left, (pos_lt h).2]

theorem mem_add {r s : Nat} {l : List Nat} (h : s ∈ l) : s ∈ (if nmem r l = true then l else l ++ [r]) := by
  split
  · exact h
  · simp [h]
theorem mem_add_self {r : Nat} {l : List Nat} : r ∈ (if nmem r l = true then l else l ++ [r]) := by
  split
  · rename_i h
    apply Classical.byContradiction
    intro hn
    have : ∀ l : List Nat, nmem r l = true → r ∈ l := by
      intro l
      induction l with
      | nil => intro h; simp [nmem] at h
      | cons x l ih =>
        intro h
        simp only [nmem, Bool.or_eq_true] at h
        rcases h with h | h
        · rw [Nat.eq_of_beq_eq_true h]; simp
        · simp [ih h]
    exact hn (this l h)
  · simp
theorem nodup_add {r : Nat} {l : List Nat} (h : l.Nodup) : (if nmem r l = true then l else l ++ [r]).Nodup := by
  split
  · exact h
  · rename_i hn
    have := not_nmem (by simpa using hn)
    rw [List.nodup_append]
    exact ⟨h, by simp, by simp; intro a ha e; subst e; exact this ha⟩

mutual
theorem refs_mem : ∀ (v : AV) (l : List Nat) (s : Nat), s ∈ l → s ∈ refs v l
  | .os _, _, _, h => by simp only [refs]; exact mem_add h
  | .ox _ _ _ _, _, _, h => by simp only [refs]; exact mem_add h
  | .op _ _ _, _, _, h => by simp only [refs]; exact mem_add h
  | .fn _ vs, l, s, h => by simp only [refs]; exact refsL_mem vs l s h
  | .tu vs, l, s, h => by simp only [refs]; exact refsL_mem vs l s h
  | .any, _, _, h => by simpa only [refs] using h
  | .ns, _, _, h => by simpa only [refs] using h
  | .t _ _ _, _, _, h => by simpa only [refs] using h
theorem refsL_mem : ∀ (vs : List AV) (l : List Nat) (s : Nat), s ∈ l → s ∈ refsL vs l
  | [], _, _, h => by simpa only [refsL] using h
  | v :: vs, l, s, h => by simp only [refsL]; exact refsL_mem vs _ s (refs_mem v l s h)
end
mutual
theorem refs_nodup' : ∀ (v : AV) (l : List Nat), l.Nodup → (refs v l).Nodup
  | .os _, _, h => by simp only [refs]; exact nodup_add h
  | .ox _ _ _ _, _, h => by simp only [refs]; exact nodup_add h
  | .op _ _ _, _, h => by simp only [refs]; exact nodup_add h
  | .fn _ vs, l, h => by simp only [refs]; exact refsL_nodup vs l h
  | .tu vs, l, h => by simp only [refs]; exact refsL_nodup vs l h
  | .any, _, h => by simpa only [refs] using h
  | .ns, _, h => by simpa only [refs] using h
  | .t _ _ _, _, h => by simpa only [refs] using h
theorem refsL_nodup : ∀ (vs : List AV) (l : List Nat), l.Nodup → (refsL vs l).Nodup
  | [], _, h => by simpa only [refsL] using h
  | v :: vs, l, h => by simp only [refsL]; exact refsL_nodup vs _ (refs_nodup' v l h)
end
theorem refs_nodup (v : AV) : (refs v []).Nodup := refs_nodup' v [] List.nodup_nil

section
variable {ρ : Nat → Value} {H H' : List Blk} {w : World} {Z : Nat → Prop} {w0 : World} {n m : Nat} {l : List Nat}

mutual
theorem ren_spec (hz : ∀ fr b, Zn X.B ρ H fr b → Zn X.B (eρ ρ n l) H' fr b) (hm : ∀ r, r ∈ l → n + pos r l < m) : ∀ (v : AV) (u : Value) (K : AV → Prop) (l0 : List Nat), (∀ s, s ∈ refs v l0 → s ∈ l) → VH X ρ H w v u →
    ren n l v K → ∃ v', K v' ∧ VR m X.B (eρ ρ n l) H' w v' u ∧ rge n v'
  | .any, _, _, _, _, _, he => by simp [ren] at he
  | .t fr c x, u, K, _, _, hv, he => by
    simp only [ren] at he
    obtain ⟨cs, h1, h2⟩ := VR.len_t hv
    exact ⟨_, he, by simp only [VR]; exact ⟨cs, h1.mono (fun b _ hb => ⟨hz fr b hb, rfl⟩) (Nat.le_refl _), h2⟩, by simp [rge]⟩
  | .ns, u, K, _, _, hv, he => by
    simp only [ren] at he
    simp only [VH, VR] at hv
    exact ⟨_, he, by simp only [VR]; exact hv, by simp [rge]⟩
  | .os r, u, K, l0, hl, hv, he => by
    simp only [ren] at he
    have hr := hl r (by simp only [refs]; exact mem_add_self)
    simp only [VH, VR] at hv
    exact ⟨_, he, by simp only [VR]; rw [eρ_pos hr]; exact ⟨hm r hr, hv.2⟩, by simp [rge]⟩
  | .ox r c a b, u, K, l0, hl, hv, he => by
    simp only [ren] at he
    have hr := hl r (by simp only [refs]; exact mem_add_self)
    simp only [VH, VR] at hv
    exact ⟨_, he, by simp only [VR]; rw [eρ_pos hr]; exact ⟨hm r hr, hv.2⟩, by simp [rge]⟩
  | .op r c p, u, K, l0, hl, hv, he => by
    simp only [ren] at he
    have hr := hl r (by simp only [refs]; exact mem_add_self)
    simp only [VH, VR] at hv
    exact ⟨_, he, by simp only [VR]; rw [eρ_pos hr]; exact ⟨hm r hr, hv.2⟩, by simp [rge]⟩
  | .fn f vs, u, K, l0, hl, hv, he => by
    simp only [ren] at he
    simp only [VH, VR] at hv
    obtain ⟨us, rfl, hs⟩ := hv
    obtain ⟨ws, hK, h1, h2⟩ := renL_spec hz hm vs us _ l0 (fun s hs => hl s (by simpa only [refs] using hs)) hs he
    exact ⟨_, hK, by simp only [VR]; exact ⟨us, rfl, h1⟩, by simp only [rge]; exact h2⟩
  | .tu vs, u, K, l0, hl, hv, he => by
    simp only [ren] at he
    simp only [VH, VR] at hv
    obtain ⟨us, rfl, hs⟩ := hv
    obtain ⟨ws, hK, h1, h2⟩ := renL_spec hz hm vs us _ l0 (fun s hs => hl s (by simpa only [refs] using hs)) hs he
    exact ⟨_, hK, by simp only [VR]; exact ⟨us, rfl, h1⟩, by simp only [rge]; exact h2⟩
theorem renL_spec (hz : ∀ fr b, Zn X.B ρ H fr b → Zn X.B (eρ ρ n l) H' fr b) (hm : ∀ r, r ∈ l → n + pos r l < m) : ∀ (vs : List AV) (us : List Value) (K : List AV → Prop) (l0 : List Nat), (∀ s, s ∈ refsL vs l0 → s ∈ l) → VRs (hlen H) X.B ρ H w vs us →
    renL n l vs K → ∃ ws, K ws ∧ VRs m X.B (eρ ρ n l) H' w ws us ∧ rges n ws
  | [], us, K, l0, _, hv, he => by
    simp only [renL] at he
    simp only [VRs] at hv
    exact ⟨[], he, by simp only [VRs]; exact hv, by simp [rges]⟩
  | v :: vs, us, K, l0, hl, hv, he => by
    simp only [VRs] at hv
    obtain ⟨u, r, rfl, h1, h2⟩ := hv
    simp only [renL] at he
    simp only [refsL] at hl
    obtain ⟨v', he, hv', hr'⟩ := ren_spec hz hm v u _ l0 (fun s hs => hl s (refsL_mem vs _ s hs)) h1 he
    obtain ⟨ws, hK, hw1, hw2⟩ := renL_spec hz hm vs r _ _ hl h2 he
    exact ⟨_, hK, by simp only [VRs]; exact ⟨u, r, rfl, hv', hw1⟩, by simp only [rges]; exact ⟨hr', hw2⟩⟩
end

end

theorem export_spec {w0 w : World} {Z : Nat → Prop} {ρ : Nat → Value} {H : List Blk} (h : RH (sub0 w0 Z) ρ H w) {v : AV} {u : Value} {n : Nat} {K : AV → List Blk → Prop} (hv : VH (sub0 w0 Z) ρ H w v u) (hrf : ∀ r, r ∈ refs v [] → r < hlen H) (he : export_ v H n K) :
    ∃ v' bl, K v' bl ∧ ResR w0 Z n w v' bl u := by
  unfold export_ at he
  obtain ⟨bs, he, hbl, hval, hbs⟩ := pickB_spec _ _ he
  have hnd := refs_nodup v
  generalize hl : refs v [] = l at *
  have hlen' : hlen (happ (deads n) bs) = n + l.length := by rw [hlen_happ, hlen_deads, hbl]
  -- each block of the answer is one of ours
  have hfrom : ∀ r, r < n + l.length → dead (hk (happ (deads n) bs) r) = false → ∃ s, l[r - n]? = some s ∧ n ≤ r ∧ s < hlen H ∧ hk (happ (deads n) bs) r = hk H s ∧ eρ ρ n l r = ρ s := by
    intro r hr hd
    by_cases hlt : r < n
    · rw [hk_happ, hlen_deads, if_pos hlt, hk_deads] at hd; simp [dead] at hd
    · have hge : n ≤ r := Nat.le_of_not_lt hlt
      have hlt2 : r - n < l.length := by omega
      have e : l[r - n]? = some l[r - n] := by simp [hlt2]
      exact ⟨_, e, hge, hrf _ (List.mem_of_getElem? e), by rw [hk_pad bs hge]; exact hbs _ _ e, by simp only [eρ, e]⟩
  have hown : ∀ b, Own (eρ ρ n l) (happ (deads n) bs) b → Own ρ H b := by
    rintro b ⟨r, hr, hlv, hb⟩
    rw [hlen'] at hr
    obtain ⟨s, _, _, hs, e1, e2⟩ := hfrom r hr (live_dead hlv)
    exact ⟨s, hs, by rw [← e1]; exact hlv, by rw [← e2]; exact hb⟩
  have hz : ∀ fr b, Zn (sub0 w0 Z).B ρ H fr b → Zn (sub0 w0 Z).B (eρ ρ n l) (happ (deads n) bs) fr b := fun fr b hb => ⟨fun ho => hb.1 (hown b ho), hb.2⟩
  have hRH : RH (sub0 w0 Z) (eρ ρ n l) (happ (deads n) bs) w := by
    refine ⟨fun r hr => ?_, fun r r' b hr hr' hd hd' hb hb' => ?_, fun r b hr hd hb => ?_, h.os, h.tape, h.output, h.size, h.keep, fun b hb ho => h.own b hb (hown b ho), h.bsz⟩
    · rw [hlen'] at hr
      cases hd : dead (hk (happ (deads n) bs) r) with
      | true => cases hk0 : hk (happ (deads n) bs) r <;> rw [hk0] at hd <;> simp [dead] at hd; trivial
      | false =>
        obtain ⟨s, es, hge, hs, e1, e2⟩ := hfrom r hr hd
        have hb := h.blk s hs
        have hv : isVal (hk H s) = true := by rw [← e1, hk_pad bs hge]; exact isVal_hk hval (by omega)
        rw [e1, e2]
        cases hbk : hk H s with
        | dead => rw [hbk] at hv; simp [isVal] at hv
        | av a => rw [hbk] at hv; simp [isVal] at hv
        | val wr fr E c x =>
          rw [hbk] at hb
          have tr : ∀ {d : Cd} {y : El d} {cs : List Value}, VT w (Zn (sub0 w0 Z).B ρ H fr) d y cs → VT w (Zn (sub0 w0 Z).B (eρ ρ n l) (happ (deads n) bs) fr) d y cs := fun hv => hv.mono (fun b _ hb => ⟨hz fr b hb, rfl⟩) (Nat.le_refl _)
          by_cases hc : ∃ d, c = .row d
          · obtain ⟨d, rfl⟩ := hc
            obtain ⟨h1, h2, cells, hown', hf⟩ := hb
            exact ⟨h1, h2, cells, hown', hf.mono fun _ _ hx => tr hx⟩
          · have hc' : ∀ d, c ≠ .row d := fun d e => hc ⟨d, e⟩
            obtain ⟨h1, b, cells, e, hg, hv⟩ := h.val hs hbk hc'
            exact BR_val hc' h1 e hg (tr hv)
    · rw [hlen'] at hr hr'
      obtain ⟨s, es, hge, hs, e1, e2⟩ := hfrom r hr hd
      obtain ⟨s', es', hge', hs', e1', e2'⟩ := hfrom r' hr' hd'
      rw [e2] at hb; rw [e2'] at hb'; rw [e1] at hd; rw [e1'] at hd'
      have := h.inj s s' b hs hs' hd hd' hb hb'
      subst this
      have h1 := (List.getElem?_inj (by omega) hnd).1 (es.trans es'.symm)
      omega
    · rw [hlen'] at hr
      obtain ⟨s, es, hge, hs, e1, e2⟩ := hfrom r hr hd
      rw [e2] at hb; rw [e1] at hd
      exact h.new s b hs hd hb
  have hm : ∀ r, r ∈ l → n + pos r l < n + l.length := fun r hr => by have := (pos_lt hr).1; omega
  have fin : ∃ v', K v' bs ∧ VR (n + l.length) (sub0 w0 Z).B (eρ ρ n l) (happ (deads n) bs) w v' u ∧ rge n v' :=
    ren_spec (X := sub0 w0 Z) hz hm v u _ [] (fun s hs => by rw [← hl]; exact hs) hv he
  obtain ⟨v', hK, h1, h2⟩ := fin
  exact ⟨v', bs, hK, eρ ρ n l, hRH, by rw [hlen']; exact h1, h2, hval⟩

end
end Go.Eng
