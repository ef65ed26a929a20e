/- The abstract evaluator: functions that are ranged over: it is right. -/
import Derived.Test.YtniabjhjpkkllaaEngX
set_option linter.unusedVariables false
set_option linter.unusedSimpArgs false
namespace Go.Eng
open Go Go.RowKit

/-- What no writing of the code's undoes. -/
def StC (J : Array Value → Prop) : Code → Prop
  | .region _ ops _ => ∀ o ∈ ops.toList, StJ J o.dst
  | .seq a b => StC J a ∧ StC J b
  | .cond _ a b => StC J a ∧ StC J b
  | .block _ b => StC J b
  | .scope b => StC J b
  | .loop b => StC J b
  | _ => True

theorem noDstL_mem {i : Nat} : ∀ {l : List Oper}, noDstL i l = true → ∀ o ∈ l, o.dst ≠ some i
  | [], _, _, h => by cases h
  | x :: l, h, o, ho => by
    simp only [noDstL, Bool.and_eq_true] at h
    rcases List.mem_cons.1 ho with rfl | ho
    · intro e
      have := h.1
      rw [e] at this
      simp at this
    · exact noDstL_mem h.2 o ho

theorem put_other {a : Act} {d : Option Tmp} {v : Value} {i : Nat} (h : d ≠ some i) : (a.put d v).tmps.getD i undef = a.tmps.getD i undef := by
  cases d with
  | none => rfl
  | some d =>
    have hne : d ≠ i := fun e => h (by rw [e])
    simp [Act.put, Array.getElem?_setIfInBounds_ne hne]
theorem put_size {a : Act} {d : Option Tmp} {v : Value} : (a.put d v).tmps.size = a.tmps.size := by cases d <;> simp [Act.put]

theorem stC_slot {i : Nat} {v : Value} : ∀ {c : Code}, noDst i c = true → StC (fun t => t.getD i undef = v) c
  | .region _ ops _, h => fun o ho a u hj => (put_other (noDstL_mem (by simpa only [noDst] using h) o ho)).trans hj
  | .seq a b, h => by simp only [noDst, Bool.and_eq_true] at h; exact ⟨stC_slot h.1, stC_slot h.2⟩
  | .cond _ a b, h => by simp only [noDst, Bool.and_eq_true] at h; exact ⟨stC_slot h.1, stC_slot h.2⟩
  | .block _ b, h => by simp only [noDst] at h; exact stC_slot (c := b) h
  | .scope b, h => by simp only [noDst] at h; exact stC_slot (c := b) h
  | .loop b, h => by simp only [noDst] at h; exact stC_slot (c := b) h
  | .rangeFunc _ _ _ _, h => trivial
  | .skip, _ | .label _, _ | .exit _, _ | .ret, _ | .goto _, _ | .refuse _, _ => trivial

theorem stC_size {n : Nat} : ∀ {c : Code}, StC (fun t => t.size = n) c
  | .region _ ops _ => fun o ho a u hj => put_size.trans hj
  | .seq a b => ⟨stC_size, stC_size⟩
  | .cond _ a b => ⟨stC_size, stC_size⟩
  | .block _ b => stC_size (c := b)
  | .scope b => stC_size (c := b)
  | .loop b => stC_size (c := b)
  | .rangeFunc _ _ _ _ => trivial
  | .skip | .label _ | .exit _ | .ret | .goto _ | .refuse _ => trivial

theorem stC_and {J J' : Array Value → Prop} : ∀ {c : Code}, StC J c → StC J' c → StC (fun t => J t ∧ J' t) c
  | .region _ ops _, h, k => fun o ho a u hj => ⟨h o ho a u hj.1, k o ho a u hj.2⟩
  | .seq a b, h, k => ⟨stC_and h.1 k.1, stC_and h.2 k.2⟩
  | .cond _ a b, h, k => ⟨stC_and h.1 k.1, stC_and h.2 k.2⟩
  | .block _ b, h, k => stC_and (c := b) h k
  | .scope b, h, k => stC_and (c := b) h k
  | .loop b, h, k => stC_and (c := b) h k
  | .rangeFunc _ _ _ _, _, _ => trivial
  | .skip, _, _ | .label _, _, _ | .exit _, _, _ | .ret, _, _ | .goto _, _, _ | .refuse _, _, _ => trivial

theorem isYield_eq {y : Nat} {o : Oper} {xs : List Operand} (h : isYield y o = some xs) : ∃ c, o.op = .call c ∧ c.callee = .value (.tmp y) ∧ o.guard = none ∧ c.args.toList = xs := by
  unfold isYield at h
  split at h
  · rename_i c hc
    split at h
    · rename_i z hz
      split at h
      · rename_i hyz
        have := Nat.eq_of_beq_eq_true hyz
        subst this
        split at h
        · rename_i hg
          cases h
          exact ⟨c, hc, hz, hg, rfl⟩
        · cases h
      · cases h
    · cases h
  · cases h

theorem findY_eq {y : Nat} : ∀ {l p q : List Oper} {o : Oper} {xs : List Operand}, findY y l = some (p, (o, xs), q) → l = p ++ o :: q ∧ isYield y o = some xs
  | [], p, q, o, xs, h => by simp [findY] at h
  | x :: l, p, q, o, xs, h => by
    simp only [findY] at h
    split at h
    · rename_i ys hy
      cases h
      exact ⟨rfl, hy⟩
    · split at h
      · rename_i p' c' q' hf
        cases h
        obtain ⟨o', xs'⟩ := (o, xs)
        obtain ⟨e, hy⟩ := findY_eq hf
        exact ⟨by rw [e]; rfl, hy⟩
      · cases h

theorem splitY_eq {l p q : List Oper} {y : Nat} {o : Oper} {xs : List Operand} (h : splitY l = some (y, p, (o, xs), q)) :
    ∃ m, l = m :: (p ++ o :: q) ∧ m.op = .move (.tmp 0) ∧ m.guard = none ∧ m.dst = some y ∧ isYield y o = some xs ∧ noDstL y p = true := by
  cases l with
  | nil => simp [splitY] at h
  | cons m l =>
    simp only [splitY] at h
    split at h
    · rename_i z hm
      split at h
      · rename_i p' c' q' hf
        split at h
        · rename_i hn
          cases h
          obtain ⟨e, hy⟩ := findY_eq hf
          refine ⟨m, by rw [e], ?_⟩
          unfold mvY at hm
          split at hm
          · rename_i t hop
            split at hm
            · rename_i ht
              have := Nat.eq_of_beq_eq_true ht
              subst this
              split at hm
              · rename_i hg
                exact ⟨hop, hg, hm, hy, hn⟩
              · cases hm
            · cases hm
          · cases hm
        · cases h
      · cases h
    · cases h

def drawsI : Code → Bool
  | .region _ ops d => (match splitY ops.toList with
    | some (_, pre, _, _) => !d || drawOKn (pre.length + 1) ops
    | none => !d || drawOK ops)
  | .seq a b => drawsI a && drawsI b
  | .cond _ a b => drawsI a && drawsI b
  | .block _ b => drawsI b
  | .scope b => drawsI b
  | .loop b => drawsI b
  | _ => true

/-- A loop is what its rounds say. -/
def IterOK (C : Cfg) (L : ICuts) (c : ICut) (b : Code) : Prop :=
  ∃ Fk : Nat → Vals c.lay → (S : Type) → Rnd S → S → KI S → Prop, (∀ v S rd s K, c.F v S rd s K = ∃ k, Fk k v S rd s K) ∧ (∀ v S rd s K, Fk 0 v S rd s K = False) ∧
    ∀ k v S rd s K, Fk (k + 1) v S rd s K = evIt C L S rd b (st c.lay v) s (loopI c (fun v s K => Fk k v S rd s K) K)
structure ItCode (C : Cfg) (L : ICuts) (c : Code) : Prop where
  loops : AllL (fun p => ∀ cut, L p.1 = some cut → IterOK C L cut p.2) (loopsOf c)
  draws : drawsI c = true
  y0 : noDst 0 c = true

section
variable {C : Cfg} {L : ICuts}
theorem ItCode.seq {a b : Code} (h : ItCode C L (.seq a b)) : ItCode C L a ∧ ItCode C L b := by
  obtain ⟨h1, h2, h3⟩ := h
  simp only [loopsOf] at h1
  simp only [drawsI, Bool.and_eq_true] at h2
  simp only [noDst, Bool.and_eq_true] at h3
  exact ⟨⟨h1.append.1, h2.1, h3.1⟩, ⟨h1.append.2, h2.2, h3.2⟩⟩
theorem ItCode.cond {x : Operand} {a b : Code} (h : ItCode C L (.cond x a b)) : ItCode C L a ∧ ItCode C L b := by
  obtain ⟨h1, h2, h3⟩ := h
  simp only [loopsOf] at h1
  simp only [drawsI, Bool.and_eq_true] at h2
  simp only [noDst, Bool.and_eq_true] at h3
  exact ⟨⟨h1.append.1, h2.1, h3.1⟩, ⟨h1.append.2, h2.2, h3.2⟩⟩
theorem ItCode.block {i : Nat} {b : Code} (h : ItCode C L (.block i b)) : ItCode C L b := ⟨h.1, h.2, h.3⟩
theorem ItCode.scope {b : Code} (h : ItCode C L (.scope b)) : ItCode C L b := ⟨h.1, h.2, h.3⟩
theorem ItCode.loop {b : Code} (h : ItCode C L (.loop b)) : ItCode C L b ∧ ∀ c, ((first b).bind L) = some c → IterOK C L c b := by
  obtain ⟨h1, h2, h3⟩ := h
  simp only [loopsOf] at h1
  refine ⟨⟨h1.append.2, h2, h3⟩, fun c hc => ?_⟩
  cases hf : first b with
  | none => rw [hf] at hc; simp at hc
  | some i =>
    rw [hf] at hc
    simp only [Option.bind_some] at hc
    have := h1.append.1
    rw [hf] at this
    exact this.1 c hc
end

section
variable {P : Program} {C : Cfg} {L : ICuts} {S : Type} {rd : Rnd S} {B : Bz} {I : S → (Nat → Prop) → (Nat → Prop) → World → Prop} {n0 l : Nat}

def PostI {S : Type} (B : Bz) (I : S → (Nat → Prop) → (Nat → Prop) → World → Prop) (n0 : Nat) (Jp : Array Value → Prop) (K : KI S) : Exit → Act → World → Prop := fun e a w => ∃ o σ s, e = toExit o ∧ K o σ s ∧ AtI B I n0 Jp σ s a w

abbrev yv (l : Nat) : Value := .func (.yield l) #[] #[]

theorem pureY_spec {C : Cfg} {X : Ctx} {ρ : Nat → Value} {w : World} : ∀ (vs : List AV) (ts : List TypeId) {H : List Blk} {us : List Value} {K : List AV → List Blk → Prop}, RH X ρ H w → VRs (hlen H) X.B ρ H w vs us → pureY C H vs ts K →
    ∃ ws H', K ws H' ∧ Ext X.B ρ H w ρ H' w ∧ RH X ρ H' w ∧ VRs (hlen H') X.B ρ H' w ws us ∧ allT ws = true
  | [], _, H, us, K, h, hv, he => ⟨[], H, he, Ext.refl, h, hv, rfl⟩
  | v :: vs, [], H, us, K, h, hv, he => by simp [pureY] at he
  | v :: vs, t :: ts, H, us, K, h, hv, he => by
    simp only [VRs] at hv
    obtain ⟨u, r, rfl, h1, h2⟩ := hv
    simp only [pureY] at he
    split at he
    · rename_i d hd
      obtain ⟨fr, y, H1, cs, hK, e1, hh1, hvt, hpk, _⟩ := toT_spec h h1 he
      obtain ⟨ws, H', hK, e, h', hvs, hall⟩ := pureY_spec vs ts hh1 (VRs.ext e1 h2) hK
      refine ⟨_, H', hK, e1.trans e, h', ?_, by simpa only [allT] using hall⟩
      simp only [VRs]
      refine ⟨u, r, rfl, ?_, hvs⟩
      simp only [VR]
      refine ⟨cs, ?_, hpk⟩
      cases hfl : flat d with
      | true => exact VT.flat hfl hvt
      | false => rw [Bool.or_false]; exact VT.ext e hvt
    · exact he.elim

/-- From the call of yield on. -/
theorem yield_tail (hC : CfgOK P C) (hI : Inv I) (hn0 : ∀ b, n0 ≤ b → B.N b) (hR : RoundOK P B I l rd) {ops : Array Oper} {y : Nat} {post : List Oper} {o : Oper} {xs : List Operand} (hyo : isYield y o = some xs)
    (hj0 : ∀ o' ∈ o :: post, StJ (fun t => t.getD 0 undef = yv l) o'.dst)
    {t : List AV} {ρ1 : Nat → Value} {H1 : List Blk} {s : S} {a1 : Act} {Ws w1 : World} {O O' : Nat → Prop} {K : St → S → Prop} (g0 : n0 ≤ Ws.heap.size) (g1 : I s O O' Ws)
    (h1 : RH ⟨Ws, mns B O, O'⟩ ρ1 H1 w1) (ht : TR (hlen H1) (mns B O) ρ1 H1 w1 t a1) (hd1 : a1.defers = []) (hj1 : a1.tmps.getD 0 undef = yv l) (hev : a1.tmps.getD y undef = yv l)
    (he : pureY C H1 (opvs t xs) (yTys o) fun us H => rd us s fun b s' => evOps C ops.toList post (putT t o.dst (bB b)) H fun t' H' => K ⟨t', H'⟩ s')
    {Q : Exit → Act → World → Prop} (hQ : ∀ σ' s' a' w', K σ' s' → AtI B I n0 (fun t => t.getD 0 undef = yv l) σ' s' a' w' → Q .normal a' w') : wpListIn (FW none) 0 P ops Q (o :: post) a1 w1 := by
  obtain ⟨c, hoc, hcc, hog, hxs⟩ := isYield_eq hyo
  simp only [wpListIn]
  rw [if_pos (by simp [Region.wanted, hog])]
  have hvs0 : VRs (hlen H1) (mns B O) ρ1 H1 w1 (opvs t xs) (xs.map a1.eval) := opvs_spec ht xs
  obtain ⟨us, H2, hK, hext, h2, hvs, hall⟩ := pureY_spec (X := ⟨Ws, mns B O, O'⟩) _ _ h1 hvs0 he
  have ht2 := ht.ext hext rfl
  -- the call of yield
  have hi1 : I s O (Own ρ1 H2) w1 := AtI.turn hI g1 h2
  obtain ⟨fn, tmps, asg, body, hrun, hround⟩ := hR (xs.map a1.eval) s O (Own ρ1 H2) w1 _ _ hK hi1 (DataR.of (fun fr b hb => zz_of_second hb) hall hvs)
  refine ⟨fun _ _ => trivial, ?_⟩
  rw [show (FW none).round = none from rfl, Oper.semAt_eq none a1.eval o (by rw [hoc]; intro c hc; cases hc)]
  have hev' : a1.eval (.tmp y) = yv l := hev
  have hr : (execOp a1.eval o).run P w1 = .ok (.round l fn tmps asg body) w1 := by
    have e1 : c.args.map a1.eval = (xs.map a1.eval).toArray := by rw [← hxs]; apply Array.ext'; simp
    obtain ⟨callee, args, ats⟩ := c
    simp only at hcc e1
    subst hcc
    simp [execOp, hoc, resolve, invoke, hev', Deferred.ofValue, e1, hrun]
  rw [hr]
  refine ⟨fun h => by simp at h, hround.mono ?_⟩
  rintro e W' ⟨b, s', O1, rfl, hKb, hi2, hrt⟩
  obtain ⟨hR2, htr⟩ := AtI.round (X := ⟨Ws, mns B O, O'⟩) hI hn0 rfl (Nat.le_trans g0 h1.size) h2 hi2 hrt
  have ht3 : TR (hlen H2) (mns B O1) ρ1 H2 W' (putT t o.dst (bB b)) (a1.put o.dst (.bool b)) := (htr ht2).put o.dst (VR_bB b)
  have := evOps_spec (ro := none) (J := fun t => t.getD 0 undef = yv l) (rest := []) (Q := Q) (X := ⟨W', mns B O1, Own ρ1 H2⟩) hC post (fun o' ho' => hj0 o' (List.mem_cons_of_mem _ ho')) _ ρ1 H2 _ W' _ hR2 ht3 (D := []) (by rw [put_defers]; exact hd1)
    (hj0 o List.mem_cons_self a1 _ hj1) hKb (fun t2 ρ2 H3 a2 w2 hK2 e2 h3 ht2 hd2 hj2 => by
      simp only [wpListIn]
      refine hQ ⟨t2, H3⟩ s' a2 w2 hK2 ⟨⟨W', O1, Own ρ1 H2, ρ2, ?_, hi2, h3, ht2⟩, hd2, hj2⟩
      exact Nat.le_trans (Nat.le_trans g0 h1.size) hrt.size)
  rwa [List.append_nil] at this

theorem yield_spec (hC : CfgOK P C) (hI : Inv I) (hn0 : ∀ b, n0 ≤ b → B.N b) (hR : RoundOK P B I l rd) {ops : Array Oper} (hy0 : noDstL 0 ops.toList = true) {id : Nat} {y : Nat} {pre post : List Oper} {o : Oper} {xs : List Operand} (hsp : splitY ops.toList = some (y, pre, (o, xs), post))
    {σ : St} {s : S} {a : Act} {w : World} {K : St → S → Prop} (h : AtI B I n0 (fun t => t.getD 0 undef = yv l) σ s a w) (hy : y < σ.tmps.length)
    (he : evOps C ops.toList pre (up σ.tmps y .any) σ.H fun t H0 => pureY C H0 (opvs t xs) (yTys o) fun us H => rd us s fun b s' => evOps C ops.toList post (putT t o.dst (bB b)) H fun t' H' => K ⟨t', H'⟩ s')
    {Q : Exit → Act → World → Prop} (hQ : ∀ σ' s' a' w', K σ' s' → AtI B I n0 (fun t => t.getD 0 undef = yv l) σ' s' a' w' → Q .normal a' w') : (Code.region id ops false).wpIn (FW none) 0 P Q a w := by
  obtain ⟨m, hl, hm, hmg, hmd, hyo, hny⟩ := splitY_eq hsp
  refine wpIn_region_list ?_
  rw [hl] at hy0
  have hdst := noDstL_mem hy0
  have hj0 : ∀ o' ∈ m :: (pre ++ o :: post), StJ (fun t => t.getD 0 undef = yv l) o'.dst := fun o' ho' a v hj => (put_other (hdst o' ho')).trans hj
  generalize hlt : ops.toList = opl at *
  rw [hl]
  obtain ⟨⟨Ws, O, O', ρ, g0, g1, g2, g3⟩, g4, g5⟩ := h
  simp only [wpListIn]
  rw [if_pos (by simp [Region.wanted, hmg])]
  have hmw : ∀ {next : Act → World → Prop}, next (a.put m.dst (a.tmps.getD 0 undef)) w → m.wpIn (FW none) 0 P a w next Q := by
    intro next hn
    refine ⟨fun _ _ => trivial, ?_⟩
    rw [show (FW none).round = none from rfl, Oper.semAt_eq none a.eval m (by rw [hm]; intro c hc; cases hc)]
    have hr : (execOp a.eval m).run P w = .ok (.value (a.tmps.getD 0 undef)) w := by simp [execOp, hm, Act.eval]
    rw [hr]
    exact hn
  refine hmw ?_
  rw [g5, hmd]
  have hyl : y < a.tmps.size := Nat.lt_of_lt_of_le hy g3.1
  have ht1 : TR (hlen σ.H) (mns B O) ρ σ.H w (up σ.tmps y .any) (a.put (some y) (yv l)) := g3.put (some y) (x := .any) (v := yv l) (by simp [VR])
  have hJ1 : (fun t : Array Value => t.getD 0 undef = yv l ∧ t.getD y undef = yv l) (a.put (some y) (yv l)).tmps := by
    refine ⟨(put_other (by rw [← hmd]; exact hdst m List.mem_cons_self)).trans g5, ?_⟩
    simp [Act.put, hyl]
  refine evOps_spec (ro := none) (J := fun t => t.getD 0 undef = yv l ∧ t.getD y undef = yv l) (X := ⟨Ws, mns B O, O'⟩) hC pre (fun o' ho' a v hj => ⟨hj0 o' (List.mem_cons_of_mem _ (List.mem_append_left _ ho')) a v hj.1, (put_other (noDstL_mem hny o' ho')).trans hj.2⟩) _ ρ σ.H _ w _ g2 ht1 (D := []) (by rw [put_defers]; exact g4) hJ1 (by rw [hlt]; exact he) ?_
  intro t ρ1 H1 a1 w1 hK hext h1 ht hd1 hj1
  exact yield_tail hC hI hn0 hR hyo (fun o' ho' => hj0 o' (List.mem_cons_of_mem _ (List.mem_append_right _ ho'))) g0 g1 h1 ht hd1 hj1.1 hj1.2 (by rw [hlt]; exact hK) hQ

/-- The same where the order is open. -/
theorem yield_any (hC : CfgOK P C) (hS : ∀ f e, C.fn f = some e → SelE e) (hm' : P.follows .mixedOrders = true) (hI : Inv I) (hn0 : ∀ b, n0 ≤ b → B.N b) (hR : RoundOK P B I l rd) {ops : Array Oper} (hy0 : noDstL 0 ops.toList = true) {id : Nat} {y : Nat} {pre post : List Oper} {o : Oper} {xs : List Operand} (hsp : splitY ops.toList = some (y, pre, (o, xs), post))
    (hdo : drawOKn (pre.length + 1) ops = true)
    {σ : St} {s : S} {a : Act} {w : World} {K : St → S → Prop} (h : AtI B I n0 (fun t => t.getD 0 undef = yv l) σ s a w) (hy : y < σ.tmps.length)
    (he : evHead C ops.toList (takeL (pre.length + 1) ops.toList) σ.tmps σ.H [] fun t M => pureY C (happ σ.H M) (opvs t xs) (yTys o) fun us H => rd us s fun b s' => evOps C ops.toList post (putT t o.dst (bB b)) H fun t' H' => K ⟨t', H'⟩ s')
    {Q : Exit → Act → World → Prop} (hQ : ∀ σ' s' a' w', K σ' s' → AtI B I n0 (fun t => t.getD 0 undef = yv l) σ' s' a' w' → Q .normal a' w') : (Code.region id ops true).wpIn (FW none) 0 P Q a w := by
  obtain ⟨m, hl, hm, hmg, hmd, hyo, hny⟩ := splitY_eq hsp
  have hdst := noDstL_mem hy0
  have hlen : ops.size = pre.length + 1 + (post.length + 1) := by
    have := congrArg List.length hl
    simp at this
    omega
  have hn : pre.length + 1 ≤ ops.size := by omega
  rw [takeL_eq] at he
  obtain ⟨⟨Ws, O, O', ρ, g0, g1, g2, g3⟩, g4, g5⟩ := h
  have hyl : y < a.tmps.size := Nat.lt_of_lt_of_le hy g3.1
  have hat : ∀ i, ops[i]? = (m :: (pre ++ o :: post))[i]? := fun i => by rw [← hl, Array.getElem?_toList]
  refine evHead_spec (X := ⟨Ws, mns B O, O'⟩) hC hS hm' hn hdo (D := []) (J := fun listed t => y < t.size ∧ t.getD 0 undef = yv l ∧ (listed.getD 0 false = true → t.getD y undef = yv l)) ?_ ⟨hyl, g5, ?_⟩ g2 g3 g4 he ?_
  · rintro i o' listed a' u hi ho' ⟨j1, j2, j3⟩ hu
    have hmem : o' ∈ ops.toList := List.mem_of_getElem? (show ops.toList[i]? = some o' by simpa using ho')
    refine ⟨by rw [put_size]; exact j1, (put_other (hdst o' hmem)).trans j2, fun hls => ?_⟩
    rw [hat] at ho'
    cases i with
    | zero =>
      simp at ho'
      subst ho'
      rw [hmd, hu hm hmg, j2]
      simp [Act.put, j1]
    | succ i =>
      have hmp : o' ∈ pre := by
        rw [List.getElem?_cons_succ, List.getElem?_append_left (by omega)] at ho'
        exact List.mem_of_getElem? ho'
      rw [put_other (noDstL_mem hny o' hmp)]
      refine j3 ?_
      rw [← hls]
      simp [Array.getElem?_setIfInBounds_ne]
  · intro hls
    rw [getD_replicate_false] at hls
    cases hls
  · intro t M ρ1 a1 w1 listed hK hls hj hext h1 ht hd1
    have hdr : ops.toList.drop (pre.length + 1) = o :: post := by
      rw [hl, List.drop_succ_cons]
      simp
    rw [hdr]
    exact yield_tail hC hI hn0 hR hyo (fun o' ho' a v hj => (put_other (hdst o' (by rw [hl]; exact List.mem_cons_of_mem _ (List.mem_append_right _ ho')))).trans hj) g0 g1 h1 ht hd1 hj.2.1 (hj.2.2 (hls 0 (by omega))) hK hQ

theorem evIt_spec (hC : CfgOK P C) (hS : ∀ f e, C.fn f = some e → SelE e) (hm : P.follows .mixedOrders = true) (hI : Inv I) (hn0 : ∀ b, n0 ≤ b → B.N b) (hR : RoundOK P B I l rd) : ∀ (c : Code) (_ : ItCode C L c) (σ : St) (s : S) (a : Act) (w : World) (K : KI S), AtI B I n0 (fun t => t.getD 0 undef = yv l) σ s a w → evIt C L S rd c σ s K →
    c.wpIn (FW none) 0 P (PostI B I n0 (fun t => t.getD 0 undef = yv l) K) a w
  | .skip, _, σ, s, a, w, K, h, he => by simp only [evIt] at he; exact wpIn_skip ⟨.nrm, σ, s, rfl, he, h⟩
  | .label _, _, σ, s, a, w, K, h, he => by simp only [evIt] at he; exact wpIn_label ⟨.nrm, σ, s, rfl, he, h⟩
  | .region id ops d, hok, σ, s, a, w, K, h, he => by
    simp only [evIt] at he
    split at he
    · rename_i y pre c post hsp
      split at he
      · replace he := Br_tf he
        obtain ⟨o, xs⟩ := c
        have hy : y < σ.tmps.length := Nat.le_of_ble_eq_true he.1
        exact yield_any hC hS hm hI hn0 hR (by have := hok.y0; simpa only [noDst] using this) hsp (by have := hok.draws; simp only [drawsI, hsp] at this; simpa using this) h hy he.2 fun σ' s' a' w' hK h' => ⟨.nrm, σ', s', rfl, hK, h'⟩
      · replace he := Br_tf he
        obtain ⟨o, xs⟩ := c
        have hy : y < σ.tmps.length := Nat.le_of_ble_eq_true he.1
        exact yield_spec hC hI hn0 hR (by have := hok.y0; simpa only [noDst] using this) hsp h hy he.2 fun σ' s' a' w' hK h' => ⟨.nrm, σ', s', rfl, hK, h'⟩
    · rename_i hsp
      obtain ⟨⟨Ws, O, O', ρ, g0, g1, g2, g3⟩, g4, g5⟩ := h
      have hd : d = true → drawOK ops = true := fun e => by have := hok.draws; simp only [drawsI, hsp, e] at this; simpa using this
      exact evRegion_spec (X := ⟨Ws, mns B O, O'⟩) (D := []) (J := fun t => t.getD 0 undef = yv l) hC hS hm hd (stC_slot (c := .region id ops d) hok.y0) g5 g2 g3 g4 he fun σ' ρ' a' w' hK hext h' ht' hd' hs' => ⟨.nrm, σ', s, rfl, hK, ⟨Ws, O, O', ρ', g0, g1, h', ht'⟩, hd', hs'⟩
  | .seq x y, hok, σ, s, a, w, K, h, he => by
    obtain ⟨hx, hy⟩ := hok.seq
    simp only [evIt] at he
    refine wpIn_seq (wpIn_mono (evIt_spec hC hS hm hI hn0 hR x hx σ s a w _ h he) fun e a' w' hp => ?_)
    obtain ⟨o, σ', s', rfl, hK, h'⟩ := hp
    cases o with
    | nrm => exact evIt_spec hC hS hm hI hn0 hR y hy σ' s' a' w' K h' hK
    | exit i => exact ⟨.exit i, σ', s', rfl, hK, h'⟩
    | ret => exact ⟨.ret, σ', s', rfl, hK, h'⟩
  | .cond x b c, hok, σ, s, a, w, K, h, he => by
    obtain ⟨hb, hc⟩ := hok.cond
    simp only [evIt] at he
    obtain ⟨⟨Ws, O, O', ρ, g0, g1, h1, h2⟩, h3, h4⟩ := h
    split at he
    · rename_i fr t hx
      have hv := opv_spec h2 x
      rw [hx] at hv
      have hv := VR_bool hv
      have hlearn : AtI B I n0 (fun t => t.getD 0 undef = yv l) ⟨learn σ.tmps x t, σ.H⟩ s a w := by
        refine ⟨⟨Ws, O, O', ρ, g0, g1, h1, ?_⟩, h3, h4⟩
        cases x with
        | tmp s => exact h2.up (by simp only [Act.eval] at hv; rw [hv]; exact VR_bB _)
        | _ => exact h2
      refine wpIn_cond hv ?_
      rcases Br_cases he with ⟨rfl, he⟩ | ⟨rfl, he⟩
      · exact evIt_spec hC hS hm hI hn0 hR b hb _ s a w K hlearn he
      · exact evIt_spec hC hS hm hI hn0 hR c hc _ s a w K hlearn he
    · exact he.elim
  | .block id b, hok, σ, s, a, w, K, h, he => by
    simp only [evIt] at he
    refine wpIn_block (wpIn_mono (evIt_spec hC hS hm hI hn0 hR b hok.block σ s a w _ h he) fun e a' w' hp => ?_)
    obtain ⟨o, σ', s', rfl, hK, h'⟩ := hp
    cases o with
    | nrm => exact ⟨.nrm, σ', s', rfl, hK, h'⟩
    | ret => exact ⟨.ret, σ', s', rfl, hK, h'⟩
    | exit j =>
      simp only [toExit, Exit.inBlock]
      rcases Br_cases hK with ⟨e, hK⟩ | ⟨e, hK⟩
      · rw [if_pos (Nat.eq_of_beq_eq_true e)]
        exact ⟨.nrm, σ', s', rfl, hK, h'⟩
      · rw [if_neg (Nat.ne_of_beq_eq_false e)]
        exact ⟨.exit j, σ', s', rfl, hK, h'⟩
  | .scope b, hok, σ, s, a, w, K, h, he => by
    simp only [evIt] at he
    refine wpIn_scope_straight (wpIn_mono (evIt_spec hC hS hm hI hn0 hR b hok.scope σ s a w _ h he) fun e a' w' hp => ?_)
    obtain ⟨o, σ', s', rfl, hK, h'⟩ := hp
    cases o with
    | nrm => exact ⟨.nrm, σ', s', rfl, hK, h'⟩
    | ret => exact ⟨.ret, σ', s', rfl, hK, h'⟩
    | exit j => exact ⟨.exit j, σ', s', rfl, hK, h'⟩
  | .loop b, hok, σ, s, a, w, K, h, he => by
    obtain ⟨hb, hl⟩ := hok.loop
    simp only [evIt] at he
    split at he
    · rename_i c hc
      obtain ⟨v, hF, hat⟩ := h.dec he
      obtain ⟨Fk, hF1, hF0, hFs⟩ := hl c hc
      rw [hF1] at hF
      obtain ⟨k, hk⟩ := hF
      have key : ∀ k v s a w, Fk k v S rd s K → AtI B I n0 (fun t => t.getD 0 undef = yv l) (st c.lay v) s a w → Code.roundsIn (FW none) 0 P b (PostI B I n0 (fun t => t.getD 0 undef = yv l) K) k a w := by
        intro k
        induction k with
        | zero => intro v s a w hk _; rw [hF0] at hk; exact hk.elim
        | succ k ih =>
          intro v s a w hk hat
          rw [roundsIn_succ]
          rw [hFs] at hk
          refine wpIn_mono (evIt_spec hC hS hm hI hn0 hR b hb _ s a w _ hat hk) fun e a' w' hp => ?_
          obtain ⟨o, σ', s', rfl, hK, h'⟩ := hp
          cases o with
          | nrm =>
            simp only [loopI] at hK
            obtain ⟨v', hF', hat'⟩ := h'.dec hK
            exact ih v' s' a' w' hF' hat'
          | exit i =>
            simp only [loopI, outI] at hK
            split at hK
            · obtain ⟨v2, hK2, h2⟩ := h'.dec hK
              exact ⟨.exit i, _, s', rfl, hK2, h2⟩
            · exact hK.elim
          | ret =>
            simp only [loopI, outI] at hK
            split at hK
            · obtain ⟨v2, hK2, h2⟩ := h'.dec hK
              exact ⟨.ret, _, s', rfl, hK2, h2⟩
            · exact hK.elim
      exact wpIn_loop_rounds k (key k v s a w hk hat)
    · exact he.elim
  | .exit id, _, σ, s, a, w, K, h, he => by simp only [evIt] at he; exact wpIn_exit ⟨.exit id, σ, s, rfl, he, h⟩
  | .ret, _, σ, s, a, w, K, h, he => by simp only [evIt] at he; exact wpIn_ret ⟨.ret, σ, s, rfl, he, h⟩
  | .rangeFunc _ _ _ _, _, σ, s, a, w, K, h, he => by simp [evIt] at he
  | .goto _, _, σ, s, a, w, K, h, he => by simp [evIt] at he
  | .refuse _, _, σ, s, a, w, K, h, he => by simp [evIt] at he

end

theorem VRs_at {n : Nat} {B : Bz} {ρ : Nat → Value} {H : List Blk} {w : World} : ∀ {as : List AV} {us : List Value}, VRs n B ρ H w as us → as.length = us.length ∧ ∀ i, i < as.length → VR n B ρ H w (lk as i) (us.getD i undef)
  | [], us, h => by simp only [VRs] at h; subst h; exact ⟨rfl, fun i hi => by simp at hi⟩
  | a :: as, us, h => by
    simp only [VRs] at h
    obtain ⟨v, r, rfl, h1, h2⟩ := h
    obtain ⟨hl, hv⟩ := VRs_at h2
    refine ⟨by simp [hl], fun i hi => ?_⟩
    cases i with
    | succ i => simpa [lk] using hv i (by simpa using hi)
    | zero => exact h1

theorem lk_app' : ∀ (a b : List AV) (i : Nat), lk (app a b) i = if i < a.length then lk a i else lk b (i - a.length)
  | [], b, i => by simp [app]
  | x :: a, b, 0 => by simp [app, lk]
  | x :: a, b, i + 1 => by
    simp only [app, lk, lk_app' a b i, List.length_cons, Nat.add_lt_add_iff_right]
    congr 2; omega

/-- The slots of a function that is entered. -/
theorem TR_init {n m : Nat} {B : Bz} {ρ : Nat → Value} {H : List Blk} {w : World} {args : List AV} {vals : List Value} (h : VRs n B ρ H w args vals) :
    TR n B ρ H w (app args (anys (m - args.length))) { tmps := vals.toArray ++ Array.replicate (m - vals.toArray.size) undef, defers := [] } := by
  obtain ⟨hlen', hav⟩ := VRs_at h
  refine ⟨?_, fun i => ?_⟩
  · simp [app_eq, length_anys, hlen']
  · rw [lk_app']
    split
    · rename_i hi
      have := hav i hi
      have e : (vals.toArray ++ Array.replicate (m - vals.toArray.size) undef).getD i undef = vals.getD i undef := by
        have hi' : i < vals.length := by omega
        have hi2 : i < (vals.toArray).size := by simpa using hi'
        rw [Array.getD_eq_getD_getElem?, Array.getElem?_append_left hi2]
        simp [List.getD]
      rw [e]; exact this
    · rw [lk_anys]; simp [VR]

theorem Sel2.then3 {α β : Type} {F : (α → β → Prop) → Prop} {ε ζ η : Type} {G : α → β → (ε → ζ → η → Prop) → Prop} (hf : Sel2 F) (hg : ∀ a b, Sel3 (G a b)) : Sel3 fun K => F fun a b => G a b K := by
  rcases hf with hf | ⟨a, b, hf⟩
  · exact .inl fun K => hf _
  · rcases hg a b with hg | ⟨d, e, f, hg⟩
    · exact .inl fun K h => hg K ((hf _).1 h)
    · exact .inr ⟨d, e, f, fun K => (hf _).trans (hg K)⟩
theorem Sel3.then1 {α β γ δ : Type} {F : (α → β → γ → Prop) → Prop} {G : α → β → γ → (δ → Prop) → Prop} (hf : Sel3 F) (hg : ∀ a b c, Sel1 (G a b c)) : Sel1 fun K => F fun a b c => G a b c K := by
  rcases hf with hf | ⟨a, b, c, hf⟩
  · exact .inl fun K => hf _
  · rcases hg a b c with hg | ⟨d, hg⟩
    · exact .inl fun K h => hg K ((hf _).1 h)
    · exact .inr ⟨d, fun K => (hf _).trans (hg K)⟩

section
variable {P : Program} {C : Cfg} {L : ICuts}

theorem sel_pureY : ∀ (vs : List AV) (ts : List TypeId) (H : List Blk), Sel2 fun K => pureY C H vs ts K
  | [], _, H => Sel2.pt _ _
  | v :: vs, [], H => Sel2.no
  | v :: vs, t :: ts, H => by
    simp only [pureY]
    cases (C.ty t).code with
    | none => exact Sel2.no
    | some d => exact (sel_toT true v d).then2 fun fr y H1 => (sel_pureY vs ts H1).then2 fun ws H' => Sel2.pt _ _

theorem sel_outI {S : Type} (outs : Out → Option Lay) (o : Out) (σ : St) (s : S) : Sel3 fun K => outI outs o σ s K := by
  unfold outI
  cases outs o with
  | none => exact Sel3.no
  | some l => exact (sel_dec l σ).then3 fun v => Sel3.pt _ _ _

theorem sel_iter {S : Type} {rd : Rnd S} (c : ICut) {b : Code} (hb : ∀ σ s, Sel3 fun K => evIt C L S rd b σ s K) (h : IterOK C L c b) (v : Vals c.lay) (s : S) : Sel3 fun K => c.F v S rd s K := by
  obtain ⟨Fk, hF, h0, hs⟩ := h
  have hsel : ∀ k v s, Sel3 fun K => Fk k v S rd s K := by
    intro k
    induction k with
    | zero => intro v s; exact .inl fun K hk => by have hk : Fk 0 v S rd s K := hk; rw [h0] at hk; exact hk
    | succ k ih =>
      intro v s
      have e : (fun K => Fk (k + 1) v S rd s K) = fun K => evIt C L S rd b (st c.lay v) s (loopI c (fun v s K => Fk k v S rd s K) K) := funext fun K => hs k v S rd s K
      rw [e]
      refine (hb _ _).then3 (G := fun o σ s K => loopI c (fun v s K => Fk k v S rd s K) K o σ s) fun o σ s => ?_
      cases o with
      | nrm => exact (sel_dec c.lay σ).then3 fun v => ih v s
      | exit i => exact sel_outI _ _ _ _
      | ret => exact sel_outI _ _ _ _
  have hup : ∀ k v s K, Fk k v S rd s K → Fk (k + 1) v S rd s K := by
    intro k
    induction k with
    | zero => intro v s K h; rw [h0] at h; exact h.elim
    | succ k ih =>
      intro v s K h
      rw [hs] at h ⊢
      rcases hb (st c.lay v) s with hn | ⟨o, σ, s', hn⟩
      · exact (hn _ h).elim
      · have h := (hn _).1 h
        refine (hn _).2 ?_
        cases o with
        | nrm =>
          simp only [loopI] at h ⊢
          rcases sel_dec c.lay σ with hd | ⟨v', hd⟩
          · exact (hd _ h).elim
          · exact (hd _).2 (ih v' s' K ((hd _).1 h))
        | exit i => exact h
        | ret => exact h
  have hle : ∀ k d v s K, Fk k v S rd s K → Fk (k + d) v S rd s K := by
    intro k d v s K h
    induction d with
    | zero => exact h
    | succ d ih => exact hup _ _ _ _ ih
  by_cases hex : ∃ k K, Fk k v S rd s K
  · obtain ⟨k, K, hk⟩ := hex
    rcases hsel k v s with hn | ⟨o, σ, s1, hn⟩
    · exact (hn K hk).elim
    · refine .inr ⟨o, σ, s1, fun K' => ?_⟩
      show c.F v S rd s K' ↔ _
      rw [hF]
      constructor
      · rintro ⟨k', hk'⟩
        have h1 := hle k' k v s K' hk'
        rcases hsel (k' + k) v s with hn2 | ⟨o2, σ2, s2, hn2⟩
        · exact (hn2 _ h1).elim
        · have h2 : Fk (k' + k) v S rd s (fun a b c => a = o ∧ b = σ ∧ c = s1) := by
            have := hle k k' v s (fun a b c => a = o ∧ b = σ ∧ c = s1) ((hn _).2 ⟨rfl, rfl, rfl⟩)
            rwa [Nat.add_comm] at this
          obtain ⟨e1, e2, e3⟩ := (hn2 _).1 h2
          subst e1 e2 e3
          exact (hn2 _).1 h1
      · intro hk'
        exact ⟨k, (hn _).2 hk'⟩
  · refine .inl fun K h => ?_
    have h : c.F v S rd s K := h
    rw [hF] at h
    obtain ⟨k, hk⟩ := h
    exact hex ⟨k, K, hk⟩

theorem sel_evIt (hS : ∀ f e, C.fn f = some e → SelE e) {S : Type} {rd : Rnd S} (hr : ∀ us s, Sel2 (rd us s)) : ∀ (c : Code) (_ : ItCode C L c) (σ : St) (s : S), Sel3 fun K => evIt C L S rd c σ s K
  | .skip, _, σ, s => by simp only [evIt]; exact Sel3.pt _ _ _
  | .label _, _, σ, s => by simp only [evIt]; exact Sel3.pt _ _ _
  | .region id ops d, _, σ, s => by
    simp only [evIt]
    cases splitY ops.toList with
    | none => exact (sel_evRegion hS _ _ σ).then3 fun σ' => Sel3.pt _ _ _
    | some p =>
      obtain ⟨y, pre, c, post⟩ := p
      cases d with
      | true => exact Sel3.br _ ((sel_evHead hS ops.toList σ.H _ σ.tmps []).then3 fun t M => (sel_pureY _ _ _).then3 fun us H => (hr _ _).then3 fun b s' => (sel_evOps hS _ _ _ _).then3 fun t' H' => Sel3.pt _ _ _) Sel3.no
      | false => exact Sel3.br _ ((sel_evOps hS _ _ _ _).then3 fun t H0 => (sel_pureY _ _ _).then3 fun us H => (hr _ _).then3 fun b s' => (sel_evOps hS _ _ _ _).then3 fun t' H' => Sel3.pt _ _ _) Sel3.no
  | .seq a b, h, σ, s => by
    obtain ⟨ha, hb⟩ := h.seq
    simp only [evIt]
    refine (sel_evIt hS hr a ha σ s).then3 (G := fun o σ' s' K => match o with
      | .nrm => evIt C L S rd b σ' s' K
      | o => K o σ' s') fun o σ' s' => ?_
    cases o with
    | nrm => exact sel_evIt hS hr b hb σ' s'
    | exit i => exact Sel3.pt _ _ _
    | ret => exact Sel3.pt _ _ _
  | .cond x a b, h, σ, s => by
    obtain ⟨ha, hb⟩ := h.cond
    simp only [evIt]
    cases opv σ.tmps x with
    | t fr c y => cases c <;> first | exact Sel3.no | exact Sel3.br _ (sel_evIt hS hr a ha _ s) (sel_evIt hS hr b hb _ s)
    | _ => exact Sel3.no
  | .block id b, h, σ, s => by
    simp only [evIt]
    refine (sel_evIt hS hr b h.block σ s).then3 (G := fun o σ' s' K => match o with
      | .exit j => Br (Nat.beq j id) (K .nrm σ' s') (K (.exit j) σ' s')
      | o => K o σ' s') fun o σ' s' => ?_
    cases o with
    | nrm => exact Sel3.pt _ _ _
    | exit i => exact Sel3.br _ (Sel3.pt _ _ _) (Sel3.pt _ _ _)
    | ret => exact Sel3.pt _ _ _
  | .scope b, h, σ, s => by simp only [evIt]; exact sel_evIt hS hr b h.scope σ s
  | .loop b, h, σ, s => by
    obtain ⟨hb, hl⟩ := h.loop
    simp only [evIt]
    cases hc : (first b).bind L with
    | none => exact Sel3.no
    | some c => exact (sel_dec c.lay σ).then3 fun v => sel_iter c (fun σ s => sel_evIt hS hr b hb σ s) (hl c hc) v s
  | .exit _, _, σ, s => by simp only [evIt]; exact Sel3.pt _ _ _
  | .ret, _, σ, s => by simp only [evIt]; exact Sel3.pt _ _ _
  | .rangeFunc _ _ _ _, _, σ, s => by simp only [evIt]; exact Sel3.no
  | .goto _, _, σ, s => by simp only [evIt]; exact Sel3.no
  | .refuse _, _, σ, s => by simp only [evIt]; exact Sel3.no

/-- A function that the evaluator goes through may be ranged over. -/
theorem evItFn_ok (hC : CfgOK P C) (hS : ∀ f e, C.fn f = some e → SelE e) (hm : P.follows .mixedOrders = true) {f : FuncId} {fn : Func} {c : Code} (hf : P.funcs[f]? = some fn) (hb : fn.body = some c) (hr0 : fn.results = #[]) (hok : ItCode C L c) : ItOK P f (evItFn C L fn) := by
  intro caps S rd s K he B I hI l vals w O hB hi hd hR
  unfold evItFn at he
  rw [hb] at he
  simp only at he
  replace he := Br_tf he
  obtain ⟨hall, he⟩ := he
  have noown : ∀ b, ¬ Own (fun _ => undef) [] b := by rintro b ⟨r, hr, _⟩; simp [hlen] at hr
  have hRH : RH ⟨w, mns B O, fun _ => False⟩ (fun _ => undef) [] w := by
    refine ⟨fun r hr => by simp [hlen] at hr, fun r r' b hr => by simp [hlen] at hr, fun r b hr => by simp [hlen] at hr, rfl, rfl, rfl, Nat.le_refl _, fun _ _ _ => rfl, fun b _ ho => (noown b ho).elim, fun b hb => ⟨hB b hb, fun ho => ?_⟩⟩
    have := (hI.own hi b ho).1
    have hb' : w.heap.size ≤ b := hb
    omega
  have hvr : VRs 0 (mns B O) (fun _ => undef) [] w (.any :: caps) (yv l :: vals) := by
    simp only [VRs]
    refine ⟨_, _, rfl, by simp [VR], hd.vrs fun fr b hb => zn_second ⟨hb.1, noown b, hb.2.2⟩⟩
  have hat : AtI B I w.heap.size (fun t => t.getD 0 undef = yv l) ⟨app (.any :: caps) (anys (fn.ntmps - (caps.length + 1))), []⟩ s { tmps := (yv l :: vals).toArray ++ Array.replicate (fn.ntmps - (yv l :: vals).toArray.size) undef, defers := [] } w := by
    refine ⟨⟨w, O, _, _, Nat.le_refl _, hi, hRH, ?_⟩, rfl, ?_⟩
    · have := TR_init (m := fn.ntmps) hvr
      simpa [hlen] using this
    · simp [Array.getElem?_append]
  have e : (#[.func (.yield l) #[] #[]] ++ vals.toArray : Array Value) = (yv l :: vals).toArray := by simp
  rw [e]
  refine callsIn_of_wp_marks (n := 0) (F := FW none) hf hb trivial (wpIn_mono (evIt_spec (l := l) hC hS hm hI hB hR c hok _ s _ w _ hat he) fun e a' w' hp => ?_) rfl
  obtain ⟨o, σ, s', rfl, hK, ⟨Ws, O1, O2, ρ, _, h1, h2, _⟩, hdf, _⟩ := hp
  have fin : K s' → LeavesInM (FW none) 0 P fn a'.tmps (fun e w' => ∃ v s' O1 O2, e = .returned v ∧ K s' ∧ I s' O1 O2 w') a'.defers .returning w' := by
    intro hK
    rw [hdf]
    refine ⟨.tuple #[], ?_, _, s', O1, _, rfl, hK, AtI.turn hI h1 h2⟩
    simp [results, hr0]
  cases o with
  | nrm => exact fin hK
  | ret => exact fin hK
  | exit i => exact hK.elim

theorem sel_evItFn (hS : ∀ f e, C.fn f = some e → SelE e) {fn : Func} {c : Code} (hb : fn.body = some c) (hok : ItCode C L c) : SelIt (evItFn C L fn) := by
  intro caps S rd hr s
  unfold evItFn
  rw [hb]
  simp only
  refine Sel1.br _ ((sel_evIt hS hr c hok _ s).then1 (G := fun o _ s' K => match o with
    | .exit _ => False
    | _ => K s') fun o σ s' => ?_) Sel1.no
  cases o with
  | nrm => exact Sel1.pt _
  | ret => exact Sel1.pt _
  | exit i => exact Sel1.no
end
end Go.Eng
