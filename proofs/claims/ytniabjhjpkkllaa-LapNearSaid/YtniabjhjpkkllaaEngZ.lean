/- The abstract evaluator: regions of open order some of whose operations write. -/
import Derived.Test.YtniabjhjpkkllaaEngN
set_option linter.unusedVariables false
set_option linter.unusedSimpArgs false
namespace Go.Eng
open Go Go.RowKit

def dstsB : List Oper → Bool
  | [] => true
  | o :: l => (match o.dst with
    | some d => l.all fun p => match p.dst with
      | some e => !(Nat.beq d e)
      | none => true
    | none => true) && dstsB l
def chainsB (ops : Array Oper) : Bool :=
  (List.range ops.size).all fun i => (List.range i).all fun j => (match ops[j]?, ops[i]? with
    | some x, some y => mixPure x.op || mixPure y.op
    | _, _ => false) || Region.waitsFor .any ops i j
/-- What such a region must be like. -/
def mixB (ops : Array Oper) : Bool := edgesB ops && pairsB ops ops.size && dstsB ops.toList && chainsB ops && ops.toList.all fun o => match o.guard with
  | none => true
  | some _ => false

theorem dstsB_ne : ∀ {l : List Oper}, dstsB l = true → ∀ (i j : Nat) (x y : Oper) (t : Tmp), i < j → l[i]? = some x → l[j]? = some y → x.dst = some t → y.dst ≠ some t
  | [], _, i, j, x, y, t, _, hi, _, _ => by simp at hi
  | o :: l, h, i, j, x, y, t, hij, hi, hj, hx => by
    simp only [dstsB, Bool.and_eq_true] at h
    cases j with
    | zero => omega
    | succ j =>
      cases i with
      | zero =>
        simp at hi hj
        subst hi
        rw [hx] at h
        have := List.all_eq_true.1 h.1 y (List.mem_of_getElem? hj)
        intro e
        rw [e] at this
        simp at this
      | succ i => exact dstsB_ne h.2 i j x y t (by omega) (by simpa using hi) (by simpa using hj) hx

theorem refsLtL_of {n : Nat} : ∀ {l : List AV}, refsLtL n l = true → ∀ v ∈ l, refsLt n v = true
  | [], _, v, h => by cases h
  | a :: l, h, v, hv => by
    simp only [refsLtL, Bool.and_eq_true] at h
    rcases List.mem_cons.1 hv with rfl | hv
    · exact h.1
    · exact refsLtL_of h.2 v hv
/-- Alike below n. -/
def Agree (n : Nat) (H H' : List Blk) : Prop := ∀ r, r < n → hk H r = hk H' r
theorem opvs_mem {T : List AV} : ∀ {xs : List Operand} {x : Operand}, x ∈ xs → opv T x ∈ opvs T xs
  | y :: xs, x, h => by
    simp only [opvs]
    rcases List.mem_cons.1 h with rfl | h
    · exact List.mem_cons_self
    · exact List.mem_cons_of_mem _ (opvs_mem h)

theorem evLoad_indep {n : Nat} {x : AV} (h : refsLt n x = true) {H H' : List Blk} (hA : Agree n H H') (ty : Ty) : evLoad H x ty = evLoad H' x ty := by
  cases x with
  | op r c p =>
    have hr : r < n := by simpa [refsLt, Nat.blt, Nat.succ_le_iff] using h
    funext K
    simp only [evLoad, hA r hr]
  | t fr c x => unfold evLoad; cases c <;> rfl
  | _ => rfl
theorem evLen_indep {n : Nat} {x : AV} (h : refsLt n x = true) {H H' : List Blk} (hA : Agree n H H') (ty : Ty) : evLen H x ty = evLen H' x ty := by
  cases x with
  | os r =>
    have hr : r < n := by simpa [refsLt, Nat.blt, Nat.succ_le_iff] using h
    funext K
    cases ty with
    | sl a b c => simp only [evLen, hA r hr]
    | sc d => cases d <;> rfl
    | _ => rfl
  | t fr c y => unfold evLen; cases ty with
    | sc d => cases d <;> cases c <;> rfl
    | _ => cases c <;> rfl
  | _ => unfold evLen; cases ty with
    | sc d => cases d <;> rfl
    | _ => rfl
theorem sel_go {F : (AV → Prop) → Prop} (hF : Sel1 F) {H : List Blk} {K : AV → List Blk → Prop} (he : F fun v => K v H) : ∃ v, K v H ∧ ∀ (H' : List Blk) (K' : AV → List Blk → Prop), K' v H' → F fun v => K' v H' := by
  rcases hF with hn | ⟨v, hv⟩
  · exact (hn _ he).elim
  · exact ⟨v, (hv _).1 he, fun H' K' hk => (hv _).2 hk⟩

/-- Such an operation says the same of whatever own memory there is. -/
theorem mix_indep {C : Cfg} {n : Nat} {T : List AV} {H : List Blk} {o : Oper} (hp : mixPure o.op = true) (ho : refsLtL n (opvs T o.op.operands.toList) = true) {K : AV → List Blk → Prop} (he : evOp C false T H o K) :
    ∃ v, K v H ∧ ∀ (H' : List Blk) (K' : AV → List Blk → Prop), Agree n H' H → K' v H' → evOp C false T H' o K' := by
  have hop : ∀ x ∈ o.op.operands, refsLt n (opv T x) = true := fun x hx => refsLtL_of ho _ (opvs_mem (by simpa using hx))
  cases hh : o.op with
  | fieldAddr t x f =>
    simp only [evOp, hh] at he ⊢
    obtain ⟨v, h2, h3⟩ := sel_go (sel_evFieldAddr _ _ _) he
    exact ⟨v, h2, fun H' K' _ hk => h3 H' K' hk⟩
  | load t a =>
    have h1 := hop a (by rw [hh]; simp [Op.operands])
    simp only [evOp, hh] at he ⊢
    obtain ⟨v, h2, h3⟩ := sel_go (sel_evLoad _ _) he
    exact ⟨v, h2, fun H' K' hA hk => by rw [evLoad_indep h1 hA]; exact h3 H' K' hk⟩
  | move x =>
    cases x with
    | tmp t => simp only [evOp, hh] at he ⊢; exact ⟨_, he, fun _ _ _ h => h⟩
    | _ => rw [hh] at hp; simp [mixPure] at hp
  | assign x =>
    cases x with
    | tmp t => simp only [evOp, hh] at he ⊢; exact ⟨_, he, fun _ _ _ h => h⟩
    | _ => rw [hh] at hp; simp [mixPure] at hp
  | call c =>
    obtain ⟨callee, args, ats⟩ := c
    rw [hh] at hp
    cases callee with
    | builtin b =>
      cases b <;> first | (simp [mixPure] at hp; done) | skip
      have hargs : ∀ x ∈ args, refsLt n (opv T x) = true := fun x hx => hop x (by rw [hh]; simp only [Op.operands, Call.operands]; exact Array.mem_append.2 (.inr hx))
      simp only [evOp, hh, evCall] at he ⊢
      generalize hl : args.toList = l at *
      generalize ats.toList = m at *
      rcases l with _ | ⟨x, _ | ⟨y, l⟩⟩ <;> rcases m with _ | ⟨t, _ | ⟨t', m⟩⟩ <;> first | exact he.elim | skip
      have h1 := hargs x (by rw [← Array.mem_toList_iff, hl]; simp)
      obtain ⟨v, h2, h3⟩ := sel_go (sel_evLen _ _) he
      exact ⟨v, h2, fun H' K' hA hk => by show evLen H' (opv T x) (C.ty t) fun v => K' v H'; rw [evLen_indep h1 hA]; exact h3 H' K' hk⟩
    | _ => simp [mixPure] at hp
  | _ => rw [hh] at hp; simp [mixPure] at hp

/-- What lies below n stays. -/
def Keep (n : Nat) (H H' : List Blk) : Prop := Agree n H' H ∧ (n ≤ hlen H → n ≤ hlen H')
theorem keep_hup {n r : Nat} {H : List Blk} {b : Blk} (h : n ≤ r) : Keep n H (hup H r b) :=
  ⟨fun i hi => by rw [hk_hup, if_neg (by omega)], fun hl => by rw [hlen_hup]; exact hl⟩
theorem keep_happ {n : Nat} {H M : List Blk} (h : n ≤ hlen H) : Keep n H (happ H M) :=
  ⟨fun i hi => by rw [hk_happ, if_pos (by omega)], fun _ => by rw [hlen_happ]; omega⟩
theorem mix_keep {C : Cfg} {n : Nat} {T : List AV} {H : List Blk} {o : Oper} (hk : mixKeep n T o.op = true) (hn : n ≤ hlen H) {K : AV → List Blk → Prop} (he : evOp C false T H o K) : evOp C false T H o fun v H' => K v H' ∧ Keep n H H' := by
  cases hh : o.op with
  | alloc e =>
    simp only [evOp, hh] at he ⊢
    show evAlloc H e (C.ty e) fun v H' => K v H' ∧ Keep n H H'
    unfold evAlloc at he ⊢
    cases hty : C.ty e with
    | sl a b c => rw [hty] at he; exact ⟨he, keep_happ hn⟩
    | sc c => rw [hty] at he; exact ⟨he, keep_happ hn⟩
    | arr a b c => rw [hty] at he; obtain ⟨h1, he⟩ := Br_tf he; show Br _ _ _; rw [h1]; exact ⟨he, keep_happ hn⟩
    | st c => rw [hty] at he; obtain ⟨h1, he⟩ := Br_tf he; show Br _ _ _; rw [h1]; exact ⟨he, keep_happ hn⟩
    | _ => rw [hty] at he; exact he.elim
  | store t a v =>
    rw [hh] at hk
    simp only [mixKeep, Bool.and_eq_true, Bool.not_eq_true'] at hk
    obtain ⟨hk1, hk2⟩ := hk
    simp only [evOp, hh] at he ⊢
    obtain ⟨_, he⟩ := Br_tf he
    show evStore H (opv T a) (opv T v) (C.ty t) fun H' => K .any H' ∧ Keep n H H'
    revert hk1 he
    generalize opv T a = x
    intro hk1 he
    split at hk1
    · rename_i r c
      have hr : n ≤ r := Nat.le_of_ble_eq_true hk1
      unfold evStore at he ⊢
      simp only at he ⊢
      cases hb : hk H r with
      | dead => rw [hb] at he; exact he.elim
      | av u =>
        rw [hb] at he
        obtain ⟨h1, he⟩ := Br_tf he
        show Br _ _ _
        rw [h1]
        exact ⟨he, keep_hup hr⟩
      | val wr fr E c' y =>
        rw [hb] at he
        simp only at he ⊢
        cases hc : (C.ty t).code with
        | none => rw [hc] at he; exact he.elim
        | some d =>
          rw [hc] at he
          simp only at he ⊢
          have fin : ∀ (fr' : Bool) (z : El d), (match hk H r with
              | .val true fr E c' x => asC c' x c fun x => setP c x [] d z fun z => K .any (hup H r (.val true (fr && (fr' || flat d)) E c z))
              | _ => False) → (match hk H r with
              | .val true fr E c' x => asC c' x c fun x => setP c x [] d z fun z => K .any (hup H r (.val true (fr && (fr' || flat d)) E c z)) ∧ Keep n H (hup H r (.val true (fr && (fr' || flat d)) E c z))
              | _ => False) := by
            intro fr' z hz
            rw [hb] at hz ⊢
            cases wr with
            | false => exact hz.elim
            | true =>
              simp only at hz ⊢
              obtain ⟨e, hz⟩ := asC_spec hz
              subst e
              simp only [asC, dif_pos]
              rcases sel_setP c' y [] d z with hn2 | ⟨w, hw⟩
              · exact (hn2 _ hz).elim
              · exact (hw _).2 ⟨(hw _).1 hz, keep_hup hr⟩
          cases hv : opv T v with
          | t fr0 c0 x0 =>
            rw [hv] at he
            unfold toT at he ⊢
            simp only at he ⊢
            obtain ⟨e, he⟩ := asC_spec he
            subst e
            simp only [asC, dif_pos]
            exact fin _ _ he
          | ns =>
            rw [hv] at he
            unfold toT at he ⊢
            simp only at he ⊢
            cases d with
            | sl c0 => exact fin _ _ he
            | _ => exact he.elim
          | os r0 => rw [hv] at hk2; simp [owns] at hk2
          | ox r0 c0 l0 h0 => rw [hv] at hk2; simp [owns] at hk2
          | op r0 c0 p0 => rw [hv] at hk2; simp [owns] at hk2
          | _ => rw [hv] at he; exact he.elim
    · cases hk1
  | _ => rw [hh] at hk; simp [mixKeep] at hk

/-- What the operations come to, one by one. -/
structure MixT (C : Cfg) (n0 : Nat) (l : List Oper) (T : Nat → List AV) (H : Nat → List Blk) (v : Nat → AV) : Prop where
  tl : ∀ i, (T i).length = (T 0).length
  ag : ∀ i, Agree n0 (H i) (H 0)
  step : ∀ i o, l[i]? = some o → T (i + 1) = putT (T i) o.dst (v i) ∧ (∀ K : AV → List Blk → Prop, K (v i) (H (i + 1)) → evOp C false (T i) (H i) o K) ∧
    (mixPure o.op = true → H (i + 1) = H i ∧ ∀ (H' : List Blk) (K' : AV → List Blk → Prop), Agree n0 H' (H 0) → K' (v i) H' → evOp C false (T i) H' o K')

theorem mix_trace {C : Cfg} (hS : ∀ f e, C.fn f = some e → SelE e) {n0 : Nat} : ∀ (l : List Oper) (T0 : List AV) (H0 : List Blk) (K : List AV → List Blk → Prop), n0 ≤ hlen H0 → evMix C n0 l T0 H0 K →
    ∃ T H v, T 0 = T0 ∧ H 0 = H0 ∧ MixT C n0 l T H v ∧ K (T l.length) (H l.length)
  | [], T0, H0, K, _, he => ⟨fun _ => T0, fun _ => H0, fun _ => .any, rfl, rfl, ⟨fun _ => rfl, fun _ _ _ => rfl, fun i o h => by simp at h⟩, he⟩
  | o :: l, T0, H0, K, hn, he => by
    have key : ∃ v1 H1, (∀ K : AV → List Blk → Prop, K v1 H1 → evOp C false T0 H0 o K) ∧ (mixPure o.op = true → H1 = H0 ∧ ∀ (H' : List Blk) (K' : AV → List Blk → Prop), Agree n0 H' H0 → K' v1 H' → evOp C false T0 H' o K') ∧ Keep n0 H0 H1 ∧ evMix C n0 l (putT T0 o.dst v1) H1 K := by
      simp only [evMix] at he
      split at he
      · rename_i hp
        obtain ⟨ho, he⟩ := Br_tf he
        obtain ⟨v, h1, h2⟩ := mix_indep hp ho he
        exact ⟨v, H0, fun K hk => h2 H0 K (fun _ _ => rfl) hk, fun _ => ⟨rfl, h2⟩, ⟨fun _ _ => rfl, id⟩, h1⟩
      · rename_i hp
        obtain ⟨hkp, he⟩ := Br_tf he
        have he := mix_keep hkp hn he
        rcases sel_evOp hS false T0 o (H := H0) with hn2 | ⟨v, H1, hv⟩
        · exact (hn2 _ he).elim
        · have := (hv _).1 he
          exact ⟨v, H1, fun K hk => (hv K).2 hk, fun h => (by rw [hp] at h; cases h), this.2, this.1⟩
    obtain ⟨v1, H1, k1, k2, k3, he⟩ := key
    obtain ⟨T, H, v, e1, e2, ⟨htl, hag, hst⟩, hK⟩ := mix_trace hS l _ _ _ (k3.2 hn) he
    subst e2
    refine ⟨fun i => match i with | 0 => T0 | i + 1 => T i, fun i => match i with | 0 => H0 | i + 1 => H i, fun i => match i with | 0 => v1 | i + 1 => v i, rfl, rfl, ⟨fun i => ?_, fun i => ?_, fun i p hp => ?_⟩, hK⟩
    · cases i with
      | zero => rfl
      | succ i => show (T i).length = T0.length; rw [htl, e1, length_putT]
    · cases i with
      | zero => exact fun _ _ => rfl
      | succ i => exact fun r hr => (hag i r hr).trans (k3.1 r hr)
    · cases i with
      | zero =>
        simp at hp
        subst hp
        exact ⟨e1, k1, k2⟩
      | succ i =>
        obtain ⟨h1, h2, h3⟩ := hst i p (by simpa using hp)
        exact ⟨h1, h2, fun h => ⟨(h3 h).1, fun H' K' hA hk => (h3 h).2 H' K' (fun r hr => (hA r hr).trans (k3.1 r hr).symm) hk⟩⟩

theorem put_other' {a : Act} {d : Option Tmp} {v : Value} {i : Nat} (h : d ≠ some i) : (a.put d v).tmps.getD i undef = a.tmps.getD i undef := by
  cases d with
  | none => rfl
  | some d =>
    have hne : d ≠ i := fun e => h (by rw [e])
    simp [Act.put, Array.getElem?_setIfInBounds_ne hne]
theorem put_size' {a : Act} {d : Option Tmp} {v : Value} : (a.put d v).tmps.size = a.tmps.size := by cases d <;> simp [Act.put]

section
variable {P : Program} {X : Ctx} {C : Cfg} {ops : Array Oper} {Q : Exit → Act → World → Prop}

theorem mix_lk {T : Nat → List AV} {H : Nat → List Blk} {v : Nat → AV} {n0 : Nat} (hM : MixT C n0 ops.toList T H v) {t : Nat} : ∀ i, i ≤ ops.size →
    (lk (T i) t = lk (T 0) t ∧ (∀ j o, j < i → ops[j]? = some o → o.dst = some t → lk (T 0) t = .any ∧ ¬ t < (T 0).length)) ∨ (∃ j o, j < i ∧ ops[j]? = some o ∧ o.dst = some t ∧ lk (T i) t = v j ∧ ∀ k p, j < k → k < i → ops[k]? = some p → p.dst ≠ some t)
  | 0, _ => by
    refine .inl ⟨?_, ?_⟩
    · rfl
    · intro j o hj; omega
  | i + 1, hi => by
    have hlt : i < ops.size := by omega
    have ho : ops[i]? = some ops[i] := by simp
    obtain ⟨e1, _⟩ := hM.step i ops[i] (by simp)
    have htl := hM.tl i
    by_cases hd : ops[i].dst = some t
    · by_cases hl : t < (T 0).length
      · right
        refine ⟨i, _, Nat.lt_succ_self i, ho, hd, ?_, fun k p h1 h2 => by omega⟩
        rw [e1, hd]
        simp only [putT, lk_up]
        rw [if_pos ⟨trivial, by omega⟩]
      · left
        have h0 : lk (T (i + 1)) t = .any := lk_ge _ _ (by rw [hM.tl]; omega)
        have h1 : lk (T 0) t = .any := lk_ge _ _ (by omega)
        exact ⟨h0.trans h1.symm, fun _ _ _ _ _ => ⟨h1, hl⟩⟩
    · have e2 : lk (T (i + 1)) t = lk (T i) t := by
        rw [e1]
        cases hdd : ops[i].dst with
        | none => rfl
        | some d =>
          simp only [putT, lk_up]
          rw [if_neg]
          rintro ⟨rfl, _⟩
          exact hd hdd
      rcases mix_lk hM i (by omega) with ⟨h1, h2⟩ | ⟨j, o, h1, h2, h3, h4, h5⟩
      · left
        refine ⟨e2.trans h1, fun j o hj hjo hdo => ?_⟩
        by_cases e : j = i
        · subst e
          rw [ho] at hjo; cases hjo
          exact absurd hdo hd
        · exact h2 j o (by omega) hjo hdo
      · right
        refine ⟨j, o, by omega, h2, h3, e2.trans h4, fun k p hk1 hk2 hkp => ?_⟩
        by_cases e : k = i
        · subst e
          rw [ho] at hkp; cases hkp
          exact hd
        · exact h5 k p hk1 (by omega) hkp

/-- Slots, while the operations are under way. -/
def MixS (X : Ctx) (ρ : Nat → Value) (Hc : List Blk) (w : World) (ops : Array Oper) (T0 : List AV) (v : Nat → AV) (listed : Array Bool) (a : Act) : Prop :=
  ∀ t, ((∀ (j : Nat) (o : Oper), ops[j]? = some o → listed.getD j false = true → o.dst ≠ some t) → VR (hlen Hc) X.B ρ Hc w (lk T0 t) (a.tmps.getD t undef)) ∧
    (∀ (j : Nat) (o : Oper), ops[j]? = some o → listed.getD j false = true → o.dst = some t → t < T0.length → VR (hlen Hc) X.B ρ Hc w (v j) (a.tmps.getD t undef))

theorem mix_any {ro : Option Nat} (hC : CfgOK P C) (hB : mixB ops = true) {T : Nat → List AV} {H : Nat → List Blk} {v : Nat → AV} {n0 : Nat} (hM : MixT C n0 ops.toList T H v) {J : Array Value → Prop} (hJ : ∀ o ∈ ops.toList, StJ J o.dst) {D : List Deferred} {ws : World} {ρ0 : Nat → Value}
    (hend : ∀ a w ρ, RH X ρ (H ops.size) w → Ext X.B ρ0 (H 0) ws ρ (H ops.size) w → TR (hlen (H ops.size)) X.B ρ (H ops.size) w (T ops.size) a → a.defers = D → J a.tmps → Q .normal a w) :
    ∀ (m : Nat) (listed : Array Bool) (a : Act) (w : World) (ρ : Nat → Value) (q : Nat), cnt ops.size listed = m → HeadInv .any ops ops.size listed → q ≤ ops.size → (∀ (j : Nat) (o : Oper), ops[j]? = some o → mixPure o.op = false → (listed.getD j false = true ↔ j < q)) →
      RH X ρ (H q) w → Ext X.B ρ0 (H 0) ws ρ (H q) w → MixS X ρ (H q) w ops (T 0) v listed a → (T 0).length ≤ a.tmps.size → a.defers = D → J a.tmps → wpAnyIn (FW ro) 0 P .any ops Q m listed a w := by
  simp only [mixB, Bool.and_eq_true] at hB
  obtain ⟨⟨⟨⟨hE, hP⟩, hD⟩, hCh⟩, hG⟩ := hB
  have hpure : ∀ i j, i ≤ j → j ≤ ops.size → (∀ k o, i ≤ k → k < j → ops[k]? = some o → mixPure o.op = true) → H j = H i := by
    intro i j hij hj h
    induction j with
    | zero => have : i = 0 := by omega
              subst this; rfl
    | succ j ih =>
      by_cases e : i = j + 1
      · subst e; rfl
      · have ho : ops[j]? = some ops[j] := by simp
        have h1 := ((hM.step j ops[j] (by simp)).2.2 (h j _ (by omega) (by omega) ho)).1
        rw [h1]
        exact ih (by omega) (by omega) fun k o h2 h3 => h k o h2 (by omega)
  intro m
  induction m with
  | zero =>
    intro listed a w ρ q hc hi hq hnp hrh hext hs hsz hd hj
    have hall := cnt_zero hc
    have hHq : H ops.size = H q := hpure q ops.size hq (Nat.le_refl _) fun k o h1 h2 ho => by
      cases hp : mixPure o.op with
      | true => rfl
      | false =>
        have := (hnp k o ho hp).1 (hall k h2)
        omega
    rw [← hHq] at hrh hext hs
    refine ⟨?_, hend a w ρ hrh hext ⟨by rw [hM.tl]; exact hsz, fun t => ?_⟩ hd hj⟩
    · rw [List.eq_nil_iff_forall_not_mem]
      intro i hir
      obtain ⟨hun, o, ho, _⟩ := mem_ready.1 hir
      have := hall i (Array.getElem?_eq_some_iff.1 ho).1
      rw [getD_both hun] at this; cases this
    · rcases mix_lk hM (t := t) ops.size (Nat.le_refl _) with ⟨h1, h2⟩ | ⟨j, o, h1, h2, h3, h4, h5⟩
      · rw [h1]
        by_cases hex : ∃ (j : Nat) (o : Oper), ops[j]? = some o ∧ o.dst = some t
        · obtain ⟨j, o, ho, hdo⟩ := hex
          rw [(h2 j o (Array.getElem?_eq_some_iff.1 ho).1 ho hdo).1]
          simp [VR]
        · exact (hs t).1 fun j o ho _ hdo => hex ⟨j, o, ho, hdo⟩
      · rw [h4]
        by_cases hl : t < (T 0).length
        · exact (hs t).2 j o h2 (hall j h1) h3 hl
        · have : v j = .any ∨ True := .inr trivial
          have h6 : lk (T ops.size) t = .any := lk_ge _ _ (by rw [hM.tl]; exact Nat.le_of_not_lt hl)
          rw [← h4, h6]; simp [VR]
  | succ m ih =>
    intro listed a w ρ q hc hi hq hnp hrh hext hs hsz hd hj
    obtain ⟨i0, hi0, hu0, hl0⟩ := cnt_pos hc
    have hs0 : i0 < listed.size := by rw [hi.size]; omega
    refine ⟨fun hr => ?_, fun i hir => ?_⟩
    · have : i0 ∈ Region.ready .any ops listed := by
        have ho : ops[i0]? = some ops[i0] := by simp
        exact mem_ready.2 ⟨getD_in hs0 hu0, _, ho, fun e he hb => hl0 _ (edges_spec hE ho e he hb)⟩
      rw [hr] at this; cases this
    · obtain ⟨hun, o, ho, hall⟩ := mem_ready.1 hir
      have hisz : i < ops.size := (Array.getElem?_eq_some_iff.1 ho).1
      have hul : listed.getD i false = false := getD_both hun
      have hils : i < listed.size := by rw [hi.size]; exact hisz
      have hc' : cnt ops.size (listed.setIfInBounds i true) = m := by have := cnt_set hisz hils hul; omega
      have hi' := hi.set hir hisz
      have hls : ∀ j, (listed.setIfInBounds i true).getD j false = true ↔ (listed.getD j false = true ∨ j = i) := by
        intro j
        by_cases e : j = i
        · subst e; simp [hils]
        · rw [getD_set_ne false (fun h => e h.symm)]; simp [e]
      have hguard : o.guard = none := by
        have := List.all_eq_true.1 hG o (by simpa using List.mem_of_getElem? (by simpa using ho : ops.toList[i]? = some o))
        revert this
        cases o.guard with
        | none => intro _; rfl
        | some _ => intro h; cases h
      have waits : ∀ {x y : Nat} {ox : Oper}, ops[x]? = some ox → Region.waitsFor .any ops x y = true → listed.getD x false = true → listed.getD y false = true := by
        intro x y ox hox hw hlx
        obtain ⟨oj, hoj, e, he, hb, hon⟩ := Region.waitsFor_spec hw
        have := hi.closed x oj hoj hlx e he hb
        rwa [hon] at this
      have waitsI : ∀ {y : Nat}, Region.waitsFor .any ops i y = true → listed.getD y false = true := by
        intro y hw
        obtain ⟨oj, hoj, e, he, hb, hon⟩ := Region.waitsFor_spec hw
        have e2 : oj = o := Option.some.inj (hoj.symm.trans ho)
        subst e2
        have := hall e he hb
        rwa [hon] at this
      -- the slots that the operation looks at
      have hlook : ∀ t ∈ o.looksAt ops, VR (hlen (H q)) X.B ρ (H q) w (lk (T i) t) (a.tmps.getD t undef) := by
        intro t ht
        by_cases hl : t < (T 0).length
        · have early : ∀ j x, ops[j]? = some x → x.dst = some t → listed.getD j false = true → j < i := by
            intro j x hx hxd hlj
            rcases Nat.lt_trichotomy j i with h | h | h
            · exact h
            · subst h; rw [hul] at hlj; cases hlj
            · have hjs : j < ops.size := (Array.getElem?_eq_some_iff.1 hx).1
              rcases pairs_spec hP hjs h ho hx with hap | hw
              · exfalso
                simp only [Oper.apart, Bool.and_eq_true] at hap
                have h2 := hap.2; simp only [hxd] at h2; simp at h2; exact h2 ht
              · have := waits hx hw hlj
                rw [hul] at this; cases this
          rcases mix_lk hM (t := t) i (Nat.le_of_lt hisz) with ⟨h1, h2⟩ | ⟨j, x, h1, h2, h3, h4, h5⟩
          · rw [h1]
            refine (hs t).1 fun j x hx hlj hxd => ?_
            exact (h2 j x (early j x hx hxd hlj) hx hxd).2 hl
          · rw [h4]
            refine (hs t).2 j x h2 ?_ h3 hl
            rcases pairs_spec hP hisz h1 h2 ho with hap | hw
            · exfalso
              simp only [Oper.apart, h3, Bool.and_eq_true] at hap
              have := hap.1.1; simp at this; exact this ht
            · exact waitsI hw
        · rw [lk_ge (T i) t (by rw [hM.tl]; exact Nat.le_of_not_lt hl)]; simp [VR]
      have hops := looks_ops hlook
      obtain ⟨e1, hev, hpu⟩ := hM.step i o (by simpa using ho)
      -- where it leads
      have go : ∀ (q' : Nat) (Hn : List Blk), Hn = H q' → q' ≤ ops.size → (∀ (j : Nat) (o : Oper), ops[j]? = some o → mixPure o.op = false → ((listed.setIfInBounds i true).getD j false = true ↔ j < q')) →
          evOp C false (T i) (H q) o (fun v' H' => v' = v i ∧ H' = Hn) → wpOpIn (FW ro) 0 P ops Q i (wpAnyIn (FW ro) 0 P .any ops Q m (listed.setIfInBounds i true)) a w := by
        intro q' Hn hHn hq' hnp' he
        unfold wpOpIn
        rw [ho]
        simp only
        rw [if_pos (by simp [Region.wanted, hguard])]
        refine wp_of_opres (evOp_nd he) (evOp_spec hC hrh hops he) fun u w' ⟨v', ρ', H', ⟨hv', hH'⟩, e, h', hvr, _⟩ => ?_
        subst hv' hH'
        subst hHn
        refine ih _ _ w' ρ' q' hc' hi' hq' hnp' h' (hext.trans e) (fun t => ⟨fun hn => ?_, fun j x hx hlj hxd hl => ?_⟩) (by rw [put_size']; exact hsz) (by rw [put_defers]; exact hd) (hJ o (by simpa using List.mem_of_getElem? (by simpa using ho : ops.toList[i]? = some o)) a u hj)
        · have hot : o.dst ≠ some t := hn i o ho ((hls i).2 (.inr rfl))
          rw [put_other' hot]
          exact VR.ext e ((hs t).1 fun j x hx hlj => hn j x hx ((hls j).2 (.inl hlj)))
        · rcases (hls j).1 hlj with hlj2 | rfl
          · have hne : j ≠ i := fun h => by subst h; rw [hul] at hlj2; cases hlj2
            have hot : o.dst ≠ some t := by
              rcases Nat.lt_or_gt_of_ne hne with h | h
              · exact dstsB_ne hD j i x o t h (by simpa using hx) (by simpa using ho) hxd
              · exact fun ho' => dstsB_ne hD i j o x t h (by simpa using ho) (by simpa using hx) ho' hxd
            rw [put_other' hot]
            exact VR.ext e ((hs t).2 j x hx hlj2 hxd hl)
          · rw [ho] at hx
            cases hx
            rw [hxd]
            have : t < a.tmps.size := Nat.lt_of_lt_of_le hl hsz
            simp only [Act.put]
            simpa [this] using hvr
      cases hp : mixPure o.op with
      | true =>
        obtain ⟨hHi, hind⟩ := hpu hp
        refine go q (H q) rfl hq (fun j x hx hxp => ?_) (hind _ _ (hM.ag q) ⟨rfl, rfl⟩)
        rw [hls, hnp j x hx hxp]
        constructor
        · rintro (h | rfl)
          · exact h
          · rw [ho] at hx; cases hx; rw [hp] at hxp; cases hxp
        · exact .inl
      | false =>
        have chain : ∀ j x, ops[j]? = some x → mixPure x.op = false → j < i → listed.getD j false = true := by
          intro j x hx hxp hji
          have := List.all_eq_true.1 (List.all_eq_true.1 hCh i (List.mem_range.2 hisz)) j (List.mem_range.2 hji)
          simp only [hx, ho, hxp, hp, Bool.or_self, Bool.false_or] at this
          exact waitsI this
        have later : ∀ j x, ops[j]? = some x → mixPure x.op = false → i < j → listed.getD j false = false := by
          intro j x hx hxp hij
          have hjs : j < ops.size := (Array.getElem?_eq_some_iff.1 hx).1
          have := List.all_eq_true.1 (List.all_eq_true.1 hCh j (List.mem_range.2 hjs)) i (List.mem_range.2 hij)
          simp only [hx, ho, hxp, hp, Bool.or_self, Bool.false_or] at this
          cases hq2 : listed.getD j false with
          | false => rfl
          | true => have := waits hx this hq2; rw [hul] at this; cases this
        have hqi : q ≤ i := by
          apply Classical.byContradiction
          intro hn
          have := (hnp i o ho hp).2 (by omega)
          rw [hul] at this; cases this
        have hHqi : H i = H q := hpure q i hqi (Nat.le_of_lt hisz) fun k x h1 h2 hx => by
          cases hxp : mixPure x.op with
          | true => rfl
          | false =>
            have := (hnp k x hx hxp).1 (chain k x hx hxp h2)
            omega
        refine go (i + 1) (H (i + 1)) rfl hisz (fun j x hx hxp => ?_) (by rw [← hHqi]; exact hev _ ⟨rfl, rfl⟩)
        rw [hls]
        constructor
        · rintro (h | rfl)
          · rcases Nat.lt_trichotomy j i with h2 | h2 | h2
            · omega
            · omega
            · have := later j x hx hxp h2; rw [h] at this; cases this
          · omega
        · intro h
          by_cases e : j = i
          · exact .inr e
          · exact .inl (chain j x hx hxp (by omega))

theorem evMix_spec {ro : Option Nat} (hC : CfgOK P C) (hS : ∀ f e, C.fn f = some e → SelE e) (hm : P.follows .mixedOrders = true) {id : Nat} (hB : mixB ops = true) {σ : St} {a : Act} {w : World} {ρ : Nat → Value} {D : List Deferred} {J : Array Value → Prop} (hJ : ∀ o ∈ ops.toList, StJ J o.dst) (hj : J a.tmps)
    (h : RH X ρ σ.H w) (ht : TR (hlen σ.H) X.B ρ σ.H w σ.tmps a) (hdf : a.defers = D) {K : List AV → List Blk → Prop} (he : evMix C (hlen σ.H) ops.toList σ.tmps σ.H K)
    (hQ : ∀ t H' ρ' a' w', K t H' → Ext X.B ρ σ.H w ρ' H' w' → RH X ρ' H' w' → TR (hlen H') X.B ρ' H' w' t a' → a'.defers = D → J a'.tmps → Q .normal a' w') :
    (Code.region id ops true).wpIn (FW ro) 0 P Q a w := by
  obtain ⟨T, H, v, e1, e2, hM, hK⟩ := mix_trace hS _ _ _ _ (Nat.le_refl _) he
  refine wpIn_region_any hm ?_
  obtain ⟨e0, h1⟩ := h.grow (w' := { w with drawn := w.drawn + 1 }) rfl rfl rfl (Nat.le_refl _) (fun _ _ => rfl)
  have hrf : ∀ j, (Array.replicate ops.size false).getD j false = false := getD_replicate_false _
  have hcnt : cnt ops.size (Array.replicate ops.size false) = ops.size := by
    unfold cnt
    rw [List.countP_eq_length.2 (fun i _ => by rw [hrf]; rfl)]
    simp
  have inv0 : HeadInv .any ops ops.size (Array.replicate ops.size false) :=
    ⟨by simp, fun j oj _ hl => (by rw [getD_replicate_false] at hl; cases hl), fun t h1 h2 => by omega⟩
  have hlen : ops.toList.length = ops.size := by simp
  rw [hlen] at hK
  rw [← e1] at ht
  rw [← e2] at h h1 e0 ht
  rw [← e2] at hQ
  refine mix_any (X := X) hC hB hM hJ (D := D) (ws := w) (ρ0 := ρ) (fun a' w' ρ' g1 g2 g3 g4 g5 => hQ _ _ ρ' a' w' hK g2 g1 g3 g4 g5) ops.size _ a _ ρ 0 hcnt inv0 (Nat.zero_le _) (fun j o _ _ => by rw [hrf]; simp) h1 e0 (fun t => ⟨fun _ => VR.ext e0 (ht.2 t), fun j o _ hl => by rw [hrf] at hl; cases hl⟩) ht.1 hdf hj
end
end Go.Eng
