/- The abstract evaluator: layouts. -/
import Derived.Test.YtniabjhjpkkllaaEngN
set_option linter.unusedVariables false
set_option linter.unusedSimpArgs false
namespace Go.Eng
open Go Go.RowKit

theorem eqO_spec {a b : Option Nat} (h : eqO a b = true) : a = b := by
  cases a <;> cases b <;> simp [eqO] at h
  · rfl
  · rw [h]

/-- m' knows all that m knows. -/
def RLe (m m' : Ren) : Prop := ∀ t s, rlook m t = some s → rlook m' t = some s
theorem RLe.refl (m : Ren) : RLe m m := fun _ _ h => h
theorem RLe.trans {a b c : Ren} (h : RLe a b) (k : RLe b c) : RLe a c := fun t s e => k t s (h t s e)

theorem radd_spec {m m' : Ren} {t : Nat} {s : Option Nat} (h : radd m t s = some m') : RLe m m' ∧ rlook m' t = some s := by
  unfold radd at h
  split at h
  · rename_i hn
    simp only [Option.some.injEq] at h
    subst h
    refine ⟨fun t' s' e => ?_, by simp [rlook]⟩
    simp only [rlook]
    split
    · rename_i hb
      have := Nat.eq_of_beq_eq_true hb
      subst this
      rw [hn] at e; cases e
    · exact e
  · rename_i s' hs
    split at h
    · rename_i he
      simp only [Option.some.injEq] at h
      subst h
      exact ⟨RLe.refl _, by rw [hs, eqO_spec he]⟩
    · cases h

/-- Where the new references lead. -/
def rρ (m : Ren) (ρ : Nat → Value) (r : Nat) : Value := match src m r with
  | some s => ρ s
  | none => .slice none 0 0

theorem src_of {m : Ren} {t : Nat} {s : Option Nat} (h : rlook m t = some s) : src m t = s := by simp [src, h]

section
variable {X : Ctx} {ρ : Nat → Value} {H : List Blk} {w : World}

mutual
theorem mtch_le : ∀ {a p : AV} {m m' : Ren}, mtch a p m = some m' → RLe m m'
  | a, p, m, m', h => by
    unfold mtch at h
    split at h
    · cases h; exact RLe.refl _
    · cases h; exact RLe.refl _
    · exact (radd_spec h).1
    · exact (radd_spec h).1
    · split at h
      · exact (radd_spec h).1
      · cases h
    · split at h
      · exact mtchL_le h
      · cases h
    · cases h
theorem mtchL_le : ∀ {a p : List AV} {m m' : Ren}, mtchL a p m = some m' → RLe m m'
  | a, p, m, m', h => by
    unfold mtchL at h
    split at h
    · cases h; exact RLe.refl _
    · split at h
      · rename_i hm
        exact (mtch_le hm).trans (mtchL_le h)
      · cases h
    · cases h
end


mutual
theorem mtch_VR {n' : Nat} {H' : List Blk} {M : Ren} : ∀ {a p : AV} {m m' : Ren} {u : Value}, mtch a p m = some m' → RLe m' M → refsLt n' p = true → VR (hlen H) X.B ρ H w a u → VR n' X.B (rρ M ρ) H' w p u
  | a, p, m, m', u, h, hM, hr, hv => by
    unfold mtch at h
    split at h
    · simp only [VR]
    · simp only [VR] at hv ⊢; exact hv
    · rename_i t
      have h2 := hM _ _ (radd_spec h).2
      simp only [VR] at hv ⊢
      refine ⟨by simpa [refsLt, Nat.blt, Nat.succ_le_iff] using hr, ?_⟩
      simp only [rρ, src_of h2]; exact hv
    · rename_i r t
      have h2 := hM _ _ (radd_spec h).2
      simp only [VR] at hv ⊢
      refine ⟨by simpa [refsLt, Nat.blt, Nat.succ_le_iff] using hr, ?_⟩
      simp only [rρ, src_of h2]; exact hv.2
    · rename_i r c t c'
      split at h
      · rename_i hc
        subst hc
        have h2 := hM _ _ (radd_spec h).2
        simp only [VR] at hv ⊢
        refine ⟨by simpa [refsLt, Nat.blt, Nat.succ_le_iff] using hr, ?_⟩
        simp only [rρ, src_of h2]; exact hv.2
      · cases h
    · rename_i f vs g ws
      split at h
      · rename_i hfg
        have := Nat.eq_of_beq_eq_true hfg
        subst this
        simp only [refsLt] at hr
        simp only [VR] at hv ⊢
        obtain ⟨us, e, hs⟩ := hv
        exact ⟨us, e, mtchL_VR h hM hr hs⟩
      · cases h
    · cases h
theorem mtchL_VR {n' : Nat} {H' : List Blk} {M : Ren} : ∀ {a p : List AV} {m m' : Ren} {us : List Value}, mtchL a p m = some m' → RLe m' M → refsLtL n' p = true → VRs (hlen H) X.B ρ H w a us → VRs n' X.B (rρ M ρ) H' w p us
  | a, p, m, m', us, h, hM, hr, hv => by
    unfold mtchL at h
    split at h
    · simp only [VRs] at hv ⊢; exact hv
    · rename_i x xs p ps
      split at h
      · rename_i m1 hm
        simp only [refsLtL, Bool.and_eq_true] at hr
        simp only [VRs] at hv ⊢
        obtain ⟨v, r, e, h1, h2⟩ := hv
        exact ⟨v, r, e, mtch_VR hm ((mtchL_le h).trans hM) hr.1 h1, mtchL_VR h hM hr.2 h2⟩
      · cases h
    · cases h
end

theorem mtS_le {tmps : List AV} : ∀ {l : List (Nat × Kd)} {m m' : Ren}, mtS tmps l m = some m' → RLe m m'
  | [], m, m', h => by simp only [mtS, Option.some.injEq] at h; subst h; exact RLe.refl _
  | (s, .tm _ _) :: l, m, m', h => by simp only [mtS] at h; exact mtS_le h
  | (s, .cl _ _) :: l, m, m', h => by simp only [mtS] at h; exact mtS_le h
  | (s, .fx v) :: l, m, m', h => by
    simp only [mtS] at h
    split at h
    · rename_i hm; exact (mtch_le hm).trans (mtS_le h)
    · cases h

theorem mtB_le : ∀ {l : List BK} {r : Nat} {m m' : Ren}, mtB H l r m = some m' → RLe m m'
  | [], r, m, m', h => by simp only [mtB, Option.some.injEq] at h; subst h; exact RLe.refl _
  | .val _ _ _ _ :: l, r, m, m', h => by simp only [mtB] at h; exact mtB_le h
  | .dead :: l, r, m, m', h => by simp only [mtB] at h; exact mtB_le h
  | .av v :: l, r, m, m', h => by
    simp only [mtB] at h
    split at h
    · split at h
      · rename_i hadd
        split at h
        · split at h
          · rename_i hm; exact (radd_spec hadd).1.trans ((mtch_le hm).trans (mtB_le h))
          · cases h
        · cases h
      · cases h
    · cases h

theorem lk_stS_any : ∀ (n i : Nat), lk (anys n) i = .any := lk_anys

theorem deC_spec {n : Nat} : ∀ (vs : List AV) (l : List (Bool × Cd)) (us : List Value) (J : CV l → Prop), VRs n X.B ρ H w vs us → deC vs l J →
    ∃ y, J y ∧ ∀ (n' : Nat) (ρ' : Nat → Value) (H' : List Blk), (∀ fr b, Zn X.B ρ H fr b → Zn X.B ρ' H' fr b) → VRs n' X.B ρ' H' w (clV l y) us
  | [], [], us, J, hv, hd => ⟨(), hd, fun n' ρ' H' _ => by simp only [VRs] at hv; simp only [clV, VRs]; exact hv⟩
  | [], _ :: _, _, _, _, hd => by simp only [deC] at hd
  | _ :: _, [], _, _, _, hd => by simp only [deC] at hd
  | a :: as, (fr, c) :: r, us, J, hv, hd => by
    simp only [deC] at hd
    simp only [VRs] at hv
    obtain ⟨u, us', rfl, h1, h2⟩ := hv
    split at hd
    · rename_i fr' c' x
      replace hd := Br_tf hd
      obtain ⟨hle, hd⟩ := hd
      obtain ⟨e, hd⟩ := asC_spec hd
      subst e
      obtain ⟨z, hJ, hz⟩ := deC_spec as r us' _ h2 hd
      obtain ⟨cs, k1, k2⟩ := VR.len_t h1
      refine ⟨(x, z), hJ, fun n' ρ' H' ho => ?_⟩
      simp only [clV, VRs]
      refine ⟨u, us', rfl, ?_, hz n' ρ' H' ho⟩
      simp only [VR]
      refine ⟨cs, ?_, k2⟩
      have h3 := VR_weak (X := X) k1
      have h4 : VT w (Zn X.B ρ H fr) c' x cs := VT_fr (fr := fr' || flat c') (by intro e; subst e; cases hq : (fr' || flat c') with | true => rfl | false => rw [hq] at hle; simp [leb] at hle) h3
      exact h4.mono (fun b _ hb => ⟨ho fr b hb, rfl⟩) (Nat.le_refl _)
    · exact hd.elim

/-- The slots of a layout. -/
theorem deS_spec {tmps : List AV} {a : Act} (ht : TR (hlen H) X.B ρ H w tmps a) {M : Ren} {n : Nat} :
    ∀ (l : List (Nat × Kd)) (m m' : Ren) (J : SV l → Prop), mtS tmps l m = some m' → RLe m' M → deS tmps H l J →
      ∃ x, J x ∧ ∀ (n' : Nat) (H' : List Blk), (∀ fr b, Zn X.B ρ H fr b → Zn X.B (rρ M ρ) H' fr b) → kdOK n' l = true → ∀ i, VR n' X.B (rρ M ρ) H' w (lk (stS l x (anys n)) i) (a.tmps.getD i undef)
  | [], m, m', J, h, hM, hd => ⟨(), hd, fun n' H' ho hk i => by simp [stS, lk_anys, VR]⟩
  | (s, .tm fr c) :: l, m, m', J, h, hM, hd => by
    simp only [mtS] at h
    simp only [deS] at hd
    have put : ∀ (n' : Nat) (H' : List Blk) (y : El c) (z : SV l), (∀ i, VR n' X.B (rρ M ρ) H' w (lk (stS l z (anys n)) i) (a.tmps.getD i undef)) → VR n' X.B (rρ M ρ) H' w (.t fr c y) (a.tmps.getD s undef) →
        ∀ i, VR n' X.B (rρ M ρ) H' w (lk (stS ((s, .tm fr c) :: l) (y, z) (anys n)) i) (a.tmps.getD i undef) := by
      intro n' H' y z hz hy i
      simp only [stS, lk_up]
      split
      · rename_i e; rw [e.1]; exact hy
      · exact hz i
    split at hd
    · rename_i fr' c' x hx
      replace hd := Br_tf hd
      obtain ⟨hle, hd⟩ := hd
      obtain ⟨e, hd⟩ := asC_spec hd
      subst e
      obtain ⟨z, hJ, hz⟩ := deS_spec ht l m m' _ h hM hd
      have hv := ht.2 s
      rw [hx] at hv
      obtain ⟨cs, h1, h2⟩ := VR.len_t hv
      refine ⟨(x, z), hJ, fun n' H' ho hk => put n' H' x z (hz n' H' ho (by simpa only [kdOK] using hk)) ?_⟩
      simp only [VR]
      refine ⟨cs, ?_, h2⟩
      have h3 := VR_weak (X := X) h1
      have h4 : VT w (Zn X.B ρ H fr) c' x cs := VT_fr (fr := fr' || flat c') (by intro e; subst e; cases hq : (fr' || flat c') with | true => rfl | false => rw [hq] at hle; simp [leb] at hle) h3
      exact h4.mono (fun b _ hb => ⟨ho fr b hb, rfl⟩) (Nat.le_refl _)
    · rename_i hx
      split at hd
      · obtain ⟨z, hJ, hz⟩ := deS_spec ht l m m' _ h hM hd
        have hv := ht.2 s
        rw [hx] at hv
        simp only [VR] at hv
        refine ⟨([], z), hJ, fun n' H' ho hk => put n' H' _ z (hz n' H' ho (by simpa only [kdOK] using hk)) ?_⟩
        rw [hv]
        simp only [VR]
        exact ⟨_, ⟨none, 0, rfl, Nat.le_refl _, .inl rfl⟩, pk_sl⟩
      · exact hd.elim
    · exact hd.elim
  | (s, .fx v) :: l, m, m', J, h, hM, hd => by
    simp only [mtS] at h
    simp only [deS] at hd
    split at h
    · rename_i m1 hm
      obtain ⟨z, hJ, hz⟩ := deS_spec ht l m1 m' _ h hM hd
      refine ⟨z, hJ, fun n' H' ho hk i => ?_⟩
      simp only [kdOK, Bool.and_eq_true] at hk
      simp only [stS, lk_up]
      split
      · rename_i e; rw [e.1]; exact mtch_VR hm ((mtS_le h).trans hM) hk.1 (ht.2 s)
      · exact hz n' H' ho hk.2 i
    · cases h
  | (s, .cl f cl) :: l, m, m', J, h, hM, hd => by
    simp only [mtS] at h
    simp only [deS] at hd
    split at hd
    · rename_i g vs hx
      replace hd := Br_tf hd
      obtain ⟨he, hd⟩ := hd
      have he := Nat.eq_of_beq_eq_true he
      subst he
      have hv := ht.2 s
      rw [hx] at hv
      simp only [VR] at hv
      obtain ⟨us, hu, hv⟩ := hv
      obtain ⟨y, hJ, hy⟩ := deC_spec vs cl us _ hv hd
      obtain ⟨z, hJ, hz⟩ := deS_spec ht l m m' _ h hM hJ
      refine ⟨(y, z), hJ, fun n' H' ho hk i => ?_⟩
      simp only [stS, lk_up]
      split
      · rename_i e; rw [e.1]; simp only [VR]; exact ⟨us, hu, hy n' _ H' ho⟩
      · exact hz n' H' ho (by simpa only [kdOK] using hk) i
    · exact hd.elim

theorem nmem_spec {n : Nat} : ∀ {l : List Nat}, n ∈ l → nmem n l = true
  | [], h => by cases h
  | x :: l, h => by
    simp only [nmem, Bool.or_eq_true]
    rcases List.mem_cons.1 h with e | h
    · exact .inl (by rw [e]; exact Nat.beq_refl x)
    · exact .inr (nmem_spec h)

/-- Two live targets come from two places. -/
theorem srcs_inj {m : Ren} : ∀ (l : List BK) (r0 : Nat), nodup (srcs m l r0) = true → ∀ i j s, i < l.length → j < l.length → (∀ k, l[i]? = some k → k ≠ .dead) → (∀ k, l[j]? = some k → k ≠ .dead) →
    src m (r0 + i) = some s → src m (r0 + j) = some s → i = j := by
  have mem : ∀ (l : List BK) (r0 i s : Nat), i < l.length → (∀ k, l[i]? = some k → k ≠ .dead) → src m (r0 + i) = some s → s ∈ srcs m l r0 := by
    intro l
    induction l with
    | nil => intro r0 i s hi; simp at hi
    | cons k l ih =>
      intro r0 i s hi hd hs
      cases i with
      | zero =>
        have : k ≠ .dead := hd k (by simp)
        simp only [Nat.add_zero] at hs
        cases k <;> simp_all [srcs]
      | succ i =>
        have := ih (r0 + 1) i s (by simpa using hi) (fun k hk => hd k (by simpa using hk)) (by rw [← hs]; congr 1; omega)
        cases k with
        | dead => simp only [srcs]; exact this
        | val _ _ _ _ => simp only [srcs]; split <;> simp [this]
        | av _ => simp only [srcs]; split <;> simp [this]
  intro l
  induction l with
  | nil => intro r0 _ i j s hi; simp at hi
  | cons k l ih =>
    intro r0 hn i j s hi hj hdi hdj hsi hsj
    have tail : nodup (srcs m l (r0 + 1)) = true := by
      cases k with
      | dead => simpa only [srcs] using hn
      | val _ _ _ _ => simp only [srcs] at hn; split at hn <;> simp_all [nodup]
      | av _ => simp only [srcs] at hn; split at hn <;> simp_all [nodup]
    have head : ∀ j s, j < l.length → k ≠ .dead → src m r0 = some s → (∀ k, l[j]? = some k → k ≠ .dead) → src m (r0 + 1 + j) = some s → False := by
      intro j s hj hk hs hd hsj
      have h1 := mem l (r0 + 1) j s hj hd hsj
      have h2 := nmem_spec h1
      cases k with
      | dead => exact hk rfl
      | val _ _ _ _ => simp only [srcs, hs, nodup, h2] at hn; simp at hn
      | av _ => simp only [srcs, hs, nodup, h2] at hn; simp at hn
    cases i with
    | zero =>
      cases j with
      | zero => rfl
      | succ j => exact (head j s (by simpa using hj) (hdi k (by simp)) (by simpa using hsi) (fun k hk => hdj k (by simpa using hk)) (by rw [← hsj]; congr 1; omega)).elim
    | succ i =>
      cases j with
      | zero => exact (head i s (by simpa using hi) (hdj k (by simp)) (by simpa using hsj) (fun k hk => hdi k (by simpa using hk)) (by rw [← hsi]; congr 1; omega)).elim
      | succ j =>
        have := ih (r0 + 1) tail i j s (by simpa using hi) (by simpa using hj) (fun k hk => hdi k (by simpa using hk)) (fun k hk => hdj k (by simpa using hk)) (by rw [← hsi]; congr 1; omega) (by rw [← hsj]; congr 1; omega)
        omega


theorem mtB_av {M : Ren} : ∀ (l : List BK) (r0 : Nat) (m m' : Ren), mtB H l r0 m = some m' → RLe m' M → ∀ i v, l[i]? = some (.av v) → ∃ s a m1 m2, src M (r0 + i) = some s ∧ hk H s = .av a ∧ mtch a v m1 = some m2 ∧ RLe m2 M
  | [], r0, m, m', h, hM, i, v, hi => by simp at hi
  | .val _ _ _ _ :: l, r0, m, m', h, hM, i, v, hi => by
    simp only [mtB] at h
    cases i with
    | zero => simp at hi
    | succ i =>
      obtain ⟨s, a, m1, m2, e1, e2⟩ := mtB_av l (r0 + 1) m m' h hM i v (by simpa using hi)
      exact ⟨s, a, m1, m2, by rw [← e1]; congr 1; omega, e2⟩
  | .dead :: l, r0, m, m', h, hM, i, v, hi => by
    simp only [mtB] at h
    cases i with
    | zero => simp at hi
    | succ i =>
      obtain ⟨s, a, m1, m2, e1, e2⟩ := mtB_av l (r0 + 1) m m' h hM i v (by simpa using hi)
      exact ⟨s, a, m1, m2, by rw [← e1]; congr 1; omega, e2⟩
  | .av v0 :: l, r0, m, m', h, hM, i, v, hi => by
    simp only [mtB] at h
    split at h
    · rename_i s hs
      split at h
      · rename_i m0 hadd
        split at h
        · rename_i a ha
          split at h
          · rename_i m1 hm
            cases i with
            | zero =>
              simp only [List.getElem?_cons_zero, Option.some.injEq, BK.av.injEq] at hi
              subst hi
              have hle := (mtB_le h).trans hM
              exact ⟨s, a, m0, m1, by rw [Nat.add_zero]; exact src_of (hle _ _ (mtch_le hm _ _ (radd_spec hadd).2)), ha, hm, hle⟩
            | succ i =>
              obtain ⟨s, a, m1, m2, e1, e2⟩ := mtB_av l (r0 + 1) m1 m' h hM i v (by simpa using hi)
              exact ⟨s, a, m1, m2, by rw [← e1]; congr 1; omega, e2⟩
          · cases h
        · cases h
      · cases h
    · cases h

def BOK (M : Ren) (H : List Blk) (r : Nat) (k : BK) (b : Blk) : Prop := match k with
  | .val wr fr E c => (∃ s wr' fr' x, src M r = some s ∧ hk H s = .val wr' fr' E c x ∧ b = .val wr fr E c x ∧ (wr = true → wr' = true) ∧ (fr = true → fr' = true)) ∨
      (∃ d, src M r = none ∧ c = .row d ∧ b = .val wr fr E (.row d) [] ∧ norow d = true ∧ 0 < csz d)
  | .av v => b = .av v
  | .dead => b = .dead

theorem leb_spec {a b : Bool} (h : leb a b = true) (ha : a = true) : b = true := by subst ha; cases b <;> simp_all [leb]

theorem deB_spec {M : Ren} : ∀ (l : List BK) (r0 : Nat) (J : BV l → Prop), deB M H l r0 J → ∃ y, J y ∧ hlen (stB l y) = l.length ∧ ∀ i k, l[i]? = some k → BOK M H (r0 + i) k (hk (stB l y) i)
  | [], r0, J, h => ⟨(), h, rfl, fun i k hi => by simp at hi⟩
  | .av v :: l, r0, J, h => by
    simp only [deB] at h
    obtain ⟨y, hJ, hl, hb⟩ := deB_spec l (r0 + 1) _ h
    refine ⟨y, hJ, by simp [stB, hlen, hl], fun i k hi => ?_⟩
    cases i with
    | zero => simp at hi; subst hi; rfl
    | succ i => have := hb i k (by simpa using hi); rw [show r0 + 1 + i = r0 + (i + 1) by omega] at this; simpa only [stB, hk] using this
  | .dead :: l, r0, J, h => by
    simp only [deB] at h
    obtain ⟨y, hJ, hl, hb⟩ := deB_spec l (r0 + 1) _ h
    refine ⟨y, hJ, by simp [stB, hlen, hl], fun i k hi => ?_⟩
    cases i with
    | zero => simp at hi; subst hi; rfl
    | succ i => have := hb i k (by simpa using hi); rw [show r0 + 1 + i = r0 + (i + 1) by omega] at this; simpa only [stB, hk] using this
  | .val wr fr E c :: l, r0, J, h => by
    simp only [deB] at h
    split at h
    · rename_i s hs
      split at h
      · rename_i wr' fr' E' c' x hx
        replace h := Br_tf h
        obtain ⟨hle, h⟩ := h
        simp only [Bool.and_eq_true] at hle
        obtain ⟨⟨h1, h2⟩, h3⟩ := hle
        have := Nat.eq_of_beq_eq_true h3
        subst this
        obtain ⟨e, h⟩ := asC_spec h
        subst e
        obtain ⟨y, hJ, hl, hb⟩ := deB_spec l (r0 + 1) _ h
        refine ⟨(x, y), hJ, by simp [stB, hlen, hl], fun i k hi => ?_⟩
        cases i with
        | zero =>
          simp at hi; subst hi
          exact .inl ⟨s, wr', fr', x, by simpa using hs, hx, rfl, leb_spec h1, leb_spec h2⟩
        | succ i => have := hb i k (by simpa using hi); rw [show r0 + 1 + i = r0 + (i + 1) by omega] at this; simpa only [stB, hk] using this
      · exact h.elim
    · rename_i hs
      cases c with
      | row d =>
        replace h := Br_tf h
        obtain ⟨hle, h⟩ := h
        simp only [Bool.and_eq_true] at hle
        obtain ⟨y, hJ, hl, hb⟩ := deB_spec l (r0 + 1) _ h
        refine ⟨([], y), hJ, by simp [stB, hlen, hl], fun i k hi => ?_⟩
        cases i with
        | zero =>
          simp at hi; subst hi
          exact .inr ⟨d, by simpa using hs, rfl, rfl, hle.1, by have := hle.2; simpa [Nat.blt, Nat.succ_le_iff] using this⟩
        | succ i => have := hb i k (by simpa using hi); rw [show r0 + 1 + i = r0 + (i + 1) by omega] at this; simpa only [stB, hk] using this
      | _ => exact h.elim

theorem bkOK_av {n : Nat} {v : AV} : ∀ {l : List BK} {i : Nat}, bkOK n l = true → l[i]? = some (.av v) → refsLt n v = true
  | [], i, _, hi => by simp at hi
  | k :: l, 0, h, hi => by simp at hi; subst hi; simp only [bkOK, Bool.and_eq_true] at h; exact h.1
  | k :: l, i + 1, h, hi => by
    refine bkOK_av (l := l) (i := i) ?_ (by simpa using hi)
    cases k <;> simp only [bkOK, Bool.and_eq_true] at h
    · exact h
    · exact h.2
    · exact h

theorem length_stS : ∀ (l : List (Nat × Kd)) (x : SV l) (t : List AV), (stS l x t).length = t.length
  | [], _, _ => rfl
  | (_, .tm _ _) :: l, x, t => by simp [stS, length_up, length_stS l x.2 t]
  | (_, .fx _) :: l, x, t => by simp [stS, length_up, length_stS l x t]
  | (_, .cl _ _) :: l, x, t => by simp [stS, length_up, length_stS l x.2 t]
theorem length_anys : ∀ n, (anys n).length = n
  | 0 => rfl
  | n + 1 => by simp [anys, length_anys n]

/-- To a layout: what is known then holds still. -/
theorem dec_spec' {σ : St} {a : Act} (h : RH X ρ σ.H w) (ht : TR (hlen σ.H) X.B ρ σ.H w σ.tmps a) {l : Lay} {J : Vals l → Prop} (hd : dec l σ J) :
    ∃ v, J v ∧ ∃ ρ', (∀ b, Own ρ' (st l v).H b → Own ρ σ.H b) ∧ RH X ρ' (st l v).H w ∧ TR (hlen (st l v).H) X.B ρ' (st l v).H w (st l v).tmps a := by
  unfold dec at hd
  replace hd := Br_tf hd
  obtain ⟨hok, hd⟩ := hd
  simp only [Bool.and_eq_true, Lay.ok] at hok
  obtain ⟨⟨hkd, hbk⟩, hn⟩ := hok
  have hn := Nat.le_of_ble_eq_true hn
  split at hd
  · rename_i m hm
    split at hd
    · rename_i M hM
      replace hd := Br_tf hd
      obtain ⟨hnd, hd⟩ := hd
      have hMB := mtB_le hM
      obtain ⟨x, hJ, hx⟩ := deS_spec (M := M) (n := l.n) ht l.slots [] m _ hm hMB hd
      obtain ⟨y, hJ, hl, hb⟩ := deB_spec l.blks 0 _ hJ
      have hlst : hlen (st l (x, y)).H = l.blks.length := hl
      have hget : ∀ r, r < l.blks.length → ∃ k, l.blks[r]? = some k ∧ BOK M σ.H r k (hk (stB l.blks y) r) := fun r hr => by
        have h1 : l.blks[r]? = some l.blks[r] := by simp [hr]
        exact ⟨_, h1, by have := hb r _ h1; rwa [Nat.zero_add] at this⟩
      -- each live block of the layout was one of ours
      have hfrom : ∀ r, r < l.blks.length → dead (hk (stB l.blks y) r) = false → rρ M ρ r = .slice none 0 0 ∨
          ∃ s, src M r = some s ∧ s < hlen σ.H ∧ dead (hk σ.H s) = false ∧ rρ M ρ r = ρ s ∧ (live (hk (stB l.blks y) r) = true → live (hk σ.H s) = true) := by
        intro r hr hdd
        obtain ⟨k, hk1, hk2⟩ := hget r hr
        cases k with
        | dead => simp only [BOK] at hk2; rw [hk2] at hdd; simp [dead] at hdd
        | av v =>
          simp only [BOK] at hk2
          obtain ⟨s, av, m1, m2, e1, e2, _⟩ := mtB_av l.blks 0 m M hM (RLe.refl _) r v hk1
          rw [Nat.zero_add] at e1
          exact .inr ⟨s, e1, hk_lt (by rw [e2]; rfl), by rw [e2]; rfl, by simp [rρ, e1], fun _ => by rw [e2]; rfl⟩
        | val wr fr E c =>
          simp only [BOK] at hk2
          rcases hk2 with ⟨s, wr', fr', z, e1, e2, e3, h1, _⟩ | ⟨d, e1, _⟩
          · exact .inr ⟨s, e1, hk_lt (by rw [e2]; rfl), by rw [e2]; rfl, by simp [rρ, e1], fun hlv => by rw [e3] at hlv; rw [e2]; exact h1 hlv⟩
          · exact .inl (by simp [rρ, e1])
      have hown : ∀ b, Own (rρ M ρ) (stB l.blks y) b → Own ρ σ.H b := by
        rintro b ⟨r, hr, hlv, hbb⟩
        rw [hl] at hr
        rcases hfrom r hr (live_dead hlv) with e | ⟨s, _, hs, _, e, hl2⟩
        · rw [e] at hbb; simp [blkOf] at hbb
        · exact ⟨s, hs, hl2 hlv, by rw [← e]; exact hbb⟩
      have hzn : ∀ fr b, Zn X.B ρ σ.H fr b → Zn X.B (rρ M ρ) (stB l.blks y) fr b := fun fr b hz => ⟨fun ho => hz.1 (hown b ho), hz.2⟩
      have hdd : ∀ r, r < l.blks.length → dead (hk (stB l.blks y) r) = false → ∀ k, l.blks[r]? = some k → k ≠ .dead := by
        rintro r hr hdd k hk0 rfl
        obtain ⟨k, hk1, hk2⟩ := hget r hr
        rw [hk1] at hk0; cases hk0
        simp only [BOK] at hk2; rw [hk2] at hdd; simp [dead] at hdd
      refine ⟨(x, y), hJ, rρ M ρ, hown, ?_, ⟨by rw [show (st l (x, y)).tmps.length = l.n by simp [st, length_stS, length_anys]]; exact Nat.le_trans hn ht.1, ?_⟩⟩
      · refine ⟨fun r hr => ?_, fun r r' b hr hr' hd1 hd2 hb1 hb2 => ?_, fun r b hr hd1 hb1 => ?_, h.os, h.tape, h.output, h.size, h.keep, fun b hb' ho => h.own b hb' (hown b ho), h.bsz⟩
        · rw [hlst] at hr
          rw [hlst]
          obtain ⟨k, hk1, hk2⟩ := hget r hr
          show BR l.blks.length X.B (rρ M ρ) (stB l.blks y) w (hk (stB l.blks y) r) (rρ M ρ r)
          cases k with
          | dead => simp only [BOK] at hk2; rw [hk2]; trivial
          | av v =>
            simp only [BOK] at hk2
            obtain ⟨s, av, m1, m2, e1, e2, e3, e4⟩ := mtB_av l.blks 0 m M hM (RLe.refl _) r v hk1
            rw [Nat.zero_add] at e1
            have hs : s < hlen σ.H := hk_lt (by rw [e2]; rfl)
            have hbs := h.blk s hs
            rw [e2] at hbs
            obtain ⟨b, E, u, hρ, hg, h1, hv⟩ := hbs
            rw [hk2, show rρ M ρ r = ρ s by simp [rρ, e1]]
            exact ⟨b, E, u, hρ, hg, h1, mtch_VR e3 e4 (bkOK_av hbk hk1) hv⟩
          | val wr fr E c =>
            simp only [BOK] at hk2
            rcases hk2 with ⟨s, wr', fr', z, e1, e2, e3, _, hfr⟩ | ⟨d, e1, rfl, e3, h1, h2⟩
            · have hs : s < hlen σ.H := hk_lt (by rw [e2]; rfl)
              rw [e3, show rρ M ρ r = ρ s by simp [rρ, e1]]
              have tr : ∀ {d : Cd} {y : El d} {cs : List Value}, VT w (Zn X.B ρ σ.H fr') d y cs → VT w (Zn X.B (rρ M ρ) (stB l.blks _) fr) d y cs := fun hv =>
                (VT_fr hfr hv).mono (fun b _ hb => ⟨hzn fr b hb, rfl⟩) (Nat.le_refl _)
              by_cases hc : ∃ d, c = .row d
              · obtain ⟨d, rfl⟩ := hc
                obtain ⟨h1, h2, cells, hown', hf⟩ := h.row hs e2
                exact ⟨h1, h2, cells, hown', hf.mono fun _ _ hx => tr hx⟩
              · have hc' : ∀ d, c ≠ .row d := fun d e => hc ⟨d, e⟩
                obtain ⟨h1, b, cells, e, hg, hv⟩ := h.val hs e2 hc'
                exact BR_val hc' h1 e hg (tr hv)
            · rw [e3, show rρ M ρ r = .slice none 0 0 by simp [rρ, e1]]
              exact ⟨h1, h2, [], World.ownsRow_nil w 0 E _, rfl⟩
        · rw [hlst] at hr hr'
          rcases hfrom r hr hd1 with e | ⟨s, es, hs, hds, e, _⟩
          · rw [e] at hb1; simp [blkOf] at hb1
          · rcases hfrom r' hr' hd2 with e' | ⟨s', es', hs', hds', e', _⟩
            · rw [e'] at hb2; simp [blkOf] at hb2
            · rw [e] at hb1; rw [e'] at hb2
              have := h.inj s s' b hs hs' hds hds' hb1 hb2
              subst this
              exact srcs_inj l.blks 0 hnd r r' s hr hr' (hdd r hr hd1) (hdd r' hr' hd2) (by rwa [Nat.zero_add]) (by rwa [Nat.zero_add])
        · rw [hlst] at hr
          rcases hfrom r hr hd1 with e | ⟨s, es, hs, hds, e, _⟩
          · rw [e] at hb1; simp [blkOf] at hb1
          · rw [e] at hb1
            exact h.new s b hs hds hb1
      · intro i
        rw [hlst]
        exact hx l.blks.length (stB l.blks y) hzn hkd i
    · exact hd.elim
  · exact hd.elim

theorem dec_spec {σ : St} {a : Act} (h : RH X ρ σ.H w) (ht : TR (hlen σ.H) X.B ρ σ.H w σ.tmps a) {l : Lay} {J : Vals l → Prop} (hd : dec l σ J) :
    ∃ v, J v ∧ ∃ ρ', RH X ρ' (st l v).H w ∧ TR (hlen (st l v).H) X.B ρ' (st l v).H w (st l v).tmps a :=
  let ⟨v, h1, ρ', _, h2⟩ := dec_spec' h ht hd; ⟨v, h1, ρ', h2⟩

end
end Go.Eng
