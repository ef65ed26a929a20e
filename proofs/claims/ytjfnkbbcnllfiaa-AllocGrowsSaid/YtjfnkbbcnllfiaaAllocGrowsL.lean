import Derived.Test.YtjfnkbbcnllfiaaEngV
import Derived.Test.YtjfnkbbcnllfiaaEngU
import Derived.Test.YtjfnkbbcnllfiaaAllocGrowsP
namespace Go.Eng.A
open Go Go.Eng
noncomputable section
theorem drop_cons {α : Type} (d : α) {l : List α} {i : Nat} (h : i < l.length) : l.drop i = l.getD i d :: l.drop (i + 1) := by
  rw [List.drop_eq_getElem_cons h]; simp [List.getD, List.getElem?_eq_getElem h]
theorem getD_of_drop {l : List Int} {i : Nat} {x : Int} {r : List Int} (h : l.drop i = x :: r) : l.getD i 0 = x ∧ i < l.length ∧ l.drop (i + 1) = r := by
  have hi : i < l.length := by
    apply Classical.byContradiction
    intro hn
    rw [List.drop_eq_nil_of_le (by omega)] at h
    cases h
  rw [drop_cons 0 hi] at h
  injection h with h1 h2
  exact ⟨h1, hi, h2⟩
theorem same_l4 (a b : List Int) (K0 : Bool → Prop) (K1 : Prop) (hl : a.length ≤ 1000000) (hab : a.length = b.length) : ∀ (n i : Nat), i + n = a.length →
    (if a.drop i = b.drop i then K1 else K0 false) → ∃ q, R01_Same_l4 q a b i K0 K1 := by
  intro n
  induction n with
  | zero =>
    intro i hi h
    refine ⟨1, ?_⟩
    rw [List.drop_eq_nil_of_le (by omega), List.drop_eq_nil_of_le (by omega)] at h
    simp only [R01_Same_l4, br_dec]
    rw [if_neg (by omega)]
    simpa using h
  | succ n ih =>
    intro i hi h
    rw [drop_cons 0 (l := a) (by omega), drop_cons 0 (l := b) (by omega)] at h
    by_cases hx : a.getD i 0 = b.getD i 0
    · obtain ⟨q, hq⟩ := ih (i + 1) (by omega) (by rw [hx] at h; simpa only [List.cons.injEq, true_and] using h)
      refine ⟨q + 1, ?_⟩
      simp only [R01_Same_l4, br_dec, br_and, br_not, Int.toNat_natCast]
      rw [if_pos (by omega), if_pos (by omega), if_pos (by omega), if_pos (by omega), if_pos (by omega), if_pos hx, iadd64 (by omega)]
      exact hq
    · refine ⟨1, ?_⟩
      simp only [R01_Same_l4, br_dec, br_and, br_not, Int.toNat_natCast]
      rw [if_pos (by omega), if_pos (by omega), if_pos (by omega), if_pos (by omega), if_pos (by omega), if_neg hx]
      rw [if_neg (fun e => hx (by injection e))] at h
      exact h
theorem same_spec (a b : List Int) (K0 : Bool → Prop) (hl : a.length ≤ 1000000) (h : K0 (decide (a = b))) : R01_Same a b K0 := by
  unfold R01_Same
  rw [br_not, br_dec]
  split
  · rename_i hab
    refine same_l4 a b _ _ hl (by omega) a.length 0 (by omega) ?_
    rw [List.drop_zero, List.drop_zero]
    split
    · rename_i e; rw [decide_eq_true e] at h; exact h
    · rename_i e; rw [decide_eq_false e] at h; exact h
  · rename_i hab
    rw [decide_eq_false (fun e => hab (by rw [e]))] at h
    exact h
theorem same_self (a : List Int) (K0 : Bool → Prop) (hl : a.length ≤ 1000000) (h : K0 true) : R01_Same a a K0 :=
  same_spec a a K0 hl (by rw [decide_eq_true rfl]; exact h)
def inB (low high x : Int) : Bool := decide (low ≤ x ∧ x ≤ high)
theorem within_l2 (l : List Int) (low high : Int) (K0 : Bool → Prop) (K1 : Prop) (hl : l.length ≤ 1000000) : ∀ (n i : Nat), i + n = l.length →
    (if (l.drop i).all (inB low high) = true then K1 else K0 false) → ∃ q, R01_Within_l2 q l low high i K0 K1 := by
  intro n
  induction n with
  | zero =>
    intro i hi h
    refine ⟨1, ?_⟩
    rw [List.drop_eq_nil_of_le (by omega)] at h
    simp only [R01_Within_l2, br_dec]
    rw [if_neg (by omega)]
    simpa using h
  | succ n ih =>
    intro i hi h
    rw [drop_cons 0 (by omega), List.all_cons] at h
    by_cases hx : inB low high (l.getD i 0) = true
    · obtain ⟨q, hq⟩ := ih (i + 1) (by omega) (by rw [hx, Bool.true_and] at h; exact h)
      refine ⟨q + 1, ?_⟩
      unfold inB at hx
      rw [decide_eq_true_eq] at hx
      simp only [R01_Within_l2, br_dec, br_and, Int.toNat_natCast]
      rw [if_pos (by omega), if_pos (by omega), if_pos (by omega), if_neg (by omega), if_pos (by omega), if_pos (by omega), if_neg (by omega), iadd64 (by omega)]
      exact hq
    · refine ⟨1, ?_⟩
      have h : K0 false := by rw [Bool.eq_false_iff.2 hx, Bool.false_and] at h; exact h
      unfold inB at hx
      rw [decide_eq_true_eq] at hx
      simp only [R01_Within_l2, br_dec, br_and, Int.toNat_natCast]
      rw [if_pos (by omega), if_pos (by omega), if_pos (by omega)]
      split
      · exact h
      · rw [if_pos (by omega), if_pos (by omega), if_pos (by omega)]
        exact h
theorem within_spec (l : List Int) (low high : Int) (K0 : Bool → Prop) (hl : l.length ≤ 1000000) (h : K0 (l.all (inB low high))) : R01_Within l low high K0 := by
  refine within_l2 l low high K0 _ hl l.length 0 (by omega) ?_
  rw [List.drop_zero]
  split
  · rename_i e; rw [e] at h; exact h
  · rename_i e; rw [Bool.eq_false_iff.2 e] at h; exact h
theorem eright_l2 (c v : List Int) (K0 : Bool → Prop) (K1 : List Int → Prop) (hl : v.length ≤ 1000000) : ∀ (n i : Nat), i + n = v.length →
    (if (v.drop i).all (inB 0 23) = true then K1 c else K0 false) → ∃ q, energy_Right_l2 q c v v.length i K0 K1 := by
  intro n
  induction n with
  | zero =>
    intro i hi h
    refine ⟨1, ?_⟩
    rw [List.drop_eq_nil_of_le (by omega)] at h
    simp only [energy_Right_l2, br_dec]
    rw [if_neg (by omega)]
    simpa using h
  | succ n ih =>
    intro i hi h
    rw [drop_cons 0 (by omega), List.all_cons] at h
    by_cases hx : inB 0 23 (v.getD i 0) = true
    · obtain ⟨q, hq⟩ := ih (i + 1) (by omega) (by rw [hx, Bool.true_and] at h; exact h)
      refine ⟨q + 1, ?_⟩
      unfold inB at hx
      rw [decide_eq_true_eq] at hx
      simp only [energy_Right_l2, br_dec, br_and, Int.toNat_natCast]
      rw [if_pos (by omega), if_pos (by omega), if_pos (by omega), if_neg (by omega), if_neg (by omega), iadd64 (by omega)]
      exact hq
    · refine ⟨1, ?_⟩
      have h : K0 false := by rw [Bool.eq_false_iff.2 hx, Bool.false_and] at h; exact h
      unfold inB at hx
      rw [decide_eq_true_eq] at hx
      simp only [energy_Right_l2, br_dec, br_and, Int.toNat_natCast]
      rw [if_pos (by omega), if_pos (by omega), if_pos (by omega)]
      split
      · exact h
      · rw [if_pos (by omega)]
        exact h
def rowB (c : List Int) : Bool := c.all (inB 0 23) && decide (c.length = 13)
theorem eright_spec (c : List Int) (K0 : Bool → Prop) (hl : c.length ≤ 1000000) (h : K0 (rowB c)) : energy_Right c K0 := by
  refine eright_l2 c c K0 _ hl c.length 0 (by omega) ?_
  rw [List.drop_zero]
  unfold rowB at h
  split
  · rename_i hs
    rw [hs, Bool.true_and] at h
    have e : decide (((c.length : Nat) : Int) = 13) = decide (c.length = 13) := by apply decide_eq_decide.2; omega
    rw [e]; exact h
  · rename_i hs
    rw [Bool.eq_false_iff.2 hs, Bool.false_and] at h
    exact h
theorem rright_spec (c : List Int) (K0 : Bool → Prop) (hl : c.length ≤ 1000000) (h : K0 (rowB c)) : R14_Right c K0 := by
  unfold R14_Right rowB at *
  rw [br_dec]
  split
  · rename_i h13
    rw [show decide (c.length = 13) = true by rw [decide_eq_true_eq]; omega, Bool.and_true] at h
    exact within_spec c 0 23 K0 hl h
  · rename_i h13
    rw [show decide (c.length = 13) = false by rw [decide_eq_false_iff_not]; omega, Bool.and_false] at h
    exact h

/-- How many pulses a band has. -/
def band (q c w : Int) : Int :=
  if q < 0 ∨ 10 < q ∨ c < 1 ∨ 23 < c then 0 else
    (if w = 2 then 1 else if w = 4 then 2 else if w = 8 then 3 else 0) * (max 0 (min 8 (c + q - 8)))

theorem imax_eq (a b : Int) : imax a b = max a b := by unfold imax; omega
theorem imin_eq (a b : Int) : imin a b = min a b := by unfold imin; omega

theorem good_spec (q : Int) (K0 : Bool → Prop) (h : K0 (decide (0 ≤ q ∧ q ≤ 10))) : alloc_good q K0 := by
  unfold alloc_good alloc_held_int_
  simp only [imax_eq, imin_eq]
  have e : decide (max 0 (min 10 q) = q) = decide (0 ≤ q ∧ q ≤ 10) := by apply decide_eq_decide.2; omega
  rw [e]; exact h
theorem band_spec (q c w : Int) (K0 : Int → Prop) (h : K0 (band q c w)) : alloc_Band q c w K0 := by
  refine good_spec q _ ?_
  rw [br_not, br_dec]
  unfold band at h
  split
  · rename_i hq
    simp only [alloc_held_int_, imax_eq, imin_eq, br_not, br_dec]
    split
    · rename_i hc
      rw [if_neg (by omega)] at h
      unfold alloc_times
      simp only [br_dec, iadd64 (a := c) (b := q) (by omega), isub64 (a := c + q) (b := 8) (by omega)]
      split
      · rename_i hw; rw [if_pos hw] at h; rw [imul64 (by omega)]; exact h
      · rename_i hw; rw [if_neg hw] at h
        split
        · rename_i hw; rw [if_pos hw] at h; rw [imul64 (by omega)]; exact h
        · rename_i hw; rw [if_neg hw] at h
          split
          · rename_i hw; rw [if_pos hw] at h; rw [imul64 (by omega)]; exact h
          · rename_i hw; rw [if_neg hw] at h; rw [imul64 (by omega)]; exact h
    · rename_i hc
      rw [if_pos (by omega)] at h; exact h
  · rename_i hq
    rw [if_pos (by omega)] at h; exact h
theorem rband_spec (q c w : Int) (K0 : Int → Prop) (h : K0 (band q c w)) : R15_Band q c w K0 := by
  unfold R15_Band
  simp only [br_dec]
  unfold band at h
  split
  · rw [if_pos (by omega)] at h; exact h
  split
  · rw [if_pos (by omega)] at h; exact h
  split
  · rw [if_pos (by omega)] at h; exact h
  split
  · rw [if_pos (by omega)] at h; exact h
  rw [if_neg (by omega)] at h
  rw [iadd64 (a := c) (b := q) (by omega), isub64 (by omega), imax_eq, imin_eq]
  split
  · rename_i hw; rw [if_pos hw, Int.one_mul] at h; exact h
  · rename_i hw; rw [if_neg hw] at h
    split
    · rename_i hw; rw [if_pos hw] at h; rw [imul64 (by omega)]; exact h
    · rename_i hw; rw [if_neg hw] at h
      split
      · rename_i hw; rw [if_pos hw] at h; rw [imul64 (by omega)]; exact h
      · rename_i hw; rw [if_neg hw, Int.zero_mul] at h; exact h

def width (b : Nat) : Int := if b < 4 then 2 else if b < 8 then 4 else 8
theorem width_spec (b : Nat) (hb : b < 13) (K0 : Int → Prop) (h : K0 (width b)) : layout_Width b K0 := by
  unfold layout_Width layout_widths
  simp only [br_dec, br_and, Int.toNat_natCast]
  rw [if_neg (by omega), if_neg (by omega), if_pos (by omega), if_pos (by omega), if_pos (by simpa using hb)]
  have : ∀ b, b < 13 → List.getD [2, 2, 2, 2, 4, 4, 4, 4, 8, 8, 8, 8, 8] b 0 = width b := by decide
  rw [this b hb]; exact h
theorem rwidth_spec (b : Nat) (hb : b < 13) (K0 : Int → Prop) (h : K0 (width b)) : R13_Width b K0 := by
  unfold R13_Width R13_Width_j2
  simp only [br_dec]
  rw [if_neg (by omega), if_neg (by omega)]
  unfold width at h
  split
  · rw [if_pos (by omega)] at h; exact h
  · rw [if_neg (by omega)] at h
    split
    · rw [if_pos (by omega)] at h; exact h
    · rw [if_neg (by omega)] at h; exact h

def allL (q : Int) (row : List Int) : List Int := tab 13 fun b => band q (row.getD b 0) (width b)

theorem all_l5 (q : Int) (v : List Int) (hv : v.length = 13) (K0 : List Int → Prop) : ∀ (n i : Nat) (m : List Int), i + n = 13 → m.length = 13 → m.take i = (allL q v).take i →
    K0 (allL q v) → ∃ k, alloc_All_l5 k q v v.length i m K0 := by
  intro n
  induction n with
  | zero =>
    intro i m hi hm ht h
    refine ⟨1, ?_⟩
    simp only [alloc_All_l5, br_dec]
    rw [if_neg (by omega)]
    have h13 : (allL q v).length = 13 := by simp [allL, tab]
    have hi : i = 13 := by omega
    rw [hi, List.take_of_length_le (by omega), List.take_of_length_le (by omega)] at ht
    rw [ht]; exact h
  | succ n ih =>
    intro i m hi hm ht h
    have h13 : (allL q v).length = 13 := by simp [allL, tab]
    obtain ⟨k, hk⟩ := ih (i + 1) (m.set i (band q (v.getD i 0) (width i))) (by omega) (by simpa using hm) (by
      rw [List.take_succ_eq_append_getElem (by simp; omega), List.take_succ_eq_append_getElem (by omega), List.take_set_of_le (Nat.le_refl i), ht]
      simp [allL, tab]) h
    refine ⟨k + 1, ?_⟩
    simp only [alloc_All_l5, br_dec, br_and, Int.toNat_natCast]
    rw [if_pos (by omega), if_pos (by omega), if_pos (by omega)]
    refine width_spec i (by omega) _ (band_spec _ _ _ _ ?_)
    rw [if_pos (by omega), if_pos (by omega), if_pos (by omega), iadd64 (by omega)]
    exact hk
theorem all_spec (q : Int) (row : List Int) (K0 : Prop) (K1 : List Int → Prop) (hl : row.length ≤ 1000000) (h : if 0 ≤ q ∧ q ≤ 10 ∧ rowB row = true then K1 (allL q row) else K0) : alloc_All q row K0 K1 := by
  refine good_spec q _ ?_
  rw [br_not, br_dec]
  split
  · rename_i hq
    refine eright_spec row _ hl ?_
    rw [br_not, br_if]
    split
    · rename_i hr
      rw [if_pos ⟨hq.1, hq.2, hr⟩] at h
      have h13 : row.length = 13 := by unfold rowB at hr; simp at hr; exact hr.2
      simp only [br_and, br_dec]
      rw [if_pos (by omega), if_pos (by omega), if_pos (by omega)]
      exact all_l5 q row h13 K1 13 0 _ rfl (by simp [h13]) rfl h
    · rename_i hr
      rw [if_neg (fun e => hr e.2.2)] at h; exact h
  · rename_i hq
    rw [if_neg (fun e => hq ⟨e.1, e.2.1⟩)] at h; exact h

theorem rall_l5 (q : Int) (v : List Int) (hv : v.length = 13) (K0 : List Int → Prop) : ∀ (n i : Nat), i + n = 13 → K0 (allL q v) → ∃ k, R15_All_l5 k q v i ((allL q v).take i) K0 := by
  intro n
  have h13 : (allL q v).length = 13 := by simp [allL, tab]
  induction n with
  | zero =>
    intro i hi h
    refine ⟨1, ?_⟩
    simp only [R15_All_l5, br_dec]
    rw [if_neg (by omega), List.take_of_length_le (by omega)]
    exact h
  | succ n ih =>
    intro i hi h
    obtain ⟨k, hk⟩ := ih (i + 1) (by omega) h
    refine ⟨k + 1, ?_⟩
    simp only [R15_All_l5, br_dec, br_and, Int.toNat_natCast]
    rw [if_pos (by omega), if_pos (by omega), if_pos (by omega)]
    refine rwidth_spec i (by omega) _ (rband_spec _ _ _ _ ?_)
    rw [if_pos (by simp; omega), iadd64 (by omega)]
    rw [List.take_succ_eq_append_getElem (by omega)] at hk
    have e : (allL q v)[i] = band q (v.getD i 0) (width i) := by simp [allL, tab]
    rw [e] at hk
    exact hk
theorem rall_spec (q : Int) (row : List Int) (K0 : Prop) (K1 : List Int → Prop) (hl : row.length ≤ 1000000) (h : if 0 ≤ q ∧ q ≤ 10 ∧ rowB row = true then K1 (allL q row) else K0) : R15_All q row K0 K1 := by
  unfold R15_All
  simp only [br_dec]
  split
  · rw [if_neg (by omega)] at h; exact h
  split
  · rw [if_neg (by omega)] at h; exact h
  refine rright_spec row _ hl ?_
  rw [br_not, br_if]
  split
  · rename_i hr
    rw [if_pos ⟨by omega, by omega, hr⟩] at h
    have h13 : row.length = 13 := by unfold rowB at hr; simp at hr; exact hr.2
    exact rall_l5 q row h13 K1 13 0 rfl h
  · rename_i hr
    rw [if_neg (fun e => hr e.2.2)] at h; exact h

theorem awake_spec (K : Bool → Prop) (h : K true) : L15_awake K := by
  refine band_spec _ _ _ _ ?_
  rw [show band 5 8 4 = 10 by decide, br_dec, if_pos rfl]
  refine band_spec _ _ _ _ ?_
  rw [show band 5 0 4 = 0 by decide, br_dec, if_pos rfl]
  refine band_spec _ _ _ _ ?_
  rw [show band 10 23 8 = 24 by decide, br_dec, if_pos rfl]
  refine all_spec _ _ _ _ (by decide) ?_
  rw [if_neg (by decide)]
  refine band_spec _ _ _ _ ?_
  rw [show band 11 8 4 = 0 by decide]
  exact h

theorem tells (q c w : Int) (row : List Int) (_ : Rng (.int .i64) q) (_ : Rng (.int .i64) c) (_ : Rng (.int .i64) w) (_ : Rng (.sl (.int .i64)) row) (K : Bool → Prop) (h : K true) : L15_AllocTells q c w row K := by
  have ha := awake_spec K h
  unfold L15_AllocTells
  rw [br_dec]
  split
  · exact ha
  have hl : row.length ≤ 1000000 := by omega
  refine band_spec _ _ _ _ (rband_spec _ _ _ _ ?_)
  rw [br_dec, if_pos rfl]
  refine all_spec q row _ _ hl ?_
  split
  · rename_i hr
    refine rall_spec q row _ _ hl ?_
    rw [if_pos hr]
    exact same_self _ _ (by simp [allL, tab]) ha
  · rename_i hr
    refine rall_spec q row _ _ hl ?_
    rw [if_neg hr]
    exact same_self _ _ (by decide) ha

theorem wf8 {n : Int} (h : (Lit.int .u8 n).wf = true) : 0 ≤ n ∧ n ≤ 255 := by
  simpa [Lit.wf, IntKind.min, IntKind.max, IntKind.signed, IntKind.bits] using h

theorem grows (q c w : Int) (hq : Rng (.int .u8) q) (hc : Rng (.int .u8) c) (hw : Rng (.int .u8) w) (K : Bool → Prop) (h : K true) : L15_AllocGrows q c w K := by
  have ha := awake_spec K h
  have hq := wf8 hq
  have hc := wf8 hc
  have hw := wf8 hw
  have em : ∀ n m : Int, 0 ≤ n ∧ n ≤ 255 → irem .i64 (Go.IntKind.wrap .i64 n) m = n % m := by
    intro n m hn
    rw [Go.IntWalk.i64_in n (by omega)]
    exact Int.tmod_eq_emod_of_nonneg hn.1
  unfold L15_AllocGrows
  simp only [em q 11 hq, em c 24 hc, em w 3 hw, br_dec]
  rw [if_neg (by omega)]
  have hsh : ∃ n : Int, ishl .i64 2 (w % 3) = n ∧ (n = 2 ∨ n = 4 ∨ n = 8) := by
    have : w % 3 = 0 ∨ w % 3 = 1 ∨ w % 3 = 2 := by omega
    rcases this with e | e | e <;> rw [e]
    · exact ⟨2, by decide, by simp⟩
    · exact ⟨4, by decide, by simp⟩
    · exact ⟨8, by decide, by simp⟩
  obtain ⟨n, en, hn⟩ := hsh
  rw [en]
  generalize ea : q % 11 = a
  generalize eb : c % 24 = b
  have ha1 : 0 ≤ a ∧ a ≤ 10 := by omega
  have hb1 : 0 ≤ b ∧ b ≤ 23 := by omega
  have bandE : ∀ x y, 0 ≤ x ∧ x ≤ 10 → 0 ≤ y ∧ y ≤ 23 → ∃ t, (t = 1 ∧ n = 2 ∨ t = 2 ∧ n = 4 ∨ t = 3 ∧ n = 8) ∧ band x y n = if y = 0 then 0 else t * (max 0 (min 8 (y + x - 8))) := by
    intro x y hx hy
    rcases hn with rfl | rfl | rfl
    · exact ⟨1, by simp, by unfold band; simp only [if_true]; split <;> split <;> omega⟩
    · exact ⟨2, by simp, by unfold band; rw [if_neg (by decide : ¬ (4 : Int) = 2), if_pos rfl]; split <;> split <;> omega⟩
    · exact ⟨3, by simp, by unfold band; rw [if_neg (by decide : ¬ (8 : Int) = 2), if_neg (by decide : ¬ (8 : Int) = 4), if_pos rfl]; split <;> split <;> omega⟩
  obtain ⟨t, ht, e1⟩ := bandE a b ha1 hb1
  have j8 : L15_AllocGrows_j8 a b (band a b n) K := by
    unfold L15_AllocGrows_j8
    simp only [br_dec]
    split
    · exact ha
    · rename_i hb0
      rw [iadd64 (by omega)]
      split
      · exact ha
      · rw [if_pos]
        · exact ha
        · rw [e1, if_neg hb0]
          rcases ht with ⟨rfl, _⟩ | ⟨rfl, _⟩ | ⟨rfl, _⟩ <;> omega
  refine band_spec _ _ _ _ ?_
  rw [if_neg (by rw [e1]; split <;> rcases ht with ⟨rfl, _⟩ | ⟨rfl, _⟩ | ⟨rfl, _⟩ <;> omega)]
  rw [imul64 (by omega), if_neg (by rw [e1]; split <;> rcases ht with ⟨rfl, _⟩ | ⟨rfl, _⟩ | ⟨rfl, _⟩ <;> omega)]
  rw [if_neg (by rw [e1]; split <;> rcases ht with ⟨rfl, _⟩ | ⟨rfl, _⟩ | ⟨rfl, _⟩ <;> omega)]
  refine band_spec _ _ _ _ ?_
  obtain ⟨t0, ht0, e0⟩ := bandE a 0 ha1 (by omega)
  rw [if_pos rfl] at e0
  rw [e0, br_not, br_dec, if_pos rfl]
  have next : (if b < 23 then alloc_Band a (iadd .i64 b 1) n fun r4 => Br (decide (r4 < band a b n)) (K false) (L15_AllocGrows_j8 a b (band a b n) K) else L15_AllocGrows_j8 a b (band a b n) K) := by
    split
    · rw [iadd64 (by omega)]
      refine band_spec _ _ _ _ ?_
      obtain ⟨t2, ht2, e2⟩ := bandE a (b + 1) ha1 (by omega)
      rw [br_dec, if_neg]
      · exact j8
      · rw [e1, e2, if_neg (by omega)]
        have : t2 = t := by omega
        subst this
        split <;> rcases ht with ⟨rfl, _⟩ | ⟨rfl, _⟩ | ⟨rfl, _⟩ <;> omega
    · exact j8
  split
  · rw [iadd64 (by omega)]
    refine band_spec _ _ _ _ ?_
    obtain ⟨t2, ht2, e2⟩ := bandE (a + 1) b (by omega) hb1
    rw [if_neg]
    · simpa only [br_dec] using next
    · rw [e1, e2]
      have : t2 = t := by omega
      subst this
      split <;> rcases ht with ⟨rfl, _⟩ | ⟨rfl, _⟩ | ⟨rfl, _⟩ <;> omega
  · simpa only [br_dec] using next

end
end Go.Eng.A
