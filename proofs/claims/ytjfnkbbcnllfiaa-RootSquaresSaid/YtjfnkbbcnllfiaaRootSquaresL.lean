import Derived.Test.YtjfnkbbcnllfiaaEngV
import Derived.Test.YtjfnkbbcnllfiaaEngU
import Derived.Test.YtjfnkbbcnllfiaaRootSquaresP
namespace Go.Eng.A
open Go Go.Eng
set_option maxRecDepth 100000
noncomputable section

/-- r is the root of n, rounded down. -/
def isq (n r : Int) : Prop := 0 ≤ r ∧ r * r ≤ n ∧ n < (r + 1) * (r + 1)
theorem sq_succ (r : Int) : (r + 1) * (r + 1) = r * r + 2 * r + 1 := by rw [Int.add_mul, Int.mul_add]; omega
theorem sq_mono {a b : Int} (h0 : 0 ≤ a) (h : a ≤ b) : a * a ≤ b * b := Int.mul_le_mul h h h0 (by omega)
theorem isq_le {a b r s : Int} (h1 : isq a r) (h2 : isq b s) (h : a ≤ b) : r ≤ s := by
  apply Classical.byContradiction
  intro hn
  have := sq_mono (a := s + 1) (b := r) (by have := h2.1; omega) (by omega)
  have := h1.2.1; have := h2.2.2
  omega
theorem isq_eq {a r s : Int} (h1 : isq a r) (h2 : isq a s) : r = s := by
  have := isq_le h1 h2 (Int.le_refl _); have := isq_le h2 h1 (Int.le_refl _); omega
theorem isq_sq {r : Int} (h : 0 ≤ r) : isq (r * r) r := ⟨h, Int.le_refl _, by rw [sq_succ]; omega⟩
theorem root_le {n r : Int} (h : isq n r) (hn : n ≤ 1152921504606846976) : r ≤ 1073741824 := by
  apply Classical.byContradiction
  intro hb
  have := sq_mono (a := 1073741825) (b := r) (by decide) (by omega)
  have := h.2.1
  omega

theorem ior_add (m j : Nat) (h : m * 2 ^ (j + 1) + 2 ^ j < 2 ^ 62) : ior .i64 ((m * 2 ^ (j + 1) : Nat) : Int) ((2 ^ j : Nat) : Int) = ((m * 2 ^ (j + 1) + 2 ^ j : Nat) : Int) := by
  unfold ior
  have e1 : (BitVec.ofInt IntKind.i64.bits ((m * 2 ^ (j + 1) : Nat) : Int)).toNat = m * 2 ^ (j + 1) := by
    rw [BitVec.ofInt_natCast, BitVec.toNat_ofNat]
    exact Nat.mod_eq_of_lt (Nat.lt_of_lt_of_le (Nat.lt_of_le_of_lt (Nat.le_add_right _ _) h) (by decide))
  have e2 : (BitVec.ofInt IntKind.i64.bits ((2 ^ j : Nat) : Int)).toNat = 2 ^ j := by
    rw [BitVec.ofInt_natCast, BitVec.toNat_ofNat]
    exact Nat.mod_eq_of_lt (Nat.lt_of_lt_of_le (Nat.lt_of_le_of_lt (Nat.le_add_left _ _) h) (by decide))
  rw [BitVec.toNat_or, e1, e2]
  have e3 : m * 2 ^ (j + 1) ||| 2 ^ j = m * 2 ^ (j + 1) + 2 ^ j := by
    have := Nat.shiftLeft_add_eq_or_of_lt (i := j + 1) (b := 2 ^ j) (Nat.pow_lt_pow_right (by decide) (by omega)) m
    rw [Nat.shiftLeft_eq] at this
    exact this.symm
  rw [e3]
  refine Go.IntWalk.i64_in _ ⟨by omega, ?_⟩
  have : (m * 2 ^ (j + 1) + 2 ^ j : Nat) < 4611686018427387904 := h
  omega

theorem sqrt_l5 (n : Int) (hn : 0 ≤ n ∧ n ≤ 1152921504606846976) (K0 : Int → Prop) (h : ∀ r, isq n r → K0 r) : ∀ (j m : Nat), j ≤ 31 → ((m * 2 ^ j : Nat) : Int) * ((m * 2 ^ j : Nat) : Int) ≤ n → n < ((m * 2 ^ j + 2 ^ j : Nat) : Int) * ((m * 2 ^ j + 2 ^ j : Nat) : Int) →
    ∃ q, root_Sqrt_l5 q n ((m * 2 ^ j : Nat) : Int) (31 - j : Int) K0 := by
  intro j
  induction j with
  | zero =>
    intro m _ h1 h2
    refine ⟨1, ?_⟩
    simp only [root_Sqrt_l5, br_dec]
    rw [if_neg (by omega)]
    refine h _ ⟨by omega, h1, ?_⟩
    simpa using h2
  | succ j ih =>
    intro m hj h1 h2
    have hp : 2 ^ (j + 1) = 2 ^ j + 2 ^ j := by rw [Nat.pow_succ]; omega
    have hp30 : 2 ^ j ≤ 1073741824 := Nat.le_trans (Nat.pow_le_pow_right (n := 2) (i := j) (j := 30) (by decide) (by omega)) (by decide)
    have hpi : (0 : Int) < 2 ^ j := Int.pow_pos (by decide)
    have hpi30 : (2 : Int) ^ j ≤ 1073741824 := by
      have h9 : ((2 ^ j : Nat) : Int) ≤ 1073741824 := Int.ofNat_le.2 hp30
      rwa [Int.natCast_pow] at h9
    have hmi : 0 ≤ ((m * 2 ^ (j + 1) : Nat) : Int) := by omega
    have hmi2 : ((m * 2 ^ (j + 1) + 2 ^ j : Nat) : Int) = ((m * 2 ^ (j + 1) : Nat) : Int) + 2 ^ j := by simp
    have hr : ((m * 2 ^ (j + 1) : Nat) : Int) ≤ 1073741824 := by
      apply Classical.byContradiction
      intro hb
      have := sq_mono (a := 1073741825) (b := ((m * 2 ^ (j + 1) : Nat) : Int)) (by decide) (by omega)
      omega
    have hv : isub .i64 30 (31 - ((j + 1 : Nat) : Int)) = ((j : Nat) : Int) := by rw [isub64 (by omega)]; omega
    have hsh : ishl .i64 1 ((j : Nat) : Int) = ((2 ^ j : Nat) : Int) := by
      rw [ishl64 (by omega) (by
        rw [Int.one_mul]; omega)]
      simp
    have hor : ior .i64 ((m * 2 ^ (j + 1) : Nat) : Int) ((2 ^ j : Nat) : Int) = ((m * 2 ^ (j + 1) + 2 ^ j : Nat) : Int) := ior_add m j (by
      have h9 : (m * 2 ^ (j + 1) : Nat) ≤ 1073741824 := Int.ofNat_le.1 hr
      exact Nat.lt_of_le_of_lt (Nat.add_le_add h9 hp30) (by decide))
    have hmul : imul .i64 ((m * 2 ^ (j + 1) + 2 ^ j : Nat) : Int) ((m * 2 ^ (j + 1) + 2 ^ j : Nat) : Int) = ((m * 2 ^ (j + 1) + 2 ^ j : Nat) : Int) * ((m * 2 ^ (j + 1) + 2 ^ j : Nat) : Int) := by
      have := sq_mono (a := ((m * 2 ^ (j + 1) + 2 ^ j : Nat) : Int)) (b := 2147483648) (by rw [hmi2]; exact Int.add_nonneg hmi (Int.le_of_lt hpi)) (by rw [hmi2]; exact Int.add_le_add hr hpi30)
      have h0 : 0 ≤ ((m * 2 ^ (j + 1) + 2 ^ j : Nat) : Int) * ((m * 2 ^ (j + 1) + 2 ^ j : Nat) : Int) := Int.mul_nonneg (Int.natCast_nonneg _) (Int.natCast_nonneg _)
      exact imul64 (by omega)
    have hnext : iadd .i64 (31 - ((j + 1 : Nat) : Int)) 1 = 31 - (j : Int) := by rw [iadd64 (by omega)]; omega
    by_cases hc : ((m * 2 ^ (j + 1) + 2 ^ j : Nat) : Int) * ((m * 2 ^ (j + 1) + 2 ^ j : Nat) : Int) ≤ n
    · have e : m * 2 ^ (j + 1) + 2 ^ j = (2 * m + 1) * 2 ^ j := by rw [Nat.pow_succ, Nat.add_mul, Nat.one_mul, Nat.mul_comm (2 ^ j) 2, ← Nat.mul_assoc, Nat.mul_comm m 2]
      obtain ⟨q, hq⟩ := ih (2 * m + 1) (by omega) (by rw [← e]; exact hc) (by
        have e2 : (2 * m + 1) * 2 ^ j + 2 ^ j = m * 2 ^ (j + 1) + 2 ^ (j + 1) := by rw [← e]; omega
        rw [e2]; exact h2)
      refine ⟨q + 1, ?_⟩
      simp only [root_Sqrt_l5, br_dec, hv]
      rw [if_pos (by omega), if_neg (by omega), hsh, hor, hmul, if_pos hc, hnext, e]
      exact hq
    · have e : m * 2 ^ (j + 1) = (2 * m) * 2 ^ j := by rw [Nat.pow_succ, Nat.mul_comm (2 ^ j) 2, ← Nat.mul_assoc, Nat.mul_comm m 2]
      obtain ⟨q, hq⟩ := ih (2 * m) (by omega) (by rw [← e]; exact h1) (by rw [← e]; omega)
      refine ⟨q + 1, ?_⟩
      simp only [root_Sqrt_l5, br_dec, hv]
      rw [if_pos (by omega), if_neg (by omega), hsh, hor, hmul, if_neg hc, hnext, e]
      exact hq

theorem sqrt_spec (n : Int) (K0 : Int → Prop) (h0 : ¬ (0 ≤ n ∧ n ≤ 1152921504606846976) → K0 0) (h : 0 ≤ n ∧ n ≤ 1152921504606846976 → ∀ r, isq n r → K0 r) : root_Sqrt n K0 := by
  unfold root_Sqrt
  simp only [br_dec]
  split
  · exact h0 (by omega)
  split
  · exact h0 (by omega)
  have := sqrt_l5 n (by omega) K0 (h (by omega)) 31 0 (by decide) (by omega) (by
    have : ((0 * 2 ^ 31 + 2 ^ 31 : Nat) : Int) * ((0 * 2 ^ 31 + 2 ^ 31 : Nat) : Int) = 4611686018427387904 := by decide
    rw [this]; omega)
  simpa using this

theorem rsqrt_l4 (n : Int) (_hn : 0 ≤ n ∧ n ≤ 1152921504606846976) (K0 : Int → Prop) (h : ∀ r, isq n r → K0 r) : ∀ (d : Nat) (low high : Int), high - low ≤ d → 0 ≤ low → low < high → high ≤ 1073741825 → low * low ≤ n → n < high * high →
    ∃ q, R06_Sqrt_l4 q n low high K0 := by
  intro d
  induction d with
  | zero => intro low high h1 _ h3; omega
  | succ d ih =>
    intro low high h1 h2 h3 h4 h5 h6
    by_cases hc : 1 < high - low
    · have hm : iquo .i64 (iadd .i64 low high) 2 = (low + high) / 2 := by rw [iadd64 (by omega), iquo64n (by omega) (by omega)]
      have hb : imul .i64 ((low + high) / 2) ((low + high) / 2) = ((low + high) / 2) * ((low + high) / 2) := by
        have := sq_mono (a := (low + high) / 2) (b := 1073741825) (by omega) (by omega)
        have : 0 ≤ ((low + high) / 2) * ((low + high) / 2) := Int.mul_nonneg (by omega) (by omega)
        exact imul64 (by omega)
      by_cases hx : ((low + high) / 2) * ((low + high) / 2) ≤ n
      · obtain ⟨q, hq⟩ := ih ((low + high) / 2) high (by omega) (by omega) (by omega) h4 hx h6
        refine ⟨q + 1, ?_⟩
        simp only [R06_Sqrt_l4, br_dec, hm, hb]
        rw [isub64 (by omega), if_pos hc, if_pos hx]
        exact hq
      · obtain ⟨q, hq⟩ := ih low ((low + high) / 2) (by omega) h2 (by omega) (by omega) h5 (by omega)
        refine ⟨q + 1, ?_⟩
        simp only [R06_Sqrt_l4, br_dec, hm, hb]
        rw [isub64 (by omega), if_pos hc, if_neg hx]
        exact hq
    · refine ⟨1, ?_⟩
      simp only [R06_Sqrt_l4, br_dec]
      rw [isub64 (by omega), if_neg hc]
      have : high = low + 1 := by omega
      subst this
      exact h low ⟨h2, h5, h6⟩
theorem rsqrt_spec (n : Int) (K0 : Int → Prop) (h0 : ¬ (0 ≤ n ∧ n ≤ 1152921504606846976) → K0 0) (h : 0 ≤ n ∧ n ≤ 1152921504606846976 → ∀ r, isq n r → K0 r) : R06_Sqrt n K0 := by
  unfold R06_Sqrt
  simp only [br_dec]
  split
  · exact h0 (by omega)
  split
  · exact h0 (by omega)
  exact rsqrt_l4 n (by omega) K0 (h (by omega)) 1073741825 0 1073741825 (by omega) (by omega) (by omega) (by omega) (by omega) (by omega)

/-! ### Halvings -/

def lg (n : Int) : Int := ((Nat.log2 n.toNat : Nat) : Int)
theorem log2_step {n : Nat} (h : 2 ≤ n) : Nat.log2 n = Nat.log2 (n / 2) + 1 := by rw [Nat.log2_def, if_pos h]
theorem log2_div : ∀ (k n : Nat), 2 ^ k ≤ n → Nat.log2 n = Nat.log2 (n / 2 ^ k) + k
  | 0, n, _ => by simp
  | k + 1, n, h => by
    have h2 : 2 ≤ n := Nat.le_trans (by rw [Nat.pow_succ]; have := Nat.pow_pos (n := k) (show 0 < 2 by decide); omega) h
    have h3 : 2 ^ k ≤ n / 2 := by rw [Nat.le_div_iff_mul_le (by decide)]; rw [Nat.pow_succ] at h; exact h
    rw [log2_step h2, log2_div k (n / 2) h3, Nat.div_div_eq_div_mul, Nat.pow_succ, Nat.mul_comm 2]
    omega

theorem rlog_l2 (K0 : Int → Prop) : ∀ (d : Nat) (n k : Int), n ≤ d → n ≤ 9223372036854775807 → 0 ≤ k → k + d ≤ 9223372036854775807 → K0 (k + (if n ≤ 1 then 0 else lg n)) → ∃ q, R06_Log_l2 q n k K0 := by
  intro d
  induction d with
  | zero =>
    intro n k h1 _ h2 _ h
    refine ⟨1, ?_⟩
    simp only [R06_Log_l2, br_dec]
    rw [if_neg (by omega)]
    rw [if_pos (by omega), Int.add_zero] at h
    exact h
  | succ d ih =>
    intro n k h1 hn h2 h3 h
    by_cases hc : 1 < n
    · obtain ⟨q, hq⟩ := ih (n / 2) (k + 1) (by omega) (by omega) (by omega) (by omega) (by
        rw [if_neg (by omega)] at h
        have e : lg n = lg (n / 2) + 1 := by
          unfold lg
          rw [log2_step (by omega), show (n / 2).toNat = n.toNat / 2 by omega]
          omega
        rw [e] at h
        split
        · rename_i h4
          have h5 : n / 2 = 1 := by omega
          have : lg 1 = 0 := by decide
          rw [h5, this] at h
          rw [Int.add_zero]; rw [Int.zero_add] at h; exact h
        · rw [show k + 1 + lg (n / 2) = k + (lg (n / 2) + 1) by omega]; exact h)
      refine ⟨q + 1, ?_⟩
      simp only [R06_Log_l2, br_dec]
      rw [if_pos hc, iquo64n (by omega) (by omega), iadd64 (by omega)]
      exact hq
    · refine ⟨1, ?_⟩
      simp only [R06_Log_l2, br_dec]
      rw [if_neg hc]
      rw [if_pos (by omega), Int.add_zero] at h
      exact h

theorem ishru (a : Int) (n : Nat) (hn : n < 64) : ishr .u64 a n = a / 2 ^ n := by
  unfold ishr
  have : min (n : Int).toNat IntKind.u64.bits = n := by simp [IntKind.bits]; omega
  rw [this]
  exact Int.fdiv_eq_ediv_of_nonneg _ (Int.pow_nonneg (by omega))

theorem len_j10 (x : Nat) (n : Int) (hx : x < 256) (hn : 0 ≤ n ∧ n ≤ 1000) (K0 : Int → Prop) (h : K0 (n + (if x = 0 then 0 else ((Nat.log2 x : Nat) : Int) + 1))) : bits_Len64_j10 x n K0 := by
  unfold bits_Len64_j10
  have e8 : Go.IntKind.wrap .u8 (x : Int) = x := Go.IntWalk.u8_in _ (by omega)
  simp only [e8, br_and, br_dec, Int.toNat_natCast]
  rw [if_pos (by omega), if_pos (by omega)]
  have tabE : ∀ x, x < 256 → byteAt (ByteArray.mk #[0, 1, 2, 2, 3, 3, 3, 3, 4, 4, 4, 4, 4, 4, 4, 4, 5, 5, 5, 5, 5, 5, 5, 5, 5, 5, 5, 5, 5, 5, 5, 5, 6, 6, 6, 6, 6, 6, 6, 6, 6, 6, 6, 6, 6, 6, 6, 6, 6, 6, 6, 6, 6, 6, 6, 6, 6, 6, 6, 6, 6, 6, 6, 6, 7, 7, 7, 7, 7, 7, 7, 7, 7, 7, 7, 7, 7, 7, 7, 7, 7, 7, 7, 7, 7, 7, 7, 7, 7, 7, 7, 7, 7, 7, 7, 7, 7, 7, 7, 7, 7, 7, 7, 7, 7, 7, 7, 7, 7, 7, 7, 7, 7, 7, 7, 7, 7, 7, 7, 7, 7, 7, 7, 7, 7, 7, 7, 7, 8, 8, 8, 8, 8, 8, 8, 8, 8, 8, 8, 8, 8, 8, 8, 8, 8, 8, 8, 8, 8, 8, 8, 8, 8, 8, 8, 8, 8, 8, 8, 8, 8, 8, 8, 8, 8, 8, 8, 8, 8, 8, 8, 8, 8, 8, 8, 8, 8, 8, 8, 8, 8, 8, 8, 8, 8, 8, 8, 8, 8, 8, 8, 8, 8, 8, 8, 8, 8, 8, 8, 8, 8, 8, 8, 8, 8, 8, 8, 8, 8, 8, 8, 8, 8, 8, 8, 8, 8, 8, 8, 8, 8, 8, 8, 8, 8, 8, 8, 8, 8, 8, 8, 8, 8, 8, 8, 8, 8, 8, 8, 8, 8, 8, 8, 8, 8, 8, 8, 8, 8, 8, 8, 8, 8, 8, 8, 8]) x = if x = 0 then 0 else ((Nat.log2 x : Nat) : Int) + 1 := by decide +kernel
  rw [tabE x hx]
  have hb : (if x = 0 then 0 else ((Nat.log2 x : Nat) : Int) + 1) ≤ 100 ∧ 0 ≤ (if x = 0 then 0 else ((Nat.log2 x : Nat) : Int) + 1) := by
    split
    · omega
    · rename_i h0
      have := (Nat.log2_lt h0).2 (show x < 2 ^ 8 from hx)
      omega
  rw [Go.IntWalk.i64_in _ (by omega), iadd64 (by omega)]
  exact h
def lenL (x : Nat) : Int := if x = 0 then 0 else ((Nat.log2 x : Nat) : Int) + 1
theorem lenL_div (k x : Nat) (h : 2 ^ k ≤ x) : lenL x = lenL (x / 2 ^ k) + k := by
  have h0 : 0 < 2 ^ k := Nat.pow_pos (by decide)
  have h1 : 0 < x / 2 ^ k := Nat.div_pos h h0
  unfold lenL
  rw [if_neg (by omega), if_neg (by omega), log2_div k x h]
  omega
theorem len_j7 (x : Nat) (n : Int) (hx : x < 65536) (hn : 0 ≤ n ∧ n ≤ 900) (K0 : Int → Prop) (h : K0 (n + lenL x)) : bits_Len64_j7 x n K0 := by
  unfold bits_Len64_j7
  rw [br_dec]
  split
  · have e : ishr .u64 (x : Int) 8 = ((x / 256 : Nat) : Int) := by rw [show (8 : Int) = ((8 : Nat) : Int) from rfl, ishru _ 8 (by decide)]; simp
    rw [e, iadd64 (by omega)]
    refine len_j10 _ _ (by omega) (by omega) _ ?_
    rw [lenL_div 8 x (by omega)] at h
    rw [show n + 8 + (if x / 256 = 0 then 0 else ((Nat.log2 (x / 256) : Nat) : Int) + 1) = n + (lenL (x / 2 ^ 8) + ((8 : Nat) : Int)) by unfold lenL; rw [show 2 ^ 8 = 256 from rfl]; omega]
    exact h
  · exact len_j10 _ _ (by omega) (by omega) _ h
theorem len_j4 (x : Nat) (n : Int) (hx : x < 4294967296) (hn : 0 ≤ n ∧ n ≤ 800) (K0 : Int → Prop) (h : K0 (n + lenL x)) : bits_Len64_j4 x n K0 := by
  unfold bits_Len64_j4
  rw [br_dec]
  split
  · have e : ishr .u64 (x : Int) 16 = ((x / 65536 : Nat) : Int) := by rw [show (16 : Int) = ((16 : Nat) : Int) from rfl, ishru _ 16 (by decide)]; simp
    rw [e, iadd64 (by omega)]
    refine len_j7 _ _ (by omega) (by omega) _ ?_
    rw [lenL_div 16 x (by omega)] at h
    rw [show n + 16 + lenL (x / 65536) = n + (lenL (x / 2 ^ 16) + ((16 : Nat) : Int)) by rw [show 2 ^ 16 = 65536 from rfl]; omega]
    exact h
  · exact len_j7 _ _ (by omega) (by omega) _ h
theorem len_spec (x : Nat) (hx : x < 18446744073709551616) (K0 : Int → Prop) (h : K0 (lenL x)) : bits_Len64 x K0 := by
  unfold bits_Len64
  rw [br_dec]
  split
  · have e : ishr .u64 (x : Int) 32 = ((x / 4294967296 : Nat) : Int) := by rw [show (32 : Int) = ((32 : Nat) : Int) from rfl, ishru _ 32 (by decide)]; simp
    rw [e]
    refine len_j4 _ _ (by omega) (by omega) _ ?_
    rw [lenL_div 32 x (by omega)] at h
    rw [show 32 + lenL (x / 4294967296) = lenL (x / 2 ^ 32) + ((32 : Nat) : Int) by rw [show 2 ^ 32 = 4294967296 from rfl]; omega]
    exact h
  · refine len_j4 _ _ (by omega) (by omega) _ ?_
    rw [Int.zero_add]; exact h

def logV (n : Int) : Int := if n ≤ 1 then 0 else lg n
theorem log_spec (n : Int) (hn : n ≤ 9223372036854775807) (K0 : Int → Prop) (h : K0 (logV n)) : root_Log n K0 := by
  unfold root_Log
  rw [br_dec]
  unfold logV at h
  split
  · rw [if_pos (by omega)] at h; exact h
  · rw [Go.IntWalk.u64_in n (by omega), show n = ((n.toNat : Nat) : Int) by omega]
    refine len_spec n.toNat (by omega) _ ?_
    have hb : Nat.log2 n.toNat < 64 := (Nat.log2_lt (by omega)).2 (by omega)
    have e : lenL n.toNat = lg n + 1 := by unfold lenL lg; rw [if_neg (by omega)]
    have e2 : (if n ≤ 1 then (0 : Int) else lg n) = lg n := by
      split
      · have : n = 1 := by omega
        subst this; decide
      · rfl
    have hl : 0 ≤ lg n ∧ lg n < 64 := by unfold lg; omega
    rw [e, isub64 (by omega), show lg n + 1 - 1 = lg n by omega]
    rw [e2] at h; exact h
theorem rlog_spec (n : Int) (hn : n ≤ 9223372036854775807) (K0 : Int → Prop) (h : K0 (logV n)) : R06_Log n K0 := by
  have : ∃ q, R06_Log_l2 q n 0 K0 := by
    by_cases h1 : n ≤ 1
    · refine rlog_l2 K0 (n.toNat) n 0 (by omega) hn (by omega) (by omega) ?_
      rw [Int.zero_add]; exact h
    · refine rlog_l2 K0 (n.toNat) n 0 (by omega) hn (by omega) (by omega) ?_
      rw [Int.zero_add]; exact h
  exact this

/-- The nearest root. -/
theorem near_spec (n : Int) (K0 : Int → Prop) (h0 : ¬ (0 ≤ n ∧ n ≤ 1152921504606846976) → K0 0) (h : 0 ≤ n ∧ n ≤ 1152921504606846976 → ∀ r, isq n r → K0 (if n - r * r ≤ r then r else r + 1)) : root_Near n K0 := by
  unfold root_Near
  refine sqrt_spec n _ (fun hn => ?_) (fun hn r hr => ?_)
  · simp only [br_dec, root_Near_j3, br_true]
    split
    · exact h0 hn
    split
    · exact h0 hn
    · omega
  · have hrb := root_le hr hn.2
    have h1 := hr.1
    have hsq : 0 ≤ r * r := Int.mul_nonneg h1 h1
    have := hr.2.1
    simp only [br_dec, root_Near_j3]
    rw [if_neg (by omega), if_neg (by omega), imul64 (by omega), isub64 (by omega), iadd64 (by omega)]
    have hk := h hn r hr
    split
    · rename_i hc; rw [if_pos hc] at hk; exact hk
    · rename_i hc; rw [if_neg hc] at hk; exact hk
theorem rnear_spec (n : Int) (K0 : Int → Prop) (h0 : ¬ (0 ≤ n ∧ n ≤ 1152921504606846976) → K0 0) (h : 0 ≤ n ∧ n ≤ 1152921504606846976 → ∀ r, isq n r → K0 (if n - r * r ≤ r then r else r + 1)) : R06_Near n K0 := by
  unfold R06_Near
  simp only [br_dec]
  split
  · exact h0 (by omega)
  split
  · exact h0 (by omega)
  refine rsqrt_spec n _ (fun hn => absurd (by omega) hn) (fun hn r hr => ?_)
  have hrb := root_le hr hn.2
  have h1 := hr.1
  have hsq : 0 ≤ r * r := Int.mul_nonneg h1 h1
  have h2 := hr.2.1
  have h3 := hr.2.2
  have h4 := sq_mono (a := r + 1) (b := 2147483648) (by omega) (by omega)
  rw [iadd64 (by omega), imul64 (a := r + 1) (by omega), imul64 (a := r) (by omega), isub64 (by omega), isub64 (by omega)]
  have hk := h hn r hr
  have h5 := sq_succ r
  split
  · rename_i hc; rw [if_neg (by omega)] at hk; exact hk
  · rename_i hc; rw [if_pos (by omega)] at hk; exact hk

theorem awake_spec (K : Bool → Prop) (h : K true) : L06_awake K := by
  unfold L06_awake
  have i4 : isq 24 4 := by unfold isq; decide
  have i4' : isq 21 4 := by unfold isq; decide
  refine sqrt_spec 24 _ (fun hn => absurd (by decide) hn) (fun _ r hr => ?_)
  rw [isq_eq hr i4, br_dec, if_pos rfl]
  refine log_spec 9 (by decide) _ ?_
  rw [show logV 9 = 3 by decide, br_dec, if_pos rfl]
  refine near_spec 21 _ (fun hn => absurd (by decide) hn) (fun _ r hr => ?_)
  rw [isq_eq hr i4', if_neg (by decide), br_dec, if_pos (by decide)]
  exact sqrt_spec (-1) _ (fun _ => h) (fun hn => absurd hn (by decide))

theorem tells (n : Int) (hn : Rng (.int .i64) n) (K : Bool → Prop) (h : K true) : L06_RootTells n K := by
  have ha := awake_spec K h
  have hn' := rng64 hn
  unfold L06_RootTells
  have rest : root_Log n (fun r3 => R06_Log n (fun r4 => Br (decide (r3 = r4)) (root_Near n (fun r5 => R06_Near n (fun r6 => Br (decide (r5 = r6)) (L06_awake K) (K false)))) (K false))) := by
    refine log_spec n (by omega) _ (rlog_spec n (by omega) _ ?_)
    rw [br_dec, if_pos rfl]
    refine near_spec n _ (fun h1 => rnear_spec n _ (fun _ => ?_) (fun h2 => absurd h2 h1)) (fun h1 r hr => rnear_spec n _ (fun h2 => absurd h1 h2) (fun _ s hs => ?_))
    · rw [br_dec, if_pos rfl]; exact ha
    · rw [isq_eq hr hs, br_dec, if_pos rfl]; exact ha
  refine sqrt_spec n _ (fun h1 => rsqrt_spec n _ (fun _ => ?_) (fun h2 => absurd h2 h1)) (fun h1 r hr => rsqrt_spec n _ (fun h2 => absurd h1 h2) (fun _ s hs => ?_))
  · rw [br_dec, if_pos rfl]; exact rest
  · rw [isq_eq hr hs, br_dec, if_pos rfl]; exact rest

theorem lg_bounds {n : Int} (h : 1 ≤ n) (hn : n ≤ 1152921504606846976) : ∃ k : Nat, lg n = k ∧ k ≤ 60 ∧ n / 2 ^ k = 1 := by
  refine ⟨Nat.log2 n.toNat, rfl, ?_, ?_⟩
  · have : Nat.log2 n.toNat < 61 := (Nat.log2_lt (by omega)).2 (by omega)
    omega
  · have h1 := Nat.log2_self_le (n := n.toNat) (by omega)
    have h2 := Nat.lt_log2_self (n := n.toNat)
    generalize Nat.log2 n.toNat = k at *
    have h3 : n.toNat / 2 ^ k = 1 := by
      rw [Nat.div_eq_iff (Nat.pow_pos (by decide))]
      rw [Nat.pow_succ] at h2
      omega
    have h4 : ((n.toNat / 2 ^ k : Nat) : Int) = n / 2 ^ k := by rw [Int.natCast_ediv, Int.natCast_pow, Int.toNat_of_nonneg (by omega)]; rfl
    rw [← h4, h3]; rfl

theorem squares_j9 (a r : Int) (ha : 0 ≤ a ∧ a ≤ 1152921504606846976) (hr : isq a r) (K : Bool → Prop) (h : K true) : L06_RootSquares_j9 a r K := by
  have haw := awake_spec K h
  have hrb := root_le hr ha.2
  have h1 := hr.1
  have hsq : 0 ≤ r * r := Int.mul_nonneg h1 h1
  have h2 := hr.2.1
  have hi := isq_sq h1
  unfold L06_RootSquares_j9
  refine near_spec a _ (fun hn => absurd ha hn) (fun _ s hs => ?_)
  have := isq_eq hr hs
  subst this
  rw [imul64 (by omega), iadd64 (by omega)]
  have fin : root_Sqrt (r * r) (fun r8 => Br (decide (r8 = r)) (root_Near (r * r) (fun r9 => Br (decide (r9 = r)) (L06_awake K) (K false))) (K false)) := by
    refine sqrt_spec (r * r) _ (fun hn => absurd (by omega) hn) (fun _ s hs => ?_)
    rw [isq_eq hs hi, br_dec, if_pos rfl]
    refine near_spec (r * r) _ (fun hn => absurd (by omega) hn) (fun _ s hs => ?_)
    rw [isq_eq hs hi, if_pos (by omega), br_dec, if_pos rfl]
    exact haw
  simp only [br_dec] at fin ⊢
  split
  · rw [if_pos (by omega), if_pos (by omega)]; exact fin
  · rw [if_pos (by omega), if_pos (by omega)]; exact fin

theorem squares_j6 (a r : Int) (ha : 0 ≤ a ∧ a ≤ 1152921504606846976) (hr : isq a r) (K : Bool → Prop) (h : K true) : L06_RootSquares_j6 a r K := by
  have h9 := squares_j9 a r ha hr K h
  unfold L06_RootSquares_j6
  refine log_spec a (by omega) _ ?_
  simp only [br_dec]
  split
  · have hk : ∃ k : Nat, logV a = k ∧ k ≤ 60 ∧ a / 2 ^ k = 1 := by
      obtain ⟨k, e1, e2, e3⟩ := lg_bounds (n := a) (by omega) ha.2
      unfold logV
      split
      · have : a = 1 := by omega
        subst this
        exact ⟨0, rfl, by omega, by decide⟩
      · exact ⟨k, e1, e2, e3⟩
    obtain ⟨k, e1, e2, e3⟩ := hk
    rw [e1, if_neg (by omega), if_neg (by omega), if_neg (by omega), ishr64 (by omega), e3, br_not, br_dec, if_pos rfl]
    exact h9
  · exact h9

theorem squares_j3 (a b : Int) (ha : 0 ≤ a ∧ a ≤ 1152921504606846976) (hb : 0 ≤ b ∧ b ≤ 1152921504606846976) (K : Bool → Prop) (h : K true) : L06_RootSquares_j3 a b K := by
  unfold L06_RootSquares_j3
  refine sqrt_spec a _ (fun hn => absurd ha hn) (fun _ r hr => ?_)
  refine sqrt_spec b _ (fun hn => absurd hb hn) (fun _ s hs => ?_)
  have hrb := root_le hr ha.2
  have h1 := hr.1
  have hsq : 0 ≤ r * r := Int.mul_nonneg h1 h1
  have h2 := hr.2.1
  have h3 := hr.2.2
  have h4 := sq_mono (a := r + 1) (b := 2147483648) (by omega) (by omega)
  have h6 := squares_j6 a r ha hr K h
  simp only [br_dec]
  rw [if_neg (by omega), if_neg (by omega), iadd64 (by omega), imul64 (a := r) (by omega), imul64 (a := r + 1) (by omega), if_neg (by omega), if_neg (by omega)]
  split
  · rename_i hab
    have := isq_le hr hs hab
    rw [if_neg (by omega)]
    exact h6
  · exact h6

theorem squares (a b : Int) (_ : Rng (.int .i64) a) (_ : Rng (.int .i64) b) (K : Bool → Prop) (h : K true) : L06_RootSquares a b K := by
  have haw := awake_spec K h
  unfold L06_RootSquares
  simp only [br_dec, L06_RootSquares_j2, br_true]
  split
  · exact haw
  split
  · exact haw
  split
  · exact haw
  split
  · exact haw
  · exact squares_j3 a b (by omega) (by omega) K h

end
end Go.Eng.A
