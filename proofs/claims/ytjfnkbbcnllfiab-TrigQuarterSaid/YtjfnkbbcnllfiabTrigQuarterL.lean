import Derived.Test.YtjfnkbbcnllfiabEngV
import Derived.Test.YtjfnkbbcnllfiabEngU
import Derived.Test.YtjfnkbbcnllfiabTrigQuarterP
set_option linter.unusedSimpArgs false
set_option linter.unusedVariables false
set_option maxHeartbeats 2000000
namespace Go.Eng.A
open Go Go.Eng
set_option maxRecDepth 100000
noncomputable section
/-- A number divided by a power of two, to the nearest. -/
def shrV (x n : Int) : Int := if n < 0 ∨ 60 < n ∨ x < -2305843009213693952 ∨ 2305843009213693952 < x then 0 else (2 * x + 2 ^ n.toNat) / (2 * 2 ^ n.toNat)
theorem shr_zero (x : Int) : (2 * x + 2 ^ (0 : Nat)) / (2 * 2 ^ (0 : Nat)) = x := by omega
theorem pow_bounds {k : Nat} (h : k ≤ 60) : (0 : Int) < 2 ^ k ∧ (2 : Int) ^ k ≤ 1152921504606846976 := by
  have h1 : 2 ^ k ≤ 2 ^ 60 := Nat.pow_le_pow_right (n := 2) (by decide) h
  have h2 : ((2 ^ k : Nat) : Int) ≤ ((2 ^ 60 : Nat) : Int) := Int.ofNat_le.2 h1
  rw [Int.natCast_pow, Int.natCast_pow] at h2
  exact ⟨Int.pow_pos (by decide), h2⟩
theorem shr_step (x : Int) (k : Nat) : (2 * x + 2 ^ (k + 1)) / (2 * 2 ^ (k + 1)) = (x + 2 ^ k) / 2 ^ (k + 1) := by
  have e : 2 * x + 2 ^ (k + 1) = 2 * (x + 2 ^ k) := by rw [Int.pow_succ, Int.mul_add, Int.mul_comm (2 ^ k) 2]
  rw [e, Int.mul_ediv_mul_of_pos _ _ (by decide : (0 : Int) < 2)]
theorem num_within1 (x : Int) (K0 : Bool → Prop) (h : K0 (decide (-2305843009213693952 ≤ x ∧ x ≤ 2305843009213693952))) : num_within 2305843009213693952 [x] K0 := by
  rw [num_within_def]
  refine ⟨2, ?_⟩
  have e0 : isub .i64 0 2305843009213693952 = -2305843009213693952 := by decide
  have e1 : iadd .i64 0 1 = 1 := by decide
  simp only [num_within_l2, br_dec, br_and, e0, e1, List.length_cons, List.length_nil]
  rw [if_pos (by decide), if_pos (by decide), if_pos (by decide)]
  show if x < _ then _ else if _ < x then _ else _
  split
  · rw [decide_eq_false (by omega)] at h; exact h
  split
  · rw [decide_eq_false (by omega)] at h; exact h
  · rw [if_neg (by decide)]
    rw [decide_eq_true (by omega)] at h; exact h
theorem shr_spec (x n : Int) (K0 : Int → Prop) (h : K0 (shrV x n)) : num_Shr x n K0 := by
  rw [num_Shr_def]
  unfold shrV at h
  simp only [br_dec]
  split
  · rw [if_pos (by omega)] at h; exact h
  split
  · rw [if_pos (by omega)] at h; exact h
  refine num_within1 x _ ?_
  unfold num_Shr_j2
  rw [br_not, br_dec]
  split
  · rename_i h1 h2 hx
    rw [if_neg (by omega)] at h
    rw [br_dec]
    split
    · rename_i hn
      subst hn
      rw [show (0 : Int).toNat = 0 from rfl, shr_zero] at h
      exact h
    · obtain ⟨k, rfl⟩ : ∃ k : Nat, n = ((k + 1 : Nat) : Int) := ⟨(n - 1).toNat, by omega⟩
      rw [Int.toNat_natCast, shr_step] at h
      obtain ⟨hp, hp2⟩ := pow_bounds (k := k) (by omega)
      have e1 : isub .i64 ((k + 1 : Nat) : Int) 1 = (k : Int) := by rw [isub64 (by omega)]; omega
      have e2 : ishl .i64 1 (k : Int) = 2 ^ k := by rw [ishl64 (by omega) (by omega), Int.one_mul]
      unfold num_Shr_j5
      simp only [e1, br_dec, e2]
      rw [if_neg (by omega), if_neg (by omega), iadd64 (by omega), ishr64 (by omega)]
      exact h
  · rw [if_pos (by omega)] at h; exact h
theorem rmod_spec (a b : Int) (hb : 1 ≤ b) (hb2 : b ≤ 1152921504606846976) (ha : -2305843009213693952 ≤ a ∧ a ≤ 2305843009213693952) (K0 : Int → Int → Prop) (h : K0 (a / b) (a % b)) : R01_Mod a b K0 := by
  rw [R01_Mod_def]
  simp only [br_dec]
  rw [if_neg (by omega), if_neg (by omega), if_neg (by omega), iquo64 hb (by omega)]
  have hm := Int.emod_nonneg a (show b ≠ 0 by omega)
  have hm2 := Int.emod_lt_of_pos a (show 0 < b by omega)
  have e1 := Int.tdiv_eq_ediv (a := a) (b := b)
  have e2 := Int.tmod_eq_emod (a := a) (b := b)
  have hs : b.sign = 1 := Int.sign_eq_one_of_pos (by omega)
  have hr : irem .i64 a b = a.tmod b := rfl
  have hq := tdiv_range hb (a := a) (by omega)
  rw [hr]
  by_cases hc : 0 ≤ a ∨ b ∣ a
  · rw [if_pos hc] at e1 e2
    have e3 : a.tdiv b = a / b := by omega
    have e4 : a.tmod b = a % b := by omega
    rw [if_neg (by omega), e3, e4]; exact h
  · rw [if_neg hc, hs] at e1
    rw [if_neg hc] at e2
    have h1 : -2305843009213693952 ≤ a / b := Int.le_ediv_of_mul_le (by omega) (by omega)
    have h2 : a / b ≤ 0 := by
      have := Int.ediv_le_ediv (a := a) (b := 0) (c := b) (by omega) (by omega)
      rwa [Int.zero_ediv] at this
    have hb3 : ((b.natAbs : Nat) : Int) = b := by omega
    rw [hb3] at e2
    rw [if_pos (by omega), e1, e2, isub64 (by omega), iadd64 (by omega)]
    rw [show a / b + 1 - 1 = a / b by omega, show a % b - b + b = a % b by omega]
    exact h
theorem half_up (x b : Int) (hb : 0 < b) : (2 * x + b) / (2 * b) = if b ≤ 2 * (x % b) then x / b + 1 else x / b := by
  have h0 := Int.emod_nonneg x (show b ≠ 0 by omega)
  have h1 := Int.emod_lt_of_pos x hb
  have h2 := Int.emod_add_mul_ediv x b
  have e : 2 * x + b = (2 * (x % b) + b) + 2 * b * (x / b) := by
    rw [Int.mul_assoc]; omega
  rw [e, Int.add_mul_ediv_left _ _ (show 2 * b ≠ 0 by omega)]
  split
  · rw [show (2 * (x % b) + b) / (2 * b) = 1 by
      rw [show 2 * (x % b) + b = (2 * (x % b) - b) + 2 * b * 1 by omega, Int.add_mul_ediv_left _ _ (show 2 * b ≠ 0 by omega), Int.ediv_eq_zero_of_lt (by omega) (by omega)]; rfl]
    omega
  · rw [Int.ediv_eq_zero_of_lt (by omega) (by omega)]; omega
theorem rshr_spec (x n : Int) (K0 : Int → Prop) (h : K0 (shrV x n)) : R01_Shr x n K0 := by
  rw [R01_Shr_def]
  unfold shrV at h
  simp only [br_dec]
  split
  · rw [if_pos (by omega)] at h; exact h
  split
  · rw [if_pos (by omega)] at h; exact h
  split
  · rw [if_pos (by omega)] at h; exact h
  split
  · rw [if_pos (by omega)] at h; exact h
  rw [if_neg (by omega)] at h
  obtain ⟨k, rfl⟩ : ∃ k : Nat, n = (k : Int) := ⟨n.toNat, by omega⟩
  rw [Int.toNat_natCast] at h
  obtain ⟨hp, hp2⟩ := pow_bounds (k := k) (by omega)
  have e2 : ishl .i64 1 (k : Int) = 2 ^ k := by rw [ishl64 (by omega) (by omega), Int.one_mul]
  rw [half_up x _ hp] at h
  rw [e2]
  refine rmod_spec x (2 ^ k) (by omega) hp2 (by omega) _ ?_
  have hm := Int.emod_nonneg x (show (2 : Int) ^ k ≠ 0 by omega)
  have hm2 := Int.emod_lt_of_pos x hp
  have h1 : -2305843009213693952 ≤ x / 2 ^ k := Int.le_ediv_of_mul_le (by omega) (by omega)
  have h2 : x / 2 ^ k ≤ 2305843009213693952 := Int.ediv_le_of_le_mul hp (by omega)
  rw [imul64 (by omega), iadd64 (by omega)]
  split
  · rename_i hc; rw [if_pos hc] at h; exact h
  · rename_i hc; rw [if_neg hc] at h; exact h
def qt : List Int := [16777216, 16775953, 16772163, 16765847, 16757007, 16745643, 16731757, 16715352, 16696429, 16674992, 16651044, 16624588, 16595628, 16564169, 16530216, 16493773, 16454846, 16413442, 16369565, 16323224, 16274424, 16223173, 16169479, 16113350, 16054795, 15993821, 15930439, 15864658, 15796488, 15725939, 15653022, 15577747, 15500126, 15420172, 15337895, 15253308, 15166424, 15077256, 14985817, 14892122, 14796184, 14698017, 14597637, 14495059, 14390298, 14283370, 14174291, 14063077, 13949745, 13834313, 13716797, 13597215, 13475586, 13351928, 13226258, 13098597, 12968963, 12837376, 12703856, 12568423, 12431097, 12291899, 12150850, 12007971, 11863283, 11716809, 11568571, 11418590, 11266890, 11113493, 10958422, 10801701, 10643353, 10483403, 10321873, 10158790, 9994176, 9828057, 9660458, 9491405, 9320922, 9149035, 8975771, 8801154, 8625213, 8447972, 8269459, 8089701, 7908725, 7726557, 7543226, 7358759, 7173184, 6986529, 6798821, 6610090, 6420363, 6229669, 6038037, 5845495, 5652074, 5457801, 5262706, 5066819, 4870169, 4672785, 4474698, 4275936, 4076531, 3876512, 3675909, 3474752, 3273072, 3070900, 2868265, 2665197, 2461729, 2257890, 2053710, 1849222, 1644455, 1439440, 1234209, 1028791, 823219, 617523, 411733, 205882, 0]
/-- The cosine of m parts of 512. -/
def cosQ (m : Nat) : Int := if 128 < m then -(qt.getD (256 - m) 0) else qt.getD m 0
def cosM (m : Nat) : Int := if 256 < m then cosQ (512 - m) else cosQ m
def cosT : List Int := tab 512 cosM
theorem qt_bound : ∀ j, j < 129 → -16777216 ≤ qt.getD j 0 ∧ qt.getD j 0 ≤ 16777216 := by decide +kernel
theorem gset (l : List Int) (i j : Nat) (a : Int) (hi : i < l.length) : (l.set i a).getD j 0 = if i = j then a else l.getD j 0 := by
  simp only [List.getD_eq_getElem?_getD, List.getElem?_set]
  split
  · rename_i e; subst e; simp [hi]
  · rfl
theorem qt128 : qt.getD 128 0 = 0 := by decide
theorem make_l3 (K0 : List Int → Prop) (h : K0 cosT) : ∀ (n v : Nat) (m : List Int), v + n = 129 → m.length = 512 →
    (∀ j, j < 512 → (∃ k, k < v ∧ (j = k ∨ j = 256 - k ∨ j = (256 + k) % 512 ∨ j = (512 - k) % 512)) → m.getD j 0 = cosM j) → ∃ q, trig_Make_l3 q v m qt K0 := by
  intro n
  induction n with
  | zero =>
    intro v m hv hm hj
    refine ⟨1, ?_⟩
    simp only [trig_Make_l3, br_dec]
    rw [if_neg (by omega)]
    have : m = cosT := by
      rw [eq_tab 0 hm]
      unfold cosT tab
      apply List.map_congr_left
      intro j hj'
      rw [List.mem_range] at hj'
      refine hj j hj' ?_
      by_cases h1 : j ≤ 128
      · exact ⟨j, by omega, .inl rfl⟩
      · by_cases h2 : j ≤ 256
        · exact ⟨256 - j, by omega, .inr (.inl (by omega))⟩
        · by_cases h3 : j ≤ 384
          · exact ⟨j - 256, by omega, .inr (.inr (.inl (by omega)))⟩
          · exact ⟨512 - j, by omega, .inr (.inr (.inr (by omega)))⟩
    rw [this]; exact h
  | succ n ih =>
    intro v m hv hm hj
    have hq : qt.length = 129 := rfl
    have hb := qt_bound v (by omega)
    have e1 : isub .i64 256 (v : Int) = ((256 - v : Nat) : Int) := by rw [isub64 (by omega)]; omega
    have e2 : irem .i64 (iadd .i64 256 (v : Int)) 512 = (((256 + v) % 512 : Nat) : Int) := by
      rw [iadd64 (by omega)]
      show ((256 + (v : Int)).tmod 512) = _
      rw [Int.tmod_eq_emod_of_nonneg (by omega)]; omega
    have e3 : irem .i64 (isub .i64 512 (v : Int)) 512 = (((512 - v) % 512 : Nat) : Int) := by
      rw [isub64 (by omega)]
      show ((512 - (v : Int)).tmod 512) = _
      rw [Int.tmod_eq_emod_of_nonneg (by omega)]; omega
    have e4 : iadd .i64 (v : Int) 1 = ((v + 1 : Nat) : Int) := by rw [iadd64 (by omega)]; omega
    have e5 : isub .i64 0 (qt.getD v 0) = -(qt.getD v 0) := by rw [isub64 (by omega)]; omega
    obtain ⟨q, hq'⟩ := ih (v + 1) ((((m.set v (qt.getD v 0)).set (256 - v) (-(qt.getD v 0))).set ((256 + v) % 512) (-(qt.getD v 0))).set ((512 - v) % 512) (qt.getD v 0)) (by omega) (by simp [hm]) (by
      intro j hj' ⟨k, hk, hjk⟩
      have hz : v = 128 → qt.getD v 0 = 0 := fun e => by rw [e]; exact qt128
      rw [gset _ _ _ _ (by simp [hm]; omega), gset _ _ _ _ (by simp [hm]; omega), gset _ _ _ _ (by simp [hm]; omega), gset _ _ _ _ (by rw [hm]; omega)]
      unfold cosM cosQ at *
      split
      · rename_i e
        by_cases h0 : v = 0
        · rw [if_neg (by omega), if_neg (by omega), show j = v by omega]
        · rw [if_pos (by omega), if_neg (by omega), show 512 - j = v by omega]
      split
      · rename_i e
        by_cases h0 : v = 0
        · rw [if_neg (by omega), if_pos (by omega), show 256 - j = v by omega]
        · rw [if_pos (by omega)]
          by_cases h1 : v = 128
          · rw [if_neg (by omega), show 512 - j = v by omega, hz h1]; rfl
          · rw [if_pos (by omega), show 256 - (512 - j) = v by omega]
      split
      · rename_i e
        rw [if_neg (by omega)]
        by_cases h1 : v = 128
        · rw [if_neg (by omega), show j = v by omega, hz h1]; rfl
        · rw [if_pos (by omega), show 256 - j = v by omega]
      split
      · rename_i e
        rw [if_neg (by omega), if_neg (by omega), e]
      · refine hj j hj' ⟨k, ?_, hjk⟩
        apply Classical.byContradiction
        intro hkv
        have : k = v := by omega
        subst this
        omega)
    refine ⟨q + 1, ?_⟩
    simp only [trig_Make_l3, br_dec, br_and, e1, e2, e3, e4, e5, Int.toNat_natCast, List.length_set]
    rw [if_pos (by omega), if_pos (by omega), if_pos (by omega), if_pos (by omega), if_pos (by omega), if_pos (by omega), if_pos (by omega), if_pos (by omega), if_pos (by omega), if_pos (by omega), if_pos (by omega), if_pos (by omega), if_pos (by omega), if_pos (by omega), if_pos (by omega), if_pos (by omega), if_pos (by omega), if_pos (by omega), if_pos (by omega), if_pos (by omega), if_pos (by omega), if_pos (by omega), if_pos (by omega), if_pos (by omega), if_pos (by omega)]
    exact hq'
theorem make_spec (K0 : List Int → Prop) (h : K0 cosT) : trig_Make K0 := by
  rw [trig_Make_def]; rw [trig_first_def]
  exact make_l3 K0 h 129 0 _ rfl (by simp) (fun j _ ⟨k, hk, _⟩ => by omega)
theorem iand511 (k : Int) : iand .i64 k 511 = k % 512 := by
  unfold iand
  have e1 : (BitVec.ofInt IntKind.i64.bits 511).toNat = 511 := by decide
  rw [BitVec.toNat_and, e1, show (511 : Nat) = 2 ^ 9 - 1 from rfl, Nat.and_two_pow_sub_one_eq_mod, BitVec.toNat_ofInt]
  have e2 : (((2 ^ IntKind.i64.bits : Nat) : Int)) = 18446744073709551616 := by decide
  rw [e2]
  have h1 := Int.emod_nonneg k (show (18446744073709551616 : Int) ≠ 0 by decide)
  rw [Go.IntWalk.i64_in _ (by omega)]
  omega
def cosV (k : Int) : Int := if k < -1152921504606846976 ∨ 1152921504606846976 < k then 0 else cosM (k % 512).toNat
def sinV (k : Int) : Int := if k < -1152921504606846976 ∨ 1152921504606846976 < k then 0 else cosV (k % 512 - 128)
theorem cosT_get (m : Nat) (h : m < 512) : cosT.getD m 0 = cosM m := by
  simp [cosT, tab, List.getD, List.getElem?_map, List.getElem?_range h]
theorem cos_spec (k : Int) (K0 : Int → Prop) (h : K0 (cosV k)) : trig_Table__Cos cosT k K0 := by
  rw [trig_Table__Cos_def]
  unfold cosV at h
  simp only [br_dec, br_and, iand511]
  split
  · rw [if_pos (by omega)] at h; exact h
  split
  · rw [if_pos (by omega)] at h; exact h
  rw [if_neg (by omega)] at h
  rw [if_pos (by omega), if_pos (by omega), cosT_get _ (by omega)]
  exact h
theorem sin_spec (k : Int) (K0 : Int → Prop) (h : K0 (sinV k)) : trig_Table__Sin cosT k K0 := by
  rw [trig_Table__Sin_def]
  unfold sinV at h
  simp only [br_dec, iand511]
  split
  · rw [if_pos (by omega)] at h; exact h
  split
  · rw [if_pos (by omega)] at h; exact h
  rw [if_neg (by omega)] at h
  rw [isub64 (by omega)]
  exact cos_spec _ _ h
theorem rcos_j6 (m : Nat) (hm : m ≤ 256) (K0 : Int → Prop) (h : K0 (cosQ m)) : R07_Cos_j6 m K0 := by
  have hq : qt.length = 129 := rfl
  unfold R07_Cos_j6; rw [R07_quarter_def]
  show Br (decide ((128 : Int) < m)) _ _
  unfold cosQ at h
  simp only [br_dec, br_and, Int.toNat_natCast]
  split
  · rw [if_pos (by omega)] at h
    have e1 : isub .i64 256 (m : Int) = ((256 - m : Nat) : Int) := by rw [isub64 (by omega)]; omega
    rw [e1, Int.toNat_natCast]
    show if (0 : Int) ≤ _ then if _ < ((qt.length : Nat) : Int) then if _ < qt.length then K0 (isub .i64 0 (qt.getD (256 - m) 0)) else _ else _ else _
    have hb := qt_bound (256 - m) (by omega)
    rw [if_pos (by omega), if_pos (by omega), if_pos (by omega), isub64 (by omega), Int.zero_sub]
    exact h
  · rw [if_neg (by omega)] at h
    rw [R07_quarter_def]
    show if (0 : Int) ≤ _ then if _ < ((qt.length : Nat) : Int) then if _ < qt.length then K0 (qt.getD m 0) else _ else _ else _
    rw [if_pos (by omega), if_pos (by omega), if_pos (by omega)]
    exact h
theorem rcos_spec (k : Int) (K0 : Int → Prop) (h : K0 (cosV k)) : R07_Cos k K0 := by
  rw [R07_Cos_def]
  unfold cosV at h
  simp only [br_dec]
  split
  · rw [if_pos (by omega)] at h; exact h
  split
  · rw [if_pos (by omega)] at h; exact h
  rw [if_neg (by omega)] at h
  refine rmod_spec k 512 (by decide) (by decide) (by omega) _ ?_
  unfold cosM at h
  split
  · rw [if_pos (by omega)] at h
    have e1 : isub .i64 512 (k % 512) = ((512 - (k % 512).toNat : Nat) : Int) := by rw [isub64 (by omega)]; omega
    rw [e1]
    exact rcos_j6 _ (by omega) _ h
  · rw [if_neg (by omega)] at h
    rw [show k % 512 = (((k % 512).toNat : Nat) : Int) by omega]
    exact rcos_j6 _ (by omega) _ h
theorem rsin_spec (k : Int) (K0 : Int → Prop) (h : K0 (sinV k)) : R07_Sin k K0 := by
  rw [R07_Sin_def]
  unfold sinV at h
  simp only [br_dec]
  split
  · rw [if_pos (by omega)] at h; exact h
  split
  · rw [if_pos (by omega)] at h; exact h
  rw [if_neg (by omega)] at h
  refine rmod_spec k 512 (by decide) (by decide) (by omega) _ ?_
  rw [isub64 (by omega)]
  exact rcos_spec _ _ h
theorem cosM_bound (m : Nat) (h : m < 512) : -16777216 ≤ cosM m ∧ cosM m ≤ 16777216 := by
  unfold cosM cosQ
  split
  · split
    · have := qt_bound (256 - (512 - m)) (by omega); omega
    · exact qt_bound (512 - m) (by omega)
  · split
    · have := qt_bound (256 - m) (by omega); omega
    · exact qt_bound m (by omega)
theorem cosV_bound (k : Int) : -16777216 ≤ cosV k ∧ cosV k ≤ 16777216 := by
  unfold cosV
  split
  · omega
  · exact cosM_bound _ (by omega)
theorem sinV_bound (k : Int) : -16777216 ≤ sinV k ∧ sinV k ≤ 16777216 := by
  unfold sinV
  split
  · omega
  · exact cosV_bound _
/-- What is turned may be. -/
def turnB (re im k : Int) : Prop := -34359738368 ≤ re ∧ re ≤ 34359738368 ∧ -34359738368 ≤ im ∧ im ≤ 34359738368 ∧ -1152921504606846976 ≤ k ∧ k ≤ 1152921504606846976
instance (re im k : Int) : Decidable (turnB re im k) := by unfold turnB; infer_instance
theorem mul_bound {a b : Int} (ha : -34359738368 ≤ a ∧ a ≤ 34359738368) (hb : -16777216 ≤ b ∧ b ≤ 16777216) : -576460752303423488 ≤ a * b ∧ a * b ≤ 576460752303423488 := by
  have h1 : (a * b).natAbs ≤ 34359738368 * 16777216 := by
    rw [Int.natAbs_mul]
    exact Nat.mul_le_mul (by omega) (by omega)
  omega
def turnRe (re im k : Int) : Int := if turnB re im k then shrV (re * cosV k + im * sinV k) 24 else 0
def turnIm (re im k : Int) : Int := if turnB re im k then shrV (im * cosV k - re * sinV k) 24 else 0
theorem turn_j3 (re im k : Int) (hb : turnB re im k) (K0 : Int → Int → Prop) (h : K0 (turnRe re im k) (turnIm re im k)) : trig_Table__Turn_j3 cosT re im k K0 := by
  unfold trig_Table__Turn_j3
  unfold turnRe turnIm at h
  rw [if_pos hb, if_pos hb] at h
  unfold turnB at hb
  have hc := cosV_bound k
  have hs := sinV_bound k
  have b1 := mul_bound (a := re) (b := cosV k) (by omega) hc
  have b2 := mul_bound (a := im) (b := sinV k) (by omega) hs
  have b3 := mul_bound (a := im) (b := cosV k) (by omega) hc
  have b4 := mul_bound (a := re) (b := sinV k) (by omega) hs
  refine cos_spec _ _ (sin_spec _ _ ?_)
  rw [imul64 (by omega), imul64 (by omega), iadd64 (by omega)]
  refine shr_spec _ _ _ ?_
  rw [imul64 (by omega), imul64 (by omega), isub64 (by omega)]
  exact shr_spec _ _ _ h
theorem imin_eq' (a b : Int) : imin a b = min a b := by unfold imin; omega
theorem imax_eq' (a b : Int) : imax a b = max a b := by unfold imax; omega
theorem turn_spec (re im k : Int) (K0 : Int → Int → Prop) (h : K0 (turnRe re im k) (turnIm re im k)) : trig_Table__Turn cosT re im k K0 := by
  rw [trig_Table__Turn_def]
  simp only [br_dec, trig_Table__Turn_j2, br_true, imin_eq', imax_eq']
  have no : ¬ turnB re im k → K0 0 0 := fun hb => by
    unfold turnRe turnIm at h; rw [if_neg hb, if_neg hb] at h; exact h
  split
  · exact no (by unfold turnB; omega)
  split
  · exact no (by unfold turnB; omega)
  split
  · exact no (by unfold turnB; omega)
  split
  · exact no (by unfold turnB; omega)
  · exact turn_j3 re im k (by unfold turnB; omega) K0 h
theorem rturn_spec (re im k : Int) (K0 : Int → Int → Prop) (h : K0 (turnRe re im k) (turnIm re im k)) : R07_Turn re im k K0 := by
  rw [R07_Turn_def]
  simp only [br_dec, R07_Turn_j2, br_true]
  have no : ¬ turnB re im k → K0 0 0 := fun hb => by
    unfold turnRe turnIm at h; rw [if_neg hb, if_neg hb] at h; exact h
  split
  · exact no (by unfold turnB; omega)
  split
  · exact no (by unfold turnB; omega)
  split
  · exact no (by unfold turnB; omega)
  split
  · exact no (by unfold turnB; omega)
  split
  · exact no (by unfold turnB; omega)
  split
  · exact no (by unfold turnB; omega)
  · have hb : turnB re im k := by unfold turnB; omega
    unfold turnRe turnIm at h
    rw [if_pos hb, if_pos hb] at h
    unfold turnB at hb
    have hc := cosV_bound k
    have hs := sinV_bound k
    have b1 := mul_bound (a := re) (b := cosV k) (by omega) hc
    have b2 := mul_bound (a := im) (b := sinV k) (by omega) hs
    have b3 := mul_bound (a := im) (b := cosV k) (by omega) hc
    have b4 := mul_bound (a := re) (b := sinV k) (by omega) hs
    unfold R07_Turn_j3
    refine rcos_spec _ _ (rsin_spec _ _ ?_)
    rw [imul64 (by omega), imul64 (by omega), iadd64 (by omega)]
    refine rshr_spec _ _ _ ?_
    rw [imul64 (by omega), imul64 (by omega), isub64 (by omega)]
    exact rshr_spec _ _ _ h
theorem awake_spec (K : Bool → Prop) (h : K true) : L07_awake K := by
  rw [L07_awake_def]
  refine make_spec _ (turn_spec _ _ _ _ (cos_spec _ _ ?_))
  rw [br_dec, if_pos (by decide +kernel)]
  refine cos_spec _ _ ?_
  rw [br_dec, if_pos (by decide +kernel)]
  refine cos_spec _ _ ?_
  rw [br_dec, if_pos (by decide +kernel)]
  refine sin_spec _ _ ?_
  rw [br_dec, if_pos (by decide +kernel), br_dec, if_pos (by decide +kernel), decide_eq_true (by decide +kernel : turnIm 100 0 128 = -100)]
  exact h

def sinM (m : Nat) : Int := cosM ((m + 384) % 512)
theorem cosV_M {k : Int} (h : -1152921504606846976 ≤ k ∧ k ≤ 1152921504606846976) : cosV k = cosM (k % 512).toNat := by unfold cosV; rw [if_neg (by omega)]
theorem sinV_M {k : Int} (h : -1152921504606846976 ≤ k ∧ k ≤ 1152921504606846976) : sinV k = sinM (k % 512).toNat := by
  unfold sinV sinM
  rw [if_neg (by omega), cosV_M (by omega)]
  congr 1
  omega
theorem m_squares : ∀ m, m < 512 → cosM m * cosM m + sinM m * sinM m - 281474976710656 ≤ 33554432 ∧ -33554432 ≤ cosM m * cosM m + sinM m * sinM m - 281474976710656 := by decide +kernel
theorem m_neg : ∀ m, m < 512 → cosM ((512 - m) % 512) = cosM m ∧ sinM ((512 - m) % 512) = 0 - sinM m := by decide +kernel
theorem m_half : ∀ m, m < 512 → cosM ((m + 256) % 512) = 0 - cosM m ∧ sinM ((m + 256) % 512) = 0 - sinM m := by decide +kernel

theorem shr24 {x : Int} (h : -2305843009213693952 ≤ x ∧ x ≤ 2305843009213693952) : -8388608 ≤ 16777216 * shrV x 24 - x ∧ 16777216 * shrV x 24 - x ≤ 8388608 := by
  unfold shrV
  rw [if_neg (by omega)]
  have e : (2 : Int) ^ (24 : Int).toNat = 16777216 := by decide
  rw [e]
  omega
theorem m_sum : ∀ m, m < 512 → (cosM m).natAbs + (sinM m).natAbs ≤ 25165824 := by decide +kernel
theorem abs_mul {a b : Int} {m : Nat} (h : a.natAbs ≤ m) : (a * b).natAbs ≤ m * b.natAbs := by
  rw [Int.natAbs_mul]; exact Nat.mul_le_mul_right _ h
theorem near {c s re im e1 e2 f : Int} (D : c * c + s * s - 281474976710656 ≤ 33554432 ∧ -33554432 ≤ c * c + s * s - 281474976710656) (S : c.natAbs + s.natAbs ≤ 25165824)
    (h1 : -8388608 ≤ 16777216 * e1 - (re * c + im * s) ∧ 16777216 * e1 - (re * c + im * s) ≤ 8388608)
    (h2 : -8388608 ≤ 16777216 * e2 - (im * c - re * s) ∧ 16777216 * e2 - (im * c - re * s) ≤ 8388608)
    (h3 : -8388608 ≤ 16777216 * f - (e1 * c - e2 * s) ∧ 16777216 * f - (e1 * c - e2 * s) ≤ 8388608) :
    281474976710656 * (f - re) ≤ 33554432 * (re.natAbs : Int) + 351843720888320 ∧ -(33554432 * (re.natAbs : Int) + 351843720888320) ≤ 281474976710656 * (f - re) := by
  generalize hd1 : 16777216 * e1 - (re * c + im * s) = d1 at h1
  generalize hd2 : 16777216 * e2 - (im * c - re * s) = d2 at h2
  have p1 : 16777216 * (e1 * c) = re * c * c + im * s * c + d1 * c := by
    rw [← Int.mul_assoc, show 16777216 * e1 = re * c + im * s + d1 by omega, Int.add_mul, Int.add_mul]
  have p2 : 16777216 * (e2 * s) = im * c * s - re * s * s + d2 * s := by
    rw [← Int.mul_assoc, show 16777216 * e2 = im * c - re * s + d2 by omega, Int.add_mul, Int.sub_mul]
  have p3 : im * s * c = im * c * s := Int.mul_right_comm _ _ _
  have p4 : re * (c * c + s * s - 281474976710656) = re * c * c + re * s * s - re * 281474976710656 := by
    rw [Int.mul_sub, Int.mul_add, Int.mul_assoc, Int.mul_assoc]
  have b1 := abs_mul (b := c) (show d1.natAbs ≤ 8388608 by omega)
  have b2 := abs_mul (b := s) (show d2.natAbs ≤ 8388608 by omega)
  have b3 := abs_mul (b := re) (show (c * c + s * s - 281474976710656).natAbs ≤ 33554432 by omega)
  rw [Int.mul_comm _ re, p4] at b3
  generalize re * c * c = x1 at *
  generalize re * s * s = x2 at *
  generalize im * c * s = x3 at *
  generalize im * s * c = x4 at *
  generalize d1 * c = x5 at *
  generalize d2 * s = x6 at *
  generalize e1 * c = x7 at *
  generalize e2 * s = x8 at *
  omega
theorem small {re im f : Int} (h : 281474976710656 * (f - re) ≤ 33554432 * (re.natAbs : Int) + 351843720888320 ∧ -(33554432 * (re.natAbs : Int) + 351843720888320) ≤ 281474976710656 * (f - re)) :
    f - re ≤ (max re (0 - re) + max im (0 - im)) / 1048576 + 2 ∧ re - f ≤ (max re (0 - re) + max im (0 - im)) / 1048576 + 2 := by omega
theorem bnd {re im c s e : Int} (hr : re.natAbs ≤ 1073741824) (hi : im.natAbs ≤ 1073741824) (S : c.natAbs + s.natAbs ≤ 25165824)
    (h : -8388608 ≤ 16777216 * e - (re * c + im * s) ∧ 16777216 * e - (re * c + im * s) ≤ 8388608) : e.natAbs ≤ 34359738368 := by
  have b1 := abs_mul (b := c) hr
  have b2 := abs_mul (b := s) hi
  generalize re * c = x1 at *
  generalize im * s = x2 at *
  omega
theorem bnd2 {re im c s : Int} (hr : re.natAbs ≤ 34359738368) (hi : im.natAbs ≤ 34359738368) (S : c.natAbs + s.natAbs ≤ 25165824) : (re * c + im * s).natAbs ≤ 2305843009213693952 := by
  have b1 := abs_mul (b := c) hr
  have b2 := abs_mul (b := s) hi
  generalize re * c = x1 at *
  generalize im * s = x2 at *
  omega
theorem cs128 : cosV 128 = 0 ∧ sinV 128 = 16777216 := by decide +kernel
theorem cs0 : cosV 0 = 16777216 ∧ sinV 0 = 0 := by decide +kernel
theorem q128 {a b : Int} (ha : -1073741824 ≤ a ∧ a ≤ 1073741824) (hb : -1073741824 ≤ b ∧ b ≤ 1073741824) : turnRe a b 128 = b ∧ turnIm a b 128 = -a := by
  have ht : turnB a b 128 := by unfold turnB; omega
  unfold turnRe turnIm
  rw [if_pos ht, if_pos ht, cs128.1, cs128.2, Int.mul_zero, Int.mul_zero]
  have h1 := shr24 (x := 0 + b * 16777216) (by omega)
  have h2 := shr24 (x := 0 - a * 16777216) (by omega)
  omega
theorem q0 {a b : Int} (ha : -1073741824 ≤ a ∧ a ≤ 1073741824) (hb : -1073741824 ≤ b ∧ b ≤ 1073741824) : turnRe a b 0 = a ∧ turnIm a b 0 = b := by
  have ht : turnB a b 0 := by unfold turnB; omega
  unfold turnRe turnIm
  rw [if_pos ht, if_pos ht, cs0.1, cs0.2, Int.mul_zero, Int.mul_zero]
  have h1 := shr24 (x := a * 16777216 + 0) (by omega)
  have h2 := shr24 (x := b * 16777216 - 0) (by omega)
  omega
theorem ishr20 (x : Int) : ishr .i64 x 20 = x / 1048576 := by
  unfold ishr
  rw [show (2 : Int) ^ (min (20 : Int).toNat IntKind.i64.bits) = 1048576 by decide, Int.fdiv_eq_ediv_of_nonneg _ (by decide)]
theorem quarter_l6 (re im k : Int) (K0 : Int → Int → Int → Int → Int → List Int → Prop) (q : Nat) (a b : Int) (i i' : Int) (ha : -1073741824 ≤ a ∧ a ≤ 1073741824) (hb : -1073741824 ≤ b ∧ b ≤ 1073741824) (hi : i < 4) (hi' : iadd .i64 i 1 = i')
    (h : L07_TrigQuarter_l6 q re im k b (-a) i' cosT K0) : L07_TrigQuarter_l6 (q + 1) re im k a b i cosT K0 := by
  simp only [L07_TrigQuarter_l6, br_dec]
  rw [if_pos hi]
  refine turn_spec _ _ _ _ ?_
  rw [(q128 ha hb).1, (q128 ha hb).2, hi']
  exact h
theorem quarter_j3 (re im k : Int) (hr : -1073741824 ≤ re ∧ re ≤ 1073741824) (hi : -1073741824 ≤ im ∧ im ≤ 1073741824) (hk : -1073741824 ≤ k ∧ k ≤ 1073741824) (K : Bool → Prop) (h : K true) : L07_TrigQuarter_j3 re im k K := by
  have ha := awake_spec K h
  unfold L07_TrigQuarter_j3
  refine make_spec _ ⟨5, ?_⟩
  refine quarter_l6 _ _ _ _ _ _ _ 0 1 hr hi (by decide) (by decide) ?_
  refine quarter_l6 _ _ _ _ _ _ _ 1 2 hi (by omega) (by decide) (by decide) ?_
  refine quarter_l6 _ _ _ _ _ _ _ 2 3 (by omega) (by omega) (by decide) (by decide) ?_
  refine quarter_l6 _ _ _ _ _ _ _ 3 4 (by omega) (by omega) (by decide) (by decide) ?_
  simp only [L07_TrigQuarter_l6, br_dec, Int.neg_neg]
  rw [if_neg (by decide)]
  refine turn_spec _ _ _ _ (turn_spec _ _ _ _ (turn_spec _ _ _ _ ?_))
  rw [if_pos trivial, if_pos trivial, if_pos (q0 hr hi).1, if_pos (q0 hr hi).2]
  have ec := cosV_M (k := k) (by omega)
  have es := sinV_M (k := k) (by omega)
  have hm : (k % 512).toNat < 512 := by omega
  have e1 : ((-k) % 512).toNat = (512 - (k % 512).toNat) % 512 := by omega
  have q1 := m_squares _ hm
  have q2 := m_neg _ hm
  have q3 := m_sum _ hm
  rw [← ec, ← es] at q1 q2 q3
  have n0 : isub .i64 0 k = -k := by rw [isub64 (by omega)]; omega
  have c1 : cosV (-k) = cosV k := by rw [cosV_M (by omega), e1]; exact q2.1
  have s1 : sinV (-k) = 0 - sinV k := by rw [sinV_M (by omega), e1]; exact q2.2
  have ht : turnB re im k := by unfold turnB; omega
  have hE1 : -8388608 ≤ 16777216 * turnRe re im k - (re * cosV k + im * sinV k) ∧ 16777216 * turnRe re im k - (re * cosV k + im * sinV k) ≤ 8388608 := by
    unfold turnRe; rw [if_pos ht]
    have := bnd2 (re := re) (im := im) (by omega) (by omega) q3
    exact shr24 (by omega)
  have hE2 : -8388608 ≤ 16777216 * turnIm re im k - (im * cosV k - re * sinV k) ∧ 16777216 * turnIm re im k - (im * cosV k - re * sinV k) ≤ 8388608 := by
    unfold turnIm; rw [if_pos ht]
    have := bnd2 (re := im) (im := re) (c := cosV k) (s := -sinV k) (by omega) (by omega) (by omega)
    rw [Int.mul_neg] at this
    exact shr24 (by omega)
  have bE1 := bnd (by omega) (by omega) q3 hE1
  have bE2 : (turnIm re im k).natAbs ≤ 34359738368 := bnd (re := im) (im := re) (c := cosV k) (s := -sinV k) (by omega) (by omega) (by omega) (by rw [Int.mul_neg]; exact hE2)
  generalize turnRe re im k = E1 at *
  generalize turnIm re im k = E2 at *
  have ht2 : turnB E1 E2 (-k) := by unfold turnB; omega
  have hF1 : -8388608 ≤ 16777216 * turnRe E1 E2 (-k) - (E1 * cosV k - E2 * sinV k) ∧ 16777216 * turnRe E1 E2 (-k) - (E1 * cosV k - E2 * sinV k) ≤ 8388608 := by
    unfold turnRe; rw [if_pos ht2, c1, s1, Int.zero_sub, Int.mul_neg]
    have := bnd2 (re := E1) (im := E2) (c := cosV k) (s := -sinV k) (by omega) (by omega) (by omega)
    rw [Int.mul_neg] at this
    have g := shr24 (x := E1 * cosV k + -(E2 * sinV k)) (by omega)
    omega
  have hF2 : -8388608 ≤ 16777216 * turnIm E1 E2 (-k) - (E2 * cosV k - E1 * (-sinV k)) ∧ 16777216 * turnIm E1 E2 (-k) - (E2 * cosV k - E1 * (-sinV k)) ≤ 8388608 := by
    unfold turnIm; rw [if_pos ht2, c1, s1, Int.zero_sub]
    have := bnd2 (re := E2) (im := E1) (c := cosV k) (s := sinV k) (by omega) (by omega) (by omega)
    rw [Int.mul_neg]
    exact shr24 (by omega)
  have N1 := small (im := im) (near q1 q3 hE1 hE2 hF1)
  have N2 := small (im := re) (near (c := cosV k) (s := -sinV k) (re := im) (im := re) (e1 := E2) (e2 := E1) (by rw [Int.neg_mul_neg]; exact q1) (by omega) (by rw [Int.mul_neg]; exact hE2) (by rw [Int.mul_neg, Int.sub_neg]; exact hE1) hF2)
  rw [n0]
  have bF1 : -4611686018427387904 ≤ turnRe E1 E2 (-k) ∧ turnRe E1 E2 (-k) ≤ 4611686018427387904 := by omega
  have bF2 : -4611686018427387904 ≤ turnIm E1 E2 (-k) ∧ turnIm E1 E2 (-k) ≤ 4611686018427387904 := by omega
  generalize turnRe E1 E2 (-k) = F1 at *
  generalize turnIm E1 E2 (-k) = F2 at *
  rw [isub64 (by omega), isub64 (by omega), isub64 (by omega), isub64 (by omega), isub64 (by omega), isub64 (by omega), imax_eq', imax_eq', show iadd .i64 (max re (0 - re)) (max im (0 - im)) = max re (0 - re) + max im (0 - im) from iadd64 (by omega), ishr20, iadd64 (by omega)]
  rw [if_pos N1.1, if_pos N1.2, if_pos (by omega), if_pos (by omega)]
  exact ha
theorem quarter (re im k : Int) (_ : Rng (.int .i64) re) (_ : Rng (.int .i64) im) (_ : Rng (.int .i64) k) (K : Bool → Prop) (h : K true) : L07_TrigQuarter re im k K := by
  have ha := awake_spec K h
  rw [L07_TrigQuarter_def]
  simp only [br_dec, L07_TrigQuarter_j2, br_true]
  split
  · exact ha
  split
  · exact ha
  split
  · exact ha
  split
  · exact ha
  split
  · exact ha
  split
  · exact ha
  · exact quarter_j3 re im k (by omega) (by omega) (by omega) K h

end
end Go.Eng.A
