import Derived.Test.YtkgapcdnpcjcmaaEngV
import Derived.Test.YtkgapcdnpcjcmaaEngU
import Derived.Test.YtkgapcdnpcjcmaaWindowLeavesP
set_option linter.unusedSimpArgs false
set_option linter.unusedVariables false
set_option maxHeartbeats 2000000
namespace Go.Eng.A
open Go Go.Eng
set_option maxRecDepth 100000
noncomputable section
theorem drop_cons {α : Type} (d : α) {l : List α} {i : Nat} (h : i < l.length) : l.drop i = l.getD i d :: l.drop (i + 1) := by
  rw [List.drop_eq_getElem_cons h]; simp [List.getD, List.getElem?_eq_getElem h]
theorem getD_of_drop {l : List Int} {i : Nat} {x : Int} {r : List Int} (h : l.drop i = x :: r) : l.getD i 0 = x ∧ i < l.length ∧ l.drop (i + 1) = r := by
  have hi : i < l.length := by
    apply Classical.byContradiction
    intro hn
    rw [List.drop_eq_nil_of_le (by omega)] at h
    cases h
  rw [drop_cons 0 hi] at h
  injection h with h1 h2
  exact ⟨h1, hi, h2⟩
theorem tab_length {α : Type} (n : Nat) (f : Nat → α) : (tab n f).length = n := by simp [tab]
theorem tab_get {α : Type} (n : Nat) (f : Nat → α) (d : α) {i : Nat} (h : i < n) : (tab n f).getD i d = f i := by
  simp [tab, List.getD, List.getElem?_map, List.getElem?_range h]
theorem tab_set {α : Type} (n : Nat) (f : Nat → α) (i : Nat) (a : α) : (tab n f).set i a = tab n fun j => if j = i then a else f j := by
  apply List.ext_getElem (by simp [tab])
  intro j h1 h2
  simp only [tab, List.length_set, List.length_map, List.length_range] at h1
  simp only [tab, List.getElem_set, List.getElem_map, List.getElem_range]
  by_cases e : i = j
  · rw [if_pos e, if_pos e.symm]
  · rw [if_neg e, if_neg (Ne.symm e)]
theorem tab_snoc {α : Type} (n : Nat) (f : Nat → α) : tab n f ++ [f n] = tab (n + 1) f := by simp [tab, List.range_succ]
theorem tab_congr {α : Type} {n : Nat} {f g : Nat → α} (h : ∀ j, j < n → f j = g j) : tab n f = tab n g := by
  unfold tab
  apply List.map_congr_left
  intro j hj; exact h j (List.mem_range.1 hj)
theorem tab_const {α : Type} (n : Nat) (a : α) : List.replicate n a = tab n fun _ => a := by
  apply List.ext_getElem (by simp [tab])
  intro j h1 h2
  simp [tab]
theorem tab_zero {α : Type} (f : Nat → α) : tab 0 f = [] := rfl
/-- A list that is filled place by place. -/
def fillT {α : Type} (n i : Nat) (d : α) (f : Nat → α) : List α := tab n fun j => if j < i then f j else d
theorem fillT_length {α : Type} (n i : Nat) (d : α) (f : Nat → α) : (fillT n i d f).length = n := tab_length _ _
theorem fillT_zero {α : Type} (n : Nat) (d : α) (f : Nat → α) : fillT n 0 d f = List.replicate n d := by
  rw [tab_const]; exact tab_congr fun j _ => if_neg (by omega)
theorem fillT_set {α : Type} (n i : Nat) (d : α) (f : Nat → α) : (fillT n i d f).set i (f i) = fillT n (i + 1) d f := by
  unfold fillT
  rw [tab_set]
  refine tab_congr fun j _ => ?_
  by_cases e : j = i
  · rw [if_pos e, if_pos (by omega), e]
  · rw [if_neg e]
    by_cases h : j < i
    · rw [if_pos h, if_pos (by omega)]
    · rw [if_neg h, if_neg (by omega)]
theorem fillT_full {α : Type} (n : Nat) (d : α) (f : Nat → α) : fillT n n d f = tab n f := tab_congr fun _ hj => if_pos hj
theorem wrap64 {n : Int} (h : -9223372036854775808 ≤ n ∧ n ≤ 9223372036854775807) : Go.IntKind.wrap .i64 n = n := Go.IntWalk.i64_in _ h
theorem imax_eq' (a b : Int) : imax a b = max a b := by unfold imax; omega
theorem imin_eq' (a b : Int) : imin a b = min a b := by unfold imin; omega
theorem rng16 {n : Int} (h : (Lit.int .i16 n).wf = true) : -32768 ≤ n ∧ n ≤ 32767 := by
  simpa [Lit.wf, IntKind.min, IntKind.max, IntKind.signed, IntKind.bits] using h
theorem rng8 {n : Int} (h : (Lit.int .u8 n).wf = true) : 0 ≤ n ∧ n ≤ 255 := by
  simpa [Lit.wf, IntKind.min, IntKind.max, IntKind.signed, IntKind.bits] using h
theorem i64_succ (i : Nat) (h : i < 1000000000) : iadd .i64 (i : Int) 1 = ((i + 1 : Nat) : Int) := by rw [iadd64 (by omega)]; omega
theorem all_getD {p : Int → Bool} {l : List Int} (h : l.all p = true) {i : Nat} (hi : i < l.length) : p (l.getD i 0) = true := by
  rw [List.all_eq_true] at h
  refine h _ ?_
  simp [List.getD, List.getElem?_eq_getElem hi]
theorem getD_mem {l : List Int} {i : Nat} (hi : i < l.length) : l.getD i 0 ∈ l := by simp [List.getD, List.getElem?_eq_getElem hi]
theorem same_l4 (a b : List Int) (K0 : Bool → Prop) (K1 : Prop) (hl : a.length ≤ 1000000) (hab : a.length = b.length) : ∀ (n i : Nat), i + n = a.length →
    (if a.drop i = b.drop i then K1 else K0 false) → ∃ q, R01_Same_l4 q a b i K0 K1 := by
  intro n
  induction n with
  | zero =>
    intro i hi h
    refine ⟨1, ?_⟩
    rw [List.drop_eq_nil_of_le (by omega), List.drop_eq_nil_of_le (by omega)] at h
    simp only [R01_Same_l4, br_dec]
    rw [if_neg (by omega)]
    simpa using h
  | succ n ih =>
    intro i hi h
    rw [drop_cons 0 (l := a) (by omega), drop_cons 0 (l := b) (by omega)] at h
    by_cases hx : a.getD i 0 = b.getD i 0
    · obtain ⟨q, hq⟩ := ih (i + 1) (by omega) (by rw [hx] at h; simpa only [List.cons.injEq, true_and] using h)
      refine ⟨q + 1, ?_⟩
      simp only [R01_Same_l4, br_dec, br_and, br_not, Int.toNat_natCast]
      rw [if_pos (by omega), if_pos (by omega), if_pos (by omega), if_pos (by omega), if_pos (by omega), if_pos hx, iadd64 (by omega)]
      exact hq
    · refine ⟨1, ?_⟩
      simp only [R01_Same_l4, br_dec, br_and, br_not, Int.toNat_natCast]
      rw [if_pos (by omega), if_pos (by omega), if_pos (by omega), if_pos (by omega), if_pos (by omega), if_neg hx]
      rw [if_neg (fun e => hx (by injection e))] at h
      exact h
theorem same_spec (a b : List Int) (K0 : Bool → Prop) (hl : a.length ≤ 1000000) (h : K0 (decide (a = b))) : R01_Same a b K0 := by
  rw [R01_Same_def]
  rw [br_not, br_dec]
  split
  · rename_i hab
    refine same_l4 a b _ _ hl (by omega) a.length 0 (by omega) ?_
    rw [List.drop_zero, List.drop_zero]
    split
    · rename_i e; rw [decide_eq_true e] at h; exact h
    · rename_i e; rw [decide_eq_false e] at h; exact h
  · rename_i hab
    rw [decide_eq_false (fun e => hab (by rw [e]))] at h
    exact h
theorem same_self (a : List Int) (K0 : Bool → Prop) (hl : a.length ≤ 1000000) (h : K0 true) : R01_Same a a K0 :=
  same_spec a a K0 hl (by rw [decide_eq_true rfl]; exact h)
def inB (low high x : Int) : Bool := decide (low ≤ x ∧ x ≤ high)
theorem within_l2 (l : List Int) (low high : Int) (K0 : Bool → Prop) (K1 : Prop) (hl : l.length ≤ 1000000) : ∀ (n i : Nat), i + n = l.length →
    (if (l.drop i).all (inB low high) = true then K1 else K0 false) → ∃ q, R01_Within_l2 q l low high i K0 K1 := by
  intro n
  induction n with
  | zero =>
    intro i hi h
    refine ⟨1, ?_⟩
    rw [List.drop_eq_nil_of_le (by omega)] at h
    simp only [R01_Within_l2, br_dec]
    rw [if_neg (by omega)]
    simpa using h
  | succ n ih =>
    intro i hi h
    rw [drop_cons 0 (by omega), List.all_cons] at h
    by_cases hx : inB low high (l.getD i 0) = true
    · obtain ⟨q, hq⟩ := ih (i + 1) (by omega) (by rw [hx, Bool.true_and] at h; exact h)
      refine ⟨q + 1, ?_⟩
      unfold inB at hx
      rw [decide_eq_true_eq] at hx
      simp only [R01_Within_l2, br_dec, br_and, Int.toNat_natCast]
      rw [if_pos (by omega), if_pos (by omega), if_pos (by omega), if_neg (by omega), if_pos (by omega), if_pos (by omega), if_neg (by omega), iadd64 (by omega)]
      exact hq
    · refine ⟨1, ?_⟩
      have h : K0 false := by rw [Bool.eq_false_iff.2 hx, Bool.false_and] at h; exact h
      unfold inB at hx
      rw [decide_eq_true_eq] at hx
      simp only [R01_Within_l2, br_dec, br_and, Int.toNat_natCast]
      rw [if_pos (by omega), if_pos (by omega), if_pos (by omega)]
      split
      · exact h
      · rw [if_pos (by omega), if_pos (by omega), if_pos (by omega)]
        exact h
theorem within_spec (l : List Int) (low high : Int) (K0 : Bool → Prop) (hl : l.length ≤ 1000000) (h : K0 (l.all (inB low high))) : R01_Within l low high K0 := by
  rw [R01_Within_def]
  refine within_l2 l low high K0 _ hl l.length 0 (by omega) ?_
  rw [List.drop_zero]
  split
  · rename_i e; rw [e] at h; exact h
  · rename_i e; rw [Bool.eq_false_iff.2 e] at h; exact h
/-- A number divided by a power of two, to the nearest. -/
def shrV (x n : Int) : Int := if n < 0 ∨ 60 < n ∨ x < -2305843009213693952 ∨ 2305843009213693952 < x then 0 else (2 * x + 2 ^ n.toNat) / (2 * 2 ^ n.toNat)
theorem shr_zero (x : Int) : (2 * x + 2 ^ (0 : Nat)) / (2 * 2 ^ (0 : Nat)) = x := by omega
theorem pow_bounds {k : Nat} (h : k ≤ 60) : (0 : Int) < 2 ^ k ∧ (2 : Int) ^ k ≤ 1152921504606846976 := by
  have h1 : 2 ^ k ≤ 2 ^ 60 := Nat.pow_le_pow_right (n := 2) (by decide) h
  have h2 : ((2 ^ k : Nat) : Int) ≤ ((2 ^ 60 : Nat) : Int) := Int.ofNat_le.2 h1
  rw [Int.natCast_pow, Int.natCast_pow] at h2
  exact ⟨Int.pow_pos (by decide), h2⟩
theorem shr_step (x : Int) (k : Nat) : (2 * x + 2 ^ (k + 1)) / (2 * 2 ^ (k + 1)) = (x + 2 ^ k) / 2 ^ (k + 1) := by
  have e : 2 * x + 2 ^ (k + 1) = 2 * (x + 2 ^ k) := by rw [Int.pow_succ, Int.mul_add, Int.mul_comm (2 ^ k) 2]
  rw [e, Int.mul_ediv_mul_of_pos _ _ (by decide : (0 : Int) < 2)]
theorem num_within1 (x : Int) (K0 : Bool → Prop) (h : K0 (decide (-2305843009213693952 ≤ x ∧ x ≤ 2305843009213693952))) : num_within 2305843009213693952 [x] K0 := by
  rw [num_within_def]
  refine ⟨2, ?_⟩
  have e0 : isub .i64 0 2305843009213693952 = -2305843009213693952 := by decide
  have e1 : iadd .i64 0 1 = 1 := by decide
  simp only [num_within_l2, br_dec, br_and, e0, e1, List.length_cons, List.length_nil]
  rw [if_pos (by decide), if_pos (by decide), if_pos (by decide)]
  show if x < _ then _ else if _ < x then _ else _
  split
  · rw [decide_eq_false (by omega)] at h; exact h
  split
  · rw [decide_eq_false (by omega)] at h; exact h
  · rw [if_neg (by decide)]
    rw [decide_eq_true (by omega)] at h; exact h
theorem shr_spec (x n : Int) (K0 : Int → Prop) (h : K0 (shrV x n)) : num_Shr x n K0 := by
  rw [num_Shr_def]
  unfold shrV at h
  simp only [br_dec]
  split
  · rw [if_pos (by omega)] at h; exact h
  split
  · rw [if_pos (by omega)] at h; exact h
  refine num_within1 x _ ?_
  unfold num_Shr_j2
  rw [br_not, br_dec]
  split
  · rename_i h1 h2 hx
    rw [if_neg (by omega)] at h
    rw [br_dec]
    split
    · rename_i hn
      subst hn
      rw [show (0 : Int).toNat = 0 from rfl, shr_zero] at h
      exact h
    · obtain ⟨k, rfl⟩ : ∃ k : Nat, n = ((k + 1 : Nat) : Int) := ⟨(n - 1).toNat, by omega⟩
      rw [Int.toNat_natCast, shr_step] at h
      obtain ⟨hp, hp2⟩ := pow_bounds (k := k) (by omega)
      have e1 : isub .i64 ((k + 1 : Nat) : Int) 1 = (k : Int) := by rw [isub64 (by omega)]; omega
      have e2 : ishl .i64 1 (k : Int) = 2 ^ k := by rw [ishl64 (by omega) (by omega), Int.one_mul]
      unfold num_Shr_j5
      simp only [e1, br_dec, e2]
      rw [if_neg (by omega), if_neg (by omega), iadd64 (by omega), ishr64 (by omega)]
      exact h
  · rw [if_pos (by omega)] at h; exact h
theorem rmod_spec (a b : Int) (hb : 1 ≤ b) (hb2 : b ≤ 1152921504606846976) (ha : -2305843009213693952 ≤ a ∧ a ≤ 2305843009213693952) (K0 : Int → Int → Prop) (h : K0 (a / b) (a % b)) : R01_Mod a b K0 := by
  rw [R01_Mod_def]
  simp only [br_dec]
  rw [if_neg (by omega), if_neg (by omega), if_neg (by omega), iquo64 hb (by omega)]
  have hm := Int.emod_nonneg a (show b ≠ 0 by omega)
  have hm2 := Int.emod_lt_of_pos a (show 0 < b by omega)
  have e1 := Int.tdiv_eq_ediv (a := a) (b := b)
  have e2 := Int.tmod_eq_emod (a := a) (b := b)
  have hs : b.sign = 1 := Int.sign_eq_one_of_pos (by omega)
  have hr : irem .i64 a b = a.tmod b := rfl
  have hq := tdiv_range hb (a := a) (by omega)
  rw [hr]
  by_cases hc : 0 ≤ a ∨ b ∣ a
  · rw [if_pos hc] at e1 e2
    have e3 : a.tdiv b = a / b := by omega
    have e4 : a.tmod b = a % b := by omega
    rw [if_neg (by omega), e3, e4]; exact h
  · rw [if_neg hc, hs] at e1
    rw [if_neg hc] at e2
    have h1 : -2305843009213693952 ≤ a / b := Int.le_ediv_of_mul_le (by omega) (by omega)
    have h2 : a / b ≤ 0 := by
      have := Int.ediv_le_ediv (a := a) (b := 0) (c := b) (by omega) (by omega)
      rwa [Int.zero_ediv] at this
    have hb3 : ((b.natAbs : Nat) : Int) = b := by omega
    rw [hb3] at e2
    rw [if_pos (by omega), e1, e2, isub64 (by omega), iadd64 (by omega)]
    rw [show a / b + 1 - 1 = a / b by omega, show a % b - b + b = a % b by omega]
    exact h
theorem half_up (x b : Int) (hb : 0 < b) : (2 * x + b) / (2 * b) = if b ≤ 2 * (x % b) then x / b + 1 else x / b := by
  have h0 := Int.emod_nonneg x (show b ≠ 0 by omega)
  have h1 := Int.emod_lt_of_pos x hb
  have h2 := Int.emod_add_mul_ediv x b
  have e : 2 * x + b = (2 * (x % b) + b) + 2 * b * (x / b) := by
    rw [Int.mul_assoc]; omega
  rw [e, Int.add_mul_ediv_left _ _ (show 2 * b ≠ 0 by omega)]
  split
  · rw [show (2 * (x % b) + b) / (2 * b) = 1 by
      rw [show 2 * (x % b) + b = (2 * (x % b) - b) + 2 * b * 1 by omega, Int.add_mul_ediv_left _ _ (show 2 * b ≠ 0 by omega), Int.ediv_eq_zero_of_lt (by omega) (by omega)]; rfl]
    omega
  · rw [Int.ediv_eq_zero_of_lt (by omega) (by omega)]; omega
theorem rshr_spec (x n : Int) (K0 : Int → Prop) (h : K0 (shrV x n)) : R01_Shr x n K0 := by
  rw [R01_Shr_def]
  unfold shrV at h
  simp only [br_dec]
  split
  · rw [if_pos (by omega)] at h; exact h
  split
  · rw [if_pos (by omega)] at h; exact h
  split
  · rw [if_pos (by omega)] at h; exact h
  split
  · rw [if_pos (by omega)] at h; exact h
  rw [if_neg (by omega)] at h
  obtain ⟨k, rfl⟩ : ∃ k : Nat, n = (k : Int) := ⟨n.toNat, by omega⟩
  rw [Int.toNat_natCast] at h
  obtain ⟨hp, hp2⟩ := pow_bounds (k := k) (by omega)
  have e2 : ishl .i64 1 (k : Int) = 2 ^ k := by rw [ishl64 (by omega) (by omega), Int.one_mul]
  rw [half_up x _ hp] at h
  rw [e2]
  refine rmod_spec x (2 ^ k) (by omega) hp2 (by omega) _ ?_
  have hm := Int.emod_nonneg x (show (2 : Int) ^ k ≠ 0 by omega)
  have hm2 := Int.emod_lt_of_pos x hp
  have h1 : -2305843009213693952 ≤ x / 2 ^ k := Int.le_ediv_of_mul_le (by omega) (by omega)
  have h2 : x / 2 ^ k ≤ 2305843009213693952 := Int.ediv_le_of_le_mul hp (by omega)
  rw [imul64 (by omega), iadd64 (by omega)]
  split
  · rename_i hc; rw [if_pos hc] at h; exact h
  · rename_i hc; rw [if_neg hc] at h; exact h

theorem wwithin_l5 (l : List Int) (wd : Int) (hw : 0 ≤ wd ∧ wd ≤ 1073741824) (K0 : Bool → Prop) (K1 : Prop) (hl : l.length ≤ 1000000) : ∀ (n i : Nat), i + n = l.length →
    (if (l.drop i).all (inB (-wd) wd) = true then K1 else K0 false) → ∃ q, window_within_l5 q wd l l.length i K0 K1 := by
  have e0 : isub .i64 0 wd = -wd := by rw [isub64 (by omega)]; omega
  intro n
  induction n with
  | zero =>
    intro i hi h
    refine ⟨1, ?_⟩
    rw [List.drop_eq_nil_of_le (by omega)] at h
    simp only [window_within_l5, br_dec]
    rw [if_neg (by omega)]
    simpa using h
  | succ n ih =>
    intro i hi h
    rw [drop_cons 0 (by omega), List.all_cons] at h
    by_cases hx : inB (-wd) wd (l.getD i 0) = true
    · obtain ⟨q, hq⟩ := ih (i + 1) (by omega) (by rw [hx, Bool.true_and] at h; exact h)
      refine ⟨q + 1, ?_⟩
      unfold inB at hx
      rw [decide_eq_true_eq] at hx
      simp only [window_within_l5, br_dec, br_and, Int.toNat_natCast, e0]
      rw [if_pos (by omega), if_pos (by omega), if_pos (by omega), if_neg (by omega), if_neg (by omega), iadd64 (by omega)]
      exact hq
    · refine ⟨1, ?_⟩
      have h : K0 false := by rw [Bool.eq_false_iff.2 hx, Bool.false_and] at h; exact h
      unfold inB at hx
      rw [decide_eq_true_eq] at hx
      simp only [window_within_l5, br_dec, br_and, Int.toNat_natCast, e0]
      rw [if_pos (by omega), if_pos (by omega), if_pos (by omega)]
      split
      · exact h
      · rw [if_pos (by omega)]
        exact h
theorem wwithin_spec (l : List Int) (more : Nat) (wd : Int) (hw : 0 ≤ wd ∧ wd ≤ 1073741824) (hm : more ≤ 100) (K0 : Bool → Prop) (hl : l.length ≤ 1000000)
    (h : K0 (decide (l.length = 64 + more ∨ l.length = 8 + more) && l.all (inB (-wd) wd))) : window_within l more wd K0 := by
  rw [window_within_def]
  have e0 : isub .i64 (l.length : Int) (more : Int) = (l.length : Int) - more := isub64 (by omega)
  have fin : l.length = 64 + more ∨ l.length = 8 + more → window_within_j4 l wd K0 := by
    intro hc
    rw [decide_eq_true hc, Bool.true_and] at h
    refine wwithin_l5 l wd hw K0 _ hl l.length 0 (by omega) ?_
    rw [List.drop_zero]
    split
    · rename_i e; rw [e] at h; exact h
    · rename_i e; rw [Bool.eq_false_iff.2 e] at h; exact h
  simp only [e0, br_not, br_dec]
  split
  · exact fin (by omega)
  split
  · exact fin (by omega)
  · rw [decide_eq_false (by omega), Bool.false_and] at h
    exact h

def slp : List Int := [494, 4325, 11207, 19363, 26435, 30792, 32481, 32764]
def sl (i : Nat) : Int := slp.getD i 0
def fA (f : Nat → Int) (i : Nat) : Int := shrV (sl (4 + i) * f (4 + i) + sl (3 - i) * f (3 - i)) 15
def fB (f : Nat → Int) (n i : Nat) : Int := shrV (sl (4 + i) * f (n + 3 - i) - sl (3 - i) * f (n + 4 + i)) 15
/-- What is folded, as far as i says. -/
def stepL (f : Nat → Int) (n i : Nat) : List Int := tab n fun j => if j < i then fA f j else if n - i ≤ j then fB f n (n - 1 - j) else f (4 + j)
def foldL (f : Nat → Int) (n : Nat) : List Int := stepL f n 4

theorem step8 (f : Nat → Int) : ((stepL f 8 0).set 0 (fA f 0)).set 7 (fB f 8 0) = stepL f 8 1 ∧ ((stepL f 8 1).set 1 (fA f 1)).set 6 (fB f 8 1) = stepL f 8 2 ∧
    ((stepL f 8 2).set 2 (fA f 2)).set 5 (fB f 8 2) = stepL f 8 3 ∧ ((stepL f 8 3).set 3 (fA f 3)).set 4 (fB f 8 3) = stepL f 8 4 :=
  ⟨by kernel_rfl, by kernel_rfl, by kernel_rfl, by kernel_rfl⟩
theorem step64 (f : Nat → Int) : ((stepL f 64 0).set 0 (fA f 0)).set 63 (fB f 64 0) = stepL f 64 1 ∧ ((stepL f 64 1).set 1 (fA f 1)).set 62 (fB f 64 1) = stepL f 64 2 ∧
    ((stepL f 64 2).set 2 (fA f 2)).set 61 (fB f 64 2) = stepL f 64 3 ∧ ((stepL f 64 3).set 3 (fA f 3)).set 60 (fB f 64 3) = stepL f 64 4 :=
  ⟨by kernel_rfl, by kernel_rfl, by kernel_rfl, by kernel_rfl⟩

theorem len_step (f : Nat → Int) (n i : Nat) : (stepL f n i).length = n := by simp [stepL, tab]

theorem fold_step (f : Nat → Int) (n i k : Nat) (hn : n = 8 ∨ n = 64) (hi : i < 4) (hf : ∀ j, -16777216 ≤ f j ∧ f j ≤ 16777216) (m : List Int) (hm : m.length = n) (K : List Int → Prop)
    (h : window_Fold_l8 k (tab (n + 8) f) n ((i + 1 : Nat) : Int) ((m.set i (fA f i)).set (n - 1 - i) (fB f n i)) slp K) : window_Fold_l8 (k + 1) (tab (n + 8) f) n (i : Int) m slp K := by
  have hlen : (tab (n + 8) f).length = n + 8 := by simp [tab]
  have gx : ∀ j, j < n + 8 → (tab (n + 8) f).getD j 0 = f j := by intro j hj; simp [tab, List.getD, List.getElem?_map, List.getElem?_range hj]
  have e1 : iadd .i64 4 (i : Int) = ((4 + i : Nat) : Int) := by rw [iadd64 (by omega)]; omega
  have e2 : isub .i64 3 (i : Int) = ((3 - i : Nat) : Int) := by rw [isub64 (by omega)]; omega
  have e3 : isub .i64 (isub .i64 (n : Int) 1) (i : Int) = ((n - 1 - i : Nat) : Int) := by rw [isub64 (a := (n : Int)) (by omega), isub64 (by omega)]; omega
  have e4 : isub .i64 (isub .i64 (iadd .i64 (n : Int) 4) 1) (i : Int) = ((n + 3 - i : Nat) : Int) := by rw [iadd64 (by omega), isub64 (a := (n : Int) + 4) (by omega), isub64 (by omega)]; omega
  have e5 : iadd .i64 (iadd .i64 (n : Int) 4) (i : Int) = ((n + 4 + i : Nat) : Int) := by rw [iadd64 (a := (n : Int)) (by omega), iadd64 (by omega)]; omega
  have e6 : iadd .i64 (i : Int) 1 = ((i + 1 : Nat) : Int) := by rw [iadd64 (by omega)]; omega
  have hs : slp.length = 8 := rfl
  have bnd : ∀ a, 0 ≤ a ∧ a < 8 → ∀ j, imul .i64 (slp.getD a 0) (f j) = sl a * f j ∧ -600000000000 ≤ sl a * f j ∧ sl a * f j ≤ 600000000000 := by
    intro a ha j
    have hj := hf j
    have : a = 0 ∨ a = 1 ∨ a = 2 ∨ a = 3 ∨ a = 4 ∨ a = 5 ∨ a = 6 ∨ a = 7 := by omega
    have hs0 : sl 0 = 494 ∧ sl 1 = 4325 ∧ sl 2 = 11207 ∧ sl 3 = 19363 ∧ sl 4 = 26435 ∧ sl 5 = 30792 ∧ sl 6 = 32481 ∧ sl 7 = 32764 := by decide
    obtain ⟨h0, h1, h2, h3, h4, h5, h6, h7⟩ := hs0
    rcases this with rfl | rfl | rfl | rfl | rfl | rfl | rfl | rfl
    · show imul .i64 (sl 0) (f j) = _ ∧ _; rw [h0, imul64 (by omega)]; omega
    · show imul .i64 (sl 1) (f j) = _ ∧ _; rw [h1, imul64 (by omega)]; omega
    · show imul .i64 (sl 2) (f j) = _ ∧ _; rw [h2, imul64 (by omega)]; omega
    · show imul .i64 (sl 3) (f j) = _ ∧ _; rw [h3, imul64 (by omega)]; omega
    · show imul .i64 (sl 4) (f j) = _ ∧ _; rw [h4, imul64 (by omega)]; omega
    · show imul .i64 (sl 5) (f j) = _ ∧ _; rw [h5, imul64 (by omega)]; omega
    · show imul .i64 (sl 6) (f j) = _ ∧ _; rw [h6, imul64 (by omega)]; omega
    · show imul .i64 (sl 7) (f j) = _ ∧ _; rw [h7, imul64 (by omega)]; omega
  have b1 := bnd (4 + i) (by omega) (4 + i)
  have b2 := bnd (3 - i) (by omega) (3 - i)
  have b3 := bnd (4 + i) (by omega) (n + 3 - i)
  have b4 := bnd (3 - i) (by omega) (n + 4 + i)
  simp only [window_Fold_l8, br_dec, br_and, e1, e2, e3, e4, e5, e6, Int.toNat_natCast]
  rw [if_pos (by omega), if_pos (by omega), if_pos (by omega), if_pos (by omega), if_pos (by omega), if_pos (by omega), if_pos (by omega), if_pos (by omega), if_pos (by omega), if_pos (by omega), if_pos (by omega)]
  rw [gx (4 + i) (by omega), gx (3 - i) (by omega), gx (n + 3 - i) (by omega), gx (n + 4 + i) (by omega), b1.1, b2.1, b3.1, b4.1, iadd64 (by omega), isub64 (by omega)]
  refine shr_spec _ _ _ ?_
  rw [if_pos (by omega), if_pos (by omega), if_pos (by omega), if_pos (by omega), if_pos (by omega), if_pos (by omega), if_pos (by omega)]
  refine shr_spec _ _ _ ?_
  rw [List.length_set, if_pos (by omega), if_pos (by omega), if_pos (by omega)]
  exact h

theorem fold_l8 (f : Nat → Int) (n : Nat) (hn : n = 8 ∨ n = 64) (hf : ∀ j, -16777216 ≤ f j ∧ f j ≤ 16777216) (K : List Int → Prop) (h : K (foldL f n)) : window_Fold_l8 5 (tab (n + 8) f) n 0 (stepL f n 0) slp K := by
  have st : ∀ i, i < 4 → ((stepL f n i).set i (fA f i)).set (n - 1 - i) (fB f n i) = stepL f n (i + 1) := by
    intro i hi
    have : i = 0 ∨ i = 1 ∨ i = 2 ∨ i = 3 := by omega
    rcases hn with rfl | rfl
    · obtain ⟨a, b, c, d⟩ := step8 f
      rcases this with rfl | rfl | rfl | rfl <;> assumption
    · obtain ⟨a, b, c, d⟩ := step64 f
      rcases this with rfl | rfl | rfl | rfl <;> assumption
  refine fold_step f n 0 4 hn (by decide) hf _ (len_step f n 0) K ?_
  rw [st 0 (by decide)]
  refine fold_step f n 1 3 hn (by decide) hf _ (len_step f n 1) K ?_
  rw [st 1 (by decide)]
  refine fold_step f n 2 2 hn (by decide) hf _ (len_step f n 2) K ?_
  rw [st 2 (by decide)]
  refine fold_step f n 3 1 hn (by decide) hf _ (len_step f n 3) K ?_
  rw [st 3 (by decide)]
  simp only [window_Fold_l8, br_dec]
  rw [if_neg (by decide)]
  exact h

theorem start8 (f : Nat → Int) : splice (List.replicate 8 0) 0 (List.take 8 (List.take (16 - 4) (List.drop 4 (tab 16 f)))) = stepL f 8 0 := by kernel_rfl
theorem start64 (f : Nat → Int) : splice (List.replicate 64 0) 0 (List.take 64 (List.take (72 - 4) (List.drop 4 (tab 72 f)))) = stepL f 64 0 := by kernel_rfl

def foldB (x : List Int) : Bool := decide (x.length = 64 + 8 ∨ x.length = 8 + 8) && x.all (inB (-16777216) 16777216)
def foldV (x : List Int) : List Int := foldL (fun i => x.getD i 0) (x.length - 8)
theorem bound_of {x : List Int} (h : x.all (inB (-16777216) 16777216) = true) : ∀ j, -16777216 ≤ x.getD j 0 ∧ x.getD j 0 ≤ 16777216 := by
  intro j
  by_cases hj : j < x.length
  · have : x.getD j 0 ∈ x := by
      rw [List.getD, List.getElem?_eq_getElem hj]; exact List.getElem_mem _
    have := List.all_eq_true.1 h _ this
    unfold inB at this
    simpa using this
  · rw [List.getD, List.getElem?_eq_none (by omega)]; simp

theorem fold_spec (x : List Int) (K0 : Prop) (K1 : List Int → Prop) (hl : x.length ≤ 1000000) (h : if foldB x = true then K1 (foldV x) else K0) : window_Fold x K0 K1 := by
  rw [window_Fold_def]
  refine wwithin_spec x 8 16777216 (by decide) (by decide) _ hl ?_
  show Br (!foldB x) _ _
  rw [br_not, br_if]
  split
  · rename_i hb
    rw [if_pos hb] at h
    unfold foldB at hb
    rw [Bool.and_eq_true, decide_eq_true_eq] at hb
    obtain ⟨hx, hall⟩ := hb
    have hf := bound_of hall
    have e0 : isub .i64 (x.length : Int) 8 = ((x.length - 8 : Nat) : Int) := by rw [isub64 (by omega)]; omega
    simp only [e0, br_and, br_dec, Int.toNat_natCast]
    rw [if_pos (by omega), if_pos (by omega), if_pos (by omega), if_pos (by omega)]
    rw [window_Slope_def]
    refine ⟨5, ?_⟩
    rw [List.length_replicate]
    unfold foldV at h
    rcases hx with hx | hx
    · have e := eq_tab 0 hx
      have hst := start64 (fun i => x.getD i 0)
      have h8 := fold_l8 (fun i => x.getD i 0) 64 (.inr rfl) hf K1 (by rw [hx] at h; exact h)
      rw [← hst] at h8
      rw [show tab (64 + 8) (fun i => x.getD i 0) = x from e.symm] at h8
      rw [hx]
      exact h8
    · have e := eq_tab 0 hx
      have hst := start8 (fun i => x.getD i 0)
      have h8 := fold_l8 (fun i => x.getD i 0) 8 (.inl rfl) hf K1 (by rw [hx] at h; exact h)
      rw [← hst] at h8
      rw [show tab (8 + 8) (fun i => x.getD i 0) = x from e.symm] at h8
      rw [hx]
      exact h8
  · rename_i hb
    rw [if_neg hb] at h; exact h

theorem awake_spec (K : Bool → Prop) (h : K true) : L11_awake K := by
  rw [L11_awake_def]
  refine fold_spec _ _ _ (by decide) ?_
  rw [if_pos (by decide +kernel)]
  have v1 : foldV (List.replicate 16 0) = List.replicate 8 0 := by decide +kernel
  rw [v1]
  unfold L11_awake_j3
  simp only [br_dec]
  rw [if_pos (by decide), if_pos (by decide)]
  refine fold_spec _ _ _ (by decide) ?_
  rw [if_pos (by decide +kernel)]
  unfold L11_awake_j5
  have v2 : (foldV (List.set (List.replicate 16 0) 8 32768)).length = 8 := by decide +kernel
  have v3 : (foldV (List.set (List.replicate 16 0) 8 32768)).getD 4 0 = 32764 := by decide +kernel
  simp only [br_dec, v2, v3]
  rw [if_pos (by decide)]
  refine same_self _ _ (by decide) ?_
  rw [br_true, if_pos (by decide), if_pos (by decide), if_pos (by decide), if_pos trivial]
  rw [window_Slope_def]
  exact h
theorem eqTab (l : List Int) : l = tab l.length fun i => l.getD i 0 := by
  apply List.ext_getElem (by simp [tab])
  intro i h1 h2
  simp [tab, List.getD, List.getElem?_eq_getElem h1]
def leftL (f : Nat → Int) : List Int := [imul .i64 494 (f 3), imul .i64 4325 (f 2), imul .i64 11207 (f 1), imul .i64 19363 (f 0), imul .i64 26435 (f 0), imul .i64 30792 (f 1), imul .i64 32481 (f 2), imul .i64 32764 (f 3)]
def rightL (n : Nat) (f : Nat → Int) : List Int := [imul .i64 32764 (f (n - 4)), imul .i64 32481 (f (n - 3)), imul .i64 30792 (f (n - 2)), imul .i64 26435 (f (n - 1)), imul .i64 (-19363) (f (n - 1)), imul .i64 (-11207) (f (n - 2)), imul .i64 (-4325) (f (n - 3)), imul .i64 (-494) (f (n - 4))]
theorem left8 (f : Nat → Int) (m4 : List Int) (K : List Int → List Int → Prop) : window_Left_l6 5 (tab 8 f) 0 m4 (List.replicate 8 0) slp K = K m4 (leftL f) := by kernel_rfl
theorem left64 (f : Nat → Int) (m4 : List Int) (K : List Int → List Int → Prop) : window_Left_l6 5 (tab 64 f) 0 m4 (List.replicate 8 0) slp K = K m4 (leftL f) := by kernel_rfl
theorem rleft8 (f : Nat → Int) (m4 : List Int) (K : List Int → List Int → Prop) : R11_Left_l6 9 (tab 8 f) 0 m4 (List.replicate 8 0) slp K = K m4 (leftL f) := by kernel_rfl
theorem rleft64 (f : Nat → Int) (m4 : List Int) (K : List Int → List Int → Prop) : R11_Left_l6 9 (tab 64 f) 0 m4 (List.replicate 8 0) slp K = K m4 (leftL f) := by kernel_rfl
theorem right8 (f : Nat → Int) (m4 : List Int) (K : List Int → List Int → Prop) : window_Right_l6 5 (tab 8 f) 0 m4 (List.replicate 8 0) slp K = K m4 (rightL 8 f) := by kernel_rfl
theorem right64 (f : Nat → Int) (m4 : List Int) (K : List Int → List Int → Prop) : window_Right_l6 5 (tab 64 f) 0 m4 (List.replicate 8 0) slp K = K m4 (rightL 64 f) := by kernel_rfl
theorem rright8 (f : Nat → Int) (m4 : List Int) (K : List Int → List Int → Prop) : R11_Right_l6 9 (tab 8 f) 0 m4 (List.replicate 8 0) slp K = K m4 (rightL 8 f) := by kernel_rfl
theorem rright64 (f : Nat → Int) (m4 : List Int) (K : List Int → List Int → Prop) : R11_Right_l6 9 (tab 64 f) 0 m4 (List.replicate 8 0) slp K = K m4 (rightL 64 f) := by kernel_rfl
def blockB (u : List Int) : Bool := decide (u.length = 64 ∨ u.length = 8) && u.all (inB (-1073741824) 1073741824)
def leftV (u : List Int) : List Int := if blockB u = true then leftL (fun i => u.getD i 0) else List.replicate 8 0
def rightV (u : List Int) : List Int := if blockB u = true then rightL u.length (fun i => u.getD i 0) else List.replicate 8 0
theorem block_spec (u : List Int) (K : Bool → Prop) (hl : u.length ≤ 1000000) (h : K (blockB u)) : R11_Block u K := by
  rw [R11_Block_def]
  unfold blockB at h
  simp only [br_dec]
  split
  · rw [decide_eq_true (by omega), Bool.true_and] at h
    exact within_spec _ _ _ _ hl h
  split
  · rw [decide_eq_true (by omega), Bool.true_and] at h
    exact within_spec _ _ _ _ hl h
  · rw [decide_eq_false (by omega), Bool.false_and] at h
    exact h
theorem blockB_len {u : List Int} (h : blockB u = true) : u.length = 64 ∨ u.length = 8 := by
  unfold blockB at h
  rw [Bool.and_eq_true, decide_eq_true_eq] at h
  exact h.1
theorem left_spec (u : List Int) (K : List Int → Prop) (hl : u.length ≤ 1000000) (h : K (leftV u)) : window_Left u K := by
  rw [window_Left_def]
  refine wwithin_spec u 0 1073741824 (by decide) (by decide) _ hl ?_
  show Br (!blockB u) _ _
  unfold leftV at h
  rw [br_not]
  refine br_of (fun hb => ?_) (fun hb => ?_)
  · rw [if_pos hb] at h
    rw [window_Slope_def]
    refine ⟨5, ?_⟩
    show window_Left_l6 5 u 0 _ (List.replicate 8 0) slp _
    have e := eqTab u
    rcases blockB_len hb with hn | hn <;> rw [hn] at e <;> rw [e]
    · rw [left64]; exact h
    · rw [left8]; exact h
  · rw [if_neg (by rw [hb]; simp)] at h; exact h
theorem rleft_spec (u : List Int) (K : List Int → Prop) (hl : u.length ≤ 1000000) (h : K (leftV u)) : R11_Left u K := by
  rw [R11_Left_def]
  refine block_spec u _ hl ?_
  unfold leftV at h
  rw [br_not]
  refine br_of (fun hb => ?_) (fun hb => ?_)
  · rw [if_pos hb] at h
    rw [R11_W_def]
    refine ⟨9, ?_⟩
    show R11_Left_l6 9 u 0 _ (List.replicate 8 0) slp _
    have e := eqTab u
    rcases blockB_len hb with hn | hn <;> rw [hn] at e <;> rw [e]
    · rw [rleft64]; exact h
    · rw [rleft8]; exact h
  · rw [if_neg (by rw [hb]; simp)] at h; exact h
theorem right_spec (u : List Int) (K : List Int → Prop) (hl : u.length ≤ 1000000) (h : K (rightV u)) : window_Right u K := by
  rw [window_Right_def]
  refine wwithin_spec u 0 1073741824 (by decide) (by decide) _ hl ?_
  show Br (!blockB u) _ _
  unfold rightV at h
  rw [br_not]
  refine br_of (fun hb => ?_) (fun hb => ?_)
  · rw [if_pos hb] at h
    rw [window_Slope_def]
    refine ⟨5, ?_⟩
    show window_Right_l6 5 u 0 _ (List.replicate 8 0) slp _
    have e := eqTab u
    rcases blockB_len hb with hn | hn <;> rw [hn] at e h <;> rw [e]
    · rw [right64]; exact h
    · rw [right8]; exact h
  · rw [if_neg (by rw [hb]; simp)] at h; exact h
theorem rright_spec (u : List Int) (K : List Int → Prop) (hl : u.length ≤ 1000000) (h : K (rightV u)) : R11_Right u K := by
  rw [R11_Right_def]
  refine block_spec u _ hl ?_
  unfold rightV at h
  rw [br_not]
  refine br_of (fun hb => ?_) (fun hb => ?_)
  · rw [if_pos hb] at h
    rw [R11_W_def]
    refine ⟨9, ?_⟩
    show R11_Right_l6 9 u 0 _ (List.replicate 8 0) slp _
    have e := eqTab u
    rcases blockB_len hb with hn | hn <;> rw [hn] at e h <;> rw [e]
    · rw [rright64]; exact h
    · rw [rright8]; exact h
  · rw [if_neg (by rw [hb]; simp)] at h; exact h
def metB (x y : Int) : Prop := (-70368744177664 ≤ x ∧ x ≤ 70368744177664) ∧ -70368744177664 ≤ y ∧ y ≤ 70368744177664
instance (x y : Int) : Decidable (metB x y) := by unfold metB; infer_instance
def metF (a b : List Int) (j : Nat) : Int := if metB (a.getD j 0) (b.getD j 0) then shrV (a.getD j 0 + b.getD j 0) 15 else 0
theorem fillT_skip {α : Type} (n i : Nat) (d : α) (f : Nat → α) (h : f i = d) : fillT n i d f = fillT n (i + 1) d f := by
  refine tab_congr fun j _ => ?_
  by_cases hj : j < i
  · rw [if_pos hj, if_pos (by omega)]
  · by_cases e : j = i
    · subst e; rw [if_neg (by omega), if_pos (by omega), h]
    · rw [if_neg hj, if_neg (by omega)]
theorem meet_l3 (a b m5 : List Int) (ha : a.length = 8) (hb : b.length = 8) (K : List Int → List Int → Prop) (h : K m5 (tab 8 (metF a b))) : ∀ n i : Nat, i + n = 8 → ∃ q, window_Meet_l3 q i a b m5 (fillT 8 i 0 (metF a b)) K := by
  intro n
  induction n with
  | zero =>
    intro i hi
    refine ⟨1, ?_⟩
    have hi : i = 8 := by omega
    subst hi
    simp only [window_Meet_l3, br_dec]
    rw [if_neg (by omega), fillT_full]; exact h
  | succ n ih =>
    intro i hi
    obtain ⟨q, hq⟩ := ih (i + 1) (by omega)
    refine ⟨q + 1, ?_⟩
    simp (maxSteps := 2000000) only [window_Meet_l3, window_Meet_j6, br_dec, br_and, br_false, Int.toNat_natCast, fillT_length, imin_eq', imax_eq', i64_succ i (by omega)]
    by_cases hm : metB (a.getD i 0) (b.getD i 0)
    · have hs := fillT_set 8 i 0 (metF a b)
      rw [show metF a b i = shrV (a.getD i 0 + b.getD i 0) 15 by unfold metF; rw [if_pos hm]] at hs
      unfold metB at hm
      repeat rw [if_pos (by omega)]
      rw [iadd64 (by omega)]
      refine shr_spec _ _ _ ?_
      rw [if_pos (by omega), if_pos (by omega), if_pos (by omega), hs]
      exact hq
    · rw [← fillT_skip 8 i 0 (metF a b) (by unfold metF; rw [if_neg hm])] at hq
      unfold metB at hm
      rw [if_pos (by omega), if_pos (by omega), if_pos (by omega), if_pos (by omega), if_pos (by omega), if_pos (by omega), if_pos (by omega)]
      by_cases hc : -70368744177664 ≤ min (a.getD i 0) (b.getD i 0)
      · rw [if_pos hc, if_pos (by omega), if_pos (by omega), if_pos (by omega), if_pos (by omega), if_pos (by omega), if_pos (by omega), if_neg (by omega)]
        exact hq
      · rw [if_neg hc]; exact hq
theorem rmeet_l3 (a b m5 : List Int) (ha : a.length = 8) (hb : b.length = 8) (K : List Int → List Int → Prop) (h : K m5 (tab 8 (metF a b))) : ∀ n i : Nat, i + n = 8 → ∃ q, R11_Meet_l3 q i a b m5 (fillT 8 i 0 (metF a b)) K := by
  intro n
  induction n with
  | zero =>
    intro i hi
    refine ⟨1, ?_⟩
    have hi : i = 8 := by omega
    subst hi
    simp only [R11_Meet_l3, br_dec]
    rw [if_neg (by omega), fillT_full]; exact h
  | succ n ih =>
    intro i hi
    obtain ⟨q, hq⟩ := ih (i + 1) (by omega)
    refine ⟨q + 1, ?_⟩
    simp (maxSteps := 2000000) only [R11_Meet_l3, R11_Meet_j6, br_dec, br_and, br_false, Int.toNat_natCast, fillT_length, i64_succ i (by omega)]
    by_cases hm : metB (a.getD i 0) (b.getD i 0)
    · have hs := fillT_set 8 i 0 (metF a b)
      rw [show metF a b i = shrV (a.getD i 0 + b.getD i 0) 15 by unfold metF; rw [if_pos hm]] at hs
      unfold metB at hm
      repeat rw [if_pos (by omega)]
      rw [iadd64 (by omega)]
      refine rshr_spec _ _ _ ?_
      rw [if_pos (by omega), if_pos (by omega), if_pos (by omega), hs]
      exact hq
    · rw [← fillT_skip 8 i 0 (metF a b) (by unfold metF; rw [if_neg hm])] at hq
      unfold metB at hm
      rw [if_pos (by omega), if_pos (by omega), if_pos (by omega), if_pos (by omega)]
      by_cases h1 : -70368744177664 ≤ a.getD i 0
      · rw [if_pos h1, if_pos (by omega), if_pos (by omega), if_pos (by omega)]
        by_cases h2 : a.getD i 0 ≤ 70368744177664
        · rw [if_pos h2, if_pos (by omega), if_pos (by omega), if_pos (by omega)]
          by_cases h3 : -70368744177664 ≤ b.getD i 0
          · rw [if_pos h3, if_pos (by omega), if_pos (by omega), if_pos (by omega), if_neg (by omega)]
            exact hq
          · rw [if_neg h3]; exact hq
        · rw [if_neg h2]; exact hq
      · rw [if_neg h1]; exact hq
theorem eqv_self (l : List Int) : eqv (.arr 8 (.int .i64)) l l = true := by simp [eqv]
theorem leaves (u a b : List Int) (_ : Rng (.sl (.int .i64)) u) (ra : Rng (.arr 8 (.int .i64)) a) (rb : Rng (.arr 8 (.int .i64)) b) (K : Bool → Prop) (h : K true) : L11_WindowLeaves u a b K := by
  have hk := awake_spec K h
  have la : a.length = 8 := ra.1
  have lb : b.length = 8 := rb.1
  rw [L11_WindowLeaves_def, br_dec]
  split
  · exact hk
  refine left_spec u _ (by omega) (rleft_spec u _ (by omega) ?_)
  rw [eqv_self, br_true]
  refine right_spec u _ (by omega) (rright_spec u _ (by omega) ?_)
  rw [eqv_self, br_true, window_Meet_def]
  have m1 : ∀ K : List Int → Prop, K (tab 8 (metF a b)) → window_Meet a b K := fun K hk => by
    rw [window_Meet_def]
    have := meet_l3 a b (List.replicate 8 0) la lb (fun _ m => K m) hk 8 0 rfl
    rw [fillT_zero] at this
    exact this
  rw [← window_Meet_def]
  refine m1 _ ?_
  rw [R11_Meet_def]
  have := rmeet_l3 a b (List.replicate 8 0) la lb (fun _ m => Br (eqv (.arr 8 (.int .i64)) (tab 8 (metF a b)) m) (L11_awake K) (K false)) (by rw [eqv_self, br_true]; exact hk) 8 0 rfl
  rw [fillT_zero] at this
  exact this

end
end Go.Eng.A
