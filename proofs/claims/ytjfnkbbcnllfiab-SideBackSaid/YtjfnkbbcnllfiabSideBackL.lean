import Derived.Test.YtjfnkbbcnllfiabEngV
import Derived.Test.YtjfnkbbcnllfiabEngU
import Derived.Test.YtjfnkbbcnllfiabSideBackP
set_option linter.unusedSimpArgs false
set_option linter.unusedVariables false
namespace Go.Eng.A
open Go Go.Eng
noncomputable section
theorem drop_cons {α : Type} (d : α) {l : List α} {i : Nat} (h : i < l.length) : l.drop i = l.getD i d :: l.drop (i + 1) := by
  rw [List.drop_eq_getElem_cons h]; simp [List.getD, List.getElem?_eq_getElem h]
theorem getD_of_drop {l : List Int} {i : Nat} {x : Int} {r : List Int} (h : l.drop i = x :: r) : l.getD i 0 = x ∧ i < l.length ∧ l.drop (i + 1) = r := by
  have hi : i < l.length := by
    apply Classical.byContradiction
    intro hn
    rw [List.drop_eq_nil_of_le (by omega)] at h
    cases h
  rw [drop_cons 0 hi] at h
  injection h with h1 h2
  exact ⟨h1, hi, h2⟩
theorem tab_length {α : Type} (n : Nat) (f : Nat → α) : (tab n f).length = n := by simp [tab]
theorem tab_get {α : Type} (n : Nat) (f : Nat → α) (d : α) {i : Nat} (h : i < n) : (tab n f).getD i d = f i := by
  simp [tab, List.getD, List.getElem?_map, List.getElem?_range h]
theorem tab_set {α : Type} (n : Nat) (f : Nat → α) (i : Nat) (a : α) : (tab n f).set i a = tab n fun j => if j = i then a else f j := by
  apply List.ext_getElem (by simp [tab])
  intro j h1 h2
  simp only [tab, List.length_set, List.length_map, List.length_range] at h1
  simp only [tab, List.getElem_set, List.getElem_map, List.getElem_range]
  by_cases e : i = j
  · rw [if_pos e, if_pos e.symm]
  · rw [if_neg e, if_neg (Ne.symm e)]
theorem tab_snoc {α : Type} (n : Nat) (f : Nat → α) : tab n f ++ [f n] = tab (n + 1) f := by simp [tab, List.range_succ]
theorem tab_congr {α : Type} {n : Nat} {f g : Nat → α} (h : ∀ j, j < n → f j = g j) : tab n f = tab n g := by
  unfold tab
  apply List.map_congr_left
  intro j hj; exact h j (List.mem_range.1 hj)
theorem tab_const {α : Type} (n : Nat) (a : α) : List.replicate n a = tab n fun _ => a := by
  apply List.ext_getElem (by simp [tab])
  intro j h1 h2
  simp [tab]
theorem tab_zero {α : Type} (f : Nat → α) : tab 0 f = [] := rfl
/-- A list that is filled place by place. -/
def fillT {α : Type} (n i : Nat) (d : α) (f : Nat → α) : List α := tab n fun j => if j < i then f j else d
theorem fillT_length {α : Type} (n i : Nat) (d : α) (f : Nat → α) : (fillT n i d f).length = n := tab_length _ _
theorem fillT_zero {α : Type} (n : Nat) (d : α) (f : Nat → α) : fillT n 0 d f = List.replicate n d := by
  rw [tab_const]; exact tab_congr fun j _ => if_neg (by omega)
theorem fillT_set {α : Type} (n i : Nat) (d : α) (f : Nat → α) : (fillT n i d f).set i (f i) = fillT n (i + 1) d f := by
  unfold fillT
  rw [tab_set]
  refine tab_congr fun j _ => ?_
  by_cases e : j = i
  · rw [if_pos e, if_pos (by omega), e]
  · rw [if_neg e]
    by_cases h : j < i
    · rw [if_pos h, if_pos (by omega)]
    · rw [if_neg h, if_neg (by omega)]
theorem fillT_full {α : Type} (n : Nat) (d : α) (f : Nat → α) : fillT n n d f = tab n f := tab_congr fun _ hj => if_pos hj
theorem wrap64 {n : Int} (h : -9223372036854775808 ≤ n ∧ n ≤ 9223372036854775807) : Go.IntKind.wrap .i64 n = n := Go.IntWalk.i64_in _ h
theorem imax_eq' (a b : Int) : imax a b = max a b := by unfold imax; omega
theorem imin_eq' (a b : Int) : imin a b = min a b := by unfold imin; omega
theorem rng16 {n : Int} (h : (Lit.int .i16 n).wf = true) : -32768 ≤ n ∧ n ≤ 32767 := by
  simpa [Lit.wf, IntKind.min, IntKind.max, IntKind.signed, IntKind.bits] using h
theorem rng8 {n : Int} (h : (Lit.int .u8 n).wf = true) : 0 ≤ n ∧ n ≤ 255 := by
  simpa [Lit.wf, IntKind.min, IntKind.max, IntKind.signed, IntKind.bits] using h
theorem i64_succ (i : Nat) (h : i < 1000000000) : iadd .i64 (i : Int) 1 = ((i + 1 : Nat) : Int) := by rw [iadd64 (by omega)]; omega
theorem all_getD {p : Int → Bool} {l : List Int} (h : l.all p = true) {i : Nat} (hi : i < l.length) : p (l.getD i 0) = true := by
  rw [List.all_eq_true] at h
  refine h _ ?_
  simp [List.getD, List.getElem?_eq_getElem hi]
theorem getD_mem {l : List Int} {i : Nat} (hi : i < l.length) : l.getD i 0 ∈ l := by simp [List.getD, List.getElem?_eq_getElem hi]
theorem same_l4 (a b : List Int) (K0 : Bool → Prop) (K1 : Prop) (hl : a.length ≤ 1000000) (hab : a.length = b.length) : ∀ (n i : Nat), i + n = a.length →
    (if a.drop i = b.drop i then K1 else K0 false) → ∃ q, R01_Same_l4 q a b i K0 K1 := by
  intro n
  induction n with
  | zero =>
    intro i hi h
    refine ⟨1, ?_⟩
    rw [List.drop_eq_nil_of_le (by omega), List.drop_eq_nil_of_le (by omega)] at h
    simp only [R01_Same_l4, br_dec]
    rw [if_neg (by omega)]
    simpa using h
  | succ n ih =>
    intro i hi h
    rw [drop_cons 0 (l := a) (by omega), drop_cons 0 (l := b) (by omega)] at h
    by_cases hx : a.getD i 0 = b.getD i 0
    · obtain ⟨q, hq⟩ := ih (i + 1) (by omega) (by rw [hx] at h; simpa only [List.cons.injEq, true_and] using h)
      refine ⟨q + 1, ?_⟩
      simp only [R01_Same_l4, br_dec, br_and, br_not, Int.toNat_natCast]
      rw [if_pos (by omega), if_pos (by omega), if_pos (by omega), if_pos (by omega), if_pos (by omega), if_pos hx, iadd64 (by omega)]
      exact hq
    · refine ⟨1, ?_⟩
      simp only [R01_Same_l4, br_dec, br_and, br_not, Int.toNat_natCast]
      rw [if_pos (by omega), if_pos (by omega), if_pos (by omega), if_pos (by omega), if_pos (by omega), if_neg hx]
      rw [if_neg (fun e => hx (by injection e))] at h
      exact h
theorem same_spec (a b : List Int) (K0 : Bool → Prop) (hl : a.length ≤ 1000000) (h : K0 (decide (a = b))) : R01_Same a b K0 := by
  rw [R01_Same_def]
  rw [br_not, br_dec]
  split
  · rename_i hab
    refine same_l4 a b _ _ hl (by omega) a.length 0 (by omega) ?_
    rw [List.drop_zero, List.drop_zero]
    split
    · rename_i e; rw [decide_eq_true e] at h; exact h
    · rename_i e; rw [decide_eq_false e] at h; exact h
  · rename_i hab
    rw [decide_eq_false (fun e => hab (by rw [e]))] at h
    exact h
theorem same_self (a : List Int) (K0 : Bool → Prop) (hl : a.length ≤ 1000000) (h : K0 true) : R01_Same a a K0 :=
  same_spec a a K0 hl (by rw [decide_eq_true rfl]; exact h)
def inB (low high x : Int) : Bool := decide (low ≤ x ∧ x ≤ high)
theorem within_l2 (l : List Int) (low high : Int) (K0 : Bool → Prop) (K1 : Prop) (hl : l.length ≤ 1000000) : ∀ (n i : Nat), i + n = l.length →
    (if (l.drop i).all (inB low high) = true then K1 else K0 false) → ∃ q, R01_Within_l2 q l low high i K0 K1 := by
  intro n
  induction n with
  | zero =>
    intro i hi h
    refine ⟨1, ?_⟩
    rw [List.drop_eq_nil_of_le (by omega)] at h
    simp only [R01_Within_l2, br_dec]
    rw [if_neg (by omega)]
    simpa using h
  | succ n ih =>
    intro i hi h
    rw [drop_cons 0 (by omega), List.all_cons] at h
    by_cases hx : inB low high (l.getD i 0) = true
    · obtain ⟨q, hq⟩ := ih (i + 1) (by omega) (by rw [hx, Bool.true_and] at h; exact h)
      refine ⟨q + 1, ?_⟩
      unfold inB at hx
      rw [decide_eq_true_eq] at hx
      simp only [R01_Within_l2, br_dec, br_and, Int.toNat_natCast]
      rw [if_pos (by omega), if_pos (by omega), if_pos (by omega), if_neg (by omega), if_pos (by omega), if_pos (by omega), if_neg (by omega), iadd64 (by omega)]
      exact hq
    · refine ⟨1, ?_⟩
      have h : K0 false := by rw [Bool.eq_false_iff.2 hx, Bool.false_and] at h; exact h
      unfold inB at hx
      rw [decide_eq_true_eq] at hx
      simp only [R01_Within_l2, br_dec, br_and, Int.toNat_natCast]
      rw [if_pos (by omega), if_pos (by omega), if_pos (by omega)]
      split
      · exact h
      · rw [if_pos (by omega), if_pos (by omega), if_pos (by omega)]
        exact h
theorem within_spec (l : List Int) (low high : Int) (K0 : Bool → Prop) (hl : l.length ≤ 1000000) (h : K0 (l.all (inB low high))) : R01_Within l low high K0 := by
  rw [R01_Within_def]
  refine within_l2 l low high K0 _ hl l.length 0 (by omega) ?_
  rw [List.drop_zero]
  split
  · rename_i e; rw [e] at h; exact h
  · rename_i e; rw [Bool.eq_false_iff.2 e] at h; exact h
/-- A number divided by a power of two, to the nearest. -/
def shrV (x n : Int) : Int := if n < 0 ∨ 60 < n ∨ x < -2305843009213693952 ∨ 2305843009213693952 < x then 0 else (2 * x + 2 ^ n.toNat) / (2 * 2 ^ n.toNat)
theorem shr_zero (x : Int) : (2 * x + 2 ^ (0 : Nat)) / (2 * 2 ^ (0 : Nat)) = x := by omega
theorem pow_bounds {k : Nat} (h : k ≤ 60) : (0 : Int) < 2 ^ k ∧ (2 : Int) ^ k ≤ 1152921504606846976 := by
  have h1 : 2 ^ k ≤ 2 ^ 60 := Nat.pow_le_pow_right (n := 2) (by decide) h
  have h2 : ((2 ^ k : Nat) : Int) ≤ ((2 ^ 60 : Nat) : Int) := Int.ofNat_le.2 h1
  rw [Int.natCast_pow, Int.natCast_pow] at h2
  exact ⟨Int.pow_pos (by decide), h2⟩
theorem shr_step (x : Int) (k : Nat) : (2 * x + 2 ^ (k + 1)) / (2 * 2 ^ (k + 1)) = (x + 2 ^ k) / 2 ^ (k + 1) := by
  have e : 2 * x + 2 ^ (k + 1) = 2 * (x + 2 ^ k) := by rw [Int.pow_succ, Int.mul_add, Int.mul_comm (2 ^ k) 2]
  rw [e, Int.mul_ediv_mul_of_pos _ _ (by decide : (0 : Int) < 2)]
theorem num_within1 (x : Int) (K0 : Bool → Prop) (h : K0 (decide (-2305843009213693952 ≤ x ∧ x ≤ 2305843009213693952))) : num_within 2305843009213693952 [x] K0 := by
  rw [num_within_def]
  refine ⟨2, ?_⟩
  have e0 : isub .i64 0 2305843009213693952 = -2305843009213693952 := by decide
  have e1 : iadd .i64 0 1 = 1 := by decide
  simp only [num_within_l2, br_dec, br_and, e0, e1, List.length_cons, List.length_nil]
  rw [if_pos (by decide), if_pos (by decide), if_pos (by decide)]
  show if x < _ then _ else if _ < x then _ else _
  split
  · rw [decide_eq_false (by omega)] at h; exact h
  split
  · rw [decide_eq_false (by omega)] at h; exact h
  · rw [if_neg (by decide)]
    rw [decide_eq_true (by omega)] at h; exact h
theorem shr_spec (x n : Int) (K0 : Int → Prop) (h : K0 (shrV x n)) : num_Shr x n K0 := by
  rw [num_Shr_def]
  unfold shrV at h
  simp only [br_dec]
  split
  · rw [if_pos (by omega)] at h; exact h
  split
  · rw [if_pos (by omega)] at h; exact h
  refine num_within1 x _ ?_
  unfold num_Shr_j2
  rw [br_not, br_dec]
  split
  · rename_i h1 h2 hx
    rw [if_neg (by omega)] at h
    rw [br_dec]
    split
    · rename_i hn
      subst hn
      rw [show (0 : Int).toNat = 0 from rfl, shr_zero] at h
      exact h
    · obtain ⟨k, rfl⟩ : ∃ k : Nat, n = ((k + 1 : Nat) : Int) := ⟨(n - 1).toNat, by omega⟩
      rw [Int.toNat_natCast, shr_step] at h
      obtain ⟨hp, hp2⟩ := pow_bounds (k := k) (by omega)
      have e1 : isub .i64 ((k + 1 : Nat) : Int) 1 = (k : Int) := by rw [isub64 (by omega)]; omega
      have e2 : ishl .i64 1 (k : Int) = 2 ^ k := by rw [ishl64 (by omega) (by omega), Int.one_mul]
      unfold num_Shr_j5
      simp only [e1, br_dec, e2]
      rw [if_neg (by omega), if_neg (by omega), iadd64 (by omega), ishr64 (by omega)]
      exact h
  · rw [if_pos (by omega)] at h; exact h
theorem rmod_spec (a b : Int) (hb : 1 ≤ b) (hb2 : b ≤ 1152921504606846976) (ha : -2305843009213693952 ≤ a ∧ a ≤ 2305843009213693952) (K0 : Int → Int → Prop) (h : K0 (a / b) (a % b)) : R01_Mod a b K0 := by
  rw [R01_Mod_def]
  simp only [br_dec]
  rw [if_neg (by omega), if_neg (by omega), if_neg (by omega), iquo64 hb (by omega)]
  have hm := Int.emod_nonneg a (show b ≠ 0 by omega)
  have hm2 := Int.emod_lt_of_pos a (show 0 < b by omega)
  have e1 := Int.tdiv_eq_ediv (a := a) (b := b)
  have e2 := Int.tmod_eq_emod (a := a) (b := b)
  have hs : b.sign = 1 := Int.sign_eq_one_of_pos (by omega)
  have hr : irem .i64 a b = a.tmod b := rfl
  have hq := tdiv_range hb (a := a) (by omega)
  rw [hr]
  by_cases hc : 0 ≤ a ∨ b ∣ a
  · rw [if_pos hc] at e1 e2
    have e3 : a.tdiv b = a / b := by omega
    have e4 : a.tmod b = a % b := by omega
    rw [if_neg (by omega), e3, e4]; exact h
  · rw [if_neg hc, hs] at e1
    rw [if_neg hc] at e2
    have h1 : -2305843009213693952 ≤ a / b := Int.le_ediv_of_mul_le (by omega) (by omega)
    have h2 : a / b ≤ 0 := by
      have := Int.ediv_le_ediv (a := a) (b := 0) (c := b) (by omega) (by omega)
      rwa [Int.zero_ediv] at this
    have hb3 : ((b.natAbs : Nat) : Int) = b := by omega
    rw [hb3] at e2
    rw [if_pos (by omega), e1, e2, isub64 (by omega), iadd64 (by omega)]
    rw [show a / b + 1 - 1 = a / b by omega, show a % b - b + b = a % b by omega]
    exact h
theorem half_up (x b : Int) (hb : 0 < b) : (2 * x + b) / (2 * b) = if b ≤ 2 * (x % b) then x / b + 1 else x / b := by
  have h0 := Int.emod_nonneg x (show b ≠ 0 by omega)
  have h1 := Int.emod_lt_of_pos x hb
  have h2 := Int.emod_add_mul_ediv x b
  have e : 2 * x + b = (2 * (x % b) + b) + 2 * b * (x / b) := by
    rw [Int.mul_assoc]; omega
  rw [e, Int.add_mul_ediv_left _ _ (show 2 * b ≠ 0 by omega)]
  split
  · rw [show (2 * (x % b) + b) / (2 * b) = 1 by
      rw [show 2 * (x % b) + b = (2 * (x % b) - b) + 2 * b * 1 by omega, Int.add_mul_ediv_left _ _ (show 2 * b ≠ 0 by omega), Int.ediv_eq_zero_of_lt (by omega) (by omega)]; rfl]
    omega
  · rw [Int.ediv_eq_zero_of_lt (by omega) (by omega)]; omega
theorem rshr_spec (x n : Int) (K0 : Int → Prop) (h : K0 (shrV x n)) : R01_Shr x n K0 := by
  rw [R01_Shr_def]
  unfold shrV at h
  simp only [br_dec]
  split
  · rw [if_pos (by omega)] at h; exact h
  split
  · rw [if_pos (by omega)] at h; exact h
  split
  · rw [if_pos (by omega)] at h; exact h
  split
  · rw [if_pos (by omega)] at h; exact h
  rw [if_neg (by omega)] at h
  obtain ⟨k, rfl⟩ : ∃ k : Nat, n = (k : Int) := ⟨n.toNat, by omega⟩
  rw [Int.toNat_natCast] at h
  obtain ⟨hp, hp2⟩ := pow_bounds (k := k) (by omega)
  have e2 : ishl .i64 1 (k : Int) = 2 ^ k := by rw [ishl64 (by omega) (by omega), Int.one_mul]
  rw [half_up x _ hp] at h
  rw [e2]
  refine rmod_spec x (2 ^ k) (by omega) hp2 (by omega) _ ?_
  have hm := Int.emod_nonneg x (show (2 : Int) ^ k ≠ 0 by omega)
  have hm2 := Int.emod_lt_of_pos x hp
  have h1 : -2305843009213693952 ≤ x / 2 ^ k := Int.le_ediv_of_mul_le (by omega) (by omega)
  have h2 : x / 2 ^ k ≤ 2305843009213693952 := Int.ediv_le_of_le_mul hp (by omega)
  rw [imul64 (by omega), iadd64 (by omega)]
  split
  · rename_i hc; rw [if_pos hc] at h; exact h
  · rename_i hc; rw [if_neg hc] at h; exact h
/-- How far a number is from 0, unless it is too far. -/
def absV (x : Int) : Int := if x < -4611686018427387904 ∨ 4611686018427387904 < x then 0 else max x (-x)
theorem abs_within1 (x : Int) (K0 : Bool → Prop) (h : K0 (decide (-4611686018427387904 ≤ x ∧ x ≤ 4611686018427387904))) : num_within 4611686018427387904 [x] K0 := by
  rw [num_within_def]
  refine ⟨2, ?_⟩
  have e0 : isub .i64 0 4611686018427387904 = -4611686018427387904 := by decide
  have e1 : iadd .i64 0 1 = 1 := by decide
  simp only [num_within_l2, br_dec, br_and, e0, e1, List.length_cons, List.length_nil]
  rw [if_pos (by decide), if_pos (by decide), if_pos (by decide)]
  show if x < _ then _ else if _ < x then _ else _
  split
  · rw [decide_eq_false (by omega)] at h; exact h
  split
  · rw [decide_eq_false (by omega)] at h; exact h
  · rw [if_neg (by decide)]
    rw [decide_eq_true (by omega)] at h; exact h
theorem abs_spec (x : Int) (K0 : Int → Prop) (h : K0 (absV x)) : num_Abs x K0 := by
  rw [num_Abs_def]
  refine abs_within1 x _ ?_
  unfold absV at h
  rw [br_not, br_dec]
  split
  · rw [if_neg (by omega)] at h
    rw [br_dec]
    split
    · rw [isub64 (by omega), show (0 : Int) - x = max x (-x) by omega]; exact h
    · rw [show max x (-x) = x by omega] at h; exact h
  · rw [if_pos (by omega)] at h; exact h
theorem rabs_spec (x : Int) (K0 : Int → Prop) (h : K0 (absV x)) : R01_Abs x K0 := by
  rw [R01_Abs_def]
  unfold absV at h
  simp only [br_dec]
  split
  · rw [if_pos (by omega)] at h; exact h
  split
  · rw [if_pos (by omega)] at h; exact h
  rw [if_neg (by omega)] at h
  rw [isub64 (by omega), imax_eq', Int.zero_sub]; exact h
theorem absV_of {x : Int} (h : -4611686018427387904 ≤ x ∧ x ≤ 4611686018427387904) : absV x = max x (-x) := by unfold absV; rw [if_neg (by omega)]
def wideB : Int → Bool := inB (-33554432) 33554432
def sideR (a b : List Int) : Bool := (a.all wideB && b.all wideB) && (decide (a.length = b.length) && decide (a.length ≤ 64))
theorem sright_l5 (a b v : List Int) (v7 v8 : Int) (m : List (List Int)) (K0 : Bool → Prop) (K1 : List Int → List Int → Int → Int → List (List Int) → Prop) (hl : v.length ≤ 1000000) : ∀ (n i : Nat), i + n = v.length →
    (if (v.drop i).all wideB = true then K1 a b v7 v8 m else K0 false) → ∃ q, side_right_l5 q a b v7 v8 v v.length i m K0 K1 := by
  intro n
  induction n with
  | zero =>
    intro i hi h
    refine ⟨1, ?_⟩
    rw [List.drop_eq_nil_of_le (by omega)] at h
    simp only [side_right_l5, br_dec]
    rw [if_neg (by omega)]
    simpa using h
  | succ n ih =>
    intro i hi h
    rw [drop_cons 0 (by omega), List.all_cons] at h
    by_cases hx : wideB (v.getD i 0) = true
    · obtain ⟨q, hq⟩ := ih (i + 1) (by omega) (by rw [hx, Bool.true_and] at h; exact h)
      refine ⟨q + 1, ?_⟩
      unfold wideB inB at hx
      rw [decide_eq_true_eq] at hx
      simp only [side_right_l5, br_dec, br_and, Int.toNat_natCast]
      rw [if_pos (by omega), if_pos (by omega), if_pos (by omega), if_neg (by omega), if_neg (by omega), i64_succ _ (by omega)]
      exact hq
    · refine ⟨1, ?_⟩
      have h : K0 false := by rw [Bool.eq_false_iff.2 hx, Bool.false_and] at h; exact h
      unfold wideB inB at hx
      rw [decide_eq_true_eq] at hx
      simp only [side_right_l5, br_dec, br_and, Int.toNat_natCast]
      rw [if_pos (by omega), if_pos (by omega), if_pos (by omega)]
      split
      · exact h
      · rw [if_pos (by omega)]; exact h
theorem sright_spec (a b : List Int) (K0 : Bool → Prop) (ha : a.length ≤ 1000000) (hb : b.length ≤ 1000000) (h : K0 (sideR a b)) : side_right a b K0 := by
  rw [side_right_def]
  have fin : a.all wideB = true → b.all wideB = true → Br (decide ((a.length : Int) = (b.length : Int))) (K0 (decide ((a.length : Int) ≤ (64 : Int)))) (K0 false) := by
    intro h1 h2
    unfold sideR at h
    rw [h1, h2, Bool.true_and, Bool.true_and] at h
    rw [br_dec]
    split
    · rw [decide_eq_true (by omega : a.length = b.length), Bool.true_and] at h
      rw [show decide ((a.length : Int) ≤ 64) = decide (a.length ≤ 64) from decide_eq_decide.2 (by omega)]; exact h
    · rw [decide_eq_false (by omega : ¬ a.length = b.length), Bool.false_and] at h; exact h
  have no : (a.all wideB && b.all wideB) = false → K0 false := fun e => by unfold sideR at h; rw [e, Bool.false_and] at h; exact h
  have third : ∀ q, a.all wideB = true → b.all wideB = true → side_right_l2 (q + 1) a b 2 2 [a, b] K0 (fun a5 b5 => Br (decide ((a5.length : Int) = (b5.length : Int))) (K0 (decide ((a5.length : Int) ≤ (64 : Int)))) (K0 false)) := by
    intro q h1 h2
    simp only [side_right_l2, br_dec]
    rw [if_neg (by decide)]
    have := fin h1 h2
    rw [br_dec] at this
    exact this
  refine ⟨3, ?_⟩
  show side_right_l2 (2 + 1) a b 2 0 [a, b] K0 _
  simp only [side_right_l2, br_dec, br_and, List.length_cons, List.length_nil]
  rw [if_pos (by decide), if_pos (by decide), if_pos (by decide), if_pos (by decide)]
  refine sright_l5 a b a 2 0 [a, b] K0 _ ha a.length 0 (by omega) ?_
  rw [List.drop_zero]
  split
  · rename_i h1
    rw [show iadd .i64 0 1 = 1 by decide, if_pos (by decide), if_pos (by decide), if_pos (by simp), if_pos (by simp)]
    refine sright_l5 a b b 2 1 [a, b] K0 _ hb b.length 0 (by omega) ?_
    rw [List.drop_zero]
    split
    · rename_i h2
      rw [show iadd .i64 1 1 = 2 by decide]
      have := third 0 h1 h2
      simp only [side_right_l2, br_dec, br_and, List.length_cons, List.length_nil] at this ⊢
      exact this
    · rename_i h2
      exact no (by rw [Bool.eq_false_iff.2 h2, Bool.and_false])
  · rename_i h1
    exact no (by rw [Bool.eq_false_iff.2 h1, Bool.false_and])
theorem rsright_spec (a b : List Int) (K0 : Bool → Prop) (h : K0 (sideR a b)) : R19_Right a b K0 := by
  rw [R19_Right_def]
  unfold sideR at h
  simp only [br_dec]
  split
  · rw [decide_eq_true (by omega : a.length = b.length), Bool.true_and] at h
    split
    · rw [decide_eq_true (by omega : a.length ≤ 64), Bool.and_true] at h
      refine within_spec a _ _ _ (by omega) ?_
      cases ha : a.all (inB (-33554432) 33554432) with
      | true =>
        rw [br_true]
        refine within_spec b _ _ _ (by omega) ?_
        rw [show a.all wideB = true from ha, Bool.true_and] at h
        exact h
      | false =>
        rw [br_false]
        rw [show a.all wideB = false from ha, Bool.false_and] at h
        exact h
    · rw [decide_eq_false (by omega : ¬ a.length ≤ 64), Bool.and_false] at h; exact h
  · rw [decide_eq_false (by omega : ¬ a.length = b.length), Bool.false_and, Bool.and_false] at h; exact h
theorem sideR_spec {a b : List Int} (h : sideR a b = true) : a.length = b.length ∧ a.length ≤ 64 ∧ (∀ i, i < a.length → -33554432 ≤ a.getD i 0 ∧ a.getD i 0 ≤ 33554432) ∧ ∀ i, i < a.length → -33554432 ≤ b.getD i 0 ∧ b.getD i 0 ≤ 33554432 := by
  unfold sideR at h
  simp only [Bool.and_eq_true, decide_eq_true_eq] at h
  obtain ⟨⟨h1, h2⟩, h3, h4⟩ := h
  refine ⟨h3, h4, fun i hi => ?_, fun i hi => ?_⟩
  · have := all_getD h1 hi; unfold wideB inB at this; exact of_decide_eq_true this
  · have := all_getD h2 (i := i) (by omega); unfold wideB inB at this; exact of_decide_eq_true this

def addF (a b : List Int) (i : Nat) : Int := a.getD i 0 + b.getD i 0
def subF (a b : List Int) (i : Nat) : Int := a.getD i 0 - b.getD i 0
def half (x : Int) : Int := (x + 1) / 2
theorem shr1 {x : Int} (h : -2305843009213693952 ≤ x ∧ x ≤ 2305843009213693952) : shrV x 1 = half x := by
  unfold shrV half
  rw [if_neg (by omega)]
  show (2 * x + 2) / 4 = _
  omega
def haF (a b : List Int) (i : Nat) : Int := half (addF a b i)
def hsF (a b : List Int) (i : Nat) : Int := half (subF a b i)

section
variable {a b : List Int} (hr : sideR a b = true)
include hr
theorem merge_l5 (K0 : List Int → List Int → Prop) (h : K0 (tab a.length (addF a b)) (tab a.length (subF a b))) : ∀ (n i : Nat), i + n = a.length →
    ∃ q, side_both__side_Merge_1_l5 q b a a.length i (fillT a.length i 0 (addF a b)) (fillT a.length i 0 (subF a b)) K0 := by
  obtain ⟨hl, h64, ha, hb⟩ := sideR_spec hr
  intro n
  induction n with
  | zero =>
    intro i hi
    refine ⟨1, ?_⟩
    have hi : i = a.length := by omega
    subst hi
    simp only [side_both__side_Merge_1_l5, br_dec]
    rw [if_neg (by omega), fillT_full, fillT_full]; exact h
  | succ n ih =>
    intro i hi
    obtain ⟨q, hq⟩ := ih (i + 1) (by omega)
    refine ⟨q + 1, ?_⟩
    have h1 := ha i (by omega); have h2 := hb i (by omega)
    simp only [side_both__side_Merge_1_l5, side_Merge_1_def, br_dec, br_and, Int.toNat_natCast, fillT_length]
    rw [if_pos (by omega), if_pos (by omega), if_pos (by omega), if_pos (by omega), if_pos (by omega), if_pos (by omega), if_pos (by omega), if_pos (by omega), if_pos (by omega), if_pos (by omega), if_pos (by omega), i64_succ _ (by omega), iadd64 (by omega), isub64 (by omega)]
    rw [show a.getD i 0 + b.getD i 0 = addF a b i from rfl, show a.getD i 0 - b.getD i 0 = subF a b i from rfl, fillT_set, fillT_set]
    exact hq
theorem split_l5 (K0 : List Int → List Int → Prop) (h : K0 (tab a.length (haF a b)) (tab a.length (hsF a b))) : ∀ (n i : Nat), i + n = a.length →
    ∃ q, side_both__side_Split_1_l5 q b a a.length i (fillT a.length i 0 (haF a b)) (fillT a.length i 0 (hsF a b)) K0 := by
  obtain ⟨hl, h64, ha, hb⟩ := sideR_spec hr
  intro n
  induction n with
  | zero =>
    intro i hi
    refine ⟨1, ?_⟩
    have hi : i = a.length := by omega
    subst hi
    simp only [side_both__side_Split_1_l5, br_dec]
    rw [if_neg (by omega), fillT_full, fillT_full]; exact h
  | succ n ih =>
    intro i hi
    obtain ⟨q, hq⟩ := ih (i + 1) (by omega)
    refine ⟨q + 1, ?_⟩
    have h1 := ha i (by omega); have h2 := hb i (by omega)
    simp only [side_both__side_Split_1_l5, side_Split_1_def, br_dec, br_and, Int.toNat_natCast]
    rw [if_pos (by omega), if_pos (by omega), if_pos (by omega), if_pos (by omega), if_pos (by omega), iadd64 (by omega), isub64 (by omega)]
    refine shr_spec _ _ _ (shr_spec _ _ _ ?_)
    rw [shr1 (by omega), shr1 (by omega)]
    simp only [fillT_length]
    rw [if_pos (by omega), if_pos (by omega), if_pos (by omega), if_pos (by omega), if_pos (by omega), if_pos (by omega), i64_succ _ (by omega)]
    rw [show half (a.getD i 0 + b.getD i 0) = haF a b i from rfl, show half (a.getD i 0 - b.getD i 0) = hsF a b i from rfl, fillT_set, fillT_set]
    exact hq
theorem rmerge_l5 (K0 : List Int → List Int → Prop) (h : K0 (tab a.length (addF a b)) (tab a.length (subF a b))) : ∀ (n i : Nat), i + n = a.length →
    ∃ q, R19_Merge_l5 q a b i (tab i (addF a b)) (tab i (subF a b)) K0 := by
  obtain ⟨hl, h64, ha, hb⟩ := sideR_spec hr
  intro n
  induction n with
  | zero =>
    intro i hi
    refine ⟨1, ?_⟩
    have hi : i = a.length := by omega
    subst hi
    simp only [R19_Merge_l5, br_dec]
    rw [if_neg (by omega)]; exact h
  | succ n ih =>
    intro i hi
    obtain ⟨q, hq⟩ := ih (i + 1) (by omega)
    refine ⟨q + 1, ?_⟩
    have h1 := ha i (by omega); have h2 := hb i (by omega)
    simp only [R19_Merge_l5, br_dec, br_and, Int.toNat_natCast, tab_length, List.length_cons, List.length_nil]
    rw [if_pos (by omega), if_pos (by omega), if_pos (by omega), if_pos (by omega), if_pos (by omega), if_pos (by omega), if_pos (by omega), if_pos (by omega), if_pos (by omega), if_pos (by omega), if_pos (by omega), i64_succ _ (by omega), iadd64 (by omega), isub64 (by omega)]
    rw [show a.getD i 0 + b.getD i 0 = addF a b i from rfl, show a.getD i 0 - b.getD i 0 = subF a b i from rfl, tab_snoc, tab_snoc]
    exact hq
theorem rsplit_l5 (K0 : List Int → List Int → Prop) (h : K0 (tab a.length (haF a b)) (tab a.length (hsF a b))) : ∀ (n i : Nat), i + n = a.length →
    ∃ q, R19_Split_l5 q a b i (tab i (haF a b)) (tab i (hsF a b)) K0 := by
  obtain ⟨hl, h64, ha, hb⟩ := sideR_spec hr
  intro n
  induction n with
  | zero =>
    intro i hi
    refine ⟨1, ?_⟩
    have hi : i = a.length := by omega
    subst hi
    simp only [R19_Split_l5, br_dec]
    rw [if_neg (by omega)]; exact h
  | succ n ih =>
    intro i hi
    obtain ⟨q, hq⟩ := ih (i + 1) (by omega)
    refine ⟨q + 1, ?_⟩
    have h1 := ha i (by omega); have h2 := hb i (by omega)
    simp only [R19_Split_l5, br_dec, br_and, Int.toNat_natCast, tab_length, List.length_cons, List.length_nil]
    rw [if_pos (by omega), if_pos (by omega), if_pos (by omega), if_pos (by omega), if_pos (by omega), iadd64 (by omega), isub64 (by omega)]
    refine rshr_spec _ _ _ ?_
    rw [shr1 (by omega), if_pos (by omega), if_pos (by omega), if_pos (by omega), if_pos (by omega), if_pos (by omega)]
    refine rshr_spec _ _ _ ?_
    rw [shr1 (by omega), if_pos (by omega), i64_succ _ (by omega)]
    rw [show half (a.getD i 0 + b.getD i 0) = haF a b i from rfl, show half (a.getD i 0 - b.getD i 0) = hsF a b i from rfl, tab_snoc, tab_snoc]
    exact hq
end

theorem merge_spec (a b : List Int) (K0 : Prop) (K1 : List Int → List Int → Prop) (ha : a.length ≤ 1000000) (hb : b.length ≤ 1000000) (h : if sideR a b = true then K1 (tab a.length (addF a b)) (tab a.length (subF a b)) else K0) : side_Merge a b K0 K1 := by
  rw [side_Merge_def, side_both__side_Merge_1_def]
  refine sright_spec a b _ ha hb ?_
  rw [br_not]
  refine br_of (fun hr => ?_) (fun hr => ?_)
  · rw [if_pos hr] at h
    simp only [br_and, br_dec]
    rw [if_pos (by omega), if_pos (by omega), if_pos (by omega), if_pos (by omega), if_pos (by omega), if_pos (by omega)]
    have := merge_l5 hr K1 h a.length 0 (by omega)
    rw [fillT_zero, fillT_zero] at this
    rw [Int.toNat_natCast]; exact this
  · rw [hr, if_neg (by decide)] at h; exact h
theorem split_spec (a b : List Int) (K0 : Prop) (K1 : List Int → List Int → Prop) (ha : a.length ≤ 1000000) (hb : b.length ≤ 1000000) (h : if sideR a b = true then K1 (tab a.length (haF a b)) (tab a.length (hsF a b)) else K0) : side_Split a b K0 K1 := by
  rw [side_Split_def, side_both__side_Split_1_def]
  refine sright_spec a b _ ha hb ?_
  rw [br_not]
  refine br_of (fun hr => ?_) (fun hr => ?_)
  · rw [if_pos hr] at h
    simp only [br_and, br_dec]
    rw [if_pos (by omega), if_pos (by omega), if_pos (by omega), if_pos (by omega), if_pos (by omega), if_pos (by omega)]
    have := split_l5 hr K1 h a.length 0 (by omega)
    rw [fillT_zero, fillT_zero] at this
    rw [Int.toNat_natCast]; exact this
  · rw [hr, if_neg (by decide)] at h; exact h
theorem rmerge_spec (a b : List Int) (K0 : Prop) (K1 : List Int → List Int → Prop) (h : if sideR a b = true then K1 (tab a.length (addF a b)) (tab a.length (subF a b)) else K0) : R19_Merge a b K0 K1 := by
  rw [R19_Merge_def]
  refine rsright_spec a b _ ?_
  rw [br_not]
  refine br_of (fun hr => ?_) (fun hr => ?_)
  · rw [if_pos hr] at h
    exact rmerge_l5 hr K1 h a.length 0 (by omega)
  · rw [hr, if_neg (by decide)] at h; exact h
theorem rsplit_spec (a b : List Int) (K0 : Prop) (K1 : List Int → List Int → Prop) (h : if sideR a b = true then K1 (tab a.length (haF a b)) (tab a.length (hsF a b)) else K0) : R19_Split a b K0 K1 := by
  rw [R19_Split_def]
  refine rsright_spec a b _ ?_
  rw [br_not]
  refine br_of (fun hr => ?_) (fun hr => ?_)
  · rw [if_pos hr] at h
    exact rsplit_l5 hr K1 h a.length 0 (by omega)
  · rw [hr, if_neg (by decide)] at h; exact h

/-- How far numbers are from 0 together. -/
def farL (x : List Int) : Nat → Int
  | 0 => 0
  | n + 1 => farL x n + max (x.getD n 0) (-(x.getD n 0))
theorem farL_bound (x : List Int) (hx : ∀ i, i < x.length → -67108864 ≤ x.getD i 0 ∧ x.getD i 0 ≤ 67108864) : ∀ n, n ≤ x.length → 0 ≤ farL x n ∧ farL x n ≤ n * 67108864
  | 0, _ => by simp [farL]
  | n + 1, hn => by
    have := farL_bound x hx n (by omega)
    have h2 := hx n (by omega)
    simp only [farL]
    omega
theorem far_l3 (x : List Int) (K0 : Int → Prop) (hl : x.length ≤ 64) (hx : ∀ i, i < x.length → -67108864 ≤ x.getD i 0 ∧ x.getD i 0 ≤ 67108864) (h : K0 (farL x x.length)) : ∀ (n i : Nat), i + n = x.length → ∃ q, R19_Far_l3 q x (farL x i) i K0 := by
  intro n
  induction n with
  | zero =>
    intro i hi
    refine ⟨1, ?_⟩
    have hi : i = x.length := by omega
    subst hi
    simp only [R19_Far_l3, br_dec]
    rw [if_neg (by omega)]; exact h
  | succ n ih =>
    intro i hi
    obtain ⟨q, hq⟩ := ih (i + 1) (by omega)
    refine ⟨q + 1, ?_⟩
    have h1 := farL_bound x hx i (by omega)
    have h2 := hx i (by omega)
    simp only [R19_Far_l3, br_dec, br_and, Int.toNat_natCast]
    rw [if_pos (by omega), if_pos (by omega), if_pos (by omega)]
    refine rabs_spec _ _ ?_
    rw [absV_of (by omega), iadd64 (by omega), i64_succ _ (by omega)]
    exact hq
theorem far_spec (x : List Int) (K0 : Int → Prop) (hl : x.length ≤ 64) (hx : ∀ i, i < x.length → -67108864 ≤ x.getD i 0 ∧ x.getD i 0 ≤ 67108864) (h : K0 (farL x x.length)) : R19_Far x K0 := by
  rw [R19_Far_def]
  exact far_l3 x K0 hl hx h x.length 0 (by omega)

/-- Are middle and sides much less? -/
def better (a b : List Int) : Bool := sideR a b && decide (4 * (farL (tab a.length (haF a b)) a.length + farL (tab a.length (hsF a b)) a.length) < 3 * (farL a a.length + farL b a.length))
theorem ha_bound {a b : List Int} (hr : sideR a b = true) : (∀ i, i < (tab a.length (haF a b)).length → -67108864 ≤ (tab a.length (haF a b)).getD i 0 ∧ (tab a.length (haF a b)).getD i 0 ≤ 67108864) ∧ ∀ i, i < (tab a.length (hsF a b)).length → -67108864 ≤ (tab a.length (hsF a b)).getD i 0 ∧ (tab a.length (hsF a b)).getD i 0 ≤ 67108864 := by
  obtain ⟨hl, h64, ha, hb⟩ := sideR_spec hr
  constructor
  all_goals
    intro i hi
    rw [tab_length] at hi
    have h1 := ha i hi; have h2 := hb i hi
    rw [tab_get _ _ _ hi]
    simp only [haF, hsF, half, addF, subF]
    omega
theorem better_l4 (a b : List Int) (hr : sideR a b = true) (K0 : Int → Int → Prop)
    (h : K0 (farL (tab a.length (haF a b)) a.length + farL (tab a.length (hsF a b)) a.length) (farL a a.length + farL b a.length)) : ∀ (n i : Nat), i + n = a.length →
    ∃ q, side_Better_l4 q a b (farL (tab a.length (haF a b)) i + farL (tab a.length (hsF a b)) i) (farL a i + farL b i) a.length i (tab a.length (haF a b)) (tab a.length (hsF a b)) K0 := by
  obtain ⟨hl, h64, ha, hb⟩ := sideR_spec hr
  obtain ⟨hm, hs⟩ := ha_bound hr
  intro n
  induction n with
  | zero =>
    intro i hi
    refine ⟨1, ?_⟩
    have hi : i = a.length := by omega
    subst hi
    simp only [side_Better_l4, br_dec]
    rw [if_neg (by omega)]; exact h
  | succ n ih =>
    intro i hi
    obtain ⟨q, hq⟩ := ih (i + 1) (by omega)
    refine ⟨q + 1, ?_⟩
    have b1 := farL_bound _ hm i (by rw [tab_length]; omega)
    have b2 := farL_bound _ hs i (by rw [tab_length]; omega)
    have b3 := farL_bound a (fun j hj => by have := ha j hj; omega) i (by omega)
    have b4 := farL_bound b (fun j hj => by have := hb j (by omega); omega) i (by omega)
    have c1 := hm i (by rw [tab_length]; omega)
    have c2 := hs i (by rw [tab_length]; omega)
    have c3 := ha i (by omega); have c4 := hb i (by omega)
    simp only [side_Better_l4, br_dec, br_and, Int.toNat_natCast, tab_length]
    rw [if_pos (by omega), if_pos (by omega), if_pos (by omega), if_pos (by omega)]
    refine abs_spec _ _ ?_
    rw [absV_of (by omega), if_pos (by omega), if_pos (by omega), if_pos (by omega)]
    refine abs_spec _ _ ?_
    rw [absV_of (by omega), if_pos (by omega), if_pos (by omega)]
    refine abs_spec _ _ ?_
    rw [absV_of (by omega), if_pos (by omega), if_pos (by omega)]
    refine abs_spec _ _ ?_
    rw [absV_of (by omega), i64_succ _ (by omega)]
    simp only [farL] at hq
    rw [iadd64 (a := max _ _) (b := max _ _) (by omega), iadd64 (a := max _ _) (b := max _ _) (by omega), iadd64 (by omega), iadd64 (by omega)]
    rw [show ∀ x y z t : Int, x + y + (z + t) = x + z + (y + t) from fun x y z t => by omega] at hq
    rw [show farL a i + max (a.getD i 0) (-(a.getD i 0)) + (farL b i + max (b.getD i 0) (-(b.getD i 0))) = farL a i + farL b i + (max (a.getD i 0) (-(a.getD i 0)) + max (b.getD i 0) (-(b.getD i 0))) by omega] at hq
    exact hq
theorem better_spec (a b : List Int) (K0 : Bool → Prop) (ha : a.length ≤ 1000000) (hb : b.length ≤ 1000000) (h : K0 (better a b)) : side_Better a b K0 := by
  rw [side_Better_def]
  refine split_spec a b _ _ ha hb ?_
  unfold better at h
  split
  · rename_i hr
    obtain ⟨hl, h64, ha, hb⟩ := sideR_spec hr
    obtain ⟨hm, hs⟩ := ha_bound hr
    rw [hr, Bool.true_and] at h
    have b1 := farL_bound _ hm a.length (by rw [tab_length]; omega)
    have b2 := farL_bound _ hs a.length (by rw [tab_length]; omega)
    have b3 := farL_bound a (fun j hj => by have := ha j hj; omega) a.length (by omega)
    have b4 := farL_bound b (fun j hj => by have := hb j (by omega); omega) a.length (by omega)
    have := better_l4 a b hr (fun less3 more3 => K0 (decide ((imul .i64 4 less3) < (imul .i64 3 more3)))) (by rw [imul64 (by omega), imul64 (by omega)]; exact h) a.length 0 (by omega)
    unfold side_Better_j3
    rw [tab_length]
    exact this
  · rename_i hr
    rw [Bool.eq_false_iff.2 hr, Bool.false_and] at h
    refine ⟨1, ?_⟩
    simp only [side_Better_l4, br_dec, List.length_nil]
    rw [if_neg (by decide), decide_eq_false (by decide)]; exact h
theorem rbetter_spec (a b : List Int) (K0 : Bool → Prop) (h : K0 (better a b)) : R19_Better a b K0 := by
  rw [R19_Better_def]
  refine rsright_spec a b _ ?_
  unfold better at h
  rw [br_not]
  refine br_of (fun hr => ?_) (fun hr => ?_)
  · refine rsplit_spec a b _ _ ?_
    rw [if_pos hr]
    obtain ⟨hl, h64, ha, hb⟩ := sideR_spec hr
    obtain ⟨hm, hs⟩ := ha_bound hr
    rw [hr, Bool.true_and] at h
    have b1 := farL_bound _ hm a.length (by rw [tab_length]; omega)
    have b2 := farL_bound _ hs a.length (by rw [tab_length]; omega)
    have b3 := farL_bound a (fun j hj => by have := ha j hj; omega) a.length (by omega)
    have b4 := farL_bound b (fun j hj => by have := hb j (by omega); omega) a.length (by omega)
    refine far_spec _ _ (by rw [tab_length]; omega) hm (far_spec _ _ (by rw [tab_length]; omega) hs (far_spec _ _ (by omega) (fun j hj => by have := ha j hj; omega) (far_spec _ _ (by omega) (fun j hj => by have := hb j (by omega); omega) ?_)))
    rw [tab_length, tab_length, ← hl, iadd64 (by omega), iadd64 (by omega), imul64 (by omega), imul64 (by omega)]
    exact h
  · rw [hr, Bool.false_and] at h; exact h

theorem awake_spec (K : Bool → Prop) (h : K true) : L19_awake K := by
  rw [L19_awake_def]
  refine merge_spec _ _ _ _ (by decide) (by decide) ?_
  rw [if_pos (by decide)]
  refine split_spec _ _ _ _ (by decide) (by decide) ?_
  rw [if_pos (by decide)]
  refine same_spec _ _ _ (by decide) ?_
  rw [decide_eq_true (by decide), br_true]
  refine same_spec _ _ _ (by decide) ?_
  rw [decide_eq_true (by decide), br_true]
  refine same_spec _ _ _ (by decide) ?_
  rw [decide_eq_true (by decide), br_true]
  refine same_spec _ _ _ (by decide) ?_
  rw [decide_eq_true (by decide), br_true]
  refine better_spec _ _ _ (by decide) (by decide) ?_
  rw [show better [8] [8] = true by decide, br_true]
  refine better_spec _ _ _ (by decide) (by decide) ?_
  rw [show better [8] [0] = false by decide]
  exact h
theorem back_l10 (a b x y : List Int) (K0 : Bool → Prop) (K1 : Prop) (hl : a.length ≤ 64) (hb : b.length = a.length) (hx : x.length = a.length) (hy : y.length = a.length)
    (h1 : ∀ i, i < a.length → (-1 ≤ x.getD i 0 - a.getD i 0 ∧ x.getD i 0 - a.getD i 0 ≤ 1) ∧ -1 ≤ y.getD i 0 - b.getD i 0 ∧ y.getD i 0 - b.getD i 0 ≤ 1) (h : K1) : ∀ (n i : Nat), i + n = a.length → ∃ q, L19_SideBack_l10 q a b i x y K0 K1 := by
  intro n
  induction n with
  | zero =>
    intro i hi
    refine ⟨1, ?_⟩
    simp only [L19_SideBack_l10, br_dec]
    rw [if_neg (by omega)]; exact h
  | succ n ih =>
    intro i hi
    obtain ⟨q, hq⟩ := ih (i + 1) (by omega)
    refine ⟨q + 1, ?_⟩
    have := h1 i (by omega)
    simp only [L19_SideBack_l10, br_dec, br_and, Int.toNat_natCast]
    rw [if_pos (by omega), if_pos (by omega), if_pos (by omega), if_pos (by omega), if_pos (by omega), if_pos (by omega), isub64 (by omega)]
    refine rabs_spec _ _ ?_
    rw [absV_of (by omega), if_neg (by omega), if_pos (by omega), if_pos (by omega), if_pos (by omega), if_pos (by omega), if_pos (by omega), isub64 (by omega)]
    refine rabs_spec _ _ ?_
    rw [absV_of (by omega), if_neg (by omega), i64_succ _ (by omega)]
    exact hq
theorem sideR_of {a b : List Int} (hl : a.length = b.length) (h64 : a.length ≤ 64) (ha : ∀ i, i < a.length → -33554432 ≤ a.getD i 0 ∧ a.getD i 0 ≤ 33554432) (hb : ∀ i, i < a.length → -33554432 ≤ b.getD i 0 ∧ b.getD i 0 ≤ 33554432) : sideR a b = true := by
  have all : ∀ l : List Int, (∀ i, i < l.length → -33554432 ≤ l.getD i 0 ∧ l.getD i 0 ≤ 33554432) → l.all wideB = true := by
    intro l h
    rw [List.all_eq_true]
    intro x hx
    obtain ⟨i, hi, rfl⟩ := List.getElem_of_mem hx
    have := h i hi
    simp only [List.getD, List.getElem?_eq_getElem hi, Option.getD_some] at this
    unfold wideB inB; exact decide_eq_true this
  unfold sideR
  rw [all a ha, all b (by rw [← hl]; exact hb), decide_eq_true hl, decide_eq_true h64]; rfl
theorem back_j3 (a b : List Int) (hl : a.length = b.length) (h64 : a.length ≤ 64) (ha : ∀ i, i < a.length → -16777216 ≤ a.getD i 0 ∧ a.getD i 0 ≤ 16777216) (hb : ∀ i, i < a.length → -16777216 ≤ b.getD i 0 ∧ b.getD i 0 ≤ 16777216)
    (K : Bool → Prop) (h : K true) : L19_SideBack_j3 a b K := by
  have haw := awake_spec K h
  have r1 : sideR a b = true := sideR_of hl h64 (fun i hi => by have := ha i hi; omega) (fun i hi => by have := hb i hi; omega)
  have r2 : sideR (tab a.length (addF a b)) (tab a.length (subF a b)) = true := by
    refine sideR_of (by rw [tab_length, tab_length]) (by rw [tab_length]; exact h64) (fun i hi => ?_) (fun i hi => ?_)
    all_goals
      rw [tab_length] at hi
      have h1 := ha i hi; have h2 := hb i hi
      rw [tab_get _ _ _ hi]
      simp only [addF, subF]
      omega
  have r3 : sideR (tab a.length (haF a b)) (tab a.length (hsF a b)) = true := by
    refine sideR_of (by rw [tab_length, tab_length]) (by rw [tab_length]; exact h64) (fun i hi => ?_) (fun i hi => ?_)
    all_goals
      rw [tab_length] at hi
      have h1 := ha i hi; have h2 := hb i hi
      rw [tab_get _ _ _ hi]
      simp only [haF, hsF, half, addF, subF]
      omega
  refine merge_spec _ _ _ _ (by omega) (by omega) ?_
  rw [if_pos r1]
  refine split_spec _ _ _ _ (by rw [tab_length]; omega) (by rw [tab_length]; omega) ?_
  rw [if_pos r2, tab_length]
  refine split_spec _ _ _ _ (by omega) (by omega) ?_
  rw [if_pos r1]
  refine merge_spec _ _ _ _ (by rw [tab_length]; omega) (by rw [tab_length]; omega) ?_
  rw [if_pos r3, tab_length]
  have e1 : tab a.length (haF (tab a.length (addF a b)) (tab a.length (subF a b))) = a := by
    refine Eq.trans (tab_congr fun i hi => ?_) (eq_tab 0 rfl).symm
    simp only [haF, addF, half]
    rw [tab_get _ _ _ hi, tab_get _ _ _ hi]
    simp only [addF, subF]
    omega
  have e2 : tab a.length (hsF (tab a.length (addF a b)) (tab a.length (subF a b))) = b := by
    refine Eq.trans (tab_congr fun i hi => ?_) (eq_tab 0 hl.symm).symm
    simp only [hsF, subF, half]
    rw [tab_get _ _ _ hi, tab_get _ _ _ hi]
    simp only [addF, subF]
    omega
  unfold L19_SideBack_j7
  rw [e1, e2]
  refine same_self _ _ (by omega) ?_
  rw [br_not, br_true]
  refine same_self _ _ (by omega) ?_
  rw [br_not, br_true, br_not, br_not, br_dec, br_dec, if_pos (by rw [tab_length]), if_pos (by rw [tab_length])]
  refine back_l10 a b _ _ _ _ h64 hl.symm (tab_length _ _) (tab_length _ _) (fun i hi => ?_) haw a.length 0 (by omega)
  have h1 := ha i hi; have h2 := hb i hi
  rw [tab_get _ _ _ hi, tab_get _ _ _ hi]
  simp only [addF, subF]
  rw [tab_get _ _ _ hi, tab_get _ _ _ hi]
  simp only [haF, hsF, half, addF, subF]
  omega
theorem back (a b : List Int) (_ : Rng (.sl (.int .i64)) a) (_ : Rng (.sl (.int .i64)) b) (K : Bool → Prop) (h : K true) : L19_SideBack a b K := by
  have haw := awake_spec K h
  rw [L19_SideBack_def]
  rw [br_not, br_dec]
  split
  · rename_i hl
    rw [br_dec]
    split
    · exact haw
    · rename_i h64
      refine within_spec a _ _ _ (by omega) ?_
      rw [br_not]
      refine br_of (fun ha => ?_) (fun _ => haw)
      refine within_spec b _ _ _ (by omega) ?_
      unfold L19_SideBack_j2
      rw [br_not]
      refine br_of (fun hb => ?_) (fun _ => haw)
      refine back_j3 a b (by omega) (by omega) (fun i hi => ?_) (fun i hi => ?_) K h
      · have := all_getD ha hi; unfold inB at this; exact of_decide_eq_true this
      · have := all_getD hb (i := i) (by omega); unfold inB at this; exact of_decide_eq_true this
  · exact haw

end
end Go.Eng.A
