import Derived.Test.YtniabjhjpkkllaaEngV
import Derived.Test.YtniabjhjpkkllaaEngU
import Derived.Test.YtniabjhjpkkllaaLapNearP
set_option linter.unusedSimpArgs false
set_option linter.unusedVariables false
set_option maxHeartbeats 2000000
namespace Go.Eng.A
open Go Go.Eng
set_option maxRecDepth 100000
noncomputable section
theorem drop_cons {α : Type} (d : α) {l : List α} {i : Nat} (h : i < l.length) : l.drop i = l.getD i d :: l.drop (i + 1) := by
  rw [List.drop_eq_getElem_cons h]; simp [List.getD, List.getElem?_eq_getElem h]
theorem getD_of_drop {l : List Int} {i : Nat} {x : Int} {r : List Int} (h : l.drop i = x :: r) : l.getD i 0 = x ∧ i < l.length ∧ l.drop (i + 1) = r := by
  have hi : i < l.length := by
    apply Classical.byContradiction
    intro hn
    rw [List.drop_eq_nil_of_le (by omega)] at h
    cases h
  rw [drop_cons 0 hi] at h
  injection h with h1 h2
  exact ⟨h1, hi, h2⟩
theorem tab_length {α : Type} (n : Nat) (f : Nat → α) : (tab n f).length = n := by simp [tab]
theorem tab_get {α : Type} (n : Nat) (f : Nat → α) (d : α) {i : Nat} (h : i < n) : (tab n f).getD i d = f i := by
  simp [tab, List.getD, List.getElem?_map, List.getElem?_range h]
theorem tab_set {α : Type} (n : Nat) (f : Nat → α) (i : Nat) (a : α) : (tab n f).set i a = tab n fun j => if j = i then a else f j := by
  apply List.ext_getElem (by simp [tab])
  intro j h1 h2
  simp only [tab, List.length_set, List.length_map, List.length_range] at h1
  simp only [tab, List.getElem_set, List.getElem_map, List.getElem_range]
  by_cases e : i = j
  · rw [if_pos e, if_pos e.symm]
  · rw [if_neg e, if_neg (Ne.symm e)]
theorem tab_snoc {α : Type} (n : Nat) (f : Nat → α) : tab n f ++ [f n] = tab (n + 1) f := by simp [tab, List.range_succ]
theorem tab_congr {α : Type} {n : Nat} {f g : Nat → α} (h : ∀ j, j < n → f j = g j) : tab n f = tab n g := by
  unfold tab
  apply List.map_congr_left
  intro j hj; exact h j (List.mem_range.1 hj)
theorem tab_const {α : Type} (n : Nat) (a : α) : List.replicate n a = tab n fun _ => a := by
  apply List.ext_getElem (by simp [tab])
  intro j h1 h2
  simp [tab]
theorem tab_zero {α : Type} (f : Nat → α) : tab 0 f = [] := rfl
/-- A list that is filled place by place. -/
def fillT {α : Type} (n i : Nat) (d : α) (f : Nat → α) : List α := tab n fun j => if j < i then f j else d
theorem fillT_length {α : Type} (n i : Nat) (d : α) (f : Nat → α) : (fillT n i d f).length = n := tab_length _ _
theorem fillT_zero {α : Type} (n : Nat) (d : α) (f : Nat → α) : fillT n 0 d f = List.replicate n d := by
  rw [tab_const]; exact tab_congr fun j _ => if_neg (by omega)
theorem fillT_set {α : Type} (n i : Nat) (d : α) (f : Nat → α) : (fillT n i d f).set i (f i) = fillT n (i + 1) d f := by
  unfold fillT
  rw [tab_set]
  refine tab_congr fun j _ => ?_
  by_cases e : j = i
  · rw [if_pos e, if_pos (by omega), e]
  · rw [if_neg e]
    by_cases h : j < i
    · rw [if_pos h, if_pos (by omega)]
    · rw [if_neg h, if_neg (by omega)]
theorem fillT_full {α : Type} (n : Nat) (d : α) (f : Nat → α) : fillT n n d f = tab n f := tab_congr fun _ hj => if_pos hj
theorem wrap64 {n : Int} (h : -9223372036854775808 ≤ n ∧ n ≤ 9223372036854775807) : Go.IntKind.wrap .i64 n = n := Go.IntWalk.i64_in _ h
theorem imax_eq' (a b : Int) : imax a b = max a b := by unfold imax; omega
theorem imin_eq' (a b : Int) : imin a b = min a b := by unfold imin; omega
theorem rng16 {n : Int} (h : (Lit.int .i16 n).wf = true) : -32768 ≤ n ∧ n ≤ 32767 := by
  simpa [Lit.wf, IntKind.min, IntKind.max, IntKind.signed, IntKind.bits] using h
theorem rng8 {n : Int} (h : (Lit.int .u8 n).wf = true) : 0 ≤ n ∧ n ≤ 255 := by
  simpa [Lit.wf, IntKind.min, IntKind.max, IntKind.signed, IntKind.bits] using h
theorem i64_succ (i : Nat) (h : i < 1000000000) : iadd .i64 (i : Int) 1 = ((i + 1 : Nat) : Int) := by rw [iadd64 (by omega)]; omega
theorem all_getD {p : Int → Bool} {l : List Int} (h : l.all p = true) {i : Nat} (hi : i < l.length) : p (l.getD i 0) = true := by
  rw [List.all_eq_true] at h
  refine h _ ?_
  simp [List.getD, List.getElem?_eq_getElem hi]
theorem getD_mem {l : List Int} {i : Nat} (hi : i < l.length) : l.getD i 0 ∈ l := by simp [List.getD, List.getElem?_eq_getElem hi]
def inB (low high x : Int) : Bool := decide (low ≤ x ∧ x ≤ high)
theorem within_l2 (l : List Int) (low high : Int) (K0 : Bool → Prop) (K1 : Prop) (hl : l.length ≤ 1000000) : ∀ (n i : Nat), i + n = l.length →
    (if (l.drop i).all (inB low high) = true then K1 else K0 false) → ∃ q, R01_Within_l2 q l low high i K0 K1 := by
  intro n
  induction n with
  | zero =>
    intro i hi h
    refine ⟨1, ?_⟩
    rw [List.drop_eq_nil_of_le (by omega)] at h
    simp only [R01_Within_l2, br_dec]
    rw [if_neg (by omega)]
    simpa using h
  | succ n ih =>
    intro i hi h
    rw [drop_cons 0 (by omega), List.all_cons] at h
    by_cases hx : inB low high (l.getD i 0) = true
    · obtain ⟨q, hq⟩ := ih (i + 1) (by omega) (by rw [hx, Bool.true_and] at h; exact h)
      refine ⟨q + 1, ?_⟩
      unfold inB at hx
      rw [decide_eq_true_eq] at hx
      simp only [R01_Within_l2, br_dec, br_and, Int.toNat_natCast]
      rw [if_pos (by omega), if_pos (by omega), if_pos (by omega), if_neg (by omega), if_pos (by omega), if_pos (by omega), if_neg (by omega), iadd64 (by omega)]
      exact hq
    · refine ⟨1, ?_⟩
      have h : K0 false := by rw [Bool.eq_false_iff.2 hx, Bool.false_and] at h; exact h
      unfold inB at hx
      rw [decide_eq_true_eq] at hx
      simp only [R01_Within_l2, br_dec, br_and, Int.toNat_natCast]
      rw [if_pos (by omega), if_pos (by omega), if_pos (by omega)]
      split
      · exact h
      · rw [if_pos (by omega), if_pos (by omega), if_pos (by omega)]
        exact h
theorem within_spec (l : List Int) (low high : Int) (K0 : Bool → Prop) (hl : l.length ≤ 1000000) (h : K0 (l.all (inB low high))) : R01_Within l low high K0 := by
  rw [R01_Within_def]
  refine within_l2 l low high K0 _ hl l.length 0 (by omega) ?_
  rw [List.drop_zero]
  split
  · rename_i e; rw [e] at h; exact h
  · rename_i e; rw [Bool.eq_false_iff.2 e] at h; exact h
theorem same_l4 (a b : List Int) (K0 : Bool → Prop) (K1 : Prop) (hl : a.length ≤ 1000000) (hab : a.length = b.length) : ∀ (n i : Nat), i + n = a.length →
    (if a.drop i = b.drop i then K1 else K0 false) → ∃ q, R01_Same_l4 q a b i K0 K1 := by
  intro n
  induction n with
  | zero =>
    intro i hi h
    refine ⟨1, ?_⟩
    rw [List.drop_eq_nil_of_le (by omega), List.drop_eq_nil_of_le (by omega)] at h
    simp only [R01_Same_l4, br_dec]
    rw [if_neg (by omega)]
    simpa using h
  | succ n ih =>
    intro i hi h
    rw [drop_cons 0 (l := a) (by omega), drop_cons 0 (l := b) (by omega)] at h
    by_cases hx : a.getD i 0 = b.getD i 0
    · obtain ⟨q, hq⟩ := ih (i + 1) (by omega) (by rw [hx] at h; simpa only [List.cons.injEq, true_and] using h)
      refine ⟨q + 1, ?_⟩
      simp only [R01_Same_l4, br_dec, br_and, br_not, Int.toNat_natCast]
      rw [if_pos (by omega), if_pos (by omega), if_pos (by omega), if_pos (by omega), if_pos (by omega), if_pos hx, iadd64 (by omega)]
      exact hq
    · refine ⟨1, ?_⟩
      simp only [R01_Same_l4, br_dec, br_and, br_not, Int.toNat_natCast]
      rw [if_pos (by omega), if_pos (by omega), if_pos (by omega), if_pos (by omega), if_pos (by omega), if_neg hx]
      rw [if_neg (fun e => hx (by injection e))] at h
      exact h
theorem same_spec (a b : List Int) (K0 : Bool → Prop) (hl : a.length ≤ 1000000) (h : K0 (decide (a = b))) : R01_Same a b K0 := by
  rw [R01_Same_def]
  rw [br_not, br_dec]
  split
  · rename_i hab
    refine same_l4 a b _ _ hl (by omega) a.length 0 (by omega) ?_
    rw [List.drop_zero, List.drop_zero]
    split
    · rename_i e; rw [decide_eq_true e] at h; exact h
    · rename_i e; rw [decide_eq_false e] at h; exact h
  · rename_i hab
    rw [decide_eq_false (fun e => hab (by rw [e]))] at h
    exact h
theorem same_self (a : List Int) (K0 : Bool → Prop) (hl : a.length ≤ 1000000) (h : K0 true) : R01_Same a a K0 :=
  same_spec a a K0 hl (by rw [decide_eq_true rfl]; exact h)
/-- A number divided by a power of two, to the nearest. -/
def shrV (x n : Int) : Int := if n < 0 ∨ 60 < n ∨ x < -2305843009213693952 ∨ 2305843009213693952 < x then 0 else (2 * x + 2 ^ n.toNat) / (2 * 2 ^ n.toNat)
theorem shr_zero (x : Int) : (2 * x + 2 ^ (0 : Nat)) / (2 * 2 ^ (0 : Nat)) = x := by omega
theorem pow_bounds {k : Nat} (h : k ≤ 60) : (0 : Int) < 2 ^ k ∧ (2 : Int) ^ k ≤ 1152921504606846976 := by
  have h1 : 2 ^ k ≤ 2 ^ 60 := Nat.pow_le_pow_right (n := 2) (by decide) h
  have h2 : ((2 ^ k : Nat) : Int) ≤ ((2 ^ 60 : Nat) : Int) := Int.ofNat_le.2 h1
  rw [Int.natCast_pow, Int.natCast_pow] at h2
  exact ⟨Int.pow_pos (by decide), h2⟩
theorem shr_step (x : Int) (k : Nat) : (2 * x + 2 ^ (k + 1)) / (2 * 2 ^ (k + 1)) = (x + 2 ^ k) / 2 ^ (k + 1) := by
  have e : 2 * x + 2 ^ (k + 1) = 2 * (x + 2 ^ k) := by rw [Int.pow_succ, Int.mul_add, Int.mul_comm (2 ^ k) 2]
  rw [e, Int.mul_ediv_mul_of_pos _ _ (by decide : (0 : Int) < 2)]
theorem num_within1 (x : Int) (K0 : Bool → Prop) (h : K0 (decide (-2305843009213693952 ≤ x ∧ x ≤ 2305843009213693952))) : num_within 2305843009213693952 [x] K0 := by
  rw [num_within_def]
  refine ⟨2, ?_⟩
  have e0 : isub .i64 0 2305843009213693952 = -2305843009213693952 := by decide
  have e1 : iadd .i64 0 1 = 1 := by decide
  simp only [num_within_l2, br_dec, br_and, e0, e1, List.length_cons, List.length_nil]
  rw [if_pos (by decide), if_pos (by decide), if_pos (by decide)]
  show if x < _ then _ else if _ < x then _ else _
  split
  · rw [decide_eq_false (by omega)] at h; exact h
  split
  · rw [decide_eq_false (by omega)] at h; exact h
  · rw [if_neg (by decide)]
    rw [decide_eq_true (by omega)] at h; exact h
theorem shr_spec (x n : Int) (K0 : Int → Prop) (h : K0 (shrV x n)) : num_Shr x n K0 := by
  rw [num_Shr_def]
  unfold shrV at h
  simp only [br_dec]
  split
  · rw [if_pos (by omega)] at h; exact h
  split
  · rw [if_pos (by omega)] at h; exact h
  refine num_within1 x _ ?_
  unfold num_Shr_j2
  rw [br_not, br_dec]
  split
  · rename_i h1 h2 hx
    rw [if_neg (by omega)] at h
    rw [br_dec]
    split
    · rename_i hn
      subst hn
      rw [show (0 : Int).toNat = 0 from rfl, shr_zero] at h
      exact h
    · obtain ⟨k, rfl⟩ : ∃ k : Nat, n = ((k + 1 : Nat) : Int) := ⟨(n - 1).toNat, by omega⟩
      rw [Int.toNat_natCast, shr_step] at h
      obtain ⟨hp, hp2⟩ := pow_bounds (k := k) (by omega)
      have e1 : isub .i64 ((k + 1 : Nat) : Int) 1 = (k : Int) := by rw [isub64 (by omega)]; omega
      have e2 : ishl .i64 1 (k : Int) = 2 ^ k := by rw [ishl64 (by omega) (by omega), Int.one_mul]
      unfold num_Shr_j5
      simp only [e1, br_dec, e2]
      rw [if_neg (by omega), if_neg (by omega), iadd64 (by omega), ishr64 (by omega)]
      exact h
  · rw [if_pos (by omega)] at h; exact h
theorem rmod_spec (a b : Int) (hb : 1 ≤ b) (hb2 : b ≤ 1152921504606846976) (ha : -2305843009213693952 ≤ a ∧ a ≤ 2305843009213693952) (K0 : Int → Int → Prop) (h : K0 (a / b) (a % b)) : R01_Mod a b K0 := by
  rw [R01_Mod_def]
  simp only [br_dec]
  rw [if_neg (by omega), if_neg (by omega), if_neg (by omega), iquo64 hb (by omega)]
  have hm := Int.emod_nonneg a (show b ≠ 0 by omega)
  have hm2 := Int.emod_lt_of_pos a (show 0 < b by omega)
  have e1 := Int.tdiv_eq_ediv (a := a) (b := b)
  have e2 := Int.tmod_eq_emod (a := a) (b := b)
  have hs : b.sign = 1 := Int.sign_eq_one_of_pos (by omega)
  have hr : irem .i64 a b = a.tmod b := rfl
  have hq := tdiv_range hb (a := a) (by omega)
  rw [hr]
  by_cases hc : 0 ≤ a ∨ b ∣ a
  · rw [if_pos hc] at e1 e2
    have e3 : a.tdiv b = a / b := by omega
    have e4 : a.tmod b = a % b := by omega
    rw [if_neg (by omega), e3, e4]; exact h
  · rw [if_neg hc, hs] at e1
    rw [if_neg hc] at e2
    have h1 : -2305843009213693952 ≤ a / b := Int.le_ediv_of_mul_le (by omega) (by omega)
    have h2 : a / b ≤ 0 := by
      have := Int.ediv_le_ediv (a := a) (b := 0) (c := b) (by omega) (by omega)
      rwa [Int.zero_ediv] at this
    have hb3 : ((b.natAbs : Nat) : Int) = b := by omega
    rw [hb3] at e2
    rw [if_pos (by omega), e1, e2, isub64 (by omega), iadd64 (by omega)]
    rw [show a / b + 1 - 1 = a / b by omega, show a % b - b + b = a % b by omega]
    exact h
theorem half_up (x b : Int) (hb : 0 < b) : (2 * x + b) / (2 * b) = if b ≤ 2 * (x % b) then x / b + 1 else x / b := by
  have h0 := Int.emod_nonneg x (show b ≠ 0 by omega)
  have h1 := Int.emod_lt_of_pos x hb
  have h2 := Int.emod_add_mul_ediv x b
  have e : 2 * x + b = (2 * (x % b) + b) + 2 * b * (x / b) := by
    rw [Int.mul_assoc]; omega
  rw [e, Int.add_mul_ediv_left _ _ (show 2 * b ≠ 0 by omega)]
  split
  · rw [show (2 * (x % b) + b) / (2 * b) = 1 by
      rw [show 2 * (x % b) + b = (2 * (x % b) - b) + 2 * b * 1 by omega, Int.add_mul_ediv_left _ _ (show 2 * b ≠ 0 by omega), Int.ediv_eq_zero_of_lt (by omega) (by omega)]; rfl]
    omega
  · rw [Int.ediv_eq_zero_of_lt (by omega) (by omega)]; omega
theorem wwithin_l5 (l : List Int) (wd : Int) (hw : 0 ≤ wd ∧ wd ≤ 1073741824) (K0 : Bool → Prop) (K1 : Prop) (hl : l.length ≤ 1000000) : ∀ (n i : Nat), i + n = l.length →
    (if (l.drop i).all (inB (-wd) wd) = true then K1 else K0 false) → ∃ q, window_within_l5 q wd l l.length i K0 K1 := by
  have e0 : isub .i64 0 wd = -wd := by rw [isub64 (by omega)]; omega
  intro n
  induction n with
  | zero =>
    intro i hi h
    refine ⟨1, ?_⟩
    rw [List.drop_eq_nil_of_le (by omega)] at h
    simp only [window_within_l5, br_dec]
    rw [if_neg (by omega)]
    simpa using h
  | succ n ih =>
    intro i hi h
    rw [drop_cons 0 (by omega), List.all_cons] at h
    by_cases hx : inB (-wd) wd (l.getD i 0) = true
    · obtain ⟨q, hq⟩ := ih (i + 1) (by omega) (by rw [hx, Bool.true_and] at h; exact h)
      refine ⟨q + 1, ?_⟩
      unfold inB at hx
      rw [decide_eq_true_eq] at hx
      simp only [window_within_l5, br_dec, br_and, Int.toNat_natCast, e0]
      rw [if_pos (by omega), if_pos (by omega), if_pos (by omega), if_neg (by omega), if_neg (by omega), iadd64 (by omega)]
      exact hq
    · refine ⟨1, ?_⟩
      have h : K0 false := by rw [Bool.eq_false_iff.2 hx, Bool.false_and] at h; exact h
      unfold inB at hx
      rw [decide_eq_true_eq] at hx
      simp only [window_within_l5, br_dec, br_and, Int.toNat_natCast, e0]
      rw [if_pos (by omega), if_pos (by omega), if_pos (by omega)]
      split
      · exact h
      · rw [if_pos (by omega)]
        exact h
theorem wwithin_spec (l : List Int) (more : Nat) (wd : Int) (hw : 0 ≤ wd ∧ wd ≤ 1073741824) (hm : more ≤ 100) (K0 : Bool → Prop) (hl : l.length ≤ 1000000)
    (h : K0 (decide (l.length = 64 + more ∨ l.length = 8 + more) && l.all (inB (-wd) wd))) : window_within l more wd K0 := by
  rw [window_within_def]
  have e0 : isub .i64 (l.length : Int) (more : Int) = (l.length : Int) - more := isub64 (by omega)
  have fin : l.length = 64 + more ∨ l.length = 8 + more → window_within_j4 l wd K0 := by
    intro hc
    rw [decide_eq_true hc, Bool.true_and] at h
    refine wwithin_l5 l wd hw K0 _ hl l.length 0 (by omega) ?_
    rw [List.drop_zero]
    split
    · rename_i e; rw [e] at h; exact h
    · rename_i e; rw [Bool.eq_false_iff.2 e] at h; exact h
  simp only [e0, br_not, br_dec]
  split
  · exact fin (by omega)
  split
  · exact fin (by omega)
  · rw [decide_eq_false (by omega), Bool.false_and] at h
    exact h

def slp : List Int := [494, 4325, 11207, 19363, 26435, 30792, 32481, 32764]
def sl (i : Nat) : Int := slp.getD i 0
theorem eqTab (l : List Int) : l = tab l.length fun i => l.getD i 0 := by
  apply List.ext_getElem (by simp [tab])
  intro i h1 h2
  simp [tab, List.getD, List.getElem?_eq_getElem h1]
def leftL (f : Nat → Int) : List Int := [imul .i64 494 (f 3), imul .i64 4325 (f 2), imul .i64 11207 (f 1), imul .i64 19363 (f 0), imul .i64 26435 (f 0), imul .i64 30792 (f 1), imul .i64 32481 (f 2), imul .i64 32764 (f 3)]
def rightL (n : Nat) (f : Nat → Int) : List Int := [imul .i64 32764 (f (n - 4)), imul .i64 32481 (f (n - 3)), imul .i64 30792 (f (n - 2)), imul .i64 26435 (f (n - 1)), imul .i64 (-19363) (f (n - 1)), imul .i64 (-11207) (f (n - 2)), imul .i64 (-4325) (f (n - 3)), imul .i64 (-494) (f (n - 4))]
theorem left8 (f : Nat → Int) (m4 : List Int) (K : List Int → List Int → Prop) : window_Left_l6 5 (tab 8 f) 0 m4 (List.replicate 8 0) slp K = K m4 (leftL f) := by kernel_rfl
theorem left64 (f : Nat → Int) (m4 : List Int) (K : List Int → List Int → Prop) : window_Left_l6 5 (tab 64 f) 0 m4 (List.replicate 8 0) slp K = K m4 (leftL f) := by kernel_rfl
theorem right8 (f : Nat → Int) (m4 : List Int) (K : List Int → List Int → Prop) : window_Right_l6 5 (tab 8 f) 0 m4 (List.replicate 8 0) slp K = K m4 (rightL 8 f) := by kernel_rfl
theorem right64 (f : Nat → Int) (m4 : List Int) (K : List Int → List Int → Prop) : window_Right_l6 5 (tab 64 f) 0 m4 (List.replicate 8 0) slp K = K m4 (rightL 64 f) := by kernel_rfl
def blockB (u : List Int) : Bool := decide (u.length = 64 ∨ u.length = 8) && u.all (inB (-1073741824) 1073741824)
def leftV (u : List Int) : List Int := if blockB u = true then leftL (fun i => u.getD i 0) else List.replicate 8 0
def rightV (u : List Int) : List Int := if blockB u = true then rightL u.length (fun i => u.getD i 0) else List.replicate 8 0
theorem blockB_len {u : List Int} (h : blockB u = true) : u.length = 64 ∨ u.length = 8 := by
  unfold blockB at h
  rw [Bool.and_eq_true, decide_eq_true_eq] at h
  exact h.1
theorem wleft_spec (u : List Int) (K : List Int → Prop) (hl : u.length ≤ 1000000) (h : K (leftV u)) : window_Left u K := by
  rw [window_Left_def]
  refine wwithin_spec u 0 1073741824 (by decide) (by decide) _ hl ?_
  show Br (!blockB u) _ _
  unfold leftV at h
  rw [br_not]
  refine br_of (fun hb => ?_) (fun hb => ?_)
  · rw [if_pos hb] at h
    rw [window_Slope_def]
    refine ⟨5, ?_⟩
    show window_Left_l6 5 u 0 _ (List.replicate 8 0) slp _
    have e := eqTab u
    rcases blockB_len hb with hn | hn <;> rw [hn] at e <;> rw [e]
    · rw [left64]; exact h
    · rw [left8]; exact h
  · rw [if_neg (by rw [hb]; simp)] at h; exact h
theorem wright_spec (u : List Int) (K : List Int → Prop) (hl : u.length ≤ 1000000) (h : K (rightV u)) : window_Right u K := by
  rw [window_Right_def]
  refine wwithin_spec u 0 1073741824 (by decide) (by decide) _ hl ?_
  show Br (!blockB u) _ _
  unfold rightV at h
  rw [br_not]
  refine br_of (fun hb => ?_) (fun hb => ?_)
  · rw [if_pos hb] at h
    rw [window_Slope_def]
    refine ⟨5, ?_⟩
    show window_Right_l6 5 u 0 _ (List.replicate 8 0) slp _
    have e := eqTab u
    rcases blockB_len hb with hn | hn <;> rw [hn] at e h <;> rw [e]
    · rw [right64]; exact h
    · rw [right8]; exact h
  · rw [if_neg (by rw [hb]; simp)] at h; exact h
def metB (x y : Int) : Prop := (-70368744177664 ≤ x ∧ x ≤ 70368744177664) ∧ -70368744177664 ≤ y ∧ y ≤ 70368744177664
instance (x y : Int) : Decidable (metB x y) := by unfold metB; infer_instance
def metF (a b : List Int) (j : Nat) : Int := if metB (a.getD j 0) (b.getD j 0) then shrV (a.getD j 0 + b.getD j 0) 15 else 0
theorem fillT_skip {α : Type} (n i : Nat) (d : α) (f : Nat → α) (h : f i = d) : fillT n i d f = fillT n (i + 1) d f := by
  refine tab_congr fun j _ => ?_
  by_cases hj : j < i
  · rw [if_pos hj, if_pos (by omega)]
  · by_cases e : j = i
    · subst e; rw [if_neg (by omega), if_pos (by omega), h]
    · rw [if_neg hj, if_neg (by omega)]
theorem meet_l3 (a b m5 : List Int) (ha : a.length = 8) (hb : b.length = 8) (K : List Int → List Int → Prop) (h : K m5 (tab 8 (metF a b))) : ∀ n i : Nat, i + n = 8 → ∃ q, window_Meet_l3 q i a b m5 (fillT 8 i 0 (metF a b)) K := by
  intro n
  induction n with
  | zero =>
    intro i hi
    refine ⟨1, ?_⟩
    have hi : i = 8 := by omega
    subst hi
    simp only [window_Meet_l3, br_dec]
    rw [if_neg (by omega), fillT_full]; exact h
  | succ n ih =>
    intro i hi
    obtain ⟨q, hq⟩ := ih (i + 1) (by omega)
    refine ⟨q + 1, ?_⟩
    simp (maxSteps := 2000000) only [window_Meet_l3, window_Meet_j6, br_dec, br_and, br_false, Int.toNat_natCast, fillT_length, imin_eq', imax_eq', i64_succ i (by omega)]
    by_cases hm : metB (a.getD i 0) (b.getD i 0)
    · have hs := fillT_set 8 i 0 (metF a b)
      rw [show metF a b i = shrV (a.getD i 0 + b.getD i 0) 15 by unfold metF; rw [if_pos hm]] at hs
      unfold metB at hm
      repeat rw [if_pos (by omega)]
      rw [iadd64 (by omega)]
      refine shr_spec _ _ _ ?_
      rw [if_pos (by omega), if_pos (by omega), if_pos (by omega), hs]
      exact hq
    · rw [← fillT_skip 8 i 0 (metF a b) (by unfold metF; rw [if_neg hm])] at hq
      unfold metB at hm
      rw [if_pos (by omega), if_pos (by omega), if_pos (by omega), if_pos (by omega), if_pos (by omega), if_pos (by omega), if_pos (by omega)]
      by_cases hc : -70368744177664 ≤ min (a.getD i 0) (b.getD i 0)
      · rw [if_pos hc, if_pos (by omega), if_pos (by omega), if_pos (by omega), if_pos (by omega), if_pos (by omega), if_pos (by omega), if_neg (by omega)]
        exact hq
      · rw [if_neg hc]; exact hq
theorem eqv_self (l : List Int) : eqv (.arr 8 (.int .i64)) l l = true := by simp [eqv]
theorem meet_spec (a b : List Int) (ha : a.length = 8) (hb : b.length = 8) (K : List Int → Prop) (h : K (tab 8 (metF a b))) : window_Meet a b K := by
  rw [window_Meet_def]
  have := meet_l3 a b (List.replicate 8 0) ha hb (fun _ m => K m) h 8 0 rfl
  rw [fillT_zero] at this
  exact this
def qt : List Int := [16777216, 16775953, 16772163, 16765847, 16757007, 16745643, 16731757, 16715352, 16696429, 16674992, 16651044, 16624588, 16595628, 16564169, 16530216, 16493773, 16454846, 16413442, 16369565, 16323224, 16274424, 16223173, 16169479, 16113350, 16054795, 15993821, 15930439, 15864658, 15796488, 15725939, 15653022, 15577747, 15500126, 15420172, 15337895, 15253308, 15166424, 15077256, 14985817, 14892122, 14796184, 14698017, 14597637, 14495059, 14390298, 14283370, 14174291, 14063077, 13949745, 13834313, 13716797, 13597215, 13475586, 13351928, 13226258, 13098597, 12968963, 12837376, 12703856, 12568423, 12431097, 12291899, 12150850, 12007971, 11863283, 11716809, 11568571, 11418590, 11266890, 11113493, 10958422, 10801701, 10643353, 10483403, 10321873, 10158790, 9994176, 9828057, 9660458, 9491405, 9320922, 9149035, 8975771, 8801154, 8625213, 8447972, 8269459, 8089701, 7908725, 7726557, 7543226, 7358759, 7173184, 6986529, 6798821, 6610090, 6420363, 6229669, 6038037, 5845495, 5652074, 5457801, 5262706, 5066819, 4870169, 4672785, 4474698, 4275936, 4076531, 3876512, 3675909, 3474752, 3273072, 3070900, 2868265, 2665197, 2461729, 2257890, 2053710, 1849222, 1644455, 1439440, 1234209, 1028791, 823219, 617523, 411733, 205882, 0]
/-- The cosine of m parts of 512. -/
def cosQ (m : Nat) : Int := if 128 < m then -(qt.getD (256 - m) 0) else qt.getD m 0
def cosM (m : Nat) : Int := if 256 < m then cosQ (512 - m) else cosQ m
def cosT : List Int := tab 512 cosM
theorem qt_bound : ∀ j, j < 129 → -16777216 ≤ qt.getD j 0 ∧ qt.getD j 0 ≤ 16777216 := by decide +kernel
theorem gset (l : List Int) (i j : Nat) (a : Int) (hi : i < l.length) : (l.set i a).getD j 0 = if i = j then a else l.getD j 0 := by
  simp only [List.getD_eq_getElem?_getD, List.getElem?_set]
  split
  · rename_i e; subst e; simp [hi]
  · rfl
theorem qt128 : qt.getD 128 0 = 0 := by decide
theorem make_l3 (K0 : List Int → Prop) (h : K0 cosT) : ∀ (n v : Nat) (m : List Int), v + n = 129 → m.length = 512 →
    (∀ j, j < 512 → (∃ k, k < v ∧ (j = k ∨ j = 256 - k ∨ j = (256 + k) % 512 ∨ j = (512 - k) % 512)) → m.getD j 0 = cosM j) → ∃ q, trig_Make_l3 q v m qt K0 := by
  intro n
  induction n with
  | zero =>
    intro v m hv hm hj
    refine ⟨1, ?_⟩
    simp only [trig_Make_l3, br_dec]
    rw [if_neg (by omega)]
    have : m = cosT := by
      rw [eq_tab 0 hm]
      unfold cosT tab
      apply List.map_congr_left
      intro j hj'
      rw [List.mem_range] at hj'
      refine hj j hj' ?_
      by_cases h1 : j ≤ 128
      · exact ⟨j, by omega, .inl rfl⟩
      · by_cases h2 : j ≤ 256
        · exact ⟨256 - j, by omega, .inr (.inl (by omega))⟩
        · by_cases h3 : j ≤ 384
          · exact ⟨j - 256, by omega, .inr (.inr (.inl (by omega)))⟩
          · exact ⟨512 - j, by omega, .inr (.inr (.inr (by omega)))⟩
    rw [this]; exact h
  | succ n ih =>
    intro v m hv hm hj
    have hq : qt.length = 129 := rfl
    have hb := qt_bound v (by omega)
    have e1 : isub .i64 256 (v : Int) = ((256 - v : Nat) : Int) := by rw [isub64 (by omega)]; omega
    have e2 : irem .i64 (iadd .i64 256 (v : Int)) 512 = (((256 + v) % 512 : Nat) : Int) := by
      rw [iadd64 (by omega)]
      show ((256 + (v : Int)).tmod 512) = _
      rw [Int.tmod_eq_emod_of_nonneg (by omega)]; omega
    have e3 : irem .i64 (isub .i64 512 (v : Int)) 512 = (((512 - v) % 512 : Nat) : Int) := by
      rw [isub64 (by omega)]
      show ((512 - (v : Int)).tmod 512) = _
      rw [Int.tmod_eq_emod_of_nonneg (by omega)]; omega
    have e4 : iadd .i64 (v : Int) 1 = ((v + 1 : Nat) : Int) := by rw [iadd64 (by omega)]; omega
    have e5 : isub .i64 0 (qt.getD v 0) = -(qt.getD v 0) := by rw [isub64 (by omega)]; omega
    obtain ⟨q, hq'⟩ := ih (v + 1) ((((m.set v (qt.getD v 0)).set (256 - v) (-(qt.getD v 0))).set ((256 + v) % 512) (-(qt.getD v 0))).set ((512 - v) % 512) (qt.getD v 0)) (by omega) (by simp [hm]) (by
      intro j hj' ⟨k, hk, hjk⟩
      have hz : v = 128 → qt.getD v 0 = 0 := fun e => by rw [e]; exact qt128
      rw [gset _ _ _ _ (by simp [hm]; omega), gset _ _ _ _ (by simp [hm]; omega), gset _ _ _ _ (by simp [hm]; omega), gset _ _ _ _ (by rw [hm]; omega)]
      unfold cosM cosQ at *
      split
      · rename_i e
        by_cases h0 : v = 0
        · rw [if_neg (by omega), if_neg (by omega), show j = v by omega]
        · rw [if_pos (by omega), if_neg (by omega), show 512 - j = v by omega]
      split
      · rename_i e
        by_cases h0 : v = 0
        · rw [if_neg (by omega), if_pos (by omega), show 256 - j = v by omega]
        · rw [if_pos (by omega)]
          by_cases h1 : v = 128
          · rw [if_neg (by omega), show 512 - j = v by omega, hz h1]; rfl
          · rw [if_pos (by omega), show 256 - (512 - j) = v by omega]
      split
      · rename_i e
        rw [if_neg (by omega)]
        by_cases h1 : v = 128
        · rw [if_neg (by omega), show j = v by omega, hz h1]; rfl
        · rw [if_pos (by omega), show 256 - j = v by omega]
      split
      · rename_i e
        rw [if_neg (by omega), if_neg (by omega), e]
      · refine hj j hj' ⟨k, ?_, hjk⟩
        apply Classical.byContradiction
        intro hkv
        have : k = v := by omega
        subst this
        omega)
    refine ⟨q + 1, ?_⟩
    simp only [trig_Make_l3, br_dec, br_and, e1, e2, e3, e4, e5, Int.toNat_natCast, List.length_set]
    rw [if_pos (by omega), if_pos (by omega), if_pos (by omega), if_pos (by omega), if_pos (by omega), if_pos (by omega), if_pos (by omega), if_pos (by omega), if_pos (by omega), if_pos (by omega), if_pos (by omega), if_pos (by omega), if_pos (by omega), if_pos (by omega), if_pos (by omega), if_pos (by omega), if_pos (by omega), if_pos (by omega), if_pos (by omega), if_pos (by omega), if_pos (by omega), if_pos (by omega), if_pos (by omega), if_pos (by omega), if_pos (by omega)]
    exact hq'
theorem make_spec (K0 : List Int → Prop) (h : K0 cosT) : trig_Make K0 := by
  rw [trig_Make_def]; rw [trig_first_def]
  exact make_l3 K0 h 129 0 _ rfl (by simp) (fun j _ ⟨k, hk, _⟩ => by omega)
theorem iand511 (k : Int) : iand .i64 k 511 = k % 512 := by
  unfold iand
  have e1 : (BitVec.ofInt IntKind.i64.bits 511).toNat = 511 := by decide
  rw [BitVec.toNat_and, e1, show (511 : Nat) = 2 ^ 9 - 1 from rfl, Nat.and_two_pow_sub_one_eq_mod, BitVec.toNat_ofInt]
  have e2 : (((2 ^ IntKind.i64.bits : Nat) : Int)) = 18446744073709551616 := by decide
  rw [e2]
  have h1 := Int.emod_nonneg k (show (18446744073709551616 : Int) ≠ 0 by decide)
  rw [Go.IntWalk.i64_in _ (by omega)]
  omega
def cosV (k : Int) : Int := if k < -1152921504606846976 ∨ 1152921504606846976 < k then 0 else cosM (k % 512).toNat
def sinV (k : Int) : Int := if k < -1152921504606846976 ∨ 1152921504606846976 < k then 0 else cosV (k % 512 - 128)
theorem cosT_get (m : Nat) (h : m < 512) : cosT.getD m 0 = cosM m := by
  simp [cosT, tab, List.getD, List.getElem?_map, List.getElem?_range h]
theorem cos_spec (k : Int) (K0 : Int → Prop) (h : K0 (cosV k)) : trig_Table__Cos cosT k K0 := by
  rw [trig_Table__Cos_def]
  unfold cosV at h
  simp only [br_dec, br_and, iand511]
  split
  · rw [if_pos (by omega)] at h; exact h
  split
  · rw [if_pos (by omega)] at h; exact h
  rw [if_neg (by omega)] at h
  rw [if_pos (by omega), if_pos (by omega), cosT_get _ (by omega)]
  exact h
theorem cosM_bound (m : Nat) (h : m < 512) : -16777216 ≤ cosM m ∧ cosM m ≤ 16777216 := by
  unfold cosM cosQ
  split
  · split
    · have := qt_bound (256 - (512 - m)) (by omega); omega
    · exact qt_bound (512 - m) (by omega)
  · split
    · have := qt_bound (256 - m) (by omega); omega
    · exact qt_bound m (by omega)
theorem cosV_bound (k : Int) : -16777216 ≤ cosV k ∧ cosV k ≤ 16777216 := by
  unfold cosV
  split
  · omega
  · exact cosM_bound _ (by omega)
theorem rmake_l4 (K0 : List Int → Prop) (h : K0 cosT) : ∀ (n k : Nat), k + n = 512 → ∃ q, R07_Make_l4 q k qt (cosT.take k) K0 := by
  have hq : qt.length = 129 := rfl
  have hl : cosT.length = 512 := by simp [cosT, tab]
  intro n
  induction n with
  | zero =>
    intro k hk
    refine ⟨1, ?_⟩
    simp only [R07_Make_l4, br_dec]
    rw [if_neg (by omega), List.take_of_length_le (by omega)]
    exact h
  | succ n ih =>
    intro k hk
    obtain ⟨q, hq'⟩ := ih (k + 1) (by omega)
    have hel : cosT[k]'(by omega) = cosM k := by simp [cosT, tab]
    rw [List.take_succ_eq_append_getElem (by omega), hel] at hq'
    have e6 : iadd .i64 (k : Int) 1 = ((k + 1 : Nat) : Int) := by rw [iadd64 (by omega)]; omega
    have e1 : imin (k : Int) (isub .i64 512 (k : Int)) = ((min k (512 - k) : Nat) : Int) := by rw [isub64 (by omega), imin_eq']; omega
    have e2 : cosM k = cosQ (min k (512 - k)) := by
      unfold cosM
      split
      · rw [show min k (512 - k) = 512 - k by omega]
      · rw [show min k (512 - k) = k by omega]
    rw [e2] at hq'
    have hcap : ∀ z : List Int, z.length = 1 → ((List.take k cosT).length + z.length) * 8 ≤ 140737488355328 := by
      intro z hz; rw [List.length_take, hz]; omega
    generalize hm : min k (512 - k) = m at *
    have hm2 : m ≤ 256 := by omega
    refine ⟨q + 1, ?_⟩
    unfold cosQ at hq'
    simp only [R07_Make_l4, br_dec, br_and, e1, e6, Int.toNat_natCast]
    rw [if_pos (by omega)]
    split
    · rw [if_pos (by omega)] at hq'
      have e3 : isub .i64 256 (m : Int) = ((256 - m : Nat) : Int) := by rw [isub64 (by omega)]; omega
      have hb := qt_bound (256 - m) (by omega)
      rw [e3, Int.toNat_natCast, if_pos (by omega), if_pos (by omega), if_pos (by omega), if_pos (hcap _ rfl), isub64 (by omega), Int.zero_sub]
      exact hq'
    · rw [if_neg (by omega)] at hq'
      rw [if_pos (by omega), if_pos (by omega), if_pos (by omega), if_pos (hcap _ rfl)]
      exact hq'
theorem rmake_spec (K0 : List Int → Prop) (h : K0 cosT) : R07_Make K0 := by
  rw [R07_Make_def]; rw [R07_quarter_def]
  exact rmake_l4 K0 h 512 0 rfl
/-- The sum of the first n. -/
def sm (f : Nat → Int) : Nat → Int
  | 0 => 0
  | n + 1 => sm f n + f n
/-- The cosine of the i-th angle of wave k, of n. -/
def cg (n k i : Nat) : Int := cosM (64 / n * (2 * k + 1) * (2 * i + 1) % 512)
def dsum (u : List Int) (k : Nat) : Int := sm (fun i => u.getD i 0 * cg u.length k i) u.length
def fourV (u : List Int) (s : Int) : List Int := tab u.length fun k => shrV (dsum u k) s
abbrev sized (u : List Int) : Prop := u.length = 64 ∨ u.length = 8
def rightB (w : Int) (u : List Int) : Bool := decide (sized u) && u.all (inB (-w) w)

theorem cg_bound (n k i : Nat) : -16777216 ≤ cg n k i ∧ cg n k i ≤ 16777216 := cosM_bound _ (Nat.mod_lt _ (by decide))
theorem mul25 (a c : Int) (ha : -33554432 ≤ a ∧ a ≤ 33554432) (hc : -16777216 ≤ c ∧ c ≤ 16777216) : -562949953421312 ≤ a * c ∧ a * c ≤ 562949953421312 := by
  have h3 : (a * c).natAbs ≤ 33554432 * 16777216 := by rw [Int.natAbs_mul]; exact Nat.mul_le_mul (by omega) (by omega)
  omega
theorem sm_bound {f : Nat → Int} {B : Int} : ∀ n, (∀ i, i < n → -B ≤ f i ∧ f i ≤ B) → -(n * B) ≤ sm f n ∧ sm f n ≤ n * B
  | 0, _ => by simp [sm]
  | n + 1, h => by
    have h1 := sm_bound n fun i hi => h i (by omega)
    have h2 := h n (by omega)
    simp only [sm]
    have e : ((n + 1 : Nat) : Int) * B = n * B + B := by rw [Int.natCast_add, Int.add_mul]; simp
    rw [e]; omega
theorem right_at {w : Int} {u : List Int} (h : rightB w u = true) {i : Nat} (hi : i < u.length) : -w ≤ u.getD i 0 ∧ u.getD i 0 ≤ w := by
  simp only [rightB, Bool.and_eq_true] at h
  have := all_getD h.2 hi
  simpa [inB] using this
theorem right_sz {w : Int} {u : List Int} (h : rightB w u = true) : sized u := by
  simp only [rightB, Bool.and_eq_true] at h
  exact of_decide_eq_true h.1
theorem psum_bound {u : List Int} (h : rightB 33554432 u = true) (k n : Nat) (hn : n ≤ u.length) : -36028797018963968 ≤ sm (fun i => u.getD i 0 * cg u.length k i) n ∧ sm (fun i => u.getD i 0 * cg u.length k i) n ≤ 36028797018963968 := by
  have h1 := sm_bound (f := fun i => u.getD i 0 * cg u.length k i) n fun i hi => mul25 _ _ (right_at h (by omega)) (cg_bound _ _ _)
  have hs := right_sz h
  unfold sized at hs
  have h2 : ((n : Nat) : Int) * 562949953421312 ≤ 64 * 562949953421312 := by omega
  omega

/-! ### Angles -/
theorem iquo_n {u : List Int} (h : sized u) : iquo .i64 64 (u.length : Int) = ((64 / u.length : Nat) : Int) := by
  rcases h with h | h <;> rw [h] <;> decide
theorem step_bound {u : List Int} (h : sized u) {k : Nat} (hk : k < u.length) : 64 / u.length * (2 * k + 1) ≤ 128 := by
  rcases h with h | h <;> rw [h] at hk ⊢ <;> omega
theorem at_bound {u : List Int} (h : sized u) {k i : Nat} (hk : k < u.length) (hi : i ≤ u.length) : 64 / u.length * (2 * k + 1) * (2 * i + 1) ≤ 16512 := by
  have h1 := step_bound h hk
  have h2 : 2 * i + 1 ≤ 129 := by rcases h with h | h <;> omega
  exact Nat.mul_le_mul h1 h2
theorem step_eq {u : List Int} (h : sized u) {k : Nat} (hk : k < u.length) : imul .i64 (iquo .i64 64 (u.length : Int)) (iadd .i64 (imul .i64 2 (k : Int)) 1) = ((64 / u.length * (2 * k + 1) : Nat) : Int) := by
  have hk' : k < 64 := by rcases h with h | h <;> omega
  rw [iquo_n h, imul64 (a := 2) (by omega), iadd64 (by omega)]
  have e : (((64 / u.length : Nat) : Int) * (2 * (k : Int) + 1)) = ((64 / u.length * (2 * k + 1) : Nat) : Int) := by
    rw [Int.natCast_mul]; congr 1
  have := step_bound h hk
  rw [imul64 (by rw [e]; omega), e]

/-- A range over the angles. -/
theorem angles_l3 {S : Type} (rd : (Int × Int × Unit) → S → (Bool → S → Prop) → Prop) (u : List Int) (hs : sized u) (k : Nat) (hk : k < u.length) (f : Nat → S) (K0 : S → Prop)
    (hrd : ∀ i, i < u.length → ∀ Kb : Bool → S → Prop, Kb true (f (i + 1)) → rd (u.getD i 0, ((64 / u.length * (2 * k + 1) * (2 * i + 1) : Nat) : Int), ()) (f i) Kb) (h : K0 (f u.length)) :
    ∀ n i, i + n = u.length → ∃ q, It_dct_angles_1_l3 S rd q ((64 / u.length * (2 * k + 1) : Nat) : Int) ((64 / u.length * (2 * k + 1) * (2 * i + 1) : Nat) : Int) u (u.length : Int) (i : Int) (f i) K0 K0 := by
  intro n
  have hl : u.length ≤ 64 := by rcases hs with hs | hs <;> omega
  induction n with
  | zero =>
    intro i hi
    refine ⟨1, ?_⟩
    simp only [It_dct_angles_1_l3, br_dec]
    rw [if_neg (by omega), show i = u.length by omega]
    exact h
  | succ n ih =>
    intro i hi
    obtain ⟨q, hq⟩ := ih (i + 1) (by omega)
    refine ⟨q + 1, ?_⟩
    have h1 := step_bound hs hk
    have h2 := at_bound hs hk (i := i) (by omega)
    simp only [It_dct_angles_1_l3, br_dec, br_and, Int.toNat_natCast]
    rw [if_pos (by omega), if_pos (by omega), if_pos (by omega)]
    refine hrd i (by omega) _ ?_
    show It_dct_angles_1_l3 S rd q _ _ u _ _ _ K0 K0
    rw [imul64 (a := 2) (by omega), iadd64 (by omega), i64_succ i (by omega)]
    have e : (((64 / u.length * (2 * k + 1) * (2 * i + 1) : Nat) : Int) + 2 * ((64 / u.length * (2 * k + 1) : Nat) : Int)) = ((64 / u.length * (2 * k + 1) * (2 * (i + 1) + 1) : Nat) : Int) := by
      generalize 64 / u.length * (2 * k + 1) = P
      have e2 : P * (2 * (i + 1) + 1) = P * (2 * i + 1) + 2 * P := by rw [show 2 * (i + 1) + 1 = (2 * i + 1) + 2 by omega, Nat.mul_add]; omega
      rw [e2, Int.natCast_add]
      generalize P * (2 * i + 1) = Q
      omega
    rw [e]
    exact hq
theorem angles_spec {S : Type} (rd : (Int × Int × Unit) → S → (Bool → S → Prop) → Prop) (u : List Int) (hs : sized u) (k : Nat) (hk : k < u.length) (f : Nat → S) (K0 : S → Prop)
    (hrd : ∀ i, i < u.length → ∀ Kb : Bool → S → Prop, Kb true (f (i + 1)) → rd (u.getD i 0, ((64 / u.length * (2 * k + 1) * (2 * i + 1) : Nat) : Int), ()) (f i) Kb) (h : K0 (f u.length)) :
    It_dct_angles_1 u (k : Int) S rd (f 0) K0 := by
  rw [It_dct_angles_1_def, br_dec, if_neg (by rcases hs with hs | hs <;> omega)]
  show ∃ q, It_dct_angles_1_l3 S rd q _ _ u _ 0 (f 0) K0 K0
  rw [step_eq hs hk]
  have := angles_l3 rd u hs k hk f K0 hrd h u.length 0 (by omega)
  simpa using this

theorem cosV_at {u : List Int} (hs : sized u) {k i : Nat} (hk : k < u.length) (hi : i < u.length) : cosV ((64 / u.length * (2 * k + 1) * (2 * i + 1) : Nat) : Int) = cg u.length k i := by
  have h2 := at_bound hs hk (i := i) (by omega)
  unfold cosV cg
  rw [if_neg (by omega)]
  congr 1

theorem shifted_r7 {u : List Int} (hr : rightB 33554432 u = true) {k : Nat} (hk : k < u.length) (by_ v6 v7 : Int) (m5 : List Int) (K0 : List Int → Int → Int → Int → Int → List Int → List Int → Int → Prop)
    (h : K0 u by_ (k : Int) v6 v7 cosT m5 (dsum u k)) : dct_shifted_r7 u (k : Int) u by_ (k : Int) v6 v7 cosT m5 0 K0 := by
  have hs := right_sz hr
  unfold dct_shifted_r7
  refine angles_spec _ u hs k hk (fun i => (Rs.go ((u, by_, (k : Int), v6, v7, ()), (cosT, m5, sm (fun i => u.getD i 0 * cg u.length k i) i, ())) : Rs (((List Int) × Int × Int × Int × Int × Unit) × ((List Int) × (List Int) × Int × Unit)) Empty)) _ (fun i hi Kb hKb => ?_) ?_
  rotate_left
  · exact h
  simp only [Rs.on, dct_shifted_r7b]
  refine cos_spec _ _ ?_
  rw [cosV_at hs hk hi]
  have h1 := mul25 _ _ (right_at hr hi) (cg_bound u.length k i)
  have h2 := psum_bound hr k i (by omega)
  rw [imul64 (by omega), iadd64 (by omega)]
  exact hKb

theorem shifted_l3 {u : List Int} (hr : rightB 33554432 u = true) (by_ : Int) (K0 : List Int → Prop) (h : K0 (fourV u by_)) : ∀ n k, k + n = u.length →
    ∃ q, dct_shifted_l3 q u by_ (u.length : Int) (k : Int) cosT (fillT u.length k 0 fun k => shrV (dsum u k) by_) K0 := by
  intro n
  have hl : u.length ≤ 64 := by rcases right_sz hr with hs | hs <;> omega
  induction n with
  | zero =>
    intro k hk
    refine ⟨1, ?_⟩
    simp only [dct_shifted_l3, br_dec]
    rw [if_neg (by omega), show k = u.length by omega, fillT_full]
    exact h
  | succ n ih =>
    intro k hk
    obtain ⟨q, hq⟩ := ih (k + 1) (by omega)
    refine ⟨q + 1, ?_⟩
    simp only [dct_shifted_l3, br_dec, br_and, Int.toNat_natCast]
    rw [if_pos (by omega), dct_angles_def]
    refine shifted_r7 hr (by omega) _ _ _ _ _ (shr_spec _ _ _ ?_)
    rw [Int.toNat_natCast, fillT_length, if_pos (by omega), if_pos (by omega), if_pos (by omega), fillT_set, i64_succ k (by omega)]
    exact hq
theorem shifted_spec {u : List Int} (hr : rightB 33554432 u = true) (by_ : Int) (K0 : List Int → Prop) (h : K0 (fourV u by_)) : dct_shifted cosT u by_ K0 := by
  have hl : u.length ≤ 64 := by rcases right_sz hr with hs | hs <;> omega
  rw [dct_shifted_def]
  simp only [br_dec, br_and, Int.toNat_natCast, List.length_replicate]
  rw [if_pos (by omega), if_pos (by omega), if_pos (by omega)]
  have := shifted_l3 hr by_ K0 h u.length 0 (by omega)
  rw [fillT_zero] at this
  exact this

/-! ### What is a block -/
theorem right_l4 (w : Int) (hw : 0 ≤ w ∧ w ≤ 1000000000) (u : List Int) (hl : u.length ≤ 64) (K0 : Bool → Prop) (K1 : Prop) : ∀ n i, i + n = u.length → (if (u.drop i).all (inB (-w) w) then K1 else K0 false) →
    ∃ q, dct_right_l4 q w u (u.length : Int) (i : Int) K0 K1 := by
  intro n
  induction n with
  | zero =>
    intro i hi h
    refine ⟨1, ?_⟩
    simp only [dct_right_l4, br_dec]
    rw [if_neg (by omega)]
    rw [List.drop_eq_nil_of_le (by omega)] at h
    simpa using h
  | succ n ih =>
    intro i hi h
    rw [drop_cons (0 : Int) (show i < u.length by omega), List.all_cons] at h
    by_cases hx : inB (-w) w (u.getD i 0) = true
    · rw [hx, Bool.true_and] at h
      obtain ⟨q, hq⟩ := ih (i + 1) (by omega) h
      refine ⟨q + 1, ?_⟩
      have hx' : -w ≤ u.getD i 0 ∧ u.getD i 0 ≤ w := by simpa [inB] using hx
      simp only [dct_right_l4, br_dec, br_and, Int.toNat_natCast]
      rw [if_pos (by omega), if_pos (by omega), if_pos (by omega), isub64 (by omega), if_neg (by omega), if_neg (by omega), i64_succ i (by omega)]
      exact hq
    · refine ⟨1, ?_⟩
      have hx' : ¬ (-w ≤ u.getD i 0 ∧ u.getD i 0 ≤ w) := by simpa [inB] using hx
      rw [Bool.eq_false_iff.2 hx, Bool.false_and] at h
      simp only [dct_right_l4, br_dec, br_and, Int.toNat_natCast]
      rw [if_pos (by omega), if_pos (by omega), if_pos (by omega), isub64 (by omega)]
      by_cases h1 : u.getD i 0 < 0 - w
      · rw [if_pos h1]; simpa using h
      · rw [if_neg h1, if_pos (by omega)]; simpa using h
theorem right_j3 (w : Int) (hw : 0 ≤ w ∧ w ≤ 1000000000) (u : List Int) (hs : sized u) (K0 : Bool → Prop) (h : K0 (rightB w u)) : dct_right_j3 u w K0 := by
  unfold dct_right_j3
  have hl : u.length ≤ 64 := by rcases hs with hs | hs <;> omega
  have e : rightB w u = u.all (inB (-w) w) := by simp [rightB, hs]
  rw [e] at h
  refine right_l4 w hw u hl K0 _ u.length 0 (by omega) ?_
  rw [List.drop_zero]
  split
  · rename_i e; rw [e] at h; exact h
  · rename_i e; rw [Bool.eq_false_iff.2 e] at h; exact h
theorem right_spec (w : Int) (hw : 0 ≤ w ∧ w ≤ 1000000000) (u : List Int) (K0 : Bool → Prop) (h : K0 (rightB w u)) : dct_right u w K0 := by
  rw [dct_right_def]
  simp only [br_not, br_dec]
  split
  · rename_i h64
    exact right_j3 w hw u (.inl (by omega)) K0 h
  · rename_i h64
    split
    · rename_i h8
      exact right_j3 w hw u (.inr (by omega)) K0 h
    · rename_i h8
      have : rightB w u = false := by
        have : ¬ sized u := by unfold sized; omega
        simp [rightB, this]
      rw [this] at h; exact h
theorem rright_spec (w : Int) (hw : 0 ≤ w ∧ w ≤ 1000000000) (u : List Int) (hl : u.length ≤ 1000000) (K0 : Bool → Prop) (h : K0 (rightB w u)) : R10_Right u w K0 := by
  rw [R10_Right_def]
  simp only [br_dec]
  have e : isub .i64 0 w = -w := by rw [isub64 (by omega)]; omega
  rw [e]
  split
  · rename_i h8
    have : rightB w u = u.all (inB (-w) w) := by simp [rightB, show sized u from .inr (by omega)]
    rw [this] at h
    exact within_spec _ _ _ _ hl h
  · rename_i h8
    split
    · rename_i h64
      have : rightB w u = u.all (inB (-w) w) := by simp [rightB, show sized u from .inl (by omega)]
      rw [this] at h
      exact within_spec _ _ _ _ hl h
    · rename_i h64
      have : rightB w u = false := by
        have : ¬ sized u := by unfold sized; omega
        simp [rightB, this]
      rw [this] at h; exact h

def backBy (u : List Int) : Int := if u.length = 8 then 26 else 29
theorem back_spec (u : List Int) (K0 : Prop) (K1 : List Int → Prop) (h : if rightB 33554432 u = true then K1 (fourV u (backBy u)) else K0) : dct_Back cosT u K0 K1 := by
  rw [dct_Back_def]
  refine right_spec _ (by omega) u _ ?_
  split at h
  · rename_i hr
    rw [hr]
    show Br _ _ _
    rw [br_dec]
    unfold backBy at h
    split
    · rename_i h8
      rw [if_pos (by omega)] at h
      exact shifted_spec hr 26 K1 h
    · rename_i h8
      rw [if_neg (by omega)] at h
      exact shifted_spec hr 29 K1 h
  · rename_i hr
    rw [Bool.eq_false_iff.2 hr]
    exact h
theorem rang_eq {u : List Int} (h : sized u) {k i : Nat} (hk : k < u.length) (hi : i < u.length) :
    irem .i64 (imul .i64 (imul .i64 ((64 / u.length : Nat) : Int) (iadd .i64 (imul .i64 2 (i : Int)) 1)) (iadd .i64 (imul .i64 2 (k : Int)) 1)) 512 = ((64 / u.length * (2 * k + 1) * (2 * i + 1) % 512 : Nat) : Int) := by
  have hk' : k < 64 := by rcases h with h | h <;> omega
  have h1 := step_eq h hi
  rw [iquo_n h] at h1
  have h2 := at_bound h hi (i := k) (by omega)
  rw [h1, imul64 (a := 2) (by omega), iadd64 (by omega)]
  have e : (((64 / u.length * (2 * i + 1) : Nat) : Int) * (2 * (k : Int) + 1)) = ((64 / u.length * (2 * i + 1) * (2 * k + 1) : Nat) : Int) := by
    rw [Int.natCast_mul (64 / u.length * (2 * i + 1))]; congr 1
  rw [imul64 (by rw [e]; omega), e]
  unfold irem
  rw [Int.tmod_eq_emod_of_nonneg (by omega), Nat.mul_right_comm]
  rfl
theorem rsum_l4 {u : List Int} (hr : rightB 33554432 u = true) {k : Nat} (hk : k < u.length) (K0 : Int → Prop) (h : K0 (dsum u k)) : ∀ n i, i + n = u.length →
    ∃ q, R10_sum_l4 q cosT u (k : Int) (sm (fun i => u.getD i 0 * cg u.length k i) i) ((64 / u.length : Nat) : Int) (i : Int) K0 := by
  intro n
  have hs := right_sz hr
  have hl : u.length ≤ 64 := by rcases hs with hs | hs <;> omega
  induction n with
  | zero =>
    intro i hi
    refine ⟨1, ?_⟩
    simp only [R10_sum_l4, br_dec]
    rw [if_neg (by omega), show i = u.length by omega]
    exact h
  | succ n ih =>
    intro i hi
    obtain ⟨q, hq⟩ := ih (i + 1) (by omega)
    refine ⟨q + 1, ?_⟩
    have hc : cosT.length = 512 := tab_length _ _
    have h1 := mul25 _ _ (right_at hr (show i < u.length by omega)) (cg_bound u.length k i)
    have h2 := psum_bound hr k i (by omega)
    have h3 : 64 / u.length * (2 * k + 1) * (2 * i + 1) % 512 < 512 := Nat.mod_lt _ (by decide)
    have e : cosT.getD (64 / u.length * (2 * k + 1) * (2 * i + 1) % 512) 0 = cg u.length k i := cosT_get _ h3
    simp only [R10_sum_l4, br_dec, br_and, rang_eq hs hk (show i < u.length by omega), Int.toNat_natCast, hc, e]
    rw [if_pos (by omega), if_pos (by omega), if_pos (by omega), if_pos (by omega), if_pos (by omega), imul64 (by omega), iadd64 (by omega), i64_succ i (by omega)]
    exact hq
theorem rsum_spec {u : List Int} (hr : rightB 33554432 u = true) {k : Nat} (hk : k < u.length) (K0 : Int → Prop) (h : K0 (dsum u k)) : R10_sum cosT u (k : Int) K0 := by
  have hs := right_sz hr
  rw [R10_sum_def, br_dec, if_neg (by omega), iquo_n hs]
  exact rsum_l4 hr hk K0 h u.length 0 (by omega)
theorem rsums_l4 {u : List Int} (hr : rightB 33554432 u = true) (K0 : List Int → Prop) (h : K0 (tab u.length fun k => dsum u k)) : ∀ n k, k + n = u.length →
    ∃ q, R10_Sums_l4 q u (k : Int) cosT (tab k fun k => dsum u k) K0 := by
  intro n
  have hl : u.length ≤ 64 := by rcases right_sz hr with hs | hs <;> omega
  induction n with
  | zero =>
    intro k hk
    refine ⟨1, ?_⟩
    simp only [R10_Sums_l4, br_dec]
    rw [if_neg (by omega), show k = u.length by omega]
    exact h
  | succ n ih =>
    intro k hk
    obtain ⟨q, hq⟩ := ih (k + 1) (by omega)
    refine ⟨q + 1, ?_⟩
    simp only [R10_Sums_l4, br_dec]
    rw [if_pos (by omega)]
    refine rsum_spec hr (by omega) _ ?_
    rw [if_pos (by rw [tab_length]; simp; omega), tab_snoc k (fun k => dsum u k), i64_succ k (by omega)]
    exact hq
theorem rsums_spec {u : List Int} (hr : rightB 33554432 u = true) (K0 : List Int → Prop) (h : K0 (tab u.length fun k => dsum u k)) : R10_Sums u K0 := by
  rw [R10_Sums_def]
  exact rmake_spec _ (rsums_l4 hr K0 h u.length 0 (by omega))
theorem fourV_length (u : List Int) (s : Int) : (fourV u s).length = u.length := tab_length _ _
def pickV (x : List Int) (b : Nat) : List Int := tab 8 fun k => x.getD (8 * k + b) 0
theorem pick_l5 (x : List Int) (hx : x.length = 64) (b : Nat) (hb : b < 8) (K : List Int → Prop) (h : K (pickV x b)) : ∀ n k : Nat, k + n = 8 →
    ∃ q, lap_Pick_l5 q x (b : Int) 8 (k : Int) (fillT 8 k 0 fun k => x.getD (8 * k + b) 0) K := by
  intro n
  induction n with
  | zero =>
    intro k hk
    refine ⟨1, ?_⟩
    have hk : k = 8 := by omega
    subst hk
    simp only [lap_Pick_l5, br_dec]
    rw [if_neg (by omega), fillT_full]; exact h
  | succ n ih =>
    intro k hk
    obtain ⟨q, hq⟩ := ih (k + 1) (by omega)
    refine ⟨q + 1, ?_⟩
    have e : iadd .i64 (imul .i64 (k : Int) 8) (b : Int) = ((8 * k + b : Nat) : Int) := by rw [imul64 (by omega), iadd64 (by omega)]; omega
    simp only [lap_Pick_l5, br_dec, br_and, e, Int.toNat_natCast, fillT_length]
    rw [if_pos (by omega), if_pos (by omega), if_pos (by omega), if_pos (by omega), if_pos (by omega), if_pos (by omega), fillT_set 8 k 0 fun k => x.getD (8 * k + b) 0, i64_succ k (by omega)]
    exact hq
theorem pick_spec (x : List Int) (hx : x.length = 64) (b : Nat) (hb : b < 8) (K0 : Prop) (K1 : List Int → Prop) (h : K1 (pickV x b)) : lap_Pick x (b : Int) K0 K1 := by
  rw [lap_Pick_def, br_not, br_dec, if_pos (by omega), br_dec, if_neg (by omega), br_dec, if_neg (by omega)]
  have := pick_l5 x hx b hb K1 h 8 0 rfl
  rw [fillT_zero] at this
  exact this
theorem pick_none (x : List Int) (b : Int) (hn : ¬ (x.length = 64 ∧ 0 ≤ b ∧ b < 8)) (K0 : Prop) (K1 : List Int → Prop) (h : K0) : lap_Pick x b K0 K1 := by
  rw [lap_Pick_def, br_not, br_dec]
  by_cases hx : x.length = 64
  · rw [if_pos (by omega), br_dec]
    by_cases hb : b < 0
    · rw [if_pos hb]; exact h
    · rw [if_neg hb, br_dec, if_pos (by omega)]; exact h
  · rw [if_neg (by omega)]; exact h
theorem pick_right {x : List Int} (hx : x.length = 64) (hr : rightB 33554432 x = true) (b : Nat) (hb : b < 8) : rightB 33554432 (pickV x b) = true := by
  simp only [rightB, Bool.and_eq_true, List.all_eq_true]
  refine ⟨decide_eq_true (.inr (tab_length _ _)), fun y hy => ?_⟩
  simp only [pickV, tab, List.mem_map, List.mem_range] at hy
  obtain ⟨k, hk, rfl⟩ := hy
  have := right_at hr (i := 8 * k + b) (by omega)
  unfold inB
  exact decide_eq_true this

/-! ### A frame -/
def backV (u : List Int) : List Int := fourV u (backBy u)
theorem backV_length (u : List Int) : (backV u).length = u.length := tab_length _ _
def nbl (short : Bool) : Nat := if short then 8 else 1
/-- The i-th block. -/
def blkV (x : List Int) (short : Bool) (i : Nat) : List Int := if short then backV (pickV x i) else backV x
def midV (u : List Int) : List Int := (u.drop 4).take (u.length - 4 - 4)
/-- What there is behind the first i blocks: the tail, and the samples, not held yet. -/
def frS (tail : List Int) (bl : Nat → List Int) : Nat → List Int × List Int
  | 0 => (tail, [])
  | i + 1 => (rightV (bl i), (frS tail bl i).2 ++ (tab 8 (metF (frS tail bl i).1 (leftV (bl i))) ++ midV (bl i)))
def satV (x : Int) : Int := max (-32768) (min 32767 x)
def frB (x tail : List Int) : Bool := decide (x.length = 64) && (rightB 33554432 x && tail.all (inB (-35184372088832) 35184372088832))
def frV (tail x : List Int) (short : Bool) : List Int × List Int := frS tail (blkV x short) (nbl short)

theorem leftV_length (u : List Int) : (leftV u).length = 8 := by
  unfold leftV
  split <;> simp [leftL]
theorem rightV_length (u : List Int) : (rightV u).length = 8 := by
  unfold rightV
  split <;> simp [rightL]
theorem blk_len {x : List Int} (hx : x.length = 64) (short : Bool) (i : Nat) : (blkV x short i).length = if short then 8 else 64 := by
  unfold blkV
  cases short
  · simp [backV_length, hx]
  · simp [backV_length, pickV, tab_length]
theorem frS_len {tail : List Int} (ht : tail.length = 8) {bl : Nat → List Int} {m : Nat} (hm : 8 ≤ m) (hb : ∀ i, (bl i).length = m) : ∀ i, (frS tail bl i).1.length = 8 ∧ (frS tail bl i).2.length = m * i
  | 0 => ⟨ht, by simp [frS]⟩
  | i + 1 => by
    obtain ⟨h1, h2⟩ := frS_len ht hm hb i
    refine ⟨rightV_length _, ?_⟩
    simp only [frS, List.length_append, tab_length, h2, midV, List.length_take, List.length_drop, hb, Nat.mul_succ]
    omega

theorem frame_r5b {u tail m4 out : List Int} (hu : u.length = 64 ∨ u.length = 8) (ht : tail.length = 8) (ho : out.length ≤ 64) (K : List Int → List Int → List Int → Prop)
    (h : K (rightV u) m4 (out ++ (tab 8 (metF tail (leftV u)) ++ midV u))) : lap_Frame_r5b u tail m4 out K := by
  unfold lap_Frame_r5b
  refine wleft_spec u _ (by omega) (meet_spec _ _ ht (leftV_length u) _ ?_)
  have e4 : isub .i64 (u.length : Int) 4 = ((u.length - 4 : Nat) : Int) := by rw [isub64 (by omega)]; omega
  have em : List.take 8 (List.drop 0 (tab 8 (metF tail (leftV u)))) = tab 8 (metF tail (leftV u)) := by
    rw [List.drop_zero, List.take_of_length_le (by rw [tab_length]; exact Nat.le_refl _)]
  have hl : (List.take (u.length - 4 - 4) (List.drop 4 u)).length ≤ 64 := by rw [List.length_take, List.length_drop]; omega
  simp only [br_dec, br_and, tab_length, e4, em, Int.toNat_natCast, List.length_append]
  rw [if_pos (by omega), if_pos (by omega), if_pos (by omega), if_pos (by omega), if_pos (by omega), if_pos (by omega)]
  refine wright_spec u _ (by omega) ?_
  rw [List.append_assoc]
  exact h

theorem blocks_l3 {S : Type} (rd : (List Int × Unit) → S → (Bool → S → Prop) → Prop) {x : List Int} (hx : x.length = 64) (hr : rightB 33554432 x = true) (f : Nat → S) (K0 : S → Prop)
    (hrd : ∀ i, i < 8 → ∀ Kb : Bool → S → Prop, Kb true (f (i + 1)) → rd (backV (pickV x i), ()) (f i) Kb) (h : K0 (f 8)) : ∀ n i : Nat, i + n = 8 → ∃ q, It_lap_blocks_1_l3 S rd q cosT x (i : Int) (f i) K0 K0 := by
  intro n
  induction n with
  | zero =>
    intro i hi
    refine ⟨1, ?_⟩
    have hi : i = 8 := by omega
    subst hi
    simp only [It_lap_blocks_1_l3, br_dec]
    rw [if_neg (by omega)]; exact h
  | succ n ih =>
    intro i hi
    obtain ⟨q, hq⟩ := ih (i + 1) (by omega)
    refine ⟨q + 1, ?_⟩
    simp only [It_lap_blocks_1_l3, br_dec]
    rw [if_pos (by omega)]
    refine pick_spec x hx i (by omega) _ _ (back_spec _ _ _ ?_)
    rw [if_pos (pick_right hx hr i (by omega))]
    refine hrd i (by omega) _ ?_
    rw [i64_succ i (by omega)]
    exact hq
theorem blocks_spec {S : Type} (rd : (List Int × Unit) → S → (Bool → S → Prop) → Prop) {x : List Int} (hx : x.length = 64) (hr : rightB 33554432 x = true) (short : Bool) (f : Nat → S) (K0 : S → Prop)
    (hrd : ∀ i, i < nbl short → ∀ Kb : Bool → S → Prop, Kb true (f (i + 1)) → rd (blkV x short i, ()) (f i) Kb) (h : K0 (f (nbl short))) : It_lap_blocks_1 short cosT x S rd (f 0) K0 := by
  rw [It_lap_blocks_1_def]
  cases short with
  | false =>
    rw [br_not, br_false]
    refine back_spec _ _ _ ?_
    rw [if_pos hr]
    exact hrd 0 (by decide) (fun _ s => K0 s) h
  | true =>
    rw [br_not, br_true]
    exact blocks_l3 rd hx hr f K0 hrd h 8 0 rfl
theorem frame_r5 {tail x m4 : List Int} (hx : x.length = 64) (hr : rightB 33554432 x = true) (ht : tail.length = 8) (short : Bool) (K : List Int → List Int → List Int → Prop)
    (h : K (frV tail x short).1 m4 (frV tail x short).2) : lap_Frame_r5 short cosT x tail m4 [] K := by
  unfold lap_Frame_r5
  have hlen := frS_len ht (bl := blkV x short) (m := if short then 8 else 64) (by cases short <;> decide) (blk_len hx short)
  unfold frV at h
  refine blocks_spec _ hx hr short (fun i => (Rs.go ((), ((frS tail (blkV x short) i).1, m4, (frS tail (blkV x short) i).2, ())) : Rs (Unit × (List Int × List Int × List Int × Unit)) Empty)) _ (fun i hi Kb hKb => ?_) ?_
  rotate_left
  · simp only [Rs.fin]; exact h
  simp only [Rs.on]
  obtain ⟨h1, h2⟩ := hlen i
  refine frame_r5b ?_ h1 ?_ _ hKb
  · rw [blk_len hx]; cases short <;> simp
  · rw [h2]; cases short <;> simp [nbl] at hi ⊢ <;> omega

theorem frame_l11 (out m12 m13 : List Int) (hl : out.length ≤ 1000) (K : List Int → List Int → List Int → Prop) (h : K m12 m13 (out.map satV)) : ∀ n i : Nat, i + n = out.length →
    ∃ q, lap_Frame_l11 q (out.length : Int) (i : Int) m12 m13 (tab out.length fun j => if j < i then satV (out.getD j 0) else out.getD j 0) K := by
  intro n
  induction n with
  | zero =>
    intro i hi
    refine ⟨1, ?_⟩
    simp only [lap_Frame_l11, br_dec]
    rw [if_neg (by omega)]
    have : (tab out.length fun j => if j < i then satV (out.getD j 0) else out.getD j 0) = out.map satV := by
      apply List.ext_getElem (by simp [tab])
      intro j h1 h2
      have : j < i := by rw [tab_length] at h1; omega
      have hj : j < out.length := by omega
      simp [tab, this, List.getD, List.getElem?_eq_getElem hj]
    rw [this]; exact h
  | succ n ih =>
    intro i hi
    obtain ⟨q, hq⟩ := ih (i + 1) (by omega)
    refine ⟨q + 1, ?_⟩
    have e : ((tab out.length fun j => if j < i then satV (out.getD j 0) else out.getD j 0).set i (satV (out.getD i 0))) = tab out.length fun j => if j < i + 1 then satV (out.getD j 0) else out.getD j 0 := by
      rw [tab_set]
      refine tab_congr fun j hj => ?_
      by_cases e : j = i
      · subst e; rw [if_pos rfl, if_pos (by omega)]
      · rw [if_neg e]
        by_cases hji : j < i
        · rw [if_pos hji, if_pos (by omega)]
        · rw [if_neg hji, if_neg (by omega)]
    simp only [lap_Frame_l11, br_dec, br_and, Int.toNat_natCast, tab_length]
    rw [if_pos (by omega), if_pos (by omega), if_pos (by omega), if_pos (by omega), num_Sat_def, tab_get _ _ _ (show i < out.length by omega), if_neg (Nat.lt_irrefl i), if_pos (by omega), if_pos (by omega), if_pos (by omega), i64_succ i (by omega)]
    have es : imin (imax (out.getD i 0) (-32768)) 32767 = satV (out.getD i 0) := by rw [imin_eq', imax_eq']; unfold satV; omega
    rw [es, e]
    exact hq

theorem right_l8 (x tail : List Int) (ht : tail.length = 8) (K0 : Bool → Prop) (K1 : List Int → Prop) : ∀ n i : Nat, i + n = 8 → (if (tail.drop i).all (inB (-35184372088832) 35184372088832) = true then K1 x else K0 false) → ∃ q, lap_right_l8 q x tail (i : Int) K0 K1 := by
  intro n
  induction n with
  | zero =>
    intro i hi h
    refine ⟨1, ?_⟩
    simp only [lap_right_l8, br_dec]
    rw [if_neg (by omega)]
    rw [List.drop_eq_nil_of_le (by omega)] at h
    simpa using h
  | succ n ih =>
    intro i hi h
    rw [drop_cons (0 : Int) (show i < tail.length by omega), List.all_cons] at h
    by_cases hx : inB (-35184372088832) 35184372088832 (tail.getD i 0) = true
    · rw [hx, Bool.true_and] at h
      obtain ⟨q, hq⟩ := ih (i + 1) (by omega) h
      refine ⟨q + 1, ?_⟩
      have hx' : -35184372088832 ≤ tail.getD i 0 ∧ tail.getD i 0 ≤ 35184372088832 := by simpa [inB] using hx
      simp only [lap_right_l8, br_dec, br_and, Int.toNat_natCast]
      rw [if_pos (by omega), if_pos (by omega), if_pos (by omega), if_neg (by omega), if_neg (by omega), i64_succ i (by omega)]
      exact hq
    · refine ⟨1, ?_⟩
      have hx' : ¬ (-35184372088832 ≤ tail.getD i 0 ∧ tail.getD i 0 ≤ 35184372088832) := by simpa [inB] using hx
      rw [Bool.eq_false_iff.2 hx, Bool.false_and] at h
      simp only [lap_right_l8, br_dec, br_and, Int.toNat_natCast]
      rw [if_pos (by omega), if_pos (by omega), if_pos (by omega)]
      by_cases h1 : tail.getD i 0 < -35184372088832
      · rw [if_pos h1]; simpa using h
      · rw [if_neg h1, if_pos (by omega)]; simpa using h
theorem right_l2 (x m1 : List Int) (hl : x.length ≤ 1000000) (K0 : Bool → Prop) (K1 : List Int → List Int → Prop) : ∀ n i : Nat, i + n = x.length → (if (x.drop i).all (inB (-33554432) 33554432) = true then K1 x m1 else K0 false) →
    ∃ q, lap_right_l2 q x x (x.length : Int) (i : Int) m1 K0 K1 := by
  intro n
  induction n with
  | zero =>
    intro i hi h
    refine ⟨1, ?_⟩
    simp only [lap_right_l2, br_dec]
    rw [if_neg (by omega)]
    rw [List.drop_eq_nil_of_le (by omega)] at h
    simpa using h
  | succ n ih =>
    intro i hi h
    rw [drop_cons (0 : Int) (show i < x.length by omega), List.all_cons] at h
    by_cases hx : inB (-33554432) 33554432 (x.getD i 0) = true
    · rw [hx, Bool.true_and] at h
      obtain ⟨q, hq⟩ := ih (i + 1) (by omega) h
      refine ⟨q + 1, ?_⟩
      have hx' : -33554432 ≤ x.getD i 0 ∧ x.getD i 0 ≤ 33554432 := by simpa [inB] using hx
      simp only [lap_right_l2, br_dec, br_and, Int.toNat_natCast]
      rw [if_pos (by omega), if_pos (by omega), if_pos (by omega), if_neg (by omega), if_neg (by omega), i64_succ i (by omega)]
      exact hq
    · refine ⟨1, ?_⟩
      have hx' : ¬ (-33554432 ≤ x.getD i 0 ∧ x.getD i 0 ≤ 33554432) := by simpa [inB] using hx
      rw [Bool.eq_false_iff.2 hx, Bool.false_and] at h
      simp only [lap_right_l2, br_dec, br_and, Int.toNat_natCast]
      rw [if_pos (by omega), if_pos (by omega), if_pos (by omega)]
      by_cases h1 : x.getD i 0 < -33554432
      · rw [if_pos h1]; simpa using h
      · rw [if_neg h1, if_pos (by omega)]; simpa using h
theorem frB_eq (x tail : List Int) : frB x tail = (x.all (inB (-33554432) 33554432) && (tail.all (inB (-35184372088832) 35184372088832) && decide (x.length = 64))) := by
  unfold frB rightB
  by_cases h : x.length = 64
  · have : sized x := .inl h
    simp [h, this]
  · simp [h]
theorem lright_spec (x tail : List Int) (hl : x.length ≤ 1000000) (ht : tail.length = 8) (K : Bool → Prop) (h : K (frB x tail)) : lap_right x tail K := by
  rw [lap_right_def]
  rw [frB_eq] at h
  refine right_l2 x tail hl K _ x.length 0 (by omega) ?_
  rw [List.drop_zero]
  split
  · rename_i e
    rw [e, Bool.true_and] at h
    refine right_l8 x tail ht K _ 8 0 rfl ?_
    rw [List.drop_zero]
    split
    · rename_i e; rw [e, Bool.true_and] at h
      have : decide ((x.length : Int) = 64) = decide (x.length = 64) := by congr 1; exact propext (by omega)
      rw [this]; exact h
    · rename_i e; rw [Bool.eq_false_iff.2 e] at h; exact h
  · rename_i e; rw [Bool.eq_false_iff.2 e] at h; exact h

theorem frame_spec (tail x : List Int) (short : Bool) (hl : x.length ≤ 1000000) (ht : tail.length = 8) (K0 : List Int → Prop) (K1 : List Int → List Int → Prop)
    (h : if frB x tail = true then K1 (frV tail x short).1 ((frV tail x short).2.map satV) else K0 (List.replicate 8 0)) : lap_Frame cosT tail x short K0 K1 := by
  rw [lap_Frame_def]
  refine lright_spec x tail hl ht _ ?_
  cases hb : frB x tail with
  | false => rw [hb, if_neg (by simp)] at h; exact h
  | true =>
    rw [hb, if_pos rfl] at h
    rw [br_not, br_true, lap_blocks_def]
    simp only [frB, Bool.and_eq_true, decide_eq_true_eq] at hb
    obtain ⟨hx, hr, _⟩ := hb
    refine frame_r5 hx hr ht short _ ?_
    have hlen := (frS_len ht (bl := blkV x short) (m := if short then 8 else 64) (by cases short <;> decide) (blk_len hx short) (nbl short)).2
    have := frame_l11 (frV tail x short).2 (frV tail x short).1 (List.replicate 8 0) (by unfold frV; rw [hlen]; cases short <;> simp [nbl]) (fun m16 _ m18 => K1 m16 m18) h (frV tail x short).2.length 0 (by omega)
    have e : (tab (frV tail x short).2.length fun j => if j < 0 then satV ((frV tail x short).2.getD j 0) else (frV tail x short).2.getD j 0) = (frV tail x short).2 := by
      rw [tab_congr (g := fun j => (frV tail x short).2.getD j 0) (fun j _ => if_neg (by omega)), ← eqTab]
    rw [e] at this
    exact this
/-! ### The document's -/
theorem rpick_l5 (x : List Int) (hx : x.length = 64) (b : Nat) (hb : b < 8) (K : List Int → Prop) (h : K (pickV x b)) : ∀ n k : Nat, k + n = 8 →
    ∃ q, R12_Pick_l5 q x (b : Int) (k : Int) (tab k fun k => x.getD (8 * k + b) 0) K := by
  intro n
  induction n with
  | zero =>
    intro k hk
    refine ⟨1, ?_⟩
    have hk : k = 8 := by omega
    subst hk
    simp only [R12_Pick_l5, br_dec]
    rw [if_neg (by omega)]; exact h
  | succ n ih =>
    intro k hk
    obtain ⟨q, hq⟩ := ih (k + 1) (by omega)
    refine ⟨q + 1, ?_⟩
    have e : iadd .i64 (imul .i64 8 (k : Int)) (b : Int) = ((8 * k + b : Nat) : Int) := by rw [imul64 (by omega), iadd64 (by omega)]; omega
    simp only [R12_Pick_l5, br_dec, br_and, e, Int.toNat_natCast, tab_length, List.length_singleton]
    rw [if_pos (by omega), if_pos (by omega), if_pos (by omega), if_pos (by omega), tab_snoc k fun k => x.getD (8 * k + b) 0, i64_succ k (by omega)]
    exact hq
theorem rpick_spec (x : List Int) (hx : x.length = 64) (b : Nat) (hb : b < 8) (K0 : Prop) (K1 : List Int → Prop) (h : K1 (pickV x b)) : R12_Pick x (b : Int) K0 K1 := by
  rw [R12_Pick_def, br_not, br_dec, if_pos (by omega), br_dec, if_neg (by omega), br_dec, if_neg (by omega)]
  exact rpick_l5 x hx b hb K1 h 8 0 rfl
theorem rpick_none (x : List Int) (b : Int) (hn : ¬ (x.length = 64 ∧ 0 ≤ b ∧ b < 8)) (K0 : Prop) (K1 : List Int → Prop) (h : K0) : R12_Pick x b K0 K1 := by
  rw [R12_Pick_def, br_not, br_dec]
  by_cases hx : x.length = 64
  · rw [if_pos (by omega), br_dec]
    by_cases hb : b < 0
    · rw [if_pos hb]; exact h
    · rw [if_neg hb, br_dec, if_pos (by omega)]; exact h
  · rw [if_neg (by omega)]; exact h
theorem rsat_eq (x : Int) : imax (-32768) (imin 32767 x) = satV x := by rw [imin_eq', imax_eq']; unfold satV; omega
theorem mid_tab (u : List Int) (hu : 8 ≤ u.length) : midV u = tab (u.length - 8) fun j => u.getD (4 + j) 0 := by
  unfold midV
  apply List.ext_getElem (by simp [tab]; omega)
  intro j h1 h2
  have hj : 4 + j < u.length := by rw [tab_length] at h2; omega
  simp [tab, List.getD, List.getElem?_eq_getElem hj]
theorem map_tab {α β : Type} (g : α → β) (n : Nat) (f : Nat → α) : (tab n f).map g = tab n fun j => g (f j) := by simp [tab]
def partsV (w s b : Int) : Int := w * s / (if b = 26 then 2097152 else 16777216)
theorem mul_nat {a b : Int} {A B : Nat} (ha : a.natAbs ≤ A) (hb : b.natAbs ≤ B) : -((A * B : Nat) : Int) ≤ a * b ∧ a * b ≤ ((A * B : Nat) : Int) := by
  have h : (a * b).natAbs ≤ A * B := by rw [Int.natAbs_mul]; exact Nat.mul_le_mul ha hb
  omega
theorem split_div (w s B : Int) (hB : 0 < B) : w * (s / 1048576) / B * 1048576 + (w * (s / 1048576) % B * 1048576 + w * (s % 1048576)) / B = w * s / B := by
  have h1 : s / 1048576 * 1048576 + s % 1048576 = s := by omega
  have h2 : w * (s / 1048576) / B * B + w * (s / 1048576) % B = w * (s / 1048576) := Int.ediv_mul_add_emod _ _
  have h3 : w * s = (w * (s / 1048576) % B * 1048576 + w * (s % 1048576)) + w * (s / 1048576) / B * 1048576 * B := by
    calc w * s = w * (s / 1048576 * 1048576 + s % 1048576) := by rw [h1]
      _ = w * (s / 1048576) * 1048576 + w * (s % 1048576) := by rw [Int.mul_add, Int.mul_assoc]
      _ = (w * (s / 1048576) / B * B + w * (s / 1048576) % B) * 1048576 + w * (s % 1048576) := by rw [h2]
      _ = _ := by
        rw [Int.add_mul, Int.mul_assoc (w * (s / 1048576) / B) B, Int.mul_assoc (w * (s / 1048576) / B) 1048576, Int.mul_comm B 1048576]
        omega
  rw [h3, Int.add_mul_ediv_right _ _ (by omega)]
  omega
theorem parts_spec (w s b : Int) (hw : w.natAbs ≤ 32768) (hs : s.natAbs ≤ 72057594037927936) (hb : b = 26 ∨ b = 29) (K : Int → Prop) (h : K (partsV w s b)) : R12_parts w s b K := by
  have main : ∀ v B : Int, isub .i64 b 5 = v → ¬ v < 0 → ishl .i64 1 v = B → (if b = 26 then (2097152 : Int) else 16777216) = B → 2097152 ≤ B → B ≤ 16777216 → R12_parts w s b K := by
    intro v B e1 e2 e3 e4 hB1 hB2
    unfold partsV at h
    rw [e4] at h
    rw [R12_parts_def]
    refine rmod_spec _ _ (by omega) (by omega) (by omega) _ ?_
    have b1 := mul_nat (a := w) (b := s / 1048576) (A := 32768) (B := 137438953472) hw (by omega)
    have b2 := mul_nat (a := w) (b := s % 1048576) (A := 32768) (B := 1048576) hw (by omega)
    simp only [e1, e3, br_dec]
    rw [if_neg e2, imul64 (a := w) (b := s / 1048576) (by omega)]
    refine rmod_spec _ _ (by omega) (by omega) (by omega) _ ?_
    have h3 := split_div w s B (by omega)
    have b3 : 0 ≤ w * (s / 1048576) % B ∧ w * (s / 1048576) % B < B := ⟨Int.emod_nonneg _ (by omega), Int.emod_lt_of_pos _ (by omega)⟩
    have b4 : -2147483648 ≤ w * (s / 1048576) / B ∧ w * (s / 1048576) / B ≤ 2147483648 := by
      have : 2147483648 * 2097152 ≤ 2147483648 * B := Int.mul_le_mul_of_nonneg_left hB1 (by omega)
      constructor
      · rw [Int.le_ediv_iff_mul_le (by omega)]
        omega
      · refine Int.le_trans (Int.ediv_le_ediv (by omega) (show w * (s / 1048576) ≤ 2147483648 * B by omega)) (by rw [Int.mul_ediv_cancel _ (by omega)]; exact Int.le_refl _)
    rw [if_neg e2, imul64 (a := w * (s / 1048576) % B) (by omega), imul64 (a := w) (b := s % 1048576) (by omega), iadd64 (by omega)]
    refine rmod_spec (w * (s / 1048576) % B * 1048576 + w * (s % 1048576)) B (by omega) (by omega) (by omega) _ ?_
    have b5 : -18014398509481984 ≤ (w * (s / 1048576) % B * 1048576 + w * (s % 1048576)) / B ∧ (w * (s / 1048576) % B * 1048576 + w * (s % 1048576)) / B ≤ 18014398509481984 := by
      generalize hX : w * (s / 1048576) % B * 1048576 + w * (s % 1048576) = X
      have hXb : -18014398509481984 ≤ X ∧ X ≤ 18014398509481984 := by omega
      have : 18014398509481984 * 2097152 ≤ 18014398509481984 * B := Int.mul_le_mul_of_nonneg_left hB1 (by omega)
      constructor
      · rw [Int.le_ediv_iff_mul_le (by omega)]; omega
      · refine Int.le_trans (Int.ediv_le_ediv (by omega) (show X ≤ 18014398509481984 * B by omega)) (by rw [Int.mul_ediv_cancel _ (by omega)]; exact Int.le_refl _)
    rw [imul64 (a := w * (s / 1048576) / B) (by omega), iadd64 (by omega), h3]
    exact h
  rcases hb with rfl | rfl
  · exact main 21 2097152 (by decide) (by decide) (by decide) rfl (by decide) (by decide)
  · exact main 24 16777216 (by decide) (by decide) (by decide) rfl (by decide) (by decide)
theorem shr_near (d : Int) (hd : d.natAbs ≤ 72057594037927936) (b : Int) (hb : b = 26 ∨ b = 29) :
    (if b = 26 then (134217728 : Int) else 1073741824) * shrV d b ≤ 2 * d + (if b = 26 then (67108864 : Int) else 536870912) ∧ 2 * d + (if b = 26 then (67108864 : Int) else 536870912) < (if b = 26 then (134217728 : Int) else 1073741824) * shrV d b + (if b = 26 then (134217728 : Int) else 1073741824) := by
  unfold shrV
  rcases hb with rfl | rfl
  · simp only [if_true]
    rw [if_neg (by omega), show (26 : Int).toNat = 26 from rfl]
    omega
  · simp only [show ¬ ((29 : Int) = 26) by decide, if_false]
    rw [if_neg (by omega), show (29 : Int).toNat = 29 from rfl]
    omega
theorem e_near (w d b : Int) (hd : d.natAbs ≤ 72057594037927936) (hb : b = 26 ∨ b = 29) : -(16 * (w.natAbs : Int) + 1) ≤ partsV w d b - 32 * (w * shrV d b) ∧ partsV w d b - 32 * (w * shrV d b) ≤ 16 * (w.natAbs : Int) + 1 := by
  have h := shr_near d hd b hb
  unfold partsV
  generalize shrV d b = u at *
  rcases hb with rfl | rfl
  · simp only [if_true] at h ⊢
    have h2 := mul_nat (a := w) (b := 2 * d - 134217728 * u) (A := w.natAbs) (B := 67108864) (Nat.le_refl _) (by omega)
    have e : w * (2 * d - 134217728 * u) = 2 * (w * d) - 134217728 * (w * u) := by rw [Int.mul_sub, Int.mul_left_comm w 2, Int.mul_left_comm w 134217728]
    rw [e] at h2
    generalize w * d = P at *
    generalize w * u = Q at *
    omega
  · rw [if_neg (by decide), if_neg (by decide)] at h
    rw [if_neg (by decide)]
    have h2 := mul_nat (a := w) (b := 2 * d - 1073741824 * u) (A := w.natAbs) (B := 536870912) (Nat.le_refl _) (by omega)
    have e : w * (2 * d - 1073741824 * u) = 2 * (w * d) - 1073741824 * (w * u) := by rw [Int.mul_sub, Int.mul_left_comm w 2, Int.mul_left_comm w 1073741824]
    rw [e] at h2
    generalize w * d = P at *
    generalize w * u = Q at *
    omega
theorem shr15 (x : Int) (hx : x.natAbs ≤ 1152921504606846976) : 65536 * shrV x 15 ≤ 2 * x + 32768 ∧ 2 * x + 32768 < 65536 * shrV x 15 + 65536 := by
  unfold shrV
  rw [if_neg (by omega), show (15 : Int).toNat = 15 from rfl]
  omega
theorem sat_near {a b : Int} (h : -2 ≤ a - b ∧ a - b ≤ 2) : -2 ≤ satV a - satV b ∧ satV a - satV b ≤ 2 := by unfold satV; omega
/-- Where two blocks meet. -/
theorem meet_near (w1 w2 d1 d2 b1 b2 : Int) (h1 : d1.natAbs ≤ 72057594037927936) (h2 : d2.natAbs ≤ 72057594037927936) (hb1 : b1 = 26 ∨ b1 = 29) (hb2 : b2 = 26 ∨ b2 = 29) (hw : w1.natAbs + w2.natAbs ≤ 45798) (hs : (w1 * shrV d1 b1 + w2 * shrV d2 b2).natAbs ≤ 1152921504606846976) :
    -2 ≤ satV (shrV (w1 * shrV d1 b1 + w2 * shrV d2 b2) 15) - satV ((partsV w1 d1 b1 + partsV w2 d2 b2) / 1048576) ∧ satV (shrV (w1 * shrV d1 b1 + w2 * shrV d2 b2) 15) - satV ((partsV w1 d1 b1 + partsV w2 d2 b2) / 1048576) ≤ 2 := by
  refine sat_near ?_
  have e1 := e_near w1 d1 b1 h1 hb1
  have e2 := e_near w2 d2 b2 h2 hb2
  have e3 := shr15 _ hs
  generalize shrV (w1 * shrV d1 b1 + w2 * shrV d2 b2) 15 = M at *
  generalize w1 * shrV d1 b1 = P1 at *
  generalize w2 * shrV d2 b2 = P2 at *
  generalize partsV w1 d1 b1 = E1 at *
  generalize partsV w2 d2 b2 = E2 at *
  omega
/-- Where one block is alone. -/
theorem mid_near (d b : Int) (h : d.natAbs ≤ 72057594037927936) (hb : b = 26 ∨ b = 29) : -2 ≤ satV (shrV d b) - satV (partsV 32768 d b / 1048576) ∧ satV (shrV d b) - satV (partsV 32768 d b / 1048576) ≤ 2 := by
  refine sat_near ?_
  have e1 := e_near 32768 d b h hb
  omega

/-! ### Spectra, block by block -/
def spcV (x : List Int) (short : Bool) (i : Nat) : List Int := if short then pickV x i else x
theorem blk_spc (x : List Int) (short : Bool) (i : Nat) : blkV x short i = backV (spcV x short i) := by cases short <;> rfl
theorem spc_right {x : List Int} (hx : x.length = 64) (hr : rightB 33554432 x = true) (short : Bool) {i : Nat} (hi : i < nbl short) : rightB 33554432 (spcV x short i) = true ∧ (spcV x short i).length = if short then 8 else 64 := by
  cases short
  · exact ⟨hr, hx⟩
  · exact ⟨pick_right hx hr i hi, tab_length _ _⟩
theorem spectra_l5 {x : List Int} (hx : x.length = 64) (K : List (List Int) → Prop) (h : K (tab 8 (pickV x))) : ∀ n i : Nat, i + n = 8 → ∃ q, R12_Spectra_l5 q x (i : Int) (tab i (pickV x)) K := by
  intro n
  induction n with
  | zero =>
    intro i hi
    refine ⟨1, ?_⟩
    have hi : i = 8 := by omega
    subst hi
    simp only [R12_Spectra_l5, br_dec]
    rw [if_neg (by omega)]; exact h
  | succ n ih =>
    intro i hi
    obtain ⟨q, hq⟩ := ih (i + 1) (by omega)
    refine ⟨q + 1, ?_⟩
    simp only [R12_Spectra_l5, br_dec]
    rw [if_pos (by omega)]
    refine rpick_spec x hx i (by omega) _ _ ?_
    simp only [tab_length, List.length_singleton]
    rw [if_pos (by omega), i64_succ i (by omega)]
    rw [← tab_snoc] at hq
    exact hq
theorem spectra_spec {x : List Int} (hx : x.length = 64) (short : Bool) (K0 K1 : List (List Int) → Prop) (h0 : K0 (tab (nbl short) (spcV x short))) (h1 : K1 (tab (nbl short) (spcV x short))) : R12_Spectra x short K0 K1 := by
  rw [R12_Spectra_def]
  cases short with
  | false => first | exact h0 | exact h1
  | true =>
    rw [br_not, br_true]
    first | exact spectra_l5 hx K1 h1 8 0 rfl | exact spectra_l5 hx K0 h0 8 0 rfl
theorem rsums2 {u : List Int} (hr : rightB 33554432 u = true) (K : Int → List Int → Prop) (h : K (backBy u) (tab u.length fun k => dsum u k)) : R12_sums u K := by
  rw [R12_sums_def, br_dec]
  unfold backBy at h
  by_cases h8 : u.length = 8
  · rw [if_pos h8] at h
    rw [if_pos (by omega)]
    exact rsums_spec hr _ h
  · rw [if_neg h8] at h
    rw [if_neg (by omega)]
    exact rsums_spec hr _ h
theorem dsum_nat {u : List Int} (hr : rightB 33554432 u = true) (k : Nat) : (dsum u k).natAbs ≤ 36028797018963968 := by
  have := psum_bound hr k u.length (Nat.le_refl _)
  unfold dsum
  omega
theorem backBy_or (u : List Int) : backBy u = 26 ∨ backBy u = 29 := by unfold backBy; split <;> simp
def c1 (j : Nat) : Int := if j < 4 then sl (7 - j) else -sl (7 - j)
def i1 (n j : Nat) : Nat := if j < 4 then n - 4 + j else n + 3 - j
def i2 (j : Nat) : Nat := if j < 4 then 3 - j else j - 4
/-- What is exact at place j. -/
def exF (x y : List Int) (j : Nat) : Int := if j < 8 then partsV (c1 j) (dsum x (i1 x.length j)) (backBy x) + partsV (sl j) (dsum y (i2 j)) (backBy y) else partsV 32768 (dsum y (j - 4)) (backBy y)
theorem parts_bound {w s b : Int} (hw : w.natAbs ≤ 32768) (hs : s.natAbs ≤ 36028797018963968) (hb : b = 26 ∨ b = 29) : -562949953421312 ≤ partsV w s b ∧ partsV w s b ≤ 562949953421312 := by
  have := mul_nat hw hs
  unfold partsV
  generalize w * s = P at *
  rcases hb with rfl | rfl
  · simp only [if_true]; omega
  · rw [if_neg (by decide)]; omega
theorem sl_bound (j : Nat) : 0 ≤ sl j ∧ sl j ≤ 32768 := by
  by_cases h : j < 8
  · have : j = 0 ∨ j = 1 ∨ j = 2 ∨ j = 3 ∨ j = 4 ∨ j = 5 ∨ j = 6 ∨ j = 7 := by omega
    rcases this with rfl | rfl | rfl | rfl | rfl | rfl | rfl | rfl <;> decide
  · unfold sl
    rw [List.getD, List.getElem?_eq_none (by simp [slp]; omega)]; decide
theorem c1_bound (j : Nat) : (c1 j).natAbs ≤ 32768 := by
  unfold c1
  have := sl_bound (7 - j)
  split <;> omega
theorem c12 (j : Nat) (h : j < 8) : (c1 j).natAbs + (sl j).natAbs ≤ 45798 := by
  have : j = 0 ∨ j = 1 ∨ j = 2 ∨ j = 3 ∨ j = 4 ∨ j = 5 ∨ j = 6 ∨ j = 7 := by omega
  rcases this with rfl | rfl | rfl | rfl | rfl | rfl | rfl | rfl <;> decide
theorem exF_bound {x y : List Int} (hx : rightB 33554432 x = true) (hy : rightB 33554432 y = true) (j : Nat) : -1125899906842624 ≤ exF x y j ∧ exF x y j ≤ 1125899906842624 := by
  unfold exF
  have hs := sl_bound j
  have b1 := parts_bound (c1_bound j) (dsum_nat hx (i1 x.length j)) (backBy_or x)
  have b2 := parts_bound (w := sl j) (by omega) (dsum_nat hy (i2 j)) (backBy_or y)
  have b3 := parts_bound (w := 32768) (by decide) (dsum_nat hy (j - 4)) (backBy_or y)
  split <;> omega
theorem exact_l6 {x y : List Int} (hx : rightB 33554432 x = true) (hy : rightB 33554432 y = true) (K : List Int → List Int → Int → Int → List Int → List Int → List Int → List Int → Prop)
    (h : K x y (backBy x) (backBy y) (tab x.length fun k => dsum x k) (tab y.length fun k => dsum y k) slp (tab 4 (exF x y))) : ∀ n j : Nat, j + n = 4 →
    ∃ q, R12_Exact_l6 q x y (backBy x) (backBy y) (j : Int) (tab x.length fun k => dsum x k) (tab y.length fun k => dsum y k) slp (tab j (exF x y)) K := by
  intro n
  have lx := right_sz hx
  have ly := right_sz hy
  unfold sized at lx ly
  induction n with
  | zero =>
    intro j hj
    refine ⟨1, ?_⟩
    have hj : j = 4 := by omega
    subst hj
    simp only [R12_Exact_l6, br_dec]
    rw [if_neg (by omega)]; exact h
  | succ n ih =>
    intro j hj
    obtain ⟨q, hq⟩ := ih (j + 1) (by omega)
    refine ⟨q + 1, ?_⟩
    have hs : slp.length = 8 := rfl
    have e1 : isub .i64 7 (j : Int) = ((7 - j : Nat) : Int) := by rw [isub64 (by omega)]; omega
    have e2 : iadd .i64 (isub .i64 (x.length : Int) 4) (j : Int) = ((x.length - 4 + j : Nat) : Int) := by rw [isub64 (by omega), iadd64 (by omega)]; omega
    have e3 : isub .i64 3 (j : Int) = ((3 - j : Nat) : Int) := by rw [isub64 (by omega)]; omega
    simp only [R12_Exact_l6, br_dec, br_and, e1, e2, e3, Int.toNat_natCast, tab_length, hs, List.length_singleton]
    repeat rw [if_pos (by omega)]
    rw [tab_get _ _ _ (show x.length - 4 + j < x.length by omega)]
    have hs1 := sl_bound (7 - j)
    have hs2 := sl_bound j
    have d1 := dsum_nat hx (x.length - 4 + j)
    have d2 := dsum_nat hy (3 - j)
    refine parts_spec (sl (7 - j)) _ _ (by omega) (by omega) (backBy_or x) _ ?_
    repeat rw [if_pos (by omega)]
    rw [tab_get _ _ _ (show 3 - j < y.length by omega)]
    refine parts_spec (sl j) _ _ (by omega) (by omega) (backBy_or y) _ ?_
    rw [if_pos (by omega)]
    have e : partsV (sl (7 - j)) (dsum x (x.length - 4 + j)) (backBy x) + partsV (sl j) (dsum y (3 - j)) (backBy y) = exF x y j := by
      unfold exF c1 i1 i2
      rw [if_pos (by omega), if_pos (by omega), if_pos (by omega), if_pos (by omega)]
    have eb := exF_bound hx hy j
    rw [(iadd64 (by rw [e]; omega)).trans e, tab_snoc, i64_succ j (by omega)]
    exact hq
theorem exact_l10 {x y : List Int} (hx : rightB 33554432 x = true) (hy : rightB 33554432 y = true) (K : List Int → Int → List Int → List Int → Prop)
    (h : K y (backBy y) (tab y.length fun k => dsum y k) (tab 8 (exF x y))) : ∀ n j : Nat, 4 ≤ j → j + n = 8 →
    ∃ q, R12_Exact_l10 q x y (backBy x) (backBy y) (j : Int) (tab x.length fun k => dsum x k) (tab y.length fun k => dsum y k) slp (tab j (exF x y)) K := by
  intro n
  have lx := right_sz hx
  have ly := right_sz hy
  unfold sized at lx ly
  induction n with
  | zero =>
    intro j _ hj
    refine ⟨1, ?_⟩
    have hj : j = 8 := by omega
    subst hj
    simp only [R12_Exact_l10, br_dec]
    rw [if_neg (by omega)]; exact h
  | succ n ih =>
    intro j h4 hj
    obtain ⟨q, hq⟩ := ih (j + 1) (by omega) (by omega)
    refine ⟨q + 1, ?_⟩
    have hs : slp.length = 8 := rfl
    have e1 : isub .i64 7 (j : Int) = ((7 - j : Nat) : Int) := by rw [isub64 (by omega)]; omega
    have e2 : isub .i64 (iadd .i64 (x.length : Int) 3) (j : Int) = ((x.length + 3 - j : Nat) : Int) := by rw [iadd64 (by omega), isub64 (by omega)]; omega
    have e3 : isub .i64 (j : Int) 4 = ((j - 4 : Nat) : Int) := by rw [isub64 (by omega)]; omega
    simp only [R12_Exact_l10, br_dec, br_and, e1, e2, e3, Int.toNat_natCast, tab_length, hs, List.length_singleton]
    repeat rw [if_pos (by omega)]
    rw [tab_get _ _ _ (show x.length + 3 - j < x.length by omega)]
    have hs1 := sl_bound (7 - j)
    have hs2 := sl_bound j
    have d1 := dsum_nat hx (x.length + 3 - j)
    have d2 := dsum_nat hy (j - 4)
    have e4 : isub .i64 0 (slp.getD (7 - j) 0) = -sl (7 - j) := by
      show isub .i64 0 (sl (7 - j)) = _
      rw [isub64 (by omega)]; omega
    rw [e4]
    refine parts_spec (-sl (7 - j)) _ _ (by omega) (by omega) (backBy_or x) _ ?_
    repeat rw [if_pos (by omega)]
    rw [tab_get _ _ _ (show j - 4 < y.length by omega)]
    refine parts_spec (sl j) _ _ (by omega) (by omega) (backBy_or y) _ ?_
    rw [if_pos (by omega)]
    have e : partsV (-sl (7 - j)) (dsum x (x.length + 3 - j)) (backBy x) + partsV (sl j) (dsum y (j - 4)) (backBy y) = exF x y j := by
      unfold exF c1 i1 i2
      rw [if_pos (by omega), if_neg (by omega), if_neg (by omega), if_neg (by omega)]
    have eb := exF_bound hx hy j
    rw [(iadd64 (by rw [e]; omega)).trans e, tab_snoc, i64_succ j (by omega)]
    exact hq
theorem exact_l14 {x y : List Int} (hy : rightB 33554432 y = true) (K : List Int → Prop) (h : K (tab y.length (exF x y))) : ∀ n k : Nat, 4 ≤ k → k + n = y.length - 4 →
    ∃ q, R12_Exact_l14 q y (backBy y) (k : Int) (tab y.length fun k => dsum y k) (tab (k + 4) (exF x y)) K := by
  intro n
  have ly := right_sz hy
  unfold sized at ly
  have e4 : isub .i64 (y.length : Int) 4 = ((y.length - 4 : Nat) : Int) := by rw [isub64 (by omega)]; omega
  induction n with
  | zero =>
    intro k _ hk
    refine ⟨1, ?_⟩
    simp only [R12_Exact_l14, br_dec, e4]
    rw [if_neg (by omega), show k + 4 = y.length by omega]; exact h
  | succ n ih =>
    intro k h4 hk
    obtain ⟨q, hq⟩ := ih (k + 1) (by omega) (by omega)
    refine ⟨q + 1, ?_⟩
    simp only [R12_Exact_l14, br_dec, br_and, Int.toNat_natCast, tab_length, e4, List.length_singleton]
    repeat rw [if_pos (by omega)]
    rw [tab_get _ _ _ (show k < y.length by omega)]
    have d2 := dsum_nat hy k
    refine parts_spec 32768 _ _ (by decide) (by omega) (backBy_or y) _ ?_
    rw [if_pos (by omega)]
    have e : partsV 32768 (dsum y k) (backBy y) = exF x y (k + 4) := by
      unfold exF
      rw [if_neg (by omega), Nat.add_sub_cancel]
    rw [e, tab_snoc, i64_succ k (by omega)]
    rw [show k + 4 + 1 = k + 1 + 4 by omega]
    exact hq
theorem exact_spec {x y : List Int} (hx : rightB 33554432 x = true) (hy : rightB 33554432 y = true) (K : List Int → Prop) (h : K (tab y.length (exF x y))) : R12_Exact x y K := by
  have ly := right_sz hy
  unfold sized at ly
  rw [R12_Exact_def]
  refine rsums2 hx _ (rsums2 hy _ ?_)
  rw [R11_W_def]
  refine exact_l6 hx hy _ ?_ 4 0 rfl
  refine exact_l10 hx hy _ ?_ 4 4 (Nat.le_refl _) rfl
  exact exact_l14 (x := x) hy K h (y.length - 4 - 4) 4 (Nat.le_refl _) (by omega)
/-! ### Near -/
theorem back_at {u : List Int} {k : Nat} (hk : k < u.length) : (backV u).getD k 0 = shrV (dsum u k) (backBy u) := tab_get _ _ _ hk
theorem shr_bound {u : List Int} (hr : rightB 33554432 u = true) (k : Nat) : -1073741824 ≤ shrV (dsum u k) (backBy u) ∧ shrV (dsum u k) (backBy u) ≤ 1073741824 := by
  have h := dsum_nat hr k
  have h2 := shr_near (dsum u k) (by omega) _ (backBy_or u)
  generalize shrV (dsum u k) (backBy u) = v at *
  rcases backBy_or u with e | e <;> rw [e] at h2
  · simp only [if_true] at h2; omega
  · simp only [show ¬ ((29 : Int) = 26) by decide, if_false] at h2; omega
theorem back_block {u : List Int} (hr : rightB 33554432 u = true) : blockB (backV u) = true := by
  unfold blockB
  rw [Bool.and_eq_true, decide_eq_true_eq, backV_length, List.all_eq_true]
  refine ⟨right_sz hr, fun y hy => ?_⟩
  simp only [backV, fourV, tab, List.mem_map, List.mem_range] at hy
  obtain ⟨k, hk, rfl⟩ := hy
  unfold inB
  exact decide_eq_true (shr_bound hr k)
theorem rightL_at (n : Nat) (hn : n = 64 ∨ n = 8) (f : Nat → Int) {j : Nat} (hj : j < 8) : (rightL n f).getD j 0 = imul .i64 (c1 j) (f (i1 n j)) := by
  have : j = 0 ∨ j = 1 ∨ j = 2 ∨ j = 3 ∨ j = 4 ∨ j = 5 ∨ j = 6 ∨ j = 7 := by omega
  rcases hn with rfl | rfl <;> rcases this with rfl | rfl | rfl | rfl | rfl | rfl | rfl | rfl <;> rfl
theorem leftL_at (f : Nat → Int) {j : Nat} (hj : j < 8) : (leftL f).getD j 0 = imul .i64 (sl j) (f (i2 j)) := by
  have : j = 0 ∨ j = 1 ∨ j = 2 ∨ j = 3 ∨ j = 4 ∨ j = 5 ∨ j = 6 ∨ j = 7 := by omega
  rcases this with rfl | rfl | rfl | rfl | rfl | rfl | rfl | rfl <;> rfl
theorem i1_lt {n j : Nat} (hn : n = 64 ∨ n = 8) (hj : j < 8) : i1 n j < n := by unfold i1; split <;> omega
theorem i2_lt {n j : Nat} (hn : n = 64 ∨ n = 8) (hj : j < 8) : i2 j < n := by unfold i2; split <;> omega
theorem right_val {u : List Int} (hr : rightB 33554432 u = true) {j : Nat} (hj : j < 8) : (rightV (backV u)).getD j 0 = c1 j * shrV (dsum u (i1 u.length j)) (backBy u) ∧ -35184372088832 ≤ c1 j * shrV (dsum u (i1 u.length j)) (backBy u) ∧ c1 j * shrV (dsum u (i1 u.length j)) (backBy u) ≤ 35184372088832 := by
  have hs := right_sz hr
  have hb := shr_bound hr (i1 u.length j)
  have hm := mul_nat (a := c1 j) (b := shrV (dsum u (i1 u.length j)) (backBy u)) (A := 32768) (B := 1073741824) (c1_bound j) (by omega)
  refine ⟨?_, by omega⟩
  unfold rightV
  rw [if_pos (back_block hr), backV_length, rightL_at _ hs _ hj, back_at (i1_lt hs hj), imul64 (by omega)]
theorem left_val {u : List Int} (hr : rightB 33554432 u = true) {j : Nat} (hj : j < 8) : (leftV (backV u)).getD j 0 = sl j * shrV (dsum u (i2 j)) (backBy u) ∧ -35184372088832 ≤ sl j * shrV (dsum u (i2 j)) (backBy u) ∧ sl j * shrV (dsum u (i2 j)) (backBy u) ≤ 35184372088832 := by
  have hs := right_sz hr
  have hb := shr_bound hr (i2 j)
  have hsl := sl_bound j
  have hm := mul_nat (a := sl j) (b := shrV (dsum u (i2 j)) (backBy u)) (A := 32768) (B := 1073741824) (by omega) (by omega)
  refine ⟨?_, by omega⟩
  unfold leftV
  rw [if_pos (back_block hr), leftL_at _ hj, back_at (i2_lt hs hj), imul64 (by omega)]
theorem right_tail {u : List Int} (hr : rightB 33554432 u = true) : (rightV (backV u)).all (inB (-35184372088832) 35184372088832) = true := by
  rw [List.all_eq_true]
  intro y hy
  obtain ⟨j, hj, rfl⟩ := List.getElem_of_mem hy
  have hj8 : j < 8 := by rwa [rightV_length] at hj
  have := right_val hr hj8
  rw [List.getD, List.getElem?_eq_getElem hj] at this
  simp only [Option.getD_some] at this
  unfold inB
  rw [decide_eq_true_eq, this.1]
  exact this.2
/-- A sample, not held: p is the block ahead. -/
def segF (tail : List Int) (u : List Int) (j : Nat) : Int := if j < 8 then metF tail (leftV u) j else u.getD (j - 4) 0
theorem seg_near {p c : List Int} (hp : rightB 33554432 p = true) (hc : rightB 33554432 c = true) {j : Nat} (hj : j < c.length) :
    -2 ≤ satV (segF (rightV (backV p)) (backV c) j) - satV (exF p c j / 1048576) ∧ satV (segF (rightV (backV p)) (backV c) j) - satV (exF p c j / 1048576) ≤ 2 := by
  unfold segF exF
  by_cases h8 : j < 8
  · rw [if_pos h8, if_pos h8]
    obtain ⟨e1, b1⟩ := right_val hp h8
    obtain ⟨e2, b2⟩ := left_val hc h8
    have em : metF (rightV (backV p)) (leftV (backV c)) j = shrV (c1 j * shrV (dsum p (i1 p.length j)) (backBy p) + sl j * shrV (dsum c (i2 j)) (backBy c)) 15 := by
      unfold metF
      rw [e1, e2, if_pos (by unfold metB; omega)]
    rw [em]
    have d1 := dsum_nat hp (i1 p.length j)
    have d2 := dsum_nat hc (i2 j)
    exact meet_near _ _ _ _ _ _ (by omega) (by omega) (backBy_or p) (backBy_or c) (c12 j h8) (by omega)
  · rw [if_neg h8, if_neg h8, back_at (by omega)]
    have d2 := dsum_nat hc (j - 4)
    exact mid_near _ _ (by omega) (backBy_or c)
theorem seg_at {tail : List Int} (ht : tail.length = 8) {bl : Nat → List Int} {m : Nat} (hm : 8 ≤ m) (hb : ∀ i, (bl i).length = m) : ∀ n i, i < n → ∀ j, j < m → (frS tail bl n).2.getD (m * i + j) 0 = segF (frS tail bl i).1 (bl i) j
  | 0, i, hi, j, hj => by omega
  | n + 1, i, hi, j, hj => by
    have hl := (frS_len ht hm hb n).2
    simp only [frS]
    by_cases h : i < n
    · have : m * (i + 1) ≤ m * n := Nat.mul_le_mul_left m h
      rw [Nat.mul_succ] at this
      rw [← seg_at ht hm hb n i h j hj, List.getD, List.getElem?_append_left (by omega), List.getD]
    · have e : i = n := by omega
      subst e
      rw [List.getD, List.getElem?_append_right (by omega), hl, Nat.add_sub_cancel_left]
      unfold segF
      by_cases h8 : j < 8
      · rw [if_pos h8, List.getElem?_append_left (by rw [tab_length]; exact h8)]
        exact tab_get _ _ _ h8
      · have h3 := hb i
        rw [if_neg h8, List.getElem?_append_right (by rw [tab_length]; omega), tab_length, mid_tab _ (by omega), ← List.getD, tab_get _ _ _ (by omega)]
        congr 1; omega

theorem near_l4 {out ex : List Int} (hl : out.length = ex.length) (hs : out.length ≤ 1000) (he : ∀ i, -1125899906842624 ≤ ex.getD i 0 ∧ ex.getD i 0 ≤ 1125899906842624) (ho : ∀ i, -32768 ≤ out.getD i 0 ∧ out.getD i 0 ≤ 32767)
    (hn : ∀ i, i < out.length → -2 ≤ out.getD i 0 - satV (ex.getD i 0 / 1048576) ∧ out.getD i 0 - satV (ex.getD i 0 / 1048576) ≤ 2) (K0 : Bool → Prop) (K1 : Prop) (h : K1) : ∀ n i : Nat, i + n = out.length → ∃ q, L12_near_l4 q out ex (i : Int) K0 K1 := by
  intro n
  induction n with
  | zero =>
    intro i hi
    refine ⟨1, ?_⟩
    simp only [L12_near_l4, br_dec]
    rw [if_neg (by omega)]; exact h
  | succ n ih =>
    intro i hi
    obtain ⟨q, hq⟩ := ih (i + 1) (by omega)
    refine ⟨q + 1, ?_⟩
    have he := he i
    have ho := ho i
    have hn := hn i (by omega)
    simp only [L12_near_l4, br_dec, br_and, Int.toNat_natCast]
    rw [if_pos (by omega), if_pos (by omega), if_pos (by omega)]
    refine rmod_spec _ _ (by decide) (by decide) (by omega) _ ?_
    have hsat : -32768 ≤ satV (ex.getD i 0 / 1048576) ∧ satV (ex.getD i 0 / 1048576) ≤ 32767 := by unfold satV; omega
    have e : isub .i64 (out.getD i 0) (satV (ex.getD i 0 / 1048576)) = out.getD i 0 - satV (ex.getD i 0 / 1048576) := isub64 (by omega)
    rw [if_pos (by omega), if_pos (by omega), R01_Sat_def, rsat_eq]
    simp only [Int.toNat_natCast, e]
    rw [if_neg (by omega), if_neg (by omega), i64_succ i (by omega)]
    exact hq
theorem near_spec {out ex : List Int} (hl : out.length = ex.length) (hs : out.length ≤ 1000) (he : ∀ i, -1125899906842624 ≤ ex.getD i 0 ∧ ex.getD i 0 ≤ 1125899906842624) (ho : ∀ i, -32768 ≤ out.getD i 0 ∧ out.getD i 0 ≤ 32767)
    (hn : ∀ i, i < out.length → -2 ≤ out.getD i 0 - satV (ex.getD i 0 / 1048576) ∧ out.getD i 0 - satV (ex.getD i 0 / 1048576) ≤ 2) (K : Bool → Prop) (h : K true) : L12_near out ex K := by
  rw [L12_near_def, br_not, br_dec, if_pos (by omega)]
  exact near_l4 hl hs he ho hn K _ h out.length 0 (by omega)
theorem getD_cases {P : Int → Prop} {l : List Int} (h0 : P 0) (h : ∀ i, i < l.length → P (l.getD i 0)) (i : Nat) : P (l.getD i 0) := by
  by_cases hi : i < l.length
  · exact h i hi
  · rw [List.getD, List.getElem?_eq_none (by omega)]; exact h0
theorem z8 : frV (List.replicate 8 0) (List.replicate 64 0) true = (List.replicate 8 0, List.replicate 64 0) := by decide +kernel
def wk : List Int × List Int := frV (List.replicate 8 0) (32000 :: List.replicate 63 0) false
theorem wk_len : (wk.2.map satV).length = 64 := by decide +kernel
theorem wk_10 : 900 < (wk.2.map satV).getD 10 0 ∧ (wk.2.map satV).getD 10 0 < 1000 := by decide +kernel
theorem wk_t : eqv (.arr 8 (.int .i64)) wk.1 (List.replicate 8 0) = false := by decide +kernel
theorem lapawake_spec (K : Bool → Prop) (h : K true) : L12_awake K := by
  rw [L12_awake_def]
  refine make_spec _ (frame_spec _ _ _ (by decide) (by decide) _ _ ?_)
  rw [if_pos (by decide +kernel), z8]
  show L12_awake_j4 _ _ _ _ _
  unfold L12_awake_j4
  rw [br_dec, if_pos (by decide), br_dec, if_pos (by decide)]
  refine frame_spec _ _ _ (by decide) (by decide) _ _ ?_
  rw [if_pos (by decide +kernel)]
  show L12_awake_j6 _ _ (wk.2.map satV) wk.1 _
  unfold L12_awake_j6
  have e : List.map satV (List.replicate 64 0) = List.replicate 64 0 := by decide +kernel
  rw [e, br_dec, if_pos (by decide)]
  refine same_self _ _ (by decide) ?_
  have h1 := wk_10
  simp only [br_dec, wk_len, wk_t, eqv_self, br_true]
  rw [if_pos (by decide), if_pos (by decide), if_pos (by decide), if_pos h1.1, if_pos (by decide), if_pos (by decide), if_pos h1.2]
  exact h
theorem near_l13 {y : List Int} (hy : y.length = 64) (hr : rightB 33554432 y = true) (sy : Bool) {p : List Int} (hp : rightB 33554432 p = true) (K0 : Bool → Prop) (K1 : Int → Prop) (h : K1 64) : ∀ n b : Nat, b + n = nbl sy →
    ∃ q, L12_LapNear_l13 q (if b = 0 then p else spcV y sy (b - 1)) (((if sy then 8 else 64) * b : Nat) : Int) (b : Int) ((frV (rightV (backV p)) y sy).2.map satV) (tab (nbl sy) (spcV y sy)) K0 K1 := by
  have hn8 : nbl sy ≤ 8 := by cases sy <;> decide
  have hm : (if sy then 8 else 64) * nbl sy = 64 := by cases sy <;> rfl
  have hm8 : 8 ≤ (if sy then 8 else 64) ∧ (if sy then 8 else 64) ≤ 64 := by cases sy <;> simp
  have ht : (rightV (backV p)).length = 8 := rightV_length _
  have hbl := blk_len hy sy
  have hout : ((frV (rightV (backV p)) y sy).2.map satV).length = 64 := by
    rw [List.length_map]; unfold frV; rw [(frS_len ht hm8.1 hbl _).2, hm]
  have hsp := fun i (hi : i < nbl sy) => spc_right hy hr sy hi
  generalize hmm : (if sy then 8 else 64) = m at *
  intro n
  induction n with
  | zero =>
    intro b hb
    refine ⟨1, ?_⟩
    have hb : b = nbl sy := by omega
    subst hb
    simp only [L12_LapNear_l13, br_dec, tab_length]
    rw [if_neg (by omega), hm]; exact h
  | succ n ih =>
    intro b hb
    obtain ⟨q, hq⟩ := ih (b + 1) (by omega)
    refine ⟨q + 1, ?_⟩
    have hbn : b < nbl sy := by omega
    obtain ⟨hc, hcl⟩ := hsp b hbn
    have hg : (tab (nbl sy) (spcV y sy)).getD b [] = spcV y sy b := tab_get _ _ _ hbn
    have hlast : rightB 33554432 (if b = 0 then p else spcV y sy (b - 1)) = true := by
      split
      · exact hp
      · exact (hsp (b - 1) (by omega)).1
    have hmb : m * b + m ≤ 64 := by
      have : m * (b + 1) ≤ m * nbl sy := Nat.mul_le_mul_left m hbn
      rw [Nat.mul_succ] at this
      omega
    have htail : (frS (rightV (backV p)) (blkV y sy) b).1 = rightV (backV (if b = 0 then p else spcV y sy (b - 1))) := by
      cases b with
      | zero => rfl
      | succ b => rw [if_neg (by omega), ← blk_spc]; rfl
    simp only [L12_LapNear_l13, br_dec, br_and, tab_length, Int.toNat_natCast, hg]
    rw [if_pos (by omega), if_pos (by omega), if_pos (by omega), if_pos (by omega)]
    refine exact_spec hlast hc _ ?_
    have ev : iadd .i64 ((m * b : Nat) : Int) (((tab (spcV y sy b).length (exF (if b = 0 then p else spcV y sy (b - 1)) (spcV y sy b))).length : Nat) : Int) = ((m * b + m : Nat) : Int) := by
      rw [tab_length, hcl, iadd64 (by omega)]; omega
    simp only [ev, Int.toNat_natCast, hout]
    repeat rw [if_pos (by omega)]
    rw [if_neg (by omega)]
    repeat rw [if_pos (by omega)]
    have hsl : (List.take (m * b + m - m * b) (List.drop (m * b) ((frV (rightV (backV p)) y sy).2.map satV))).length = m := by
      rw [List.length_take, List.length_drop, hout]; omega
    have hat : ∀ j, j < m → (List.take (m * b + m - m * b) (List.drop (m * b) ((frV (rightV (backV p)) y sy).2.map satV))).getD j 0 = satV (segF (rightV (backV (if b = 0 then p else spcV y sy (b - 1)))) (backV (spcV y sy b)) j) := by
      intro j hj
      rw [List.getD, List.getElem?_take, if_pos (by omega), List.getElem?_drop]
      have hs := seg_at ht hm8.1 hbl (nbl sy) b hbn j hj
      rw [htail, blk_spc] at hs
      rw [← hs]
      unfold frV
      rw [List.getElem?_map, List.getElem?_eq_getElem (by rw [(frS_len ht hm8.1 hbl _).2, hm]; omega)]
      simp [List.getD, (frS_len ht hm8.1 hbl (nbl sy)).2, hm, show m * b + j < 64 by omega]
    refine near_spec (by rw [hsl, tab_length, hcl]) (by omega) (getD_cases (P := fun z => -1125899906842624 ≤ z ∧ z ≤ 1125899906842624) (by decide) fun i hi => ?_) (getD_cases (P := fun z => -32768 ≤ z ∧ z ≤ 32767) (by decide) fun i hi => ?_) (fun i hi => ?_) _ ?_
    · rw [tab_length] at hi
      rw [tab_get _ _ _ hi]
      exact exF_bound hlast hc i
    · rw [hsl] at hi
      rw [hat i hi]
      unfold satV; omega
    · rw [hsl] at hi
      rw [hat i hi, tab_get _ _ _ (by omega)]
      exact seg_near hlast hc (by omega)
    · rw [br_not, br_true]
      have e1 : iadd .i64 (b : Int) 1 = ((b + 1 : Nat) : Int) := i64_succ b (by omega)
      rw [e1]
      rw [if_neg (by omega), Nat.add_sub_cancel, Nat.mul_succ] at hq
      rw [if_pos (by omega), if_pos (by omega), if_pos (by omega)]
      exact hq
theorem near (x y : List Int) (sx sy : Bool) (_ : Rng (.sl (.int .i64)) x) (_ : Rng (.sl (.int .i64)) y) (_ : Rng .bool sx) (_ : Rng .bool sy) (K : Bool → Prop) (h : K true) : L12_LapNear x y sx sy K := by
  have ha := lapawake_spec K h
  rw [L12_LapNear_def]
  simp only [br_not, br_dec]
  by_cases hx : x.length = 64
  · rw [if_pos (by omega)]
    by_cases hy : y.length = 64
    · rw [if_pos (by omega)]
      refine rright_spec _ (by omega) x (by omega) _ ?_
      cases hrx : rightB 33554432 x with
      | false => exact (show L12_awake K from ha)
      | true =>
        rw [br_true]
        refine rright_spec _ (by omega) y (by omega) _ ?_
        cases hry : rightB 33554432 y with
        | false => exact (show L12_awake K from ha)
        | true =>
          show L12_LapNear_j3 x y sx sy K
          unfold L12_LapNear_j3
          have f0 : frB x (List.replicate 8 0) = true := by
            unfold frB
            rw [decide_eq_true hx, hrx]; decide
          obtain ⟨i, hi, hi1⟩ : ∃ i, nbl sx = i + 1 ∧ i = nbl sx - 1 := ⟨nbl sx - 1, by cases sx <;> rfl, rfl⟩
          have hp := (spc_right hx hrx sx (i := i) (by omega)).1
          have hlast : (frV (List.replicate 8 0) x sx).1 = rightV (backV (spcV x sx i)) := by
            unfold frV
            rw [hi, ← blk_spc]; rfl
          have f1 : frB y (rightV (backV (spcV x sx i))) = true := by
            unfold frB
            rw [decide_eq_true hy, hry, right_tail hp]; rfl
          refine make_spec _ (frame_spec _ x sx (by omega) (by decide) _ _ ?_)
          rw [if_pos f0, hlast]
          unfold L12_LapNear_j5
          refine frame_spec _ y sy (by omega) (rightV_length _) _ _ ?_
          rw [if_pos f1]
          unfold L12_LapNear_j6
          have hout : ((frV (rightV (backV (spcV x sx i))) y sy).2.map satV).length = 64 := by
            rw [List.length_map]; unfold frV
            have hlen := (frS_len (rightV_length (backV (spcV x sx i))) (bl := blkV y sy) (m := if sy then 8 else 64) (by cases sy <;> decide) (blk_len hy sy) (nbl sy)).2
            rw [hlen]; cases sy <;> rfl
          rw [br_not, br_dec, if_pos (by omega)]
          have fin : L12_LapNear_j9 y sy ((frV (rightV (backV (spcV x sx i))) y sy).2.map satV) (tab (nbl sx) (spcV x sx)) K := by
            unfold L12_LapNear_j9
            have hn8 : nbl sx ≤ 8 := by cases sx <;> decide
            have e : isub .i64 ((nbl sx : Nat) : Int) 1 = (i : Int) := by rw [isub64 (by omega)]; omega
            simp only [tab_length, e, br_dec, br_and, Int.toNat_natCast]
            rw [if_pos (by omega), if_pos (by omega), if_pos (by omega), tab_get _ _ _ (by omega)]
            have f2 : L12_LapNear_j11 (spcV x sx i) ((frV (rightV (backV (spcV x sx i))) y sy).2.map satV) (tab (nbl sy) (spcV y sy)) K := by
              unfold L12_LapNear_j11
              exact near_l13 hy hry sy hp K _ (by rw [br_dec, if_pos rfl]; exact ha) (nbl sy) 0 (by omega)
            exact spectra_spec hy sy _ _ f2 f2
          exact spectra_spec hx sx _ _ fin fin
    · rw [if_neg (by omega)]
      exact (show L12_awake K from ha)
  · rw [if_neg (by omega)]
    exact (show L12_awake K from ha)
end
end Go.Eng.A
