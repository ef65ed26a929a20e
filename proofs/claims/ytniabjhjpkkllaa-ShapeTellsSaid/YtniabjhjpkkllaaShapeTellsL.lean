import Derived.Test.YtniabjhjpkkllaaEngV
import Derived.Test.YtniabjhjpkkllaaEngU
import Derived.Test.YtniabjhjpkkllaaShapeTellsP
set_option linter.unusedSimpArgs false
set_option linter.unusedVariables false
set_option maxHeartbeats 2000000
namespace Go.Eng.A
open Go Go.Eng
set_option maxRecDepth 100000
noncomputable section
theorem drop_cons {α : Type} (d : α) {l : List α} {i : Nat} (h : i < l.length) : l.drop i = l.getD i d :: l.drop (i + 1) := by
  rw [List.drop_eq_getElem_cons h]; simp [List.getD, List.getElem?_eq_getElem h]
theorem getD_of_drop {l : List Int} {i : Nat} {x : Int} {r : List Int} (h : l.drop i = x :: r) : l.getD i 0 = x ∧ i < l.length ∧ l.drop (i + 1) = r := by
  have hi : i < l.length := by
    apply Classical.byContradiction
    intro hn
    rw [List.drop_eq_nil_of_le (by omega)] at h
    cases h
  rw [drop_cons 0 hi] at h
  injection h with h1 h2
  exact ⟨h1, hi, h2⟩
theorem tab_length {α : Type} (n : Nat) (f : Nat → α) : (tab n f).length = n := by simp [tab]
theorem tab_get {α : Type} (n : Nat) (f : Nat → α) (d : α) {i : Nat} (h : i < n) : (tab n f).getD i d = f i := by
  simp [tab, List.getD, List.getElem?_map, List.getElem?_range h]
theorem tab_set {α : Type} (n : Nat) (f : Nat → α) (i : Nat) (a : α) : (tab n f).set i a = tab n fun j => if j = i then a else f j := by
  apply List.ext_getElem (by simp [tab])
  intro j h1 h2
  simp only [tab, List.length_set, List.length_map, List.length_range] at h1
  simp only [tab, List.getElem_set, List.getElem_map, List.getElem_range]
  by_cases e : i = j
  · rw [if_pos e, if_pos e.symm]
  · rw [if_neg e, if_neg (Ne.symm e)]
theorem tab_snoc {α : Type} (n : Nat) (f : Nat → α) : tab n f ++ [f n] = tab (n + 1) f := by simp [tab, List.range_succ]
theorem tab_congr {α : Type} {n : Nat} {f g : Nat → α} (h : ∀ j, j < n → f j = g j) : tab n f = tab n g := by
  unfold tab
  apply List.map_congr_left
  intro j hj; exact h j (List.mem_range.1 hj)
theorem tab_const {α : Type} (n : Nat) (a : α) : List.replicate n a = tab n fun _ => a := by
  apply List.ext_getElem (by simp [tab])
  intro j h1 h2
  simp [tab]
theorem tab_zero {α : Type} (f : Nat → α) : tab 0 f = [] := rfl
/-- A list that is filled place by place. -/
def fillT {α : Type} (n i : Nat) (d : α) (f : Nat → α) : List α := tab n fun j => if j < i then f j else d
theorem fillT_length {α : Type} (n i : Nat) (d : α) (f : Nat → α) : (fillT n i d f).length = n := tab_length _ _
theorem fillT_zero {α : Type} (n : Nat) (d : α) (f : Nat → α) : fillT n 0 d f = List.replicate n d := by
  rw [tab_const]; exact tab_congr fun j _ => if_neg (by omega)
theorem fillT_set {α : Type} (n i : Nat) (d : α) (f : Nat → α) : (fillT n i d f).set i (f i) = fillT n (i + 1) d f := by
  unfold fillT
  rw [tab_set]
  refine tab_congr fun j _ => ?_
  by_cases e : j = i
  · rw [if_pos e, if_pos (by omega), e]
  · rw [if_neg e]
    by_cases h : j < i
    · rw [if_pos h, if_pos (by omega)]
    · rw [if_neg h, if_neg (by omega)]
theorem fillT_full {α : Type} (n : Nat) (d : α) (f : Nat → α) : fillT n n d f = tab n f := tab_congr fun _ hj => if_pos hj
theorem wrap64 {n : Int} (h : -9223372036854775808 ≤ n ∧ n ≤ 9223372036854775807) : Go.IntKind.wrap .i64 n = n := Go.IntWalk.i64_in _ h
theorem imax_eq' (a b : Int) : imax a b = max a b := by unfold imax; omega
theorem imin_eq' (a b : Int) : imin a b = min a b := by unfold imin; omega
theorem rng16 {n : Int} (h : (Lit.int .i16 n).wf = true) : -32768 ≤ n ∧ n ≤ 32767 := by
  simpa [Lit.wf, IntKind.min, IntKind.max, IntKind.signed, IntKind.bits] using h
theorem rng8 {n : Int} (h : (Lit.int .u8 n).wf = true) : 0 ≤ n ∧ n ≤ 255 := by
  simpa [Lit.wf, IntKind.min, IntKind.max, IntKind.signed, IntKind.bits] using h
theorem i64_succ (i : Nat) (h : i < 1000000000) : iadd .i64 (i : Int) 1 = ((i + 1 : Nat) : Int) := by rw [iadd64 (by omega)]; omega
theorem all_getD {p : Int → Bool} {l : List Int} (h : l.all p = true) {i : Nat} (hi : i < l.length) : p (l.getD i 0) = true := by
  rw [List.all_eq_true] at h
  refine h _ ?_
  simp [List.getD, List.getElem?_eq_getElem hi]
theorem getD_mem {l : List Int} {i : Nat} (hi : i < l.length) : l.getD i 0 ∈ l := by simp [List.getD, List.getElem?_eq_getElem hi]
theorem same_l4 (a b : List Int) (K0 : Bool → Prop) (K1 : Prop) (hl : a.length ≤ 1000000) (hab : a.length = b.length) : ∀ (n i : Nat), i + n = a.length →
    (if a.drop i = b.drop i then K1 else K0 false) → ∃ q, R01_Same_l4 q a b i K0 K1 := by
  intro n
  induction n with
  | zero =>
    intro i hi h
    refine ⟨1, ?_⟩
    rw [List.drop_eq_nil_of_le (by omega), List.drop_eq_nil_of_le (by omega)] at h
    simp only [R01_Same_l4, br_dec]
    rw [if_neg (by omega)]
    simpa using h
  | succ n ih =>
    intro i hi h
    rw [drop_cons 0 (l := a) (by omega), drop_cons 0 (l := b) (by omega)] at h
    by_cases hx : a.getD i 0 = b.getD i 0
    · obtain ⟨q, hq⟩ := ih (i + 1) (by omega) (by rw [hx] at h; simpa only [List.cons.injEq, true_and] using h)
      refine ⟨q + 1, ?_⟩
      simp only [R01_Same_l4, br_dec, br_and, br_not, Int.toNat_natCast]
      rw [if_pos (by omega), if_pos (by omega), if_pos (by omega), if_pos (by omega), if_pos (by omega), if_pos hx, iadd64 (by omega)]
      exact hq
    · refine ⟨1, ?_⟩
      simp only [R01_Same_l4, br_dec, br_and, br_not, Int.toNat_natCast]
      rw [if_pos (by omega), if_pos (by omega), if_pos (by omega), if_pos (by omega), if_pos (by omega), if_neg hx]
      rw [if_neg (fun e => hx (by injection e))] at h
      exact h
theorem same_spec (a b : List Int) (K0 : Bool → Prop) (hl : a.length ≤ 1000000) (h : K0 (decide (a = b))) : R01_Same a b K0 := by
  rw [R01_Same_def]
  rw [br_not, br_dec]
  split
  · rename_i hab
    refine same_l4 a b _ _ hl (by omega) a.length 0 (by omega) ?_
    rw [List.drop_zero, List.drop_zero]
    split
    · rename_i e; rw [decide_eq_true e] at h; exact h
    · rename_i e; rw [decide_eq_false e] at h; exact h
  · rename_i hab
    rw [decide_eq_false (fun e => hab (by rw [e]))] at h
    exact h
theorem same_self (a : List Int) (K0 : Bool → Prop) (hl : a.length ≤ 1000000) (h : K0 true) : R01_Same a a K0 :=
  same_spec a a K0 hl (by rw [decide_eq_true rfl]; exact h)
def inB (low high x : Int) : Bool := decide (low ≤ x ∧ x ≤ high)
theorem within_l2 (l : List Int) (low high : Int) (K0 : Bool → Prop) (K1 : Prop) (hl : l.length ≤ 1000000) : ∀ (n i : Nat), i + n = l.length →
    (if (l.drop i).all (inB low high) = true then K1 else K0 false) → ∃ q, R01_Within_l2 q l low high i K0 K1 := by
  intro n
  induction n with
  | zero =>
    intro i hi h
    refine ⟨1, ?_⟩
    rw [List.drop_eq_nil_of_le (by omega)] at h
    simp only [R01_Within_l2, br_dec]
    rw [if_neg (by omega)]
    simpa using h
  | succ n ih =>
    intro i hi h
    rw [drop_cons 0 (by omega), List.all_cons] at h
    by_cases hx : inB low high (l.getD i 0) = true
    · obtain ⟨q, hq⟩ := ih (i + 1) (by omega) (by rw [hx, Bool.true_and] at h; exact h)
      refine ⟨q + 1, ?_⟩
      unfold inB at hx
      rw [decide_eq_true_eq] at hx
      simp only [R01_Within_l2, br_dec, br_and, Int.toNat_natCast]
      rw [if_pos (by omega), if_pos (by omega), if_pos (by omega), if_neg (by omega), if_pos (by omega), if_pos (by omega), if_neg (by omega), iadd64 (by omega)]
      exact hq
    · refine ⟨1, ?_⟩
      have h : K0 false := by rw [Bool.eq_false_iff.2 hx, Bool.false_and] at h; exact h
      unfold inB at hx
      rw [decide_eq_true_eq] at hx
      simp only [R01_Within_l2, br_dec, br_and, Int.toNat_natCast]
      rw [if_pos (by omega), if_pos (by omega), if_pos (by omega)]
      split
      · exact h
      · rw [if_pos (by omega), if_pos (by omega), if_pos (by omega)]
        exact h
theorem within_spec (l : List Int) (low high : Int) (K0 : Bool → Prop) (hl : l.length ≤ 1000000) (h : K0 (l.all (inB low high))) : R01_Within l low high K0 := by
  rw [R01_Within_def]
  refine within_l2 l low high K0 _ hl l.length 0 (by omega) ?_
  rw [List.drop_zero]
  split
  · rename_i e; rw [e] at h; exact h
  · rename_i e; rw [Bool.eq_false_iff.2 e] at h; exact h
/-- A number divided by a power of two, to the nearest. -/
def shrV (x n : Int) : Int := if n < 0 ∨ 60 < n ∨ x < -2305843009213693952 ∨ 2305843009213693952 < x then 0 else (2 * x + 2 ^ n.toNat) / (2 * 2 ^ n.toNat)
theorem shr_zero (x : Int) : (2 * x + 2 ^ (0 : Nat)) / (2 * 2 ^ (0 : Nat)) = x := by omega
theorem pow_bounds {k : Nat} (h : k ≤ 60) : (0 : Int) < 2 ^ k ∧ (2 : Int) ^ k ≤ 1152921504606846976 := by
  have h1 : 2 ^ k ≤ 2 ^ 60 := Nat.pow_le_pow_right (n := 2) (by decide) h
  have h2 : ((2 ^ k : Nat) : Int) ≤ ((2 ^ 60 : Nat) : Int) := Int.ofNat_le.2 h1
  rw [Int.natCast_pow, Int.natCast_pow] at h2
  exact ⟨Int.pow_pos (by decide), h2⟩
theorem shr_step (x : Int) (k : Nat) : (2 * x + 2 ^ (k + 1)) / (2 * 2 ^ (k + 1)) = (x + 2 ^ k) / 2 ^ (k + 1) := by
  have e : 2 * x + 2 ^ (k + 1) = 2 * (x + 2 ^ k) := by rw [Int.pow_succ, Int.mul_add, Int.mul_comm (2 ^ k) 2]
  rw [e, Int.mul_ediv_mul_of_pos _ _ (by decide : (0 : Int) < 2)]
theorem num_within1 (x : Int) (K0 : Bool → Prop) (h : K0 (decide (-2305843009213693952 ≤ x ∧ x ≤ 2305843009213693952))) : num_within 2305843009213693952 [x] K0 := by
  rw [num_within_def]
  refine ⟨2, ?_⟩
  have e0 : isub .i64 0 2305843009213693952 = -2305843009213693952 := by decide
  have e1 : iadd .i64 0 1 = 1 := by decide
  simp only [num_within_l2, br_dec, br_and, e0, e1, List.length_cons, List.length_nil]
  rw [if_pos (by decide), if_pos (by decide), if_pos (by decide)]
  show if x < _ then _ else if _ < x then _ else _
  split
  · rw [decide_eq_false (by omega)] at h; exact h
  split
  · rw [decide_eq_false (by omega)] at h; exact h
  · rw [if_neg (by decide)]
    rw [decide_eq_true (by omega)] at h; exact h
theorem shr_spec (x n : Int) (K0 : Int → Prop) (h : K0 (shrV x n)) : num_Shr x n K0 := by
  rw [num_Shr_def]
  unfold shrV at h
  simp only [br_dec]
  split
  · rw [if_pos (by omega)] at h; exact h
  split
  · rw [if_pos (by omega)] at h; exact h
  refine num_within1 x _ ?_
  unfold num_Shr_j2
  rw [br_not, br_dec]
  split
  · rename_i h1 h2 hx
    rw [if_neg (by omega)] at h
    rw [br_dec]
    split
    · rename_i hn
      subst hn
      rw [show (0 : Int).toNat = 0 from rfl, shr_zero] at h
      exact h
    · obtain ⟨k, rfl⟩ : ∃ k : Nat, n = ((k + 1 : Nat) : Int) := ⟨(n - 1).toNat, by omega⟩
      rw [Int.toNat_natCast, shr_step] at h
      obtain ⟨hp, hp2⟩ := pow_bounds (k := k) (by omega)
      have e1 : isub .i64 ((k + 1 : Nat) : Int) 1 = (k : Int) := by rw [isub64 (by omega)]; omega
      have e2 : ishl .i64 1 (k : Int) = 2 ^ k := by rw [ishl64 (by omega) (by omega), Int.one_mul]
      unfold num_Shr_j5
      simp only [e1, br_dec, e2]
      rw [if_neg (by omega), if_neg (by omega), iadd64 (by omega), ishr64 (by omega)]
      exact h
  · rw [if_pos (by omega)] at h; exact h
theorem rmod_spec (a b : Int) (hb : 1 ≤ b) (hb2 : b ≤ 1152921504606846976) (ha : -2305843009213693952 ≤ a ∧ a ≤ 2305843009213693952) (K0 : Int → Int → Prop) (h : K0 (a / b) (a % b)) : R01_Mod a b K0 := by
  rw [R01_Mod_def]
  simp only [br_dec]
  rw [if_neg (by omega), if_neg (by omega), if_neg (by omega), iquo64 hb (by omega)]
  have hm := Int.emod_nonneg a (show b ≠ 0 by omega)
  have hm2 := Int.emod_lt_of_pos a (show 0 < b by omega)
  have e1 := Int.tdiv_eq_ediv (a := a) (b := b)
  have e2 := Int.tmod_eq_emod (a := a) (b := b)
  have hs : b.sign = 1 := Int.sign_eq_one_of_pos (by omega)
  have hr : irem .i64 a b = a.tmod b := rfl
  have hq := tdiv_range hb (a := a) (by omega)
  rw [hr]
  by_cases hc : 0 ≤ a ∨ b ∣ a
  · rw [if_pos hc] at e1 e2
    have e3 : a.tdiv b = a / b := by omega
    have e4 : a.tmod b = a % b := by omega
    rw [if_neg (by omega), e3, e4]; exact h
  · rw [if_neg hc, hs] at e1
    rw [if_neg hc] at e2
    have h1 : -2305843009213693952 ≤ a / b := Int.le_ediv_of_mul_le (by omega) (by omega)
    have h2 : a / b ≤ 0 := by
      have := Int.ediv_le_ediv (a := a) (b := 0) (c := b) (by omega) (by omega)
      rwa [Int.zero_ediv] at this
    have hb3 : ((b.natAbs : Nat) : Int) = b := by omega
    rw [hb3] at e2
    rw [if_pos (by omega), e1, e2, isub64 (by omega), iadd64 (by omega)]
    rw [show a / b + 1 - 1 = a / b by omega, show a % b - b + b = a % b by omega]
    exact h
theorem half_up (x b : Int) (hb : 0 < b) : (2 * x + b) / (2 * b) = if b ≤ 2 * (x % b) then x / b + 1 else x / b := by
  have h0 := Int.emod_nonneg x (show b ≠ 0 by omega)
  have h1 := Int.emod_lt_of_pos x hb
  have h2 := Int.emod_add_mul_ediv x b
  have e : 2 * x + b = (2 * (x % b) + b) + 2 * b * (x / b) := by
    rw [Int.mul_assoc]; omega
  rw [e, Int.add_mul_ediv_left _ _ (show 2 * b ≠ 0 by omega)]
  split
  · rw [show (2 * (x % b) + b) / (2 * b) = 1 by
      rw [show 2 * (x % b) + b = (2 * (x % b) - b) + 2 * b * 1 by omega, Int.add_mul_ediv_left _ _ (show 2 * b ≠ 0 by omega), Int.ediv_eq_zero_of_lt (by omega) (by omega)]; rfl]
    omega
  · rw [Int.ediv_eq_zero_of_lt (by omega) (by omega)]; omega
theorem rshr_spec (x n : Int) (K0 : Int → Prop) (h : K0 (shrV x n)) : R01_Shr x n K0 := by
  rw [R01_Shr_def]
  unfold shrV at h
  simp only [br_dec]
  split
  · rw [if_pos (by omega)] at h; exact h
  split
  · rw [if_pos (by omega)] at h; exact h
  split
  · rw [if_pos (by omega)] at h; exact h
  split
  · rw [if_pos (by omega)] at h; exact h
  rw [if_neg (by omega)] at h
  obtain ⟨k, rfl⟩ : ∃ k : Nat, n = (k : Int) := ⟨n.toNat, by omega⟩
  rw [Int.toNat_natCast] at h
  obtain ⟨hp, hp2⟩ := pow_bounds (k := k) (by omega)
  have e2 : ishl .i64 1 (k : Int) = 2 ^ k := by rw [ishl64 (by omega) (by omega), Int.one_mul]
  rw [half_up x _ hp] at h
  rw [e2]
  refine rmod_spec x (2 ^ k) (by omega) hp2 (by omega) _ ?_
  have hm := Int.emod_nonneg x (show (2 : Int) ^ k ≠ 0 by omega)
  have hm2 := Int.emod_lt_of_pos x hp
  have h1 : -2305843009213693952 ≤ x / 2 ^ k := Int.le_ediv_of_mul_le (by omega) (by omega)
  have h2 : x / 2 ^ k ≤ 2305843009213693952 := Int.ediv_le_of_le_mul hp (by omega)
  rw [imul64 (by omega), iadd64 (by omega)]
  split
  · rename_i hc; rw [if_pos hc] at h; exact h
  · rename_i hc; rw [if_neg hc] at h; exact h
/-- How far a number is from 0, unless it is too far. -/
def absV (x : Int) : Int := if x < -4611686018427387904 ∨ 4611686018427387904 < x then 0 else max x (-x)
theorem abs_within1 (x : Int) (K0 : Bool → Prop) (h : K0 (decide (-4611686018427387904 ≤ x ∧ x ≤ 4611686018427387904))) : num_within 4611686018427387904 [x] K0 := by
  rw [num_within_def]
  refine ⟨2, ?_⟩
  have e0 : isub .i64 0 4611686018427387904 = -4611686018427387904 := by decide
  have e1 : iadd .i64 0 1 = 1 := by decide
  simp only [num_within_l2, br_dec, br_and, e0, e1, List.length_cons, List.length_nil]
  rw [if_pos (by decide), if_pos (by decide), if_pos (by decide)]
  show if x < _ then _ else if _ < x then _ else _
  split
  · rw [decide_eq_false (by omega)] at h; exact h
  split
  · rw [decide_eq_false (by omega)] at h; exact h
  · rw [if_neg (by decide)]
    rw [decide_eq_true (by omega)] at h; exact h
theorem abs_spec (x : Int) (K0 : Int → Prop) (h : K0 (absV x)) : num_Abs x K0 := by
  rw [num_Abs_def]
  refine abs_within1 x _ ?_
  unfold absV at h
  rw [br_not, br_dec]
  split
  · rw [if_neg (by omega)] at h
    rw [br_dec]
    split
    · rw [isub64 (by omega), show (0 : Int) - x = max x (-x) by omega]; exact h
    · rw [show max x (-x) = x by omega] at h; exact h
  · rw [if_pos (by omega)] at h; exact h
theorem rabs_spec (x : Int) (K0 : Int → Prop) (h : K0 (absV x)) : R01_Abs x K0 := by
  rw [R01_Abs_def]
  unfold absV at h
  simp only [br_dec]
  split
  · rw [if_pos (by omega)] at h; exact h
  split
  · rw [if_pos (by omega)] at h; exact h
  rw [if_neg (by omega)] at h
  rw [isub64 (by omega), imax_eq', Int.zero_sub]; exact h
theorem absV_of {x : Int} (h : -4611686018427387904 ≤ x ∧ x ≤ 4611686018427387904) : absV x = max x (-x) := by unfold absV; rw [if_neg (by omega)]
/-- r is the root of n, rounded down. -/
def isq (n r : Int) : Prop := 0 ≤ r ∧ r * r ≤ n ∧ n < (r + 1) * (r + 1)
theorem sq_succ (r : Int) : (r + 1) * (r + 1) = r * r + 2 * r + 1 := by rw [Int.add_mul, Int.mul_add]; omega
theorem sq_mono {a b : Int} (h0 : 0 ≤ a) (h : a ≤ b) : a * a ≤ b * b := Int.mul_le_mul h h h0 (by omega)
theorem isq_le {a b r s : Int} (h1 : isq a r) (h2 : isq b s) (h : a ≤ b) : r ≤ s := by
  apply Classical.byContradiction
  intro hn
  have := sq_mono (a := s + 1) (b := r) (by have := h2.1; omega) (by omega)
  have := h1.2.1; have := h2.2.2
  omega
theorem isq_eq {a r s : Int} (h1 : isq a r) (h2 : isq a s) : r = s := by
  have := isq_le h1 h2 (Int.le_refl _); have := isq_le h2 h1 (Int.le_refl _); omega
theorem isq_sq {r : Int} (h : 0 ≤ r) : isq (r * r) r := ⟨h, Int.le_refl _, by rw [sq_succ]; omega⟩
theorem root_le {n r : Int} (h : isq n r) (hn : n ≤ 1152921504606846976) : r ≤ 1073741824 := by
  apply Classical.byContradiction
  intro hb
  have := sq_mono (a := 1073741825) (b := r) (by decide) (by omega)
  have := h.2.1
  omega

theorem ior_add (m j : Nat) (h : m * 2 ^ (j + 1) + 2 ^ j < 2 ^ 62) : ior .i64 ((m * 2 ^ (j + 1) : Nat) : Int) ((2 ^ j : Nat) : Int) = ((m * 2 ^ (j + 1) + 2 ^ j : Nat) : Int) := by
  unfold ior
  have e1 : (BitVec.ofInt IntKind.i64.bits ((m * 2 ^ (j + 1) : Nat) : Int)).toNat = m * 2 ^ (j + 1) := by
    rw [BitVec.ofInt_natCast, BitVec.toNat_ofNat]
    exact Nat.mod_eq_of_lt (Nat.lt_of_lt_of_le (Nat.lt_of_le_of_lt (Nat.le_add_right _ _) h) (by decide))
  have e2 : (BitVec.ofInt IntKind.i64.bits ((2 ^ j : Nat) : Int)).toNat = 2 ^ j := by
    rw [BitVec.ofInt_natCast, BitVec.toNat_ofNat]
    exact Nat.mod_eq_of_lt (Nat.lt_of_lt_of_le (Nat.lt_of_le_of_lt (Nat.le_add_left _ _) h) (by decide))
  rw [BitVec.toNat_or, e1, e2]
  have e3 : m * 2 ^ (j + 1) ||| 2 ^ j = m * 2 ^ (j + 1) + 2 ^ j := by
    have := Nat.shiftLeft_add_eq_or_of_lt (i := j + 1) (b := 2 ^ j) (Nat.pow_lt_pow_right (by decide) (by omega)) m
    rw [Nat.shiftLeft_eq] at this
    exact this.symm
  rw [e3]
  refine Go.IntWalk.i64_in _ ⟨by omega, ?_⟩
  have : (m * 2 ^ (j + 1) + 2 ^ j : Nat) < 4611686018427387904 := h
  omega

theorem sqrt_l5 (n : Int) (hn : 0 ≤ n ∧ n ≤ 1152921504606846976) (K0 : Int → Prop) (h : ∀ r, isq n r → K0 r) : ∀ (j m : Nat), j ≤ 31 → ((m * 2 ^ j : Nat) : Int) * ((m * 2 ^ j : Nat) : Int) ≤ n → n < ((m * 2 ^ j + 2 ^ j : Nat) : Int) * ((m * 2 ^ j + 2 ^ j : Nat) : Int) →
    ∃ q, root_Sqrt_l5 q n ((m * 2 ^ j : Nat) : Int) (31 - j : Int) K0 := by
  intro j
  induction j with
  | zero =>
    intro m _ h1 h2
    refine ⟨1, ?_⟩
    simp only [root_Sqrt_l5, br_dec]
    rw [if_neg (by omega)]
    refine h _ ⟨by omega, h1, ?_⟩
    simpa using h2
  | succ j ih =>
    intro m hj h1 h2
    have hp : 2 ^ (j + 1) = 2 ^ j + 2 ^ j := by rw [Nat.pow_succ]; omega
    have hp30 : 2 ^ j ≤ 1073741824 := Nat.le_trans (Nat.pow_le_pow_right (n := 2) (i := j) (j := 30) (by decide) (by omega)) (by decide)
    have hpi : (0 : Int) < 2 ^ j := Int.pow_pos (by decide)
    have hpi30 : (2 : Int) ^ j ≤ 1073741824 := by
      have h9 : ((2 ^ j : Nat) : Int) ≤ 1073741824 := Int.ofNat_le.2 hp30
      rwa [Int.natCast_pow] at h9
    have hmi : 0 ≤ ((m * 2 ^ (j + 1) : Nat) : Int) := by omega
    have hmi2 : ((m * 2 ^ (j + 1) + 2 ^ j : Nat) : Int) = ((m * 2 ^ (j + 1) : Nat) : Int) + 2 ^ j := by simp
    have hr : ((m * 2 ^ (j + 1) : Nat) : Int) ≤ 1073741824 := by
      apply Classical.byContradiction
      intro hb
      have := sq_mono (a := 1073741825) (b := ((m * 2 ^ (j + 1) : Nat) : Int)) (by decide) (by omega)
      omega
    have hv : isub .i64 30 (31 - ((j + 1 : Nat) : Int)) = ((j : Nat) : Int) := by rw [isub64 (by omega)]; omega
    have hsh : ishl .i64 1 ((j : Nat) : Int) = ((2 ^ j : Nat) : Int) := by
      rw [ishl64 (by omega) (by
        rw [Int.one_mul]; omega)]
      simp
    have hor : ior .i64 ((m * 2 ^ (j + 1) : Nat) : Int) ((2 ^ j : Nat) : Int) = ((m * 2 ^ (j + 1) + 2 ^ j : Nat) : Int) := ior_add m j (by
      have h9 : (m * 2 ^ (j + 1) : Nat) ≤ 1073741824 := Int.ofNat_le.1 hr
      exact Nat.lt_of_le_of_lt (Nat.add_le_add h9 hp30) (by decide))
    have hmul : imul .i64 ((m * 2 ^ (j + 1) + 2 ^ j : Nat) : Int) ((m * 2 ^ (j + 1) + 2 ^ j : Nat) : Int) = ((m * 2 ^ (j + 1) + 2 ^ j : Nat) : Int) * ((m * 2 ^ (j + 1) + 2 ^ j : Nat) : Int) := by
      have := sq_mono (a := ((m * 2 ^ (j + 1) + 2 ^ j : Nat) : Int)) (b := 2147483648) (by rw [hmi2]; exact Int.add_nonneg hmi (Int.le_of_lt hpi)) (by rw [hmi2]; exact Int.add_le_add hr hpi30)
      have h0 : 0 ≤ ((m * 2 ^ (j + 1) + 2 ^ j : Nat) : Int) * ((m * 2 ^ (j + 1) + 2 ^ j : Nat) : Int) := Int.mul_nonneg (Int.natCast_nonneg _) (Int.natCast_nonneg _)
      exact imul64 (by omega)
    have hnext : iadd .i64 (31 - ((j + 1 : Nat) : Int)) 1 = 31 - (j : Int) := by rw [iadd64 (by omega)]; omega
    by_cases hc : ((m * 2 ^ (j + 1) + 2 ^ j : Nat) : Int) * ((m * 2 ^ (j + 1) + 2 ^ j : Nat) : Int) ≤ n
    · have e : m * 2 ^ (j + 1) + 2 ^ j = (2 * m + 1) * 2 ^ j := by rw [Nat.pow_succ, Nat.add_mul, Nat.one_mul, Nat.mul_comm (2 ^ j) 2, ← Nat.mul_assoc, Nat.mul_comm m 2]
      obtain ⟨q, hq⟩ := ih (2 * m + 1) (by omega) (by rw [← e]; exact hc) (by
        have e2 : (2 * m + 1) * 2 ^ j + 2 ^ j = m * 2 ^ (j + 1) + 2 ^ (j + 1) := by rw [← e]; omega
        rw [e2]; exact h2)
      refine ⟨q + 1, ?_⟩
      simp only [root_Sqrt_l5, br_dec, hv]
      rw [if_pos (by omega), if_neg (by omega), hsh, hor, hmul, if_pos hc, hnext, e]
      exact hq
    · have e : m * 2 ^ (j + 1) = (2 * m) * 2 ^ j := by rw [Nat.pow_succ, Nat.mul_comm (2 ^ j) 2, ← Nat.mul_assoc, Nat.mul_comm m 2]
      obtain ⟨q, hq⟩ := ih (2 * m) (by omega) (by rw [← e]; exact h1) (by rw [← e]; omega)
      refine ⟨q + 1, ?_⟩
      simp only [root_Sqrt_l5, br_dec, hv]
      rw [if_pos (by omega), if_neg (by omega), hsh, hor, hmul, if_neg hc, hnext, e]
      exact hq

theorem sqrt_spec (n : Int) (K0 : Int → Prop) (h0 : ¬ (0 ≤ n ∧ n ≤ 1152921504606846976) → K0 0) (h : 0 ≤ n ∧ n ≤ 1152921504606846976 → ∀ r, isq n r → K0 r) : root_Sqrt n K0 := by
  rw [root_Sqrt_def]
  simp only [br_dec]
  split
  · exact h0 (by omega)
  split
  · exact h0 (by omega)
  have := sqrt_l5 n (by omega) K0 (h (by omega)) 31 0 (by decide) (by omega) (by
    have : ((0 * 2 ^ 31 + 2 ^ 31 : Nat) : Int) * ((0 * 2 ^ 31 + 2 ^ 31 : Nat) : Int) = 4611686018427387904 := by decide
    rw [this]; omega)
  simpa using this

theorem rsqrt_l4 (n : Int) (_hn : 0 ≤ n ∧ n ≤ 1152921504606846976) (K0 : Int → Prop) (h : ∀ r, isq n r → K0 r) : ∀ (d : Nat) (low high : Int), high - low ≤ d → 0 ≤ low → low < high → high ≤ 1073741825 → low * low ≤ n → n < high * high →
    ∃ q, R06_Sqrt_l4 q n low high K0 := by
  intro d
  induction d with
  | zero => intro low high h1 _ h3; omega
  | succ d ih =>
    intro low high h1 h2 h3 h4 h5 h6
    by_cases hc : 1 < high - low
    · have hm : iquo .i64 (iadd .i64 low high) 2 = (low + high) / 2 := by rw [iadd64 (by omega), iquo64n (by omega) (by omega)]
      have hb : imul .i64 ((low + high) / 2) ((low + high) / 2) = ((low + high) / 2) * ((low + high) / 2) := by
        have := sq_mono (a := (low + high) / 2) (b := 1073741825) (by omega) (by omega)
        have : 0 ≤ ((low + high) / 2) * ((low + high) / 2) := Int.mul_nonneg (by omega) (by omega)
        exact imul64 (by omega)
      by_cases hx : ((low + high) / 2) * ((low + high) / 2) ≤ n
      · obtain ⟨q, hq⟩ := ih ((low + high) / 2) high (by omega) (by omega) (by omega) h4 hx h6
        refine ⟨q + 1, ?_⟩
        simp only [R06_Sqrt_l4, br_dec, hm, hb]
        rw [isub64 (by omega), if_pos hc, if_pos hx]
        exact hq
      · obtain ⟨q, hq⟩ := ih low ((low + high) / 2) (by omega) h2 (by omega) (by omega) h5 (by omega)
        refine ⟨q + 1, ?_⟩
        simp only [R06_Sqrt_l4, br_dec, hm, hb]
        rw [isub64 (by omega), if_pos hc, if_neg hx]
        exact hq
    · refine ⟨1, ?_⟩
      simp only [R06_Sqrt_l4, br_dec]
      rw [isub64 (by omega), if_neg hc]
      have : high = low + 1 := by omega
      subst this
      exact h low ⟨h2, h5, h6⟩
theorem rsqrt_spec (n : Int) (K0 : Int → Prop) (h0 : ¬ (0 ≤ n ∧ n ≤ 1152921504606846976) → K0 0) (h : 0 ≤ n ∧ n ≤ 1152921504606846976 → ∀ r, isq n r → K0 r) : R06_Sqrt n K0 := by
  rw [R06_Sqrt_def]
  simp only [br_dec]
  split
  · exact h0 (by omega)
  split
  · exact h0 (by omega)
  exact rsqrt_l4 n (by omega) K0 (h (by omega)) 1073741825 0 1073741825 (by omega) (by omega) (by omega) (by omega) (by omega) (by omega)

/-! ### Halvings -/
/-- The root of n, rounded down; 0 where there is none. -/
def sqV (n : Int) : Int := if 0 ≤ n ∧ n ≤ 1152921504606846976 then Classical.epsilon (isq n) else 0
theorem sqV_eq {n r : Int} (hn : 0 ≤ n ∧ n ≤ 1152921504606846976) (h : isq n r) : sqV n = r := by
  unfold sqV
  rw [if_pos hn]
  exact isq_eq (Classical.epsilon_spec ⟨r, h⟩) h
theorem sqrtV_spec (n : Int) (K0 : Int → Prop) (h : K0 (sqV n)) : root_Sqrt n K0 := by
  refine sqrt_spec n K0 (fun hn => ?_) (fun hn r hr => ?_)
  · unfold sqV at h; rw [if_neg hn] at h; exact h
  · rw [sqV_eq hn hr] at h; exact h
theorem rsqrtV_spec (n : Int) (K0 : Int → Prop) (h : K0 (sqV n)) : R06_Sqrt n K0 := by
  refine rsqrt_spec n K0 (fun hn => ?_) (fun hn r hr => ?_)
  · unfold sqV at h; rw [if_neg hn] at h; exact h
  · rw [sqV_eq hn hr] at h; exact h
theorem nwithin_l2 (m : Int) (hm : 0 ≤ m ∧ m ≤ 4611686018427387904) (l : List Int) (hl : l.length ≤ 1000000) (K0 : Bool → Prop) (K1 : Prop) : ∀ n i : Nat, i + n = l.length →
    (if (l.drop i).all (inB (-m) m) = true then K1 else K0 false) → ∃ q, num_within_l2 q m l l.length i K0 K1 := by
  intro n
  induction n with
  | zero =>
    intro i hi h
    refine ⟨1, ?_⟩
    rw [List.drop_eq_nil_of_le (by omega)] at h
    simp only [num_within_l2, br_dec]
    rw [if_neg (by omega)]
    simpa using h
  | succ n ih =>
    intro i hi h
    rw [drop_cons 0 (by omega), List.all_cons] at h
    by_cases hx : inB (-m) m (l.getD i 0) = true
    · rw [hx, Bool.true_and] at h
      obtain ⟨q, hq⟩ := ih (i + 1) (by omega) h
      refine ⟨q + 1, ?_⟩
      unfold inB at hx
      rw [decide_eq_true_eq] at hx
      simp only [num_within_l2, br_dec, br_and, Int.toNat_natCast]
      rw [if_pos (by omega), if_pos (by omega), if_pos (by omega), isub64 (by omega), if_neg (by omega), if_neg (by omega), i64_succ _ (by omega)]
      exact hq
    · have h : K0 false := by
        rw [Bool.eq_false_iff.2 hx, Bool.false_and, if_neg (by simp)] at h; exact h
      refine ⟨1, ?_⟩
      unfold inB at hx
      rw [decide_eq_true_eq] at hx
      simp only [num_within_l2, br_dec, br_and, Int.toNat_natCast]
      rw [if_pos (by omega), if_pos (by omega), if_pos (by omega), isub64 (by omega)]
      split
      · exact h
      · rw [if_pos (by omega)]; exact h
theorem nwithin_spec (m : Int) (hm : 0 ≤ m ∧ m ≤ 4611686018427387904) (l : List Int) (hl : l.length ≤ 1000000) (K0 : Bool → Prop) (h : K0 (l.all (inB (-m) m))) : num_within m l K0 := by
  rw [num_within_def]
  refine nwithin_l2 m hm l hl K0 _ l.length 0 (by omega) ?_
  rw [List.drop_zero]
  split
  · rename_i e; rw [e] at h; exact h
  · rename_i e; rw [Bool.eq_false_iff.2 e] at h; exact h
theorem mod_spec (a b : Int) (hb : 1 ≤ b) (hb2 : b ≤ 1152921504606846976) (ha : -2305843009213693952 ≤ a ∧ a ≤ 2305843009213693952) (K0 : Int → Int → Prop) (h : K0 (a / b) (a % b)) : num_Mod a b K0 := by
  rw [num_Mod_def]
  simp only [br_dec]
  rw [if_neg (by omega), if_neg (by omega)]
  have hm := Int.emod_nonneg a (show b ≠ 0 by omega)
  have hm2 := Int.emod_lt_of_pos a (show 0 < b by omega)
  have e1 := Int.tdiv_eq_ediv (a := a) (b := b)
  have e2 := Int.tmod_eq_emod (a := a) (b := b)
  have hs : b.sign = 1 := Int.sign_eq_one_of_pos (by omega)
  have hr : irem .i64 a b = a.tmod b := rfl
  have hq := tdiv_range hb (a := a) (by omega)
  have hq2 : iquo .i64 a b = a.tdiv b := iquo64 hb (by omega)
  have h8 : ∀ l, l = a % b → a.tdiv b = a / b → num_Mod_j8 a b l K0 := by
    intro l e e3
    unfold num_Mod_j8
    rw [br_dec, if_neg (by omega), hq2, e, e3]; exact h
  rw [hr]
  by_cases hc : 0 ≤ a ∨ b ∣ a
  · rw [if_pos hc] at e1 e2
    rw [if_neg (by omega)]
    unfold num_Mod_j6 num_Mod_j7
    rw [br_dec]
    split
    · rename_i h0
      have hd : b ∣ a := by
        rcases hc with hc | hc
        · omega
        · exact hc
      have := Int.emod_eq_zero_of_dvd hd
      rw [br_dec, if_neg (by omega)]
      exact h8 _ (by omega) (by omega)
    · rw [br_false]
      exact h8 _ (by omega) (by omega)
  · rw [if_neg hc, hs] at e1
    rw [if_neg hc] at e2
    have hb3 : ((b.natAbs : Nat) : Int) = b := by omega
    rw [hb3] at e2
    have h0 : a % b ≠ 0 := fun e => hc (.inr (Int.dvd_of_emod_eq_zero e))
    rw [if_pos (by omega)]
    unfold num_Mod_j6 num_Mod_j7
    rw [iadd64 (by omega), br_dec, if_pos (by omega), br_dec, if_pos (by omega), br_dec, if_neg (by omega), hq2]
    have h1 : -2305843009213693952 ≤ a / b := Int.le_ediv_of_mul_le (by omega) (by omega)
    rw [isub64 (by omega), show a.tdiv b - 1 = a / b by omega, show a.tmod b + b = a % b by omega]
    exact h
/-- A number divided by another, to the nearest. -/
def divV (a b : Int) : Int := if a < -1152921504606846976 ∨ 1152921504606846976 < a ∨ b < 1 ∨ 1152921504606846976 < b then 0 else if b ≤ 2 * (a % b) then a / b + 1 else a / b
theorem quo_range {a b : Int} (ha : -1152921504606846976 ≤ a ∧ a ≤ 1152921504606846976) (hb : 1 ≤ b) : -1152921504606846976 ≤ a / b ∧ a / b ≤ 1152921504606846976 :=
  ⟨Int.le_ediv_of_mul_le (by omega) (by omega), Int.ediv_le_of_le_mul (by omega) (by omega)⟩
theorem div_spec (a b : Int) (K0 : Int → Prop) (h : K0 (divV a b)) : num_Div a b K0 := by
  rw [num_Div_def]
  unfold divV at h
  rw [br_dec]
  split
  · rw [if_pos (by omega)] at h; exact h
  refine nwithin_spec _ (by decide) _ (by simp) _ ?_
  simp only [List.all_cons, List.all_nil, Bool.and_true, inB]
  by_cases hr : a < -1152921504606846976 ∨ 1152921504606846976 < a ∨ b < 1 ∨ 1152921504606846976 < b
  · rw [if_pos hr] at h
    have : (decide (-1152921504606846976 ≤ a ∧ a ≤ 1152921504606846976) && decide (-1152921504606846976 ≤ b ∧ b ≤ 1152921504606846976)) = false := by
      rw [← Bool.decide_and]; exact decide_eq_false (by omega)
    rw [this, br_not, br_false]; exact h
  · rw [if_neg hr] at h
    rw [decide_eq_true (by omega), decide_eq_true (by omega), br_not]
    show num_Mod _ _ _
    have hm := Int.emod_nonneg a (show b ≠ 0 by omega)
    have hm2 := Int.emod_lt_of_pos a (show 0 < b by omega)
    have := quo_range (a := a) (b := b) (by omega) (by omega)
    refine mod_spec a b (by omega) (by omega) (by omega) _ ?_
    rw [br_dec, isub64 (by omega), iadd64 (by omega)]
    split
    · rw [if_pos (by omega)] at h; exact h
    · rw [if_neg (by omega)] at h; exact h
theorem rdiv_spec (a b : Int) (K0 : Int → Prop) (h : K0 (divV a b)) : R01_Div a b K0 := by
  rw [R01_Div_def]
  unfold divV at h
  simp only [br_dec]
  split
  · rw [if_pos (by omega)] at h; exact h
  split
  · rw [if_pos (by omega)] at h; exact h
  split
  · rw [if_pos (by omega)] at h; exact h
  split
  · rw [if_pos (by omega)] at h; exact h
  rw [if_neg (by omega)] at h
  have hm := Int.emod_nonneg a (show b ≠ 0 by omega)
  have hm2 := Int.emod_lt_of_pos a (show 0 < b by omega)
  have := quo_range (a := a) (b := b) (by omega) (by omega)
  refine rmod_spec a b (by omega) (by omega) (by omega) _ ?_
  rw [imul64 (by omega), iadd64 (by omega)]
  split
  · rw [if_pos (by omega)] at h; exact h
  · rw [if_neg (by omega)] at h; exact h
def stp (f : Int) : Int := if f = 0 then 16777216 else if f = 1 then 19951585 else if f = 2 then 23726566 else 28215802
/-- How loud a level is. -/
def ampV (c f : Int) : Int := if c < 1 ∨ 23 < c ∨ f < 0 ∨ 3 < f then 0 else shrV (stp f) (24 - c)
theorem four {f : Int} (h : 0 ≤ f ∧ f ≤ 3) : f = 0 ∨ f = 1 ∨ f = 2 ∨ f = 3 := by omega
theorem amp_spec (c f : Int) (K0 : Int → Prop) (h : K0 (ampV c f)) : level_Amp c f K0 := by
  rw [level_Amp_def]
  unfold ampV at h
  simp only [br_dec]
  split
  · rw [if_pos (by omega)] at h; exact h
  split
  · rw [if_pos (by omega)] at h; exact h
  split
  · rw [if_pos (by omega)] at h; exact h
  split
  · rw [if_pos (by omega)] at h; exact h
  rw [if_neg (by omega)] at h
  rw [level_steps_def, br_and, br_dec, br_dec, if_pos (by omega), if_pos (by omega)]
  have e : ([16777216, 19951585, 23726566, 28215802] : List Int).getD f.toNat 0 = stp f := by
    rcases four (f := f) (by omega) with rfl | rfl | rfl | rfl <;> rfl
  rw [e, isub64 (by omega), if_pos (by simp only [List.length_cons, List.length_nil]; omega)]
  exact shr_spec _ _ _ h
theorem ramp_spec (c f : Int) (K0 : Int → Prop) (h : K0 (ampV c f)) : R08_Amp c f K0 := by
  rw [R08_Amp_def]
  unfold ampV at h
  simp only [br_dec]
  split
  · rw [if_pos (by omega)] at h; exact h
  split
  · rw [if_pos (by omega)] at h; exact h
  split
  · rw [if_pos (by omega)] at h; exact h
  split
  · rw [if_pos (by omega)] at h; exact h
  rw [if_neg (by omega)] at h
  have e : ∀ K, K (stp f) → R08_step f K := by
    intro K hk
    rw [R08_step_def]
    simp only [br_dec]
    unfold stp at hk
    split
    · rename_i h0; rw [if_pos h0] at hk; exact hk
    rename_i h0
    rw [if_neg h0] at hk
    split
    · rename_i h1; rw [if_pos h1] at hk; exact hk
    rename_i h1
    rw [if_neg h1] at hk
    split
    · rename_i h2; rw [if_pos h2] at hk; exact hk
    · rename_i h2; rw [if_neg h2] at hk; exact hk
  refine e _ ?_
  rw [isub64 (by omega)]
  exact rshr_spec _ _ _ h
def ampI (i : Nat) : Int := ampV ((i / 4 : Nat) : Int) ((i % 4 : Nat) : Int)
theorem ampI_step : ∀ i, i < 95 → 4 ≤ i → ampI i ≤ ampI (i + 1) := by decide +kernel
theorem ampI_mono {i : Nat} (hi : 4 ≤ i) : ∀ d, i + d ≤ 95 → ampI i ≤ ampI (i + d)
  | 0, _ => Int.le_refl _
  | d + 1, h => Int.le_trans (ampI_mono hi d (by omega)) (ampI_step (i + d) (by omega) (by omega))
/-- The greatest level that is not louder. -/
def findN (a : Int) : Nat → Nat
  | 0 => 3
  | i + 1 => if i + 1 < 4 then 3 else if ampI (i + 1) ≤ a then i + 1 else findN a i
theorem findN_step {a : Int} {i : Nat} (h : 4 ≤ i) : findN a i = if ampI i ≤ a then i else findN a (i - 1) := by
  obtain ⟨j, rfl⟩ : ∃ j, i = j + 1 := ⟨i - 1, by omega⟩
  rw [Nat.add_sub_cancel]
  conv => lhs; unfold findN
  rw [if_neg (by omega)]
theorem findN_eq {a : Int} {L : Nat} (h3 : 3 ≤ L) (h1 : L = 3 ∨ ampI L ≤ a) (h2 : ∀ i, L < i → i ≤ 95 → a < ampI i) : ∀ j, L + j ≤ 95 → findN a (L + j) = L
  | 0, _ => by
    obtain ⟨l, rfl⟩ : ∃ l, L = l + 1 := ⟨L - 1, by omega⟩
    rw [Nat.add_zero]
    unfold findN
    split
    · omega
    · rcases h1 with h1 | h1
      · omega
      · rw [if_pos h1]
  | j + 1, h => by
    rw [← Nat.add_assoc]
    unfold findN
    have := h2 (L + j + 1) (by omega) (by omega)
    rw [if_neg (by omega), if_neg (by omega)]
    exact findN_eq h3 h1 h2 j (by omega)
def findK (a : Int) (i : Nat) (K : Int → Int → Prop) : Prop := if findN a i < 4 then K 0 0 else K ((findN a i / 4 : Nat) : Int) ((findN a i % 4 : Nat) : Int)
theorem find_l2 (a : Int) (K : Int → Prop) (h : K ((findN a 95 : Nat) : Int)) : ∀ d low high : Nat, high ≤ low + d → 3 ≤ low → low < high → high ≤ 96 → (low = 3 ∨ ampI low ≤ a) → (high = 96 ∨ a < ampI high) →
    ∃ q, level_Find_l2 q a low high K := by
  intro d
  induction d with
  | zero => intro low high h1 h2 h3; omega
  | succ d ih =>
    intro low high h1 h2 h3 h4 hL hH
    by_cases hd : high = low + 1
    · refine ⟨1, ?_⟩
      simp only [level_Find_l2, br_dec]
      rw [if_neg (by rw [isub64 (by omega)]; omega)]
      have := findN_eq (a := a) h2 hL (fun i hi hi' => by
        rcases hH with hH | hH
        · omega
        · have := ampI_mono (i := high) (by omega) (i - high) (by omega)
          rw [show high + (i - high) = i by omega] at this
          omega) (95 - low) (by omega)
      rw [show low + (95 - low) = 95 by omega] at this
      rw [this] at h
      exact h
    · have e4 : iquo .i64 (iadd .i64 (low : Int) (high : Int)) 2 = (((low + high) / 2 : Nat) : Int) := by
        rw [iadd64 (by omega), iquo64 (by decide) (by omega), Int.tdiv_eq_ediv_of_nonneg (by omega)]; omega
      have e5 : iquo .i64 (((low + high) / 2 : Nat) : Int) 4 = (((low + high) / 2 / 4 : Nat) : Int) := by
        rw [iquo64 (by decide) (by omega), Int.tdiv_eq_ediv_of_nonneg (by omega)]; omega
      have e6 : irem .i64 (((low + high) / 2 : Nat) : Int) 4 = (((low + high) / 2 % 4 : Nat) : Int) := by
        show Int.tmod _ 4 = _
        rw [Int.tmod_eq_emod_of_nonneg (by omega)]; omega
      by_cases hc : ampI ((low + high) / 2) ≤ a
      · obtain ⟨q, hq⟩ := ih ((low + high) / 2) high (by omega) (by omega) (by omega) h4 (.inr hc) hH
        refine ⟨q + 1, ?_⟩
        simp only [level_Find_l2, br_dec, e4, e5, e6]
        rw [if_pos (by rw [isub64 (by omega)]; omega)]
        refine amp_spec _ _ _ ?_
        rw [if_pos (show ampV _ _ ≤ a from hc)]
        exact hq
      · obtain ⟨q, hq⟩ := ih low ((low + high) / 2) (by omega) h2 (by omega) (by omega) hL (.inr (by omega))
        refine ⟨q + 1, ?_⟩
        simp only [level_Find_l2, br_dec, e4, e5, e6]
        rw [if_pos (by rw [isub64 (by omega)]; omega)]
        refine amp_spec _ _ _ ?_
        rw [if_neg (show ¬ ampV _ _ ≤ a from hc)]
        exact hq
theorem findN_le (a : Int) : ∀ i, 3 ≤ i → 3 ≤ findN a i ∧ findN a i ≤ i
  | 0, h => by omega
  | i + 1, h => by
    unfold findN
    split
    · omega
    split
    · omega
    · have := findN_le a i (by omega); omega
theorem find_spec (a : Int) (K : Int → Int → Prop) (h : findK a 95 K) : level_Find a K := by
  rw [level_Find_def]
  refine find_l2 a _ ?_ 93 3 96 (by omega) (by omega) (by omega) (by omega) (.inl rfl) (.inl rfl)
  have hb := findN_le a 95 (by omega)
  unfold findK at h
  rw [br_dec]
  split
  · rw [if_pos (by omega)] at h; exact h
  · rw [if_neg (by omega)] at h
    have e5 : iquo .i64 ((findN a 95 : Nat) : Int) 4 = ((findN a 95 / 4 : Nat) : Int) := by
      rw [iquo64 (by decide) (by omega), Int.tdiv_eq_ediv_of_nonneg (by omega)]; omega
    have e6 : irem .i64 ((findN a 95 : Nat) : Int) 4 = ((findN a 95 % 4 : Nat) : Int) := by
      show Int.tmod _ 4 = _
      rw [Int.tmod_eq_emod_of_nonneg (by omega)]; omega
    rw [e5, e6]; exact h
theorem rfind_l5 (a : Int) (K : Int → Int → Prop) (K1 : Int → Int → Prop) (c : Nat) (hc : 1 ≤ c ∧ c ≤ 23) (h1 : findK a (4 * c - 1) K → K1 a c) : ∀ n : Nat, n ≤ 4 → findK a (4 * c + n - 1) K → ∃ q, R08_Find_l5 q a c ((n : Int) - 1) K K1 := by
  intro n
  induction n with
  | zero =>
    intro _ h
    refine ⟨1, ?_⟩
    simp only [R08_Find_l5, br_dec]
    rw [if_neg (by omega)]
    exact h1 h
  | succ n ih =>
    intro hn h
    have e : ampV (c : Int) ((n + 1 : Nat) - 1 : Int) = ampI (4 * c + n) := by
      unfold ampI
      congr 1 <;> omega
    rw [show 4 * c + (n + 1) - 1 = 4 * c + n by omega] at h
    have hs := findN_step (a := a) (i := 4 * c + n) (by omega)
    by_cases ha : ampI (4 * c + n) ≤ a
    · refine ⟨1, ?_⟩
      simp only [R08_Find_l5, br_dec]
      rw [if_pos (by omega)]
      refine ramp_spec _ _ _ ?_
      rw [e, if_pos ha]
      rw [if_pos ha] at hs
      unfold findK at h
      rw [hs, if_neg (by omega), show (4 * c + n) / 4 = c by omega, show (4 * c + n) % 4 = n by omega] at h
      rw [show ((n + 1 : Nat) : Int) - 1 = (n : Int) by omega]
      exact h
    · rw [if_neg ha] at hs
      obtain ⟨q, hq⟩ := ih (by omega) (by unfold findK at h ⊢; rw [hs] at h; exact h)
      refine ⟨q + 1, ?_⟩
      simp only [R08_Find_l5, br_dec]
      rw [if_pos (by omega)]
      refine ramp_spec _ _ _ ?_
      rw [e, if_neg ha, isub64 (by omega), show ((n + 1 : Nat) : Int) - 1 - 1 = (n : Int) - 1 by omega]
      exact hq
theorem rfind_l2 (a : Int) (K : Int → Int → Prop) : ∀ c : Nat, c ≤ 23 → findK a (4 * c + 3) K → ∃ q, R08_Find_l2 q a c K (K 0 0) := by
  intro c
  induction c with
  | zero =>
    intro _ h
    refine ⟨1, ?_⟩
    simp only [R08_Find_l2, br_dec]
    rw [if_neg (by omega)]
    exact h
  | succ c ih =>
    intro hc h
    by_cases hh : findK a (4 * c + 3) K
    · obtain ⟨q, hq⟩ := ih (by omega) hh
      refine ⟨q + 1, ?_⟩
      simp only [R08_Find_l2, br_dec]
      rw [if_pos (by omega)]
      refine rfind_l5 a K _ (c + 1) (by omega) (fun _ => ?_) 4 (by omega) h
      rw [isub64 (by omega), show ((c + 1 : Nat) : Int) - 1 = (c : Int) by omega]
      exact hq
    · refine ⟨1, ?_⟩
      simp only [R08_Find_l2, br_dec]
      rw [if_pos (by omega)]
      refine rfind_l5 a K _ (c + 1) (by omega) (fun hk => ?_) 4 (by omega) h
      exact absurd hk hh
theorem rfind_spec (a : Int) (K : Int → Int → Prop) (h : findK a 95 K) : R08_Find a K := by
  rw [R08_Find_def]
  exact rfind_l2 a K 23 (by omega) h
/-- How far a number is from 0, where it may be. -/
def farV (x : Int) : Int := if x < -24 ∨ 24 < x then 25 else max x (-x)
def farS : List Int → Int
  | [] => 0
  | x :: r => farV x + farS r
theorem farV_b (x : Int) : 0 ≤ farV x ∧ farV x ≤ 25 := by unfold farV; split <;> omega
theorem farS_b : ∀ l : List Int, 0 ≤ farS l ∧ farS l ≤ 25 * l.length
  | [] => by simp [farS]
  | x :: r => by
    have := farV_b x
    have := farS_b r
    simp only [farS, List.length_cons]
    omega
def sizeK (k : Int) (K0 : Int → Bool → Prop) : Prop := if 24 < k then K0 0 false else K0 k true
def sizeV (x : List Int) : Option Int := if 1 ≤ x.length ∧ x.length ≤ 8 ∧ farS x ≤ 24 then some (farS x) else none
def sizeM (o : Option Int) (K0 : Int → Bool → Prop) : Prop := match o with | none => K0 0 false | some k => K0 k true
theorem size_l5 (x : List Int) (hl : x.length ≤ 8) (K0 : Int → Bool → Prop) (K1 : Int → Prop) (hK : ∀ k, sizeK k K0 → K1 k) : ∀ (n i : Nat) (k : Int), i + n = x.length → 0 ≤ k ∧ k ≤ 25 * i → sizeK (k + farS (x.drop i)) K0 → ∃ q, pvq_Size_l5 q k x x.length i K0 K1 := by
  intro n
  induction n with
  | zero =>
    intro i k hi hk h
    refine ⟨1, ?_⟩
    rw [List.drop_eq_nil_of_le (by omega)] at h
    simp only [pvq_Size_l5, br_dec]
    rw [if_neg (by omega)]
    refine hK _ ?_
    simpa [farS] using h
  | succ n ih =>
    intro i k hi hk h
    rw [drop_cons 0 (by omega)] at h
    simp only [farS] at h
    have h2 := farS_b (x.drop (i + 1))
    by_cases hv : x.getD i 0 < -24 ∨ 24 < x.getD i 0
    · have hf : farV (x.getD i 0) = 25 := by unfold farV; rw [if_pos hv]
      have h : K0 0 false := by
        unfold sizeK at h; rw [if_pos (by omega)] at h; exact h
      refine ⟨1, ?_⟩
      simp only [pvq_Size_l5, pvq_Size_j8, br_dec, br_and, br_true, Int.toNat_natCast]
      rw [if_pos (by omega), if_pos (by omega), if_pos (by omega)]
      split
      · exact h
      · rw [if_pos (by omega)]; exact h
    · have hf : farV (x.getD i 0) = max (x.getD i 0) (-(x.getD i 0)) := by unfold farV; rw [if_neg hv]
      have ha : absV (x.getD i 0) = farV (x.getD i 0) := by rw [hf]; exact absV_of (by omega)
      have hb := farV_b (x.getD i 0)
      obtain ⟨q, hq⟩ := ih (i + 1) (k + farV (x.getD i 0)) (by omega) (by omega) (by rw [Int.add_assoc]; exact h)
      refine ⟨q + 1, ?_⟩
      simp only [pvq_Size_l5, pvq_Size_j8, pvq_Size_j9, br_dec, br_and, br_true, Int.toNat_natCast]
      rw [if_pos (by omega), if_pos (by omega), if_pos (by omega), if_neg (by omega), if_neg (by omega)]
      refine abs_spec _ _ ?_
      rw [ha, iadd64 (by omega), i64_succ _ (by omega)]
      exact hq
theorem size_spec (x : List Int) (K0 : Int → Bool → Prop) (h : sizeM (sizeV x) K0) : pvq_Size x K0 := by
  rw [pvq_Size_def]
  unfold sizeV at h
  simp only [br_dec, pvq_Size_j2, br_true]
  split
  · rw [if_neg (by omega)] at h; exact h
  split
  · rw [if_neg (by omega)] at h; exact h
  · unfold pvq_Size_j3
    refine size_l5 x (by omega) K0 _ (fun k hk => ?_) x.length 0 0 (by omega) (by omega) ?_
    · rw [br_dec]; exact hk
    · rw [List.drop_zero, Int.zero_add]
      unfold sizeK
      split
      · rw [if_neg (by omega)] at h; exact h
      · rw [if_pos (by omega)] at h; exact h
theorem rfar_spec (x : Int) (K : Int → Prop) (h : K (farV x)) : R16_far x K := by
  rw [R16_far_def]
  unfold farV at h
  simp only [br_dec]
  split
  · rw [if_pos (by omega)] at h; exact h
  split
  · rw [if_pos (by omega)] at h; exact h
  · rw [if_neg (by omega)] at h
    rw [isub64 (by omega), imax_eq', Int.zero_sub]; exact h
theorem rsize_l5 (x : List Int) (hl : x.length ≤ 8) (K1 : Int → Prop) : ∀ (n i : Nat) (k : Int), i + n = x.length → 0 ≤ k ∧ k ≤ 25 * i → K1 (k + farS (x.drop i)) → ∃ q, R16_Size_l5 q x k i K1 := by
  intro n
  induction n with
  | zero =>
    intro i k hi hk h
    refine ⟨1, ?_⟩
    rw [List.drop_eq_nil_of_le (by omega)] at h
    simp only [R16_Size_l5, br_dec]
    rw [if_neg (by omega)]
    simpa [farS] using h
  | succ n ih =>
    intro i k hi hk h
    rw [drop_cons 0 (by omega)] at h
    simp only [farS] at h
    have hb := farV_b (x.getD i 0)
    obtain ⟨q, hq⟩ := ih (i + 1) (k + farV (x.getD i 0)) (by omega) (by omega) (by rw [Int.add_assoc]; exact h)
    refine ⟨q + 1, ?_⟩
    simp only [R16_Size_l5, br_dec, br_and, Int.toNat_natCast]
    rw [if_pos (by omega), if_pos (by omega), if_pos (by omega)]
    refine rfar_spec _ _ ?_
    rw [iadd64 (by omega), i64_succ _ (by omega)]
    exact hq
theorem rsize_spec (x : List Int) (K0 : Int → Bool → Prop) (h : sizeM (sizeV x) K0) : R16_Size x K0 := by
  rw [R16_Size_def]
  unfold sizeV at h
  simp only [br_dec, R16_Size_j2, br_true]
  split
  · rw [if_neg (by omega)] at h; exact h
  split
  · rw [if_neg (by omega)] at h; exact h
  · unfold R16_Size_j3
    refine rsize_l5 x (by omega) _ x.length 0 0 (by omega) (by omega) ?_
    rw [List.drop_zero, Int.zero_add, br_dec]
    split
    · rw [if_neg (by omega)] at h; exact h
    · rw [if_pos (by omega)] at h; exact h
/-- The sum of squares. -/
def sqS (n : Int) : List Int → Int
  | [] => n
  | x :: r => sqS (iadd .i64 n (imul .i64 x x)) r
theorem squares_l3 (x : List Int) (hl : x.length ≤ 1000000) (K : Int → Prop) : ∀ (n i : Nat) (k : Int), i + n = x.length → K (sqS k (x.drop i)) → ∃ q, shape_squares_l3 q k x x.length i K := by
  intro n
  induction n with
  | zero =>
    intro i k hi h
    refine ⟨1, ?_⟩
    rw [List.drop_eq_nil_of_le (by omega)] at h
    simp only [shape_squares_l3, br_dec]
    rw [if_neg (by omega)]
    exact h
  | succ n ih =>
    intro i k hi h
    rw [drop_cons 0 (by omega)] at h
    obtain ⟨q, hq⟩ := ih (i + 1) _ (by omega) h
    refine ⟨q + 1, ?_⟩
    simp only [shape_squares_l3, br_dec, br_and, Int.toNat_natCast]
    rw [if_pos (by omega), if_pos (by omega), if_pos (by omega), i64_succ _ (by omega)]
    exact hq
theorem squares_spec (x : List Int) (hl : x.length ≤ 1000000) (K : Int → Prop) (h : K (sqS 0 x)) : shape_squares x K := by
  rw [shape_squares_def]
  exact squares_l3 x hl K x.length 0 0 (by omega) h
theorem rsquares_l3 (x : List Int) (hl : x.length ≤ 1000000) (K : Int → Prop) : ∀ (n i : Nat) (k : Int), i + n = x.length → K (sqS k (x.drop i)) → ∃ q, R17_squares_l3 q x k i K := by
  intro n
  induction n with
  | zero =>
    intro i k hi h
    refine ⟨1, ?_⟩
    rw [List.drop_eq_nil_of_le (by omega)] at h
    simp only [R17_squares_l3, br_dec]
    rw [if_neg (by omega)]
    exact h
  | succ n ih =>
    intro i k hi h
    rw [drop_cons 0 (by omega)] at h
    obtain ⟨q, hq⟩ := ih (i + 1) _ (by omega) h
    refine ⟨q + 1, ?_⟩
    simp only [R17_squares_l3, br_dec, br_and, Int.toNat_natCast]
    rw [if_pos (by omega), if_pos (by omega), if_pos (by omega), if_pos (by omega), if_pos (by omega), i64_succ _ (by omega)]
    exact hq
theorem rsquares_spec (x : List Int) (hl : x.length ≤ 1000000) (K : Int → Prop) (h : K (sqS 0 x)) : R17_squares x K := by
  rw [R17_squares_def]
  exact rsquares_l3 x hl K x.length 0 0 (by omega) h
/-- One value of a shape. -/
def valF (x : List Int) (a r : Int) (i : Nat) : Int := if x.getD i 0 < 0 then isub .i64 0 (divV (ishl .i64 (imul .i64 a (absV (x.getD i 0))) 10) r) else divV (ishl .i64 (imul .i64 a (absV (x.getD i 0))) 10) r
def valL (x : List Int) (a : Int) : List Int := tab x.length (valF x a (sqV (ishl .i64 (sqS 0 x) 20)))
theorem values_l10 (x : List Int) (hl : x.length ≤ 8) (a r : Int) (K : List Int → Prop) (h : K (tab x.length (valF x a r))) : ∀ n i : Nat, i + n = x.length → ∃ q, shape_Values_l10 q a r x x.length i (fillT x.length i 0 (valF x a r)) K := by
  intro n
  induction n with
  | zero =>
    intro i hi
    refine ⟨1, ?_⟩
    have hi : i = x.length := by omega
    subst hi
    simp only [shape_Values_l10, br_dec]
    rw [if_neg (by omega), fillT_full]; exact h
  | succ n ih =>
    intro i hi
    obtain ⟨q, hq⟩ := ih (i + 1) (by omega)
    have hs := fillT_set x.length i 0 (valF x a r)
    refine ⟨q + 1, ?_⟩
    simp only [shape_Values_l10, br_dec, br_and, Int.toNat_natCast, fillT_length]
    rw [if_pos (by omega), if_pos (by omega), if_pos (by omega)]
    refine abs_spec _ _ (div_spec _ _ _ ?_)
    rw [i64_succ _ (by omega)]
    split
    · rename_i hc
      rw [if_pos (by omega), if_pos (by omega), if_pos (by omega)]
      rw [show valF x a r i = isub .i64 0 (divV (ishl .i64 (imul .i64 a (absV (x.getD i 0))) 10) r) by unfold valF; rw [if_pos hc]] at hs
      rw [hs]; exact hq
    · rename_i hc
      rw [if_pos (by omega), if_pos (by omega), if_pos (by omega)]
      rw [show valF x a r i = divV (ishl .i64 (imul .i64 a (absV (x.getD i 0))) 10) r by unfold valF; rw [if_neg hc]] at hs
      rw [hs]; exact hq
theorem rvalues_l9 (x : List Int) (hl : x.length ≤ 8) (a r : Int) (K : List Int → Prop) (h : K (tab x.length (valF x a r))) : ∀ n i : Nat, i + n = x.length → ∃ q, R17_Values_l9 q x a r i (fillT x.length i 0 (valF x a r)) K := by
  intro n
  induction n with
  | zero =>
    intro i hi
    refine ⟨1, ?_⟩
    have hi : i = x.length := by omega
    subst hi
    simp only [R17_Values_l9, br_dec]
    rw [if_neg (by omega), fillT_full]; exact h
  | succ n ih =>
    intro i hi
    obtain ⟨q, hq⟩ := ih (i + 1) (by omega)
    have hs := fillT_set x.length i 0 (valF x a r)
    refine ⟨q + 1, ?_⟩
    simp only [R17_Values_l9, R17_Values_j14, br_dec, br_and, Int.toNat_natCast, fillT_length]
    rw [if_pos (by omega), if_pos (by omega), if_pos (by omega)]
    refine rabs_spec _ _ (rdiv_spec _ _ _ ?_)
    rw [i64_succ _ (by omega), if_pos (by omega), if_pos (by omega)]
    split
    · rename_i hc
      rw [if_pos (by omega), if_pos (by omega), if_pos (by omega)]
      rw [show valF x a r i = isub .i64 0 (divV (ishl .i64 (imul .i64 a (absV (x.getD i 0))) 10) r) by unfold valF; rw [if_pos hc]] at hs
      rw [hs]; exact hq
    · rename_i hc
      rw [if_pos (by omega), if_pos (by omega), if_pos (by omega)]
      rw [show valF x a r i = divV (ishl .i64 (imul .i64 a (absV (x.getD i 0))) 10) r by unfold valF; rw [if_neg hc]] at hs
      rw [hs]; exact hq
def valuesV (x : List Int) (c f : Int) : Option (List Int) := match sizeV x with
  | none => none
  | some k => if c < 0 ∨ 23 < c ∨ f < 0 ∨ 3 < f then none else some (if k = 0 ∨ c = 0 then List.replicate x.length 0 else valL x (ampV c f))
def valM (o : Option (List Int)) (K0 : Bool → Prop) (K1 : Bool → List Int → Prop) : Prop := match o with | none => K0 false | some l => K1 true l
theorem amp_zero : ∀ c, c < 24 → ∀ f, f < 4 → (ampV ((c : Nat) : Int) ((f : Nat) : Int) = 0 ↔ c = 0) := by decide +kernel
theorem amp_zero' {c f : Int} (hc : 0 ≤ c ∧ c ≤ 23) (hf : 0 ≤ f ∧ f ≤ 3) : ampV c f = 0 ↔ c = 0 := by
  obtain ⟨m, rfl⟩ : ∃ m : Nat, c = m := ⟨c.toNat, by omega⟩
  obtain ⟨n, rfl⟩ : ∃ n : Nat, f = n := ⟨f.toNat, by omega⟩
  have := amp_zero m (by omega) n (by omega)
  omega
theorem sizeV_some {x : List Int} {k : Int} (h : sizeV x = some k) : 1 ≤ x.length ∧ x.length ≤ 8 := by
  unfold sizeV at h
  split at h
  · omega
  · cases h
theorem values_spec (x : List Int) (c f : Int) (K0 : Bool → Prop) (K1 : Bool → List Int → Prop) (h : valM (valuesV x c f) K0 K1) : shape_Values x c f K0 K1 := by
  rw [shape_Values_def]
  refine size_spec x _ ?_
  unfold valuesV at h
  cases hs : sizeV x with
  | none =>
    rw [hs] at h
    simp only [hs, sizeM, shape_Values_j3, br_not, br_false, br_true]
    exact h
  | some k =>
    rw [hs] at h
    have hl := sizeV_some hs
    simp only at h
    simp only [sizeM, hs, shape_Values_j3, br_not, br_true, br_dec]
    split
    · rw [if_pos (by omega)] at h; exact h
    split
    · rw [if_pos (by omega)] at h; exact h
    split
    · rw [if_pos (by omega)] at h; exact h
    split
    · rw [if_pos (by omega)] at h; exact h
    rw [if_neg (by omega)] at h
    replace h : K1 true (if k = 0 ∨ c = 0 then List.replicate x.length 0 else valL x (ampV c f)) := h
    unfold shape_Values_j4
    simp only [br_and, br_dec, Int.toNat_natCast]
    rw [if_pos (by omega), if_pos (by omega), if_pos (by omega)]
    refine amp_spec _ _ _ ?_
    have hz := amp_zero' (c := c) (f := f) (by omega) (by omega)
    simp only [shape_Values_j7, br_true, br_dec]
    split
    · rename_i hk; rw [if_pos (.inl hk)] at h; exact h
    split
    · rename_i hk; rw [if_pos (.inr (hz.1 hk))] at h; exact h
    · rename_i hk hc
      rw [if_neg (fun e => e.elim hk (fun e => hc (hz.2 e)))] at h
      unfold shape_Values_j8
      refine squares_spec x (by omega) _ (sqrtV_spec _ _ ?_)
      rw [← fillT_zero x.length 0 (valF x (ampV c f) (sqV (ishl .i64 (sqS 0 x) 20)))]
      exact values_l10 x (by omega) _ _ _ h x.length 0 (by omega)
theorem rvalues_spec (x : List Int) (c f : Int) (K0 : Bool → Prop) (K1 : Bool → List Int → Prop) (h : valM (valuesV x c f) K0 K1) : R17_Values x c f K0 K1 := by
  rw [R17_Values_def]
  refine rsize_spec x _ ?_
  unfold valuesV at h
  cases hs : sizeV x with
  | none =>
    rw [hs] at h
    simp only [hs, sizeM, R17_Values_j3, br_not, br_false, br_true]
    exact h
  | some k =>
    rw [hs] at h
    have hl := sizeV_some hs
    simp only at h
    simp only [sizeM, hs, R17_Values_j3, br_not, br_true, br_dec]
    split
    · rw [if_pos (by omega)] at h; exact h
    split
    · rw [if_pos (by omega)] at h; exact h
    split
    · rw [if_pos (by omega)] at h; exact h
    split
    · rw [if_pos (by omega)] at h; exact h
    rw [if_neg (by omega)] at h
    replace h : K1 true (if k = 0 ∨ c = 0 then List.replicate x.length 0 else valL x (ampV c f)) := h
    unfold R17_Values_j4
    simp only [br_and, br_dec, Int.toNat_natCast]
    rw [if_pos (by omega), if_pos (by omega), if_pos (by omega)]
    simp only [R17_Values_j6, br_true, br_dec]
    split
    · rename_i hk; rw [if_pos (.inl hk)] at h; exact h
    split
    · rename_i hk; rw [if_pos (.inr hk)] at h; exact h
    · rename_i hk hc
      rw [if_neg (fun e => e.elim hk hc)] at h
      unfold R17_Values_j7
      refine ramp_spec _ _ _ (rsquares_spec x (by omega) _ (rsqrtV_spec _ _ ?_))
      rw [← fillT_zero x.length 0 (valF x (ampV c f) (sqV (ishl .i64 (sqS 0 x) 20)))]
      exact rvalues_l9 x (by omega) _ _ _ h x.length 0 (by omega)
theorem valuesV_length {x : List Int} {c f : Int} {l : List Int} (h : valuesV x c f = some l) : l.length = x.length := by
  unfold valuesV at h
  split at h
  · cases h
  · split at h
    · cases h
    · cases h
      split
      · simp
      · exact tab_length _ _
/-- How loud numbers are. -/
def powV (x : List Int) : Int := if x.length ≤ 64 ∧ x.all (inB (-67108864) 67108864) = true then sqV (sqS 0 x) else 0
theorem power_l4 (x : List Int) (hl : x.length ≤ 64) (K0 : Int → Prop) (K1 : List Int → Prop) : ∀ n i : Nat, i + n = x.length → (if (x.drop i).all (inB (-67108864) 67108864) = true then K1 x else K0 0) → ∃ q, shape_Power_l4 q x x x.length i K0 K1 := by
  intro n
  induction n with
  | zero =>
    intro i hi h
    refine ⟨1, ?_⟩
    rw [List.drop_eq_nil_of_le (by omega)] at h
    simp only [shape_Power_l4, br_dec]
    rw [if_neg (by omega)]
    simpa using h
  | succ n ih =>
    intro i hi h
    rw [drop_cons 0 (by omega), List.all_cons] at h
    by_cases hx : inB (-67108864) 67108864 (x.getD i 0) = true
    · rw [hx, Bool.true_and] at h
      obtain ⟨q, hq⟩ := ih (i + 1) (by omega) h
      refine ⟨q + 1, ?_⟩
      unfold inB at hx
      rw [decide_eq_true_eq] at hx
      simp only [shape_Power_l4, br_dec, br_and, Int.toNat_natCast]
      rw [if_pos (by omega), if_pos (by omega), if_pos (by omega), if_neg (by omega), if_neg (by omega), i64_succ _ (by omega)]
      exact hq
    · have h : K0 0 := by
        rw [Bool.eq_false_iff.2 hx, Bool.false_and, if_neg (by simp)] at h; exact h
      refine ⟨1, ?_⟩
      unfold inB at hx
      rw [decide_eq_true_eq] at hx
      simp only [shape_Power_l4, br_dec, br_and, Int.toNat_natCast]
      rw [if_pos (by omega), if_pos (by omega), if_pos (by omega)]
      split
      · exact h
      · rw [if_pos (by omega)]; exact h
theorem power_spec (x : List Int) (K : Int → Prop) (h : K (powV x)) : shape_Power x K := by
  rw [shape_Power_def]
  unfold powV at h
  rw [br_dec]
  split
  · rw [if_neg (by omega)] at h; exact h
  · refine power_l4 x (by omega) K _ x.length 0 (by omega) ?_
    rw [List.drop_zero]
    split
    · rename_i ha
      rw [if_pos ⟨by omega, ha⟩] at h
      exact squares_spec x (by omega) _ (sqrtV_spec _ _ h)
    · rename_i ha
      rw [if_neg (fun e => ha e.2)] at h; exact h
theorem rpower_spec (x : List Int) (K : Int → Prop) (h : K (powV x)) : R17_Power x K := by
  rw [R17_Power_def]
  unfold powV at h
  rw [br_dec]
  split
  · rw [if_neg (by omega)] at h; exact h
  · refine within_spec x _ _ _ (by omega) ?_
    rw [br_not]
    refine br_of (fun ha => ?_) (fun ha => ?_)
    · rw [if_pos ⟨by omega, ha⟩] at h
      exact rsquares_spec x (by omega) _ (rsqrtV_spec _ _ h)
    · rw [if_neg (fun e => by rw [ha] at e; cases e.2)] at h; exact h
theorem level_spec (x : List Int) (K : Int → Int → Prop) (h : findK (powV x) 95 K) : shape_Level x K := by
  rw [shape_Level_def]
  exact power_spec _ _ (find_spec _ _ h)
theorem rlevel_spec (x : List Int) (K : Int → Int → Prop) (h : findK (powV x) 95 K) : R17_Level x K := by
  rw [R17_Level_def]
  exact rpower_spec _ _ (rfind_spec _ _ h)
theorem awake_values : valuesV [1, 0] 4 0 = some [16, 0] := by
  have hs : sqV (ishl .i64 (sqS 0 [1, 0]) 20) = 1024 := by
    rw [show ishl .i64 (sqS 0 [1, 0]) 20 = 1048576 by decide +kernel]
    exact sqV_eq (by decide) ⟨by decide, by decide, by decide⟩
  show some (if farS [1, 0] = 0 ∨ (4 : Int) = 0 then _ else valL [1, 0] (ampV 4 0)) = _
  rw [if_neg (by decide +kernel)]
  unfold valL
  rw [hs]
  decide +kernel
theorem awake_spec (K : Bool → Prop) (h : K true) : L17_awake K := by
  rw [L17_awake_def]
  refine values_spec _ _ _ _ _ ?_
  rw [awake_values]
  show L17_awake_j2 true [16, 0] K
  unfold L17_awake_j2
  refine values_spec _ _ _ _ _ ?_
  rw [show valuesV [] 4 0 = none by decide +kernel]
  show L17_awake_j3 true false [16, 0] K
  unfold L17_awake_j3
  have hp : powV [3, -4] = 5 := by
    unfold powV
    rw [if_pos (by decide +kernel), show sqS 0 [3, -4] = 25 by decide +kernel]
    exact sqV_eq (by decide) ⟨by decide, by decide, by decide⟩
  refine level_spec _ _ ?_
  rw [hp]
  unfold findK
  rw [show findN 5 95 = 9 by decide +kernel, if_neg (by decide)]
  dsimp only
  rw [br_true]
  refine same_self _ _ (by decide) ?_
  rw [br_true, br_not, br_false]
  refine power_spec _ _ ?_
  rw [hp, br_dec, if_pos rfl, br_dec, if_pos (by decide)]
  exact h
theorem tells_j5 (l : List Int) (p : Bool) (m : List Int) (hm : m.length ≤ 1000000) (K : Bool → Prop) (h : K true) : L17_ShapeTells_j5 l p p m m K := by
  have ha := awake_spec K h
  unfold L17_ShapeTells_j5
  have key : ∀ c f : Int, R01_Same m m (fun r12 => Br r12 (Br (p == p) (shape_Power l (fun r13 => R17_Power l (fun r14 => Br (decide (r13 = r14)) (Br (decide (c = c)) (Br (decide (f = f)) (L17_awake K) (K false)) (K false)) (K false)))) (K false)) (K false)) := by
    intro c f
    refine same_self _ _ hm ?_
    rw [br_true, beq_self_eq_true, br_true]
    refine power_spec _ _ (rpower_spec _ _ ?_)
    rw [br_dec, if_pos rfl, br_dec, if_pos rfl, br_dec, if_pos rfl]
    exact ha
  refine level_spec _ _ ?_
  unfold findK
  split
  · refine rlevel_spec _ _ ?_
    unfold findK
    rename_i hf
    rw [if_pos hf]
    exact key 0 0
  · refine rlevel_spec _ _ ?_
    unfold findK
    rename_i hf
    rw [if_neg hf]
    exact key _ _
theorem tells (x : List Int) (c f : Int) (l : List Int) (_ : Rng (.sl (.int .i64)) x) (_ : Rng (.int .i64) c) (_ : Rng (.int .i64) f) (_ : Rng (.sl (.int .i64)) l) (K : Bool → Prop) (h : K true) : L17_ShapeTells x c f l K := by
  have ha := awake_spec K h
  rw [L17_ShapeTells_def]
  simp only [br_dec, L17_ShapeTells_j2, br_true]
  split
  · exact ha
  split
  · exact ha
  · unfold L17_ShapeTells_j3
    refine values_spec _ _ _ _ _ ?_
    cases hv : valuesV x c f with
    | none =>
      show L17_ShapeTells_j4 x c f l false [] K
      unfold L17_ShapeTells_j4
      refine rvalues_spec _ _ _ _ _ ?_
      rw [hv]
      exact tells_j5 l false [] (by decide) K h
    | some v =>
      show L17_ShapeTells_j4 x c f l true v K
      unfold L17_ShapeTells_j4
      refine rvalues_spec _ _ _ _ _ ?_
      rw [hv]
      exact tells_j5 l true v (by rw [valuesV_length hv]; omega) K h

end
end Go.Eng.A
