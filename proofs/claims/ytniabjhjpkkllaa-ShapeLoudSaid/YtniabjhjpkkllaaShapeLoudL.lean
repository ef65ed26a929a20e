import Derived.Test.YtniabjhjpkkllaaEngV
import Derived.Test.YtniabjhjpkkllaaEngU
import Derived.Test.YtniabjhjpkkllaaShapeLoudP
set_option linter.unusedSimpArgs false
set_option linter.unusedVariables false
set_option maxHeartbeats 2000000
namespace Go.Eng.A
open Go Go.Eng
set_option maxRecDepth 100000
noncomputable section
theorem drop_cons {α : Type} (d : α) {l : List α} {i : Nat} (h : i < l.length) : l.drop i = l.getD i d :: l.drop (i + 1) := by
  rw [List.drop_eq_getElem_cons h]; simp [List.getD, List.getElem?_eq_getElem h]
theorem getD_of_drop {l : List Int} {i : Nat} {x : Int} {r : List Int} (h : l.drop i = x :: r) : l.getD i 0 = x ∧ i < l.length ∧ l.drop (i + 1) = r := by
  have hi : i < l.length := by
    apply Classical.byContradiction
    intro hn
    rw [List.drop_eq_nil_of_le (by omega)] at h
    cases h
  rw [drop_cons 0 hi] at h
  injection h with h1 h2
  exact ⟨h1, hi, h2⟩
theorem tab_length {α : Type} (n : Nat) (f : Nat → α) : (tab n f).length = n := by simp [tab]
theorem tab_get {α : Type} (n : Nat) (f : Nat → α) (d : α) {i : Nat} (h : i < n) : (tab n f).getD i d = f i := by
  simp [tab, List.getD, List.getElem?_map, List.getElem?_range h]
theorem tab_set {α : Type} (n : Nat) (f : Nat → α) (i : Nat) (a : α) : (tab n f).set i a = tab n fun j => if j = i then a else f j := by
  apply List.ext_getElem (by simp [tab])
  intro j h1 h2
  simp only [tab, List.length_set, List.length_map, List.length_range] at h1
  simp only [tab, List.getElem_set, List.getElem_map, List.getElem_range]
  by_cases e : i = j
  · rw [if_pos e, if_pos e.symm]
  · rw [if_neg e, if_neg (Ne.symm e)]
theorem tab_snoc {α : Type} (n : Nat) (f : Nat → α) : tab n f ++ [f n] = tab (n + 1) f := by simp [tab, List.range_succ]
theorem tab_congr {α : Type} {n : Nat} {f g : Nat → α} (h : ∀ j, j < n → f j = g j) : tab n f = tab n g := by
  unfold tab
  apply List.map_congr_left
  intro j hj; exact h j (List.mem_range.1 hj)
theorem tab_const {α : Type} (n : Nat) (a : α) : List.replicate n a = tab n fun _ => a := by
  apply List.ext_getElem (by simp [tab])
  intro j h1 h2
  simp [tab]
theorem tab_zero {α : Type} (f : Nat → α) : tab 0 f = [] := rfl
/-- A list that is filled place by place. -/
def fillT {α : Type} (n i : Nat) (d : α) (f : Nat → α) : List α := tab n fun j => if j < i then f j else d
theorem fillT_length {α : Type} (n i : Nat) (d : α) (f : Nat → α) : (fillT n i d f).length = n := tab_length _ _
theorem fillT_zero {α : Type} (n : Nat) (d : α) (f : Nat → α) : fillT n 0 d f = List.replicate n d := by
  rw [tab_const]; exact tab_congr fun j _ => if_neg (by omega)
theorem fillT_set {α : Type} (n i : Nat) (d : α) (f : Nat → α) : (fillT n i d f).set i (f i) = fillT n (i + 1) d f := by
  unfold fillT
  rw [tab_set]
  refine tab_congr fun j _ => ?_
  by_cases e : j = i
  · rw [if_pos e, if_pos (by omega), e]
  · rw [if_neg e]
    by_cases h : j < i
    · rw [if_pos h, if_pos (by omega)]
    · rw [if_neg h, if_neg (by omega)]
theorem fillT_full {α : Type} (n : Nat) (d : α) (f : Nat → α) : fillT n n d f = tab n f := tab_congr fun _ hj => if_pos hj
theorem wrap64 {n : Int} (h : -9223372036854775808 ≤ n ∧ n ≤ 9223372036854775807) : Go.IntKind.wrap .i64 n = n := Go.IntWalk.i64_in _ h
theorem imax_eq' (a b : Int) : imax a b = max a b := by unfold imax; omega
theorem imin_eq' (a b : Int) : imin a b = min a b := by unfold imin; omega
theorem rng16 {n : Int} (h : (Lit.int .i16 n).wf = true) : -32768 ≤ n ∧ n ≤ 32767 := by
  simpa [Lit.wf, IntKind.min, IntKind.max, IntKind.signed, IntKind.bits] using h
theorem rng8 {n : Int} (h : (Lit.int .u8 n).wf = true) : 0 ≤ n ∧ n ≤ 255 := by
  simpa [Lit.wf, IntKind.min, IntKind.max, IntKind.signed, IntKind.bits] using h
theorem i64_succ (i : Nat) (h : i < 1000000000) : iadd .i64 (i : Int) 1 = ((i + 1 : Nat) : Int) := by rw [iadd64 (by omega)]; omega
theorem all_getD {p : Int → Bool} {l : List Int} (h : l.all p = true) {i : Nat} (hi : i < l.length) : p (l.getD i 0) = true := by
  rw [List.all_eq_true] at h
  refine h _ ?_
  simp [List.getD, List.getElem?_eq_getElem hi]
theorem getD_mem {l : List Int} {i : Nat} (hi : i < l.length) : l.getD i 0 ∈ l := by simp [List.getD, List.getElem?_eq_getElem hi]
theorem same_l4 (a b : List Int) (K0 : Bool → Prop) (K1 : Prop) (hl : a.length ≤ 1000000) (hab : a.length = b.length) : ∀ (n i : Nat), i + n = a.length →
    (if a.drop i = b.drop i then K1 else K0 false) → ∃ q, R01_Same_l4 q a b i K0 K1 := by
  intro n
  induction n with
  | zero =>
    intro i hi h
    refine ⟨1, ?_⟩
    rw [List.drop_eq_nil_of_le (by omega), List.drop_eq_nil_of_le (by omega)] at h
    simp only [R01_Same_l4, br_dec]
    rw [if_neg (by omega)]
    simpa using h
  | succ n ih =>
    intro i hi h
    rw [drop_cons 0 (l := a) (by omega), drop_cons 0 (l := b) (by omega)] at h
    by_cases hx : a.getD i 0 = b.getD i 0
    · obtain ⟨q, hq⟩ := ih (i + 1) (by omega) (by rw [hx] at h; simpa only [List.cons.injEq, true_and] using h)
      refine ⟨q + 1, ?_⟩
      simp only [R01_Same_l4, br_dec, br_and, br_not, Int.toNat_natCast]
      rw [if_pos (by omega), if_pos (by omega), if_pos (by omega), if_pos (by omega), if_pos (by omega), if_pos hx, iadd64 (by omega)]
      exact hq
    · refine ⟨1, ?_⟩
      simp only [R01_Same_l4, br_dec, br_and, br_not, Int.toNat_natCast]
      rw [if_pos (by omega), if_pos (by omega), if_pos (by omega), if_pos (by omega), if_pos (by omega), if_neg hx]
      rw [if_neg (fun e => hx (by injection e))] at h
      exact h
theorem same_spec (a b : List Int) (K0 : Bool → Prop) (hl : a.length ≤ 1000000) (h : K0 (decide (a = b))) : R01_Same a b K0 := by
  rw [R01_Same_def]
  rw [br_not, br_dec]
  split
  · rename_i hab
    refine same_l4 a b _ _ hl (by omega) a.length 0 (by omega) ?_
    rw [List.drop_zero, List.drop_zero]
    split
    · rename_i e; rw [decide_eq_true e] at h; exact h
    · rename_i e; rw [decide_eq_false e] at h; exact h
  · rename_i hab
    rw [decide_eq_false (fun e => hab (by rw [e]))] at h
    exact h
theorem same_self (a : List Int) (K0 : Bool → Prop) (hl : a.length ≤ 1000000) (h : K0 true) : R01_Same a a K0 :=
  same_spec a a K0 hl (by rw [decide_eq_true rfl]; exact h)
def inB (low high x : Int) : Bool := decide (low ≤ x ∧ x ≤ high)
def shrV (x n : Int) : Int := if n < 0 ∨ 60 < n ∨ x < -2305843009213693952 ∨ 2305843009213693952 < x then 0 else (2 * x + 2 ^ n.toNat) / (2 * 2 ^ n.toNat)
theorem shr_zero (x : Int) : (2 * x + 2 ^ (0 : Nat)) / (2 * 2 ^ (0 : Nat)) = x := by omega
theorem pow_bounds {k : Nat} (h : k ≤ 60) : (0 : Int) < 2 ^ k ∧ (2 : Int) ^ k ≤ 1152921504606846976 := by
  have h1 : 2 ^ k ≤ 2 ^ 60 := Nat.pow_le_pow_right (n := 2) (by decide) h
  have h2 : ((2 ^ k : Nat) : Int) ≤ ((2 ^ 60 : Nat) : Int) := Int.ofNat_le.2 h1
  rw [Int.natCast_pow, Int.natCast_pow] at h2
  exact ⟨Int.pow_pos (by decide), h2⟩
theorem shr_step (x : Int) (k : Nat) : (2 * x + 2 ^ (k + 1)) / (2 * 2 ^ (k + 1)) = (x + 2 ^ k) / 2 ^ (k + 1) := by
  have e : 2 * x + 2 ^ (k + 1) = 2 * (x + 2 ^ k) := by rw [Int.pow_succ, Int.mul_add, Int.mul_comm (2 ^ k) 2]
  rw [e, Int.mul_ediv_mul_of_pos _ _ (by decide : (0 : Int) < 2)]
theorem num_within1 (x : Int) (K0 : Bool → Prop) (h : K0 (decide (-2305843009213693952 ≤ x ∧ x ≤ 2305843009213693952))) : num_within 2305843009213693952 [x] K0 := by
  rw [num_within_def]
  refine ⟨2, ?_⟩
  have e0 : isub .i64 0 2305843009213693952 = -2305843009213693952 := by decide
  have e1 : iadd .i64 0 1 = 1 := by decide
  simp only [num_within_l2, br_dec, br_and, e0, e1, List.length_cons, List.length_nil]
  rw [if_pos (by decide), if_pos (by decide), if_pos (by decide)]
  show if x < _ then _ else if _ < x then _ else _
  split
  · rw [decide_eq_false (by omega)] at h; exact h
  split
  · rw [decide_eq_false (by omega)] at h; exact h
  · rw [if_neg (by decide)]
    rw [decide_eq_true (by omega)] at h; exact h
theorem shr_spec (x n : Int) (K0 : Int → Prop) (h : K0 (shrV x n)) : num_Shr x n K0 := by
  rw [num_Shr_def]
  unfold shrV at h
  simp only [br_dec]
  split
  · rw [if_pos (by omega)] at h; exact h
  split
  · rw [if_pos (by omega)] at h; exact h
  refine num_within1 x _ ?_
  unfold num_Shr_j2
  rw [br_not, br_dec]
  split
  · rename_i h1 h2 hx
    rw [if_neg (by omega)] at h
    rw [br_dec]
    split
    · rename_i hn
      subst hn
      rw [show (0 : Int).toNat = 0 from rfl, shr_zero] at h
      exact h
    · obtain ⟨k, rfl⟩ : ∃ k : Nat, n = ((k + 1 : Nat) : Int) := ⟨(n - 1).toNat, by omega⟩
      rw [Int.toNat_natCast, shr_step] at h
      obtain ⟨hp, hp2⟩ := pow_bounds (k := k) (by omega)
      have e1 : isub .i64 ((k + 1 : Nat) : Int) 1 = (k : Int) := by rw [isub64 (by omega)]; omega
      have e2 : ishl .i64 1 (k : Int) = 2 ^ k := by rw [ishl64 (by omega) (by omega), Int.one_mul]
      unfold num_Shr_j5
      simp only [e1, br_dec, e2]
      rw [if_neg (by omega), if_neg (by omega), iadd64 (by omega), ishr64 (by omega)]
      exact h
  · rw [if_pos (by omega)] at h; exact h
theorem rmod_spec (a b : Int) (hb : 1 ≤ b) (hb2 : b ≤ 1152921504606846976) (ha : -2305843009213693952 ≤ a ∧ a ≤ 2305843009213693952) (K0 : Int → Int → Prop) (h : K0 (a / b) (a % b)) : R01_Mod a b K0 := by
  rw [R01_Mod_def]
  simp only [br_dec]
  rw [if_neg (by omega), if_neg (by omega), if_neg (by omega), iquo64 hb (by omega)]
  have hm := Int.emod_nonneg a (show b ≠ 0 by omega)
  have hm2 := Int.emod_lt_of_pos a (show 0 < b by omega)
  have e1 := Int.tdiv_eq_ediv (a := a) (b := b)
  have e2 := Int.tmod_eq_emod (a := a) (b := b)
  have hs : b.sign = 1 := Int.sign_eq_one_of_pos (by omega)
  have hr : irem .i64 a b = a.tmod b := rfl
  have hq := tdiv_range hb (a := a) (by omega)
  rw [hr]
  by_cases hc : 0 ≤ a ∨ b ∣ a
  · rw [if_pos hc] at e1 e2
    have e3 : a.tdiv b = a / b := by omega
    have e4 : a.tmod b = a % b := by omega
    rw [if_neg (by omega), e3, e4]; exact h
  · rw [if_neg hc, hs] at e1
    rw [if_neg hc] at e2
    have h1 : -2305843009213693952 ≤ a / b := Int.le_ediv_of_mul_le (by omega) (by omega)
    have h2 : a / b ≤ 0 := by
      have := Int.ediv_le_ediv (a := a) (b := 0) (c := b) (by omega) (by omega)
      rwa [Int.zero_ediv] at this
    have hb3 : ((b.natAbs : Nat) : Int) = b := by omega
    rw [hb3] at e2
    rw [if_pos (by omega), e1, e2, isub64 (by omega), iadd64 (by omega)]
    rw [show a / b + 1 - 1 = a / b by omega, show a % b - b + b = a % b by omega]
    exact h
theorem half_up (x b : Int) (hb : 0 < b) : (2 * x + b) / (2 * b) = if b ≤ 2 * (x % b) then x / b + 1 else x / b := by
  have h0 := Int.emod_nonneg x (show b ≠ 0 by omega)
  have h1 := Int.emod_lt_of_pos x hb
  have h2 := Int.emod_add_mul_ediv x b
  have e : 2 * x + b = (2 * (x % b) + b) + 2 * b * (x / b) := by
    rw [Int.mul_assoc]; omega
  rw [e, Int.add_mul_ediv_left _ _ (show 2 * b ≠ 0 by omega)]
  split
  · rw [show (2 * (x % b) + b) / (2 * b) = 1 by
      rw [show 2 * (x % b) + b = (2 * (x % b) - b) + 2 * b * 1 by omega, Int.add_mul_ediv_left _ _ (show 2 * b ≠ 0 by omega), Int.ediv_eq_zero_of_lt (by omega) (by omega)]; rfl]
    omega
  · rw [Int.ediv_eq_zero_of_lt (by omega) (by omega)]; omega
theorem rshr_spec (x n : Int) (K0 : Int → Prop) (h : K0 (shrV x n)) : R01_Shr x n K0 := by
  rw [R01_Shr_def]
  unfold shrV at h
  simp only [br_dec]
  split
  · rw [if_pos (by omega)] at h; exact h
  split
  · rw [if_pos (by omega)] at h; exact h
  split
  · rw [if_pos (by omega)] at h; exact h
  split
  · rw [if_pos (by omega)] at h; exact h
  rw [if_neg (by omega)] at h
  obtain ⟨k, rfl⟩ : ∃ k : Nat, n = (k : Int) := ⟨n.toNat, by omega⟩
  rw [Int.toNat_natCast] at h
  obtain ⟨hp, hp2⟩ := pow_bounds (k := k) (by omega)
  have e2 : ishl .i64 1 (k : Int) = 2 ^ k := by rw [ishl64 (by omega) (by omega), Int.one_mul]
  rw [half_up x _ hp] at h
  rw [e2]
  refine rmod_spec x (2 ^ k) (by omega) hp2 (by omega) _ ?_
  have hm := Int.emod_nonneg x (show (2 : Int) ^ k ≠ 0 by omega)
  have hm2 := Int.emod_lt_of_pos x hp
  have h1 : -2305843009213693952 ≤ x / 2 ^ k := Int.le_ediv_of_mul_le (by omega) (by omega)
  have h2 : x / 2 ^ k ≤ 2305843009213693952 := Int.ediv_le_of_le_mul hp (by omega)
  rw [imul64 (by omega), iadd64 (by omega)]
  split
  · rename_i hc; rw [if_pos hc] at h; exact h
  · rename_i hc; rw [if_neg hc] at h; exact h
/-- How far a number is from 0, unless it is too far. -/
def absV (x : Int) : Int := if x < -4611686018427387904 ∨ 4611686018427387904 < x then 0 else max x (-x)
theorem abs_within1 (x : Int) (K0 : Bool → Prop) (h : K0 (decide (-4611686018427387904 ≤ x ∧ x ≤ 4611686018427387904))) : num_within 4611686018427387904 [x] K0 := by
  rw [num_within_def]
  refine ⟨2, ?_⟩
  have e0 : isub .i64 0 4611686018427387904 = -4611686018427387904 := by decide
  have e1 : iadd .i64 0 1 = 1 := by decide
  simp only [num_within_l2, br_dec, br_and, e0, e1, List.length_cons, List.length_nil]
  rw [if_pos (by decide), if_pos (by decide), if_pos (by decide)]
  show if x < _ then _ else if _ < x then _ else _
  split
  · rw [decide_eq_false (by omega)] at h; exact h
  split
  · rw [decide_eq_false (by omega)] at h; exact h
  · rw [if_neg (by decide)]
    rw [decide_eq_true (by omega)] at h; exact h
theorem abs_spec (x : Int) (K0 : Int → Prop) (h : K0 (absV x)) : num_Abs x K0 := by
  rw [num_Abs_def]
  refine abs_within1 x _ ?_
  unfold absV at h
  rw [br_not, br_dec]
  split
  · rw [if_neg (by omega)] at h
    rw [br_dec]
    split
    · rw [isub64 (by omega), show (0 : Int) - x = max x (-x) by omega]; exact h
    · rw [show max x (-x) = x by omega] at h; exact h
  · rw [if_pos (by omega)] at h; exact h
theorem rabs_spec (x : Int) (K0 : Int → Prop) (h : K0 (absV x)) : R01_Abs x K0 := by
  rw [R01_Abs_def]
  unfold absV at h
  simp only [br_dec]
  split
  · rw [if_pos (by omega)] at h; exact h
  split
  · rw [if_pos (by omega)] at h; exact h
  rw [if_neg (by omega)] at h
  rw [isub64 (by omega), imax_eq', Int.zero_sub]; exact h
theorem absV_of {x : Int} (h : -4611686018427387904 ≤ x ∧ x ≤ 4611686018427387904) : absV x = max x (-x) := by unfold absV; rw [if_neg (by omega)]
/-- r is the root of n, rounded down. -/
def isq (n r : Int) : Prop := 0 ≤ r ∧ r * r ≤ n ∧ n < (r + 1) * (r + 1)
theorem sq_succ (r : Int) : (r + 1) * (r + 1) = r * r + 2 * r + 1 := by rw [Int.add_mul, Int.mul_add]; omega
theorem sq_mono {a b : Int} (h0 : 0 ≤ a) (h : a ≤ b) : a * a ≤ b * b := Int.mul_le_mul h h h0 (by omega)
theorem isq_le {a b r s : Int} (h1 : isq a r) (h2 : isq b s) (h : a ≤ b) : r ≤ s := by
  apply Classical.byContradiction
  intro hn
  have := sq_mono (a := s + 1) (b := r) (by have := h2.1; omega) (by omega)
  have := h1.2.1; have := h2.2.2
  omega
theorem isq_eq {a r s : Int} (h1 : isq a r) (h2 : isq a s) : r = s := by
  have := isq_le h1 h2 (Int.le_refl _); have := isq_le h2 h1 (Int.le_refl _); omega
theorem isq_sq {r : Int} (h : 0 ≤ r) : isq (r * r) r := ⟨h, Int.le_refl _, by rw [sq_succ]; omega⟩
theorem root_le {n r : Int} (h : isq n r) (hn : n ≤ 1152921504606846976) : r ≤ 1073741824 := by
  apply Classical.byContradiction
  intro hb
  have := sq_mono (a := 1073741825) (b := r) (by decide) (by omega)
  have := h.2.1
  omega

theorem ior_add (m j : Nat) (h : m * 2 ^ (j + 1) + 2 ^ j < 2 ^ 62) : ior .i64 ((m * 2 ^ (j + 1) : Nat) : Int) ((2 ^ j : Nat) : Int) = ((m * 2 ^ (j + 1) + 2 ^ j : Nat) : Int) := by
  unfold ior
  have e1 : (BitVec.ofInt IntKind.i64.bits ((m * 2 ^ (j + 1) : Nat) : Int)).toNat = m * 2 ^ (j + 1) := by
    rw [BitVec.ofInt_natCast, BitVec.toNat_ofNat]
    exact Nat.mod_eq_of_lt (Nat.lt_of_lt_of_le (Nat.lt_of_le_of_lt (Nat.le_add_right _ _) h) (by decide))
  have e2 : (BitVec.ofInt IntKind.i64.bits ((2 ^ j : Nat) : Int)).toNat = 2 ^ j := by
    rw [BitVec.ofInt_natCast, BitVec.toNat_ofNat]
    exact Nat.mod_eq_of_lt (Nat.lt_of_lt_of_le (Nat.lt_of_le_of_lt (Nat.le_add_left _ _) h) (by decide))
  rw [BitVec.toNat_or, e1, e2]
  have e3 : m * 2 ^ (j + 1) ||| 2 ^ j = m * 2 ^ (j + 1) + 2 ^ j := by
    have := Nat.shiftLeft_add_eq_or_of_lt (i := j + 1) (b := 2 ^ j) (Nat.pow_lt_pow_right (by decide) (by omega)) m
    rw [Nat.shiftLeft_eq] at this
    exact this.symm
  rw [e3]
  refine Go.IntWalk.i64_in _ ⟨by omega, ?_⟩
  have : (m * 2 ^ (j + 1) + 2 ^ j : Nat) < 4611686018427387904 := h
  omega

theorem sqrt_l5 (n : Int) (hn : 0 ≤ n ∧ n ≤ 1152921504606846976) (K0 : Int → Prop) (h : ∀ r, isq n r → K0 r) : ∀ (j m : Nat), j ≤ 31 → ((m * 2 ^ j : Nat) : Int) * ((m * 2 ^ j : Nat) : Int) ≤ n → n < ((m * 2 ^ j + 2 ^ j : Nat) : Int) * ((m * 2 ^ j + 2 ^ j : Nat) : Int) →
    ∃ q, root_Sqrt_l5 q n ((m * 2 ^ j : Nat) : Int) (31 - j : Int) K0 := by
  intro j
  induction j with
  | zero =>
    intro m _ h1 h2
    refine ⟨1, ?_⟩
    simp only [root_Sqrt_l5, br_dec]
    rw [if_neg (by omega)]
    refine h _ ⟨by omega, h1, ?_⟩
    simpa using h2
  | succ j ih =>
    intro m hj h1 h2
    have hp : 2 ^ (j + 1) = 2 ^ j + 2 ^ j := by rw [Nat.pow_succ]; omega
    have hp30 : 2 ^ j ≤ 1073741824 := Nat.le_trans (Nat.pow_le_pow_right (n := 2) (i := j) (j := 30) (by decide) (by omega)) (by decide)
    have hpi : (0 : Int) < 2 ^ j := Int.pow_pos (by decide)
    have hpi30 : (2 : Int) ^ j ≤ 1073741824 := by
      have h9 : ((2 ^ j : Nat) : Int) ≤ 1073741824 := Int.ofNat_le.2 hp30
      rwa [Int.natCast_pow] at h9
    have hmi : 0 ≤ ((m * 2 ^ (j + 1) : Nat) : Int) := by omega
    have hmi2 : ((m * 2 ^ (j + 1) + 2 ^ j : Nat) : Int) = ((m * 2 ^ (j + 1) : Nat) : Int) + 2 ^ j := by simp
    have hr : ((m * 2 ^ (j + 1) : Nat) : Int) ≤ 1073741824 := by
      apply Classical.byContradiction
      intro hb
      have := sq_mono (a := 1073741825) (b := ((m * 2 ^ (j + 1) : Nat) : Int)) (by decide) (by omega)
      omega
    have hv : isub .i64 30 (31 - ((j + 1 : Nat) : Int)) = ((j : Nat) : Int) := by rw [isub64 (by omega)]; omega
    have hsh : ishl .i64 1 ((j : Nat) : Int) = ((2 ^ j : Nat) : Int) := by
      rw [ishl64 (by omega) (by
        rw [Int.one_mul]; omega)]
      simp
    have hor : ior .i64 ((m * 2 ^ (j + 1) : Nat) : Int) ((2 ^ j : Nat) : Int) = ((m * 2 ^ (j + 1) + 2 ^ j : Nat) : Int) := ior_add m j (by
      have h9 : (m * 2 ^ (j + 1) : Nat) ≤ 1073741824 := Int.ofNat_le.1 hr
      exact Nat.lt_of_le_of_lt (Nat.add_le_add h9 hp30) (by decide))
    have hmul : imul .i64 ((m * 2 ^ (j + 1) + 2 ^ j : Nat) : Int) ((m * 2 ^ (j + 1) + 2 ^ j : Nat) : Int) = ((m * 2 ^ (j + 1) + 2 ^ j : Nat) : Int) * ((m * 2 ^ (j + 1) + 2 ^ j : Nat) : Int) := by
      have := sq_mono (a := ((m * 2 ^ (j + 1) + 2 ^ j : Nat) : Int)) (b := 2147483648) (by rw [hmi2]; exact Int.add_nonneg hmi (Int.le_of_lt hpi)) (by rw [hmi2]; exact Int.add_le_add hr hpi30)
      have h0 : 0 ≤ ((m * 2 ^ (j + 1) + 2 ^ j : Nat) : Int) * ((m * 2 ^ (j + 1) + 2 ^ j : Nat) : Int) := Int.mul_nonneg (Int.natCast_nonneg _) (Int.natCast_nonneg _)
      exact imul64 (by omega)
    have hnext : iadd .i64 (31 - ((j + 1 : Nat) : Int)) 1 = 31 - (j : Int) := by rw [iadd64 (by omega)]; omega
    by_cases hc : ((m * 2 ^ (j + 1) + 2 ^ j : Nat) : Int) * ((m * 2 ^ (j + 1) + 2 ^ j : Nat) : Int) ≤ n
    · have e : m * 2 ^ (j + 1) + 2 ^ j = (2 * m + 1) * 2 ^ j := by rw [Nat.pow_succ, Nat.add_mul, Nat.one_mul, Nat.mul_comm (2 ^ j) 2, ← Nat.mul_assoc, Nat.mul_comm m 2]
      obtain ⟨q, hq⟩ := ih (2 * m + 1) (by omega) (by rw [← e]; exact hc) (by
        have e2 : (2 * m + 1) * 2 ^ j + 2 ^ j = m * 2 ^ (j + 1) + 2 ^ (j + 1) := by rw [← e]; omega
        rw [e2]; exact h2)
      refine ⟨q + 1, ?_⟩
      simp only [root_Sqrt_l5, br_dec, hv]
      rw [if_pos (by omega), if_neg (by omega), hsh, hor, hmul, if_pos hc, hnext, e]
      exact hq
    · have e : m * 2 ^ (j + 1) = (2 * m) * 2 ^ j := by rw [Nat.pow_succ, Nat.mul_comm (2 ^ j) 2, ← Nat.mul_assoc, Nat.mul_comm m 2]
      obtain ⟨q, hq⟩ := ih (2 * m) (by omega) (by rw [← e]; exact h1) (by rw [← e]; omega)
      refine ⟨q + 1, ?_⟩
      simp only [root_Sqrt_l5, br_dec, hv]
      rw [if_pos (by omega), if_neg (by omega), hsh, hor, hmul, if_neg hc, hnext, e]
      exact hq

theorem sqrt_spec (n : Int) (K0 : Int → Prop) (h0 : ¬ (0 ≤ n ∧ n ≤ 1152921504606846976) → K0 0) (h : 0 ≤ n ∧ n ≤ 1152921504606846976 → ∀ r, isq n r → K0 r) : root_Sqrt n K0 := by
  rw [root_Sqrt_def]
  simp only [br_dec]
  split
  · exact h0 (by omega)
  split
  · exact h0 (by omega)
  have := sqrt_l5 n (by omega) K0 (h (by omega)) 31 0 (by decide) (by omega) (by
    have : ((0 * 2 ^ 31 + 2 ^ 31 : Nat) : Int) * ((0 * 2 ^ 31 + 2 ^ 31 : Nat) : Int) = 4611686018427387904 := by decide
    rw [this]; omega)
  simpa using this

def sqV (n : Int) : Int := if 0 ≤ n ∧ n ≤ 1152921504606846976 then Classical.epsilon (isq n) else 0
theorem sqV_eq {n r : Int} (hn : 0 ≤ n ∧ n ≤ 1152921504606846976) (h : isq n r) : sqV n = r := by
  unfold sqV
  rw [if_pos hn]
  exact isq_eq (Classical.epsilon_spec ⟨r, h⟩) h
theorem sqrtV_spec (n : Int) (K0 : Int → Prop) (h : K0 (sqV n)) : root_Sqrt n K0 := by
  refine sqrt_spec n K0 (fun hn => ?_) (fun hn r hr => ?_)
  · unfold sqV at h; rw [if_neg hn] at h; exact h
  · rw [sqV_eq hn hr] at h; exact h
theorem nwithin_l2 (m : Int) (hm : 0 ≤ m ∧ m ≤ 4611686018427387904) (l : List Int) (hl : l.length ≤ 1000000) (K0 : Bool → Prop) (K1 : Prop) : ∀ n i : Nat, i + n = l.length →
    (if (l.drop i).all (inB (-m) m) = true then K1 else K0 false) → ∃ q, num_within_l2 q m l l.length i K0 K1 := by
  intro n
  induction n with
  | zero =>
    intro i hi h
    refine ⟨1, ?_⟩
    rw [List.drop_eq_nil_of_le (by omega)] at h
    simp only [num_within_l2, br_dec]
    rw [if_neg (by omega)]
    simpa using h
  | succ n ih =>
    intro i hi h
    rw [drop_cons 0 (by omega), List.all_cons] at h
    by_cases hx : inB (-m) m (l.getD i 0) = true
    · rw [hx, Bool.true_and] at h
      obtain ⟨q, hq⟩ := ih (i + 1) (by omega) h
      refine ⟨q + 1, ?_⟩
      unfold inB at hx
      rw [decide_eq_true_eq] at hx
      simp only [num_within_l2, br_dec, br_and, Int.toNat_natCast]
      rw [if_pos (by omega), if_pos (by omega), if_pos (by omega), isub64 (by omega), if_neg (by omega), if_neg (by omega), i64_succ _ (by omega)]
      exact hq
    · have h : K0 false := by
        rw [Bool.eq_false_iff.2 hx, Bool.false_and, if_neg (by simp)] at h; exact h
      refine ⟨1, ?_⟩
      unfold inB at hx
      rw [decide_eq_true_eq] at hx
      simp only [num_within_l2, br_dec, br_and, Int.toNat_natCast]
      rw [if_pos (by omega), if_pos (by omega), if_pos (by omega), isub64 (by omega)]
      split
      · exact h
      · rw [if_pos (by omega)]; exact h
theorem nwithin_spec (m : Int) (hm : 0 ≤ m ∧ m ≤ 4611686018427387904) (l : List Int) (hl : l.length ≤ 1000000) (K0 : Bool → Prop) (h : K0 (l.all (inB (-m) m))) : num_within m l K0 := by
  rw [num_within_def]
  refine nwithin_l2 m hm l hl K0 _ l.length 0 (by omega) ?_
  rw [List.drop_zero]
  split
  · rename_i e; rw [e] at h; exact h
  · rename_i e; rw [Bool.eq_false_iff.2 e] at h; exact h
theorem mod_spec (a b : Int) (hb : 1 ≤ b) (hb2 : b ≤ 1152921504606846976) (ha : -2305843009213693952 ≤ a ∧ a ≤ 2305843009213693952) (K0 : Int → Int → Prop) (h : K0 (a / b) (a % b)) : num_Mod a b K0 := by
  rw [num_Mod_def]
  simp only [br_dec]
  rw [if_neg (by omega), if_neg (by omega)]
  have hm := Int.emod_nonneg a (show b ≠ 0 by omega)
  have hm2 := Int.emod_lt_of_pos a (show 0 < b by omega)
  have e1 := Int.tdiv_eq_ediv (a := a) (b := b)
  have e2 := Int.tmod_eq_emod (a := a) (b := b)
  have hs : b.sign = 1 := Int.sign_eq_one_of_pos (by omega)
  have hr : irem .i64 a b = a.tmod b := rfl
  have hq := tdiv_range hb (a := a) (by omega)
  have hq2 : iquo .i64 a b = a.tdiv b := iquo64 hb (by omega)
  have h8 : ∀ l, l = a % b → a.tdiv b = a / b → num_Mod_j8 a b l K0 := by
    intro l e e3
    unfold num_Mod_j8
    rw [br_dec, if_neg (by omega), hq2, e, e3]; exact h
  rw [hr]
  by_cases hc : 0 ≤ a ∨ b ∣ a
  · rw [if_pos hc] at e1 e2
    rw [if_neg (by omega)]
    unfold num_Mod_j6 num_Mod_j7
    rw [br_dec]
    split
    · rename_i h0
      have hd : b ∣ a := by
        rcases hc with hc | hc
        · omega
        · exact hc
      have := Int.emod_eq_zero_of_dvd hd
      rw [br_dec, if_neg (by omega)]
      exact h8 _ (by omega) (by omega)
    · rw [br_false]
      exact h8 _ (by omega) (by omega)
  · rw [if_neg hc, hs] at e1
    rw [if_neg hc] at e2
    have hb3 : ((b.natAbs : Nat) : Int) = b := by omega
    rw [hb3] at e2
    have h0 : a % b ≠ 0 := fun e => hc (.inr (Int.dvd_of_emod_eq_zero e))
    rw [if_pos (by omega)]
    unfold num_Mod_j6 num_Mod_j7
    rw [iadd64 (by omega), br_dec, if_pos (by omega), br_dec, if_pos (by omega), br_dec, if_neg (by omega), hq2]
    have h1 : -2305843009213693952 ≤ a / b := Int.le_ediv_of_mul_le (by omega) (by omega)
    rw [isub64 (by omega), show a.tdiv b - 1 = a / b by omega, show a.tmod b + b = a % b by omega]
    exact h
/-- A number divided by another, to the nearest. -/
def divV (a b : Int) : Int := if a < -1152921504606846976 ∨ 1152921504606846976 < a ∨ b < 1 ∨ 1152921504606846976 < b then 0 else if b ≤ 2 * (a % b) then a / b + 1 else a / b
theorem quo_range {a b : Int} (ha : -1152921504606846976 ≤ a ∧ a ≤ 1152921504606846976) (hb : 1 ≤ b) : -1152921504606846976 ≤ a / b ∧ a / b ≤ 1152921504606846976 :=
  ⟨Int.le_ediv_of_mul_le (by omega) (by omega), Int.ediv_le_of_le_mul (by omega) (by omega)⟩
theorem div_spec (a b : Int) (K0 : Int → Prop) (h : K0 (divV a b)) : num_Div a b K0 := by
  rw [num_Div_def]
  unfold divV at h
  rw [br_dec]
  split
  · rw [if_pos (by omega)] at h; exact h
  refine nwithin_spec _ (by decide) _ (by simp) _ ?_
  simp only [List.all_cons, List.all_nil, Bool.and_true, inB]
  by_cases hr : a < -1152921504606846976 ∨ 1152921504606846976 < a ∨ b < 1 ∨ 1152921504606846976 < b
  · rw [if_pos hr] at h
    have : (decide (-1152921504606846976 ≤ a ∧ a ≤ 1152921504606846976) && decide (-1152921504606846976 ≤ b ∧ b ≤ 1152921504606846976)) = false := by
      rw [← Bool.decide_and]; exact decide_eq_false (by omega)
    rw [this, br_not, br_false]; exact h
  · rw [if_neg hr] at h
    rw [decide_eq_true (by omega), decide_eq_true (by omega), br_not]
    show num_Mod _ _ _
    have hm := Int.emod_nonneg a (show b ≠ 0 by omega)
    have hm2 := Int.emod_lt_of_pos a (show 0 < b by omega)
    have := quo_range (a := a) (b := b) (by omega) (by omega)
    refine mod_spec a b (by omega) (by omega) (by omega) _ ?_
    rw [br_dec, isub64 (by omega), iadd64 (by omega)]
    split
    · rw [if_pos (by omega)] at h; exact h
    · rw [if_neg (by omega)] at h; exact h
def stp (f : Int) : Int := if f = 0 then 16777216 else if f = 1 then 19951585 else if f = 2 then 23726566 else 28215802
/-- How loud a level is. -/
def ampV (c f : Int) : Int := if c < 1 ∨ 23 < c ∨ f < 0 ∨ 3 < f then 0 else shrV (stp f) (24 - c)
theorem four {f : Int} (h : 0 ≤ f ∧ f ≤ 3) : f = 0 ∨ f = 1 ∨ f = 2 ∨ f = 3 := by omega
theorem amp_spec (c f : Int) (K0 : Int → Prop) (h : K0 (ampV c f)) : level_Amp c f K0 := by
  rw [level_Amp_def]
  unfold ampV at h
  simp only [br_dec]
  split
  · rw [if_pos (by omega)] at h; exact h
  split
  · rw [if_pos (by omega)] at h; exact h
  split
  · rw [if_pos (by omega)] at h; exact h
  split
  · rw [if_pos (by omega)] at h; exact h
  rw [if_neg (by omega)] at h
  rw [level_steps_def, br_and, br_dec, br_dec, if_pos (by omega), if_pos (by omega)]
  have e : ([16777216, 19951585, 23726566, 28215802] : List Int).getD f.toNat 0 = stp f := by
    rcases four (f := f) (by omega) with rfl | rfl | rfl | rfl <;> rfl
  rw [e, isub64 (by omega), if_pos (by simp only [List.length_cons, List.length_nil]; omega)]
  exact shr_spec _ _ _ h
theorem ramp_spec (c f : Int) (K0 : Int → Prop) (h : K0 (ampV c f)) : R08_Amp c f K0 := by
  rw [R08_Amp_def]
  unfold ampV at h
  simp only [br_dec]
  split
  · rw [if_pos (by omega)] at h; exact h
  split
  · rw [if_pos (by omega)] at h; exact h
  split
  · rw [if_pos (by omega)] at h; exact h
  split
  · rw [if_pos (by omega)] at h; exact h
  rw [if_neg (by omega)] at h
  have e : ∀ K, K (stp f) → R08_step f K := by
    intro K hk
    rw [R08_step_def]
    simp only [br_dec]
    unfold stp at hk
    split
    · rename_i h0; rw [if_pos h0] at hk; exact hk
    rename_i h0
    rw [if_neg h0] at hk
    split
    · rename_i h1; rw [if_pos h1] at hk; exact hk
    rename_i h1
    rw [if_neg h1] at hk
    split
    · rename_i h2; rw [if_pos h2] at hk; exact hk
    · rename_i h2; rw [if_neg h2] at hk; exact hk
  refine e _ ?_
  rw [isub64 (by omega)]
  exact rshr_spec _ _ _ h
def ampI (i : Nat) : Int := ampV ((i / 4 : Nat) : Int) ((i % 4 : Nat) : Int)
theorem ampI_step : ∀ i, i < 95 → 4 ≤ i → ampI i ≤ ampI (i + 1) := by decide +kernel
theorem ampI_mono {i : Nat} (hi : 4 ≤ i) : ∀ d, i + d ≤ 95 → ampI i ≤ ampI (i + d)
  | 0, _ => Int.le_refl _
  | d + 1, h => Int.le_trans (ampI_mono hi d (by omega)) (ampI_step (i + d) (by omega) (by omega))
/-- The greatest level that is not louder. -/
def findN (a : Int) : Nat → Nat
  | 0 => 3
  | i + 1 => if i + 1 < 4 then 3 else if ampI (i + 1) ≤ a then i + 1 else findN a i
theorem findN_step {a : Int} {i : Nat} (h : 4 ≤ i) : findN a i = if ampI i ≤ a then i else findN a (i - 1) := by
  obtain ⟨j, rfl⟩ : ∃ j, i = j + 1 := ⟨i - 1, by omega⟩
  rw [Nat.add_sub_cancel]
  conv => lhs; unfold findN
  rw [if_neg (by omega)]
theorem findN_eq {a : Int} {L : Nat} (h3 : 3 ≤ L) (h1 : L = 3 ∨ ampI L ≤ a) (h2 : ∀ i, L < i → i ≤ 95 → a < ampI i) : ∀ j, L + j ≤ 95 → findN a (L + j) = L
  | 0, _ => by
    obtain ⟨l, rfl⟩ : ∃ l, L = l + 1 := ⟨L - 1, by omega⟩
    rw [Nat.add_zero]
    unfold findN
    split
    · omega
    · rcases h1 with h1 | h1
      · omega
      · rw [if_pos h1]
  | j + 1, h => by
    rw [← Nat.add_assoc]
    unfold findN
    have := h2 (L + j + 1) (by omega) (by omega)
    rw [if_neg (by omega), if_neg (by omega)]
    exact findN_eq h3 h1 h2 j (by omega)
def findK (a : Int) (i : Nat) (K : Int → Int → Prop) : Prop := if findN a i < 4 then K 0 0 else K ((findN a i / 4 : Nat) : Int) ((findN a i % 4 : Nat) : Int)
theorem find_l2 (a : Int) (K : Int → Prop) (h : K ((findN a 95 : Nat) : Int)) : ∀ d low high : Nat, high ≤ low + d → 3 ≤ low → low < high → high ≤ 96 → (low = 3 ∨ ampI low ≤ a) → (high = 96 ∨ a < ampI high) →
    ∃ q, level_Find_l2 q a low high K := by
  intro d
  induction d with
  | zero => intro low high h1 h2 h3; omega
  | succ d ih =>
    intro low high h1 h2 h3 h4 hL hH
    by_cases hd : high = low + 1
    · refine ⟨1, ?_⟩
      simp only [level_Find_l2, br_dec]
      rw [if_neg (by rw [isub64 (by omega)]; omega)]
      have := findN_eq (a := a) h2 hL (fun i hi hi' => by
        rcases hH with hH | hH
        · omega
        · have := ampI_mono (i := high) (by omega) (i - high) (by omega)
          rw [show high + (i - high) = i by omega] at this
          omega) (95 - low) (by omega)
      rw [show low + (95 - low) = 95 by omega] at this
      rw [this] at h
      exact h
    · have e4 : iquo .i64 (iadd .i64 (low : Int) (high : Int)) 2 = (((low + high) / 2 : Nat) : Int) := by
        rw [iadd64 (by omega), iquo64 (by decide) (by omega), Int.tdiv_eq_ediv_of_nonneg (by omega)]; omega
      have e5 : iquo .i64 (((low + high) / 2 : Nat) : Int) 4 = (((low + high) / 2 / 4 : Nat) : Int) := by
        rw [iquo64 (by decide) (by omega), Int.tdiv_eq_ediv_of_nonneg (by omega)]; omega
      have e6 : irem .i64 (((low + high) / 2 : Nat) : Int) 4 = (((low + high) / 2 % 4 : Nat) : Int) := by
        show Int.tmod _ 4 = _
        rw [Int.tmod_eq_emod_of_nonneg (by omega)]; omega
      by_cases hc : ampI ((low + high) / 2) ≤ a
      · obtain ⟨q, hq⟩ := ih ((low + high) / 2) high (by omega) (by omega) (by omega) h4 (.inr hc) hH
        refine ⟨q + 1, ?_⟩
        simp only [level_Find_l2, br_dec, e4, e5, e6]
        rw [if_pos (by rw [isub64 (by omega)]; omega)]
        refine amp_spec _ _ _ ?_
        rw [if_pos (show ampV _ _ ≤ a from hc)]
        exact hq
      · obtain ⟨q, hq⟩ := ih low ((low + high) / 2) (by omega) h2 (by omega) (by omega) hL (.inr (by omega))
        refine ⟨q + 1, ?_⟩
        simp only [level_Find_l2, br_dec, e4, e5, e6]
        rw [if_pos (by rw [isub64 (by omega)]; omega)]
        refine amp_spec _ _ _ ?_
        rw [if_neg (show ¬ ampV _ _ ≤ a from hc)]
        exact hq
theorem findN_le (a : Int) : ∀ i, 3 ≤ i → 3 ≤ findN a i ∧ findN a i ≤ i
  | 0, h => by omega
  | i + 1, h => by
    unfold findN
    split
    · omega
    split
    · omega
    · have := findN_le a i (by omega); omega
theorem find_spec (a : Int) (K : Int → Int → Prop) (h : findK a 95 K) : level_Find a K := by
  rw [level_Find_def]
  refine find_l2 a _ ?_ 93 3 96 (by omega) (by omega) (by omega) (by omega) (.inl rfl) (.inl rfl)
  have hb := findN_le a 95 (by omega)
  unfold findK at h
  rw [br_dec]
  split
  · rw [if_pos (by omega)] at h; exact h
  · rw [if_neg (by omega)] at h
    have e5 : iquo .i64 ((findN a 95 : Nat) : Int) 4 = ((findN a 95 / 4 : Nat) : Int) := by
      rw [iquo64 (by decide) (by omega), Int.tdiv_eq_ediv_of_nonneg (by omega)]; omega
    have e6 : irem .i64 ((findN a 95 : Nat) : Int) 4 = ((findN a 95 % 4 : Nat) : Int) := by
      show Int.tmod _ 4 = _
      rw [Int.tmod_eq_emod_of_nonneg (by omega)]; omega
    rw [e5, e6]; exact h
def farV (x : Int) : Int := if x < -24 ∨ 24 < x then 25 else max x (-x)
def farS : List Int → Int
  | [] => 0
  | x :: r => farV x + farS r
theorem farV_b (x : Int) : 0 ≤ farV x ∧ farV x ≤ 25 := by unfold farV; split <;> omega
theorem farS_b : ∀ l : List Int, 0 ≤ farS l ∧ farS l ≤ 25 * l.length
  | [] => by simp [farS]
  | x :: r => by
    have := farV_b x
    have := farS_b r
    simp only [farS, List.length_cons]
    omega
def sizeK (k : Int) (K0 : Int → Bool → Prop) : Prop := if 24 < k then K0 0 false else K0 k true
def sizeV (x : List Int) : Option Int := if 1 ≤ x.length ∧ x.length ≤ 8 ∧ farS x ≤ 24 then some (farS x) else none
def sizeM (o : Option Int) (K0 : Int → Bool → Prop) : Prop := match o with | none => K0 0 false | some k => K0 k true
theorem size_l5 (x : List Int) (hl : x.length ≤ 8) (K0 : Int → Bool → Prop) (K1 : Int → Prop) (hK : ∀ k, sizeK k K0 → K1 k) : ∀ (n i : Nat) (k : Int), i + n = x.length → 0 ≤ k ∧ k ≤ 25 * i → sizeK (k + farS (x.drop i)) K0 → ∃ q, pvq_Size_l5 q k x x.length i K0 K1 := by
  intro n
  induction n with
  | zero =>
    intro i k hi hk h
    refine ⟨1, ?_⟩
    rw [List.drop_eq_nil_of_le (by omega)] at h
    simp only [pvq_Size_l5, br_dec]
    rw [if_neg (by omega)]
    refine hK _ ?_
    simpa [farS] using h
  | succ n ih =>
    intro i k hi hk h
    rw [drop_cons 0 (by omega)] at h
    simp only [farS] at h
    have h2 := farS_b (x.drop (i + 1))
    by_cases hv : x.getD i 0 < -24 ∨ 24 < x.getD i 0
    · have hf : farV (x.getD i 0) = 25 := by unfold farV; rw [if_pos hv]
      have h : K0 0 false := by
        unfold sizeK at h; rw [if_pos (by omega)] at h; exact h
      refine ⟨1, ?_⟩
      simp only [pvq_Size_l5, pvq_Size_j8, br_dec, br_and, br_true, Int.toNat_natCast]
      rw [if_pos (by omega), if_pos (by omega), if_pos (by omega)]
      split
      · exact h
      · rw [if_pos (by omega)]; exact h
    · have hf : farV (x.getD i 0) = max (x.getD i 0) (-(x.getD i 0)) := by unfold farV; rw [if_neg hv]
      have ha : absV (x.getD i 0) = farV (x.getD i 0) := by rw [hf]; exact absV_of (by omega)
      have hb := farV_b (x.getD i 0)
      obtain ⟨q, hq⟩ := ih (i + 1) (k + farV (x.getD i 0)) (by omega) (by omega) (by rw [Int.add_assoc]; exact h)
      refine ⟨q + 1, ?_⟩
      simp only [pvq_Size_l5, pvq_Size_j8, pvq_Size_j9, br_dec, br_and, br_true, Int.toNat_natCast]
      rw [if_pos (by omega), if_pos (by omega), if_pos (by omega), if_neg (by omega), if_neg (by omega)]
      refine abs_spec _ _ ?_
      rw [ha, iadd64 (by omega), i64_succ _ (by omega)]
      exact hq
theorem size_spec (x : List Int) (K0 : Int → Bool → Prop) (h : sizeM (sizeV x) K0) : pvq_Size x K0 := by
  rw [pvq_Size_def]
  unfold sizeV at h
  simp only [br_dec, pvq_Size_j2, br_true]
  split
  · rw [if_neg (by omega)] at h; exact h
  split
  · rw [if_neg (by omega)] at h; exact h
  · unfold pvq_Size_j3
    refine size_l5 x (by omega) K0 _ (fun k hk => ?_) x.length 0 0 (by omega) (by omega) ?_
    · rw [br_dec]; exact hk
    · rw [List.drop_zero, Int.zero_add]
      unfold sizeK
      split
      · rw [if_neg (by omega)] at h; exact h
      · rw [if_pos (by omega)] at h; exact h
theorem rfar_spec (x : Int) (K : Int → Prop) (h : K (farV x)) : R16_far x K := by
  rw [R16_far_def]
  unfold farV at h
  simp only [br_dec]
  split
  · rw [if_pos (by omega)] at h; exact h
  split
  · rw [if_pos (by omega)] at h; exact h
  · rw [if_neg (by omega)] at h
    rw [isub64 (by omega), imax_eq', Int.zero_sub]; exact h
theorem rsize_l5 (x : List Int) (hl : x.length ≤ 8) (K1 : Int → Prop) : ∀ (n i : Nat) (k : Int), i + n = x.length → 0 ≤ k ∧ k ≤ 25 * i → K1 (k + farS (x.drop i)) → ∃ q, R16_Size_l5 q x k i K1 := by
  intro n
  induction n with
  | zero =>
    intro i k hi hk h
    refine ⟨1, ?_⟩
    rw [List.drop_eq_nil_of_le (by omega)] at h
    simp only [R16_Size_l5, br_dec]
    rw [if_neg (by omega)]
    simpa [farS] using h
  | succ n ih =>
    intro i k hi hk h
    rw [drop_cons 0 (by omega)] at h
    simp only [farS] at h
    have hb := farV_b (x.getD i 0)
    obtain ⟨q, hq⟩ := ih (i + 1) (k + farV (x.getD i 0)) (by omega) (by omega) (by rw [Int.add_assoc]; exact h)
    refine ⟨q + 1, ?_⟩
    simp only [R16_Size_l5, br_dec, br_and, Int.toNat_natCast]
    rw [if_pos (by omega), if_pos (by omega), if_pos (by omega)]
    refine rfar_spec _ _ ?_
    rw [iadd64 (by omega), i64_succ _ (by omega)]
    exact hq
theorem rsize_spec (x : List Int) (K0 : Int → Bool → Prop) (h : sizeM (sizeV x) K0) : R16_Size x K0 := by
  rw [R16_Size_def]
  unfold sizeV at h
  simp only [br_dec, R16_Size_j2, br_true]
  split
  · rw [if_neg (by omega)] at h; exact h
  split
  · rw [if_neg (by omega)] at h; exact h
  · unfold R16_Size_j3
    refine rsize_l5 x (by omega) _ x.length 0 0 (by omega) (by omega) ?_
    rw [List.drop_zero, Int.zero_add, br_dec]
    split
    · rw [if_neg (by omega)] at h; exact h
    · rw [if_pos (by omega)] at h; exact h
/-- The sum of squares. -/
def sqS (n : Int) : List Int → Int
  | [] => n
  | x :: r => sqS (iadd .i64 n (imul .i64 x x)) r
theorem squares_l3 (x : List Int) (hl : x.length ≤ 1000000) (K : Int → Prop) : ∀ (n i : Nat) (k : Int), i + n = x.length → K (sqS k (x.drop i)) → ∃ q, shape_squares_l3 q k x x.length i K := by
  intro n
  induction n with
  | zero =>
    intro i k hi h
    refine ⟨1, ?_⟩
    rw [List.drop_eq_nil_of_le (by omega)] at h
    simp only [shape_squares_l3, br_dec]
    rw [if_neg (by omega)]
    exact h
  | succ n ih =>
    intro i k hi h
    rw [drop_cons 0 (by omega)] at h
    obtain ⟨q, hq⟩ := ih (i + 1) _ (by omega) h
    refine ⟨q + 1, ?_⟩
    simp only [shape_squares_l3, br_dec, br_and, Int.toNat_natCast]
    rw [if_pos (by omega), if_pos (by omega), if_pos (by omega), i64_succ _ (by omega)]
    exact hq
theorem squares_spec (x : List Int) (hl : x.length ≤ 1000000) (K : Int → Prop) (h : K (sqS 0 x)) : shape_squares x K := by
  rw [shape_squares_def]
  exact squares_l3 x hl K x.length 0 0 (by omega) h
def valF (x : List Int) (a r : Int) (i : Nat) : Int := if x.getD i 0 < 0 then isub .i64 0 (divV (ishl .i64 (imul .i64 a (absV (x.getD i 0))) 10) r) else divV (ishl .i64 (imul .i64 a (absV (x.getD i 0))) 10) r
def valL (x : List Int) (a : Int) : List Int := tab x.length (valF x a (sqV (ishl .i64 (sqS 0 x) 20)))
theorem values_l10 (x : List Int) (hl : x.length ≤ 8) (a r : Int) (K : List Int → Prop) (h : K (tab x.length (valF x a r))) : ∀ n i : Nat, i + n = x.length → ∃ q, shape_Values_l10 q a r x x.length i (fillT x.length i 0 (valF x a r)) K := by
  intro n
  induction n with
  | zero =>
    intro i hi
    refine ⟨1, ?_⟩
    have hi : i = x.length := by omega
    subst hi
    simp only [shape_Values_l10, br_dec]
    rw [if_neg (by omega), fillT_full]; exact h
  | succ n ih =>
    intro i hi
    obtain ⟨q, hq⟩ := ih (i + 1) (by omega)
    have hs := fillT_set x.length i 0 (valF x a r)
    refine ⟨q + 1, ?_⟩
    simp only [shape_Values_l10, br_dec, br_and, Int.toNat_natCast, fillT_length]
    rw [if_pos (by omega), if_pos (by omega), if_pos (by omega)]
    refine abs_spec _ _ (div_spec _ _ _ ?_)
    rw [i64_succ _ (by omega)]
    split
    · rename_i hc
      rw [if_pos (by omega), if_pos (by omega), if_pos (by omega)]
      rw [show valF x a r i = isub .i64 0 (divV (ishl .i64 (imul .i64 a (absV (x.getD i 0))) 10) r) by unfold valF; rw [if_pos hc]] at hs
      rw [hs]; exact hq
    · rename_i hc
      rw [if_pos (by omega), if_pos (by omega), if_pos (by omega)]
      rw [show valF x a r i = divV (ishl .i64 (imul .i64 a (absV (x.getD i 0))) 10) r by unfold valF; rw [if_neg hc]] at hs
      rw [hs]; exact hq
def valuesV (x : List Int) (c f : Int) : Option (List Int) := match sizeV x with
  | none => none
  | some k => if c < 0 ∨ 23 < c ∨ f < 0 ∨ 3 < f then none else some (if k = 0 ∨ c = 0 then List.replicate x.length 0 else valL x (ampV c f))
def valM (o : Option (List Int)) (K0 : Bool → Prop) (K1 : Bool → List Int → Prop) : Prop := match o with | none => K0 false | some l => K1 true l
theorem amp_zero : ∀ c, c < 24 → ∀ f, f < 4 → (ampV ((c : Nat) : Int) ((f : Nat) : Int) = 0 ↔ c = 0) := by decide +kernel
theorem amp_zero' {c f : Int} (hc : 0 ≤ c ∧ c ≤ 23) (hf : 0 ≤ f ∧ f ≤ 3) : ampV c f = 0 ↔ c = 0 := by
  obtain ⟨m, rfl⟩ : ∃ m : Nat, c = m := ⟨c.toNat, by omega⟩
  obtain ⟨n, rfl⟩ : ∃ n : Nat, f = n := ⟨f.toNat, by omega⟩
  have := amp_zero m (by omega) n (by omega)
  omega
theorem sizeV_some {x : List Int} {k : Int} (h : sizeV x = some k) : 1 ≤ x.length ∧ x.length ≤ 8 := by
  unfold sizeV at h
  split at h
  · omega
  · cases h
theorem values_spec (x : List Int) (c f : Int) (K0 : Bool → Prop) (K1 : Bool → List Int → Prop) (h : valM (valuesV x c f) K0 K1) : shape_Values x c f K0 K1 := by
  rw [shape_Values_def]
  refine size_spec x _ ?_
  unfold valuesV at h
  cases hs : sizeV x with
  | none =>
    rw [hs] at h
    simp only [hs, sizeM, shape_Values_j3, br_not, br_false, br_true]
    exact h
  | some k =>
    rw [hs] at h
    have hl := sizeV_some hs
    simp only at h
    simp only [sizeM, hs, shape_Values_j3, br_not, br_true, br_dec]
    split
    · rw [if_pos (by omega)] at h; exact h
    split
    · rw [if_pos (by omega)] at h; exact h
    split
    · rw [if_pos (by omega)] at h; exact h
    split
    · rw [if_pos (by omega)] at h; exact h
    rw [if_neg (by omega)] at h
    replace h : K1 true (if k = 0 ∨ c = 0 then List.replicate x.length 0 else valL x (ampV c f)) := h
    unfold shape_Values_j4
    simp only [br_and, br_dec, Int.toNat_natCast]
    rw [if_pos (by omega), if_pos (by omega), if_pos (by omega)]
    refine amp_spec _ _ _ ?_
    have hz := amp_zero' (c := c) (f := f) (by omega) (by omega)
    simp only [shape_Values_j7, br_true, br_dec]
    split
    · rename_i hk; rw [if_pos (.inl hk)] at h; exact h
    split
    · rename_i hk; rw [if_pos (.inr (hz.1 hk))] at h; exact h
    · rename_i hk hc
      rw [if_neg (fun e => e.elim hk (fun e => hc (hz.2 e)))] at h
      unfold shape_Values_j8
      refine squares_spec x (by omega) _ (sqrtV_spec _ _ ?_)
      rw [← fillT_zero x.length 0 (valF x (ampV c f) (sqV (ishl .i64 (sqS 0 x) 20)))]
      exact values_l10 x (by omega) _ _ _ h x.length 0 (by omega)
theorem valuesV_length {x : List Int} {c f : Int} {l : List Int} (h : valuesV x c f = some l) : l.length = x.length := by
  unfold valuesV at h
  split at h
  · cases h
  · split at h
    · cases h
    · cases h
      split
      · simp
      · exact tab_length _ _
/-- How loud numbers are. -/
def powV (x : List Int) : Int := if x.length ≤ 64 ∧ x.all (inB (-67108864) 67108864) = true then sqV (sqS 0 x) else 0
theorem power_l4 (x : List Int) (hl : x.length ≤ 64) (K0 : Int → Prop) (K1 : List Int → Prop) : ∀ n i : Nat, i + n = x.length → (if (x.drop i).all (inB (-67108864) 67108864) = true then K1 x else K0 0) → ∃ q, shape_Power_l4 q x x x.length i K0 K1 := by
  intro n
  induction n with
  | zero =>
    intro i hi h
    refine ⟨1, ?_⟩
    rw [List.drop_eq_nil_of_le (by omega)] at h
    simp only [shape_Power_l4, br_dec]
    rw [if_neg (by omega)]
    simpa using h
  | succ n ih =>
    intro i hi h
    rw [drop_cons 0 (by omega), List.all_cons] at h
    by_cases hx : inB (-67108864) 67108864 (x.getD i 0) = true
    · rw [hx, Bool.true_and] at h
      obtain ⟨q, hq⟩ := ih (i + 1) (by omega) h
      refine ⟨q + 1, ?_⟩
      unfold inB at hx
      rw [decide_eq_true_eq] at hx
      simp only [shape_Power_l4, br_dec, br_and, Int.toNat_natCast]
      rw [if_pos (by omega), if_pos (by omega), if_pos (by omega), if_neg (by omega), if_neg (by omega), i64_succ _ (by omega)]
      exact hq
    · have h : K0 0 := by
        rw [Bool.eq_false_iff.2 hx, Bool.false_and, if_neg (by simp)] at h; exact h
      refine ⟨1, ?_⟩
      unfold inB at hx
      rw [decide_eq_true_eq] at hx
      simp only [shape_Power_l4, br_dec, br_and, Int.toNat_natCast]
      rw [if_pos (by omega), if_pos (by omega), if_pos (by omega)]
      split
      · exact h
      · rw [if_pos (by omega)]; exact h
theorem power_spec (x : List Int) (K : Int → Prop) (h : K (powV x)) : shape_Power x K := by
  rw [shape_Power_def]
  unfold powV at h
  rw [br_dec]
  split
  · rw [if_neg (by omega)] at h; exact h
  · refine power_l4 x (by omega) K _ x.length 0 (by omega) ?_
    rw [List.drop_zero]
    split
    · rename_i ha
      rw [if_pos ⟨by omega, ha⟩] at h
      exact squares_spec x (by omega) _ (sqrtV_spec _ _ h)
    · rename_i ha
      rw [if_neg (fun e => ha e.2)] at h; exact h
theorem level_spec (x : List Int) (K : Int → Int → Prop) (h : findK (powV x) 95 K) : shape_Level x K := by
  rw [shape_Level_def]
  exact power_spec _ _ (find_spec _ _ h)
theorem awake_values : valuesV [1, 0] 4 0 = some [16, 0] := by
  have hs : sqV (ishl .i64 (sqS 0 [1, 0]) 20) = 1024 := by
    rw [show ishl .i64 (sqS 0 [1, 0]) 20 = 1048576 by decide +kernel]
    exact sqV_eq (by decide) ⟨by decide, by decide, by decide⟩
  show some (if farS [1, 0] = 0 ∨ (4 : Int) = 0 then _ else valL [1, 0] (ampV 4 0)) = _
  rw [if_neg (by decide +kernel)]
  unfold valL
  rw [hs]
  decide +kernel
theorem awake_spec (K : Bool → Prop) (h : K true) : L17_awake K := by
  rw [L17_awake_def]
  refine values_spec _ _ _ _ _ ?_
  rw [awake_values]
  show L17_awake_j2 true [16, 0] K
  unfold L17_awake_j2
  refine values_spec _ _ _ _ _ ?_
  rw [show valuesV [] 4 0 = none by decide +kernel]
  show L17_awake_j3 true false [16, 0] K
  unfold L17_awake_j3
  have hp : powV [3, -4] = 5 := by
    unfold powV
    rw [if_pos (by decide +kernel), show sqS 0 [3, -4] = 25 by decide +kernel]
    exact sqV_eq (by decide) ⟨by decide, by decide, by decide⟩
  refine level_spec _ _ ?_
  rw [hp]
  unfold findK
  rw [show findN 5 95 = 9 by decide +kernel, if_neg (by decide)]
  dsimp only
  rw [br_true]
  refine same_self _ _ (by decide) ?_
  rw [br_true, br_not, br_false]
  refine power_spec _ _ ?_
  rw [hp, br_dec, if_pos rfl, br_dec, if_pos (by decide)]
  exact h
def sumQ : List Int → Int
  | [] => 0
  | x :: r => x * x + sumQ r
theorem sq_nn (x : Int) : 0 ≤ x * x := by
  have := Int.natAbs_mul_self (a := x)
  omega
theorem sumQ_nn : ∀ l : List Int, 0 ≤ sumQ l
  | [] => Int.le_refl _
  | x :: r => by have := sq_nn x; have := sumQ_nn r; simp only [sumQ]; omega
theorem sqS_sum : ∀ (l : List Int) (n : Int), 0 ≤ n → n + sumQ l ≤ 4611686018427387904 → sqS n l = n + sumQ l
  | [], n, _, _ => by simp [sqS, sumQ]
  | x :: r, n, h0, h => by
    have h1 := sq_nn x
    have h2 := sumQ_nn r
    simp only [sumQ] at h ⊢
    simp only [sqS]
    rw [imul64 (by omega), iadd64 (by omega), sqS_sum r _ (by omega) (by omega)]
    omega
theorem sumQ_ge : ∀ (l : List Int) (x : Int), x ∈ l → x * x ≤ sumQ l
  | [], _, h => by cases h
  | y :: r, x, h => by
    simp only [sumQ]
    have := sq_nn y
    have := sumQ_nn r
    rcases List.mem_cons.1 h with rfl | h
    · omega
    · have := sumQ_ge r x h; omega
theorem farV_le {x : Int} (h : farV x ≤ 24) : -24 ≤ x ∧ x ≤ 24 ∧ max x (-x) = farV x := by
  unfold farV at h ⊢
  split
  · rename_i hc; rw [if_pos hc] at h; omega
  · omega
theorem farS_mem : ∀ (l : List Int) (x : Int), x ∈ l → farV x ≤ farS l
  | [], _, h => by cases h
  | y :: r, x, h => by
    simp only [farS]
    have := farV_b y
    have := (farS_b r).1
    rcases List.mem_cons.1 h with rfl | h
    · omega
    · have := farS_mem r x h; omega
theorem sumQ_le : ∀ l : List Int, farS l ≤ 24 → sumQ l ≤ 24 * farS l
  | [], _ => by simp [sumQ, farS]
  | x :: r, h => by
    simp only [farS] at h
    have h1 := farV_b x
    have h2 := (farS_b r).1
    have h3 := sumQ_le r (by omega)
    obtain ⟨a, b, c⟩ := farV_le (x := x) (by omega)
    simp only [sumQ, farS]
    have e : x * x = (max x (-x)) * (max x (-x)) := by
      rcases Int.le_total 0 x with hx | hx
      · rw [show max x (-x) = x by omega]
      · rw [show max x (-x) = -x by omega, Int.neg_mul_neg]
    have := Int.mul_le_mul_of_nonneg_right (show farV x ≤ 24 by omega) h1.1
    rw [e, c]
    omega
theorem sumQ_pos : ∀ l : List Int, farS l ≠ 0 → 1 ≤ sumQ l
  | [], h => by simp [farS] at h
  | x :: r, h => by
    simp only [sumQ]
    have h1 := sq_nn x
    have h2 := sumQ_nn r
    by_cases hx : x = 0
    · subst hx
      simp only [farS] at h
      have := sumQ_pos r (by rw [show farV 0 = 0 by decide] at h; omega)
      omega
    · have : 0 < x * x := by
        rcases Int.lt_or_gt_of_ne hx with hx | hx
        · exact Int.mul_pos_of_neg_of_neg hx hx
        · exact Int.mul_pos hx hx
      omega
/-- One part's own: what it is multiplied by is not far from what it should be. -/
theorem elem {a r y w : Int} (ha : 0 ≤ a ∧ a ≤ 16777216) (hr : 1 ≤ r ∧ r ≤ 1000000) (hy : 0 ≤ y ∧ y ≤ 24) (hyr : 1024 * y ≤ r) (hw : w = divV (1024 * (a * y)) r) :
    (-r ≤ 2 * (r * w - 1024 * (a * y)) ∧ 2 * (r * w - 1024 * (a * y)) ≤ r) ∧ 0 ≤ w ∧ w ≤ a := by
  have h1 : 0 ≤ a * y := Int.mul_nonneg ha.1 hy.1
  have h2 : a * y ≤ 16777216 * 24 := Int.mul_le_mul ha.2 hy.2 hy.1 (by decide)
  have h3 : 1024 * (a * y) ≤ a * r := by
    have := Int.mul_le_mul_of_nonneg_left hyr ha.1
    rw [Int.mul_left_comm] at this; exact this
  have h4 : 0 ≤ 1024 * (a * y) := by omega
  have h5 : 1024 * (a * y) ≤ 1152921504606846976 := by omega
  generalize 1024 * (a * y) = A at *
  have hm := Int.emod_nonneg A (show r ≠ 0 by omega)
  have hm2 := Int.emod_lt_of_pos A (show 0 < r by omega)
  have he := Int.emod_add_mul_ediv A r
  have hq : 0 ≤ A / r := Int.ediv_nonneg (by omega) (by omega)
  have hq2 : A / r ≤ a := Int.ediv_le_of_le_mul (by omega) (by omega)
  unfold divV at hw
  rw [if_neg (by omega)] at hw
  generalize hQ : A / r = q at *
  generalize hM : A % r = m at *
  by_cases hc : r ≤ 2 * m
  · rw [if_pos hc] at hw
    subst hw
    have e : r * (q + 1) = r * q + r := by rw [Int.mul_add, Int.mul_one]
    rw [e]
    refine ⟨by omega, by omega, ?_⟩
    apply Classical.byContradiction
    intro hn
    have : q = a := by omega
    subst this
    rw [Int.mul_comm] at h3
    omega
  · rw [if_neg hc] at hw
    subst hw
    exact ⟨by omega, by omega, by omega⟩
theorem elem_sq {a r y w : Int} (ha : 0 ≤ a) (hr : 1 ≤ r) (hy : 0 ≤ y) (hyr : 1024 * y ≤ r) (hd : -r ≤ 2 * (r * w - 1024 * (a * y)) ∧ 2 * (r * w - 1024 * (a * y)) ≤ r) :
    4 * (r * r * (w * w)) ≤ 4 * (1048576 * (a * a * (y * y))) + (4 * (a * (r * r)) + r * r) ∧ 1048576 * (a * a * (y * y)) - a * (r * r) ≤ r * r * (w * w) := by
  have hA0 : 0 ≤ 1024 * (a * y) := by have := Int.mul_nonneg ha hy; omega
  have hA1 : 1024 * (a * y) * r ≤ a * (r * r) := by
    have := Int.mul_le_mul_of_nonneg_left hyr ha
    rw [Int.mul_left_comm] at this
    have := Int.mul_le_mul_of_nonneg_right this (show 0 ≤ r by omega)
    simpa only [Int.mul_assoc] using this
  have e1 : 1048576 * (a * a * (y * y)) = 1024 * (a * y) * (1024 * (a * y)) := by
    rw [show (1048576 : Int) = 1024 * 1024 from rfl]
    simp only [Int.mul_assoc, Int.mul_left_comm, Int.mul_comm]
  have e2 : r * r * (w * w) = r * w * (r * w) := by
    simp only [Int.mul_assoc, Int.mul_left_comm, Int.mul_comm]
  rw [e1, e2]
  generalize 1024 * (a * y) = A at *
  generalize hD : r * w - A = D at hd
  rw [show r * w = A + D by omega]
  have e3 : (A + D) * (A + D) = A * A + 2 * (A * D) + D * D := by
    rw [Int.add_mul, Int.mul_add, Int.mul_add, Int.mul_comm D A]; omega
  have d0 := sq_nn D
  have d1 : 4 * (D * D) ≤ r * r := by
    have : (2 * D) * (2 * D) ≤ r * r := by
      rcases Int.le_total 0 D with h | h
      · exact Int.mul_le_mul (by omega) (by omega) (by omega) (by omega)
      · have := Int.mul_le_mul (a := -(2 * D)) (b := -(2 * D)) (c := r) (d := r) (by omega) (by omega) (by omega) (by omega)
        rwa [Int.neg_mul_neg] at this
    have e : (2 * D) * (2 * D) = 4 * (D * D) := by
      rw [show (4 : Int) = 2 * 2 from rfl]
      simp only [Int.mul_assoc, Int.mul_left_comm, Int.mul_comm]
    omega
  have d2 : 2 * (A * D) ≤ A * r := by
    have := Int.mul_le_mul_of_nonneg_left hd.2 hA0
    rw [Int.mul_left_comm] at this; exact this
  have d3 : -(A * r) ≤ 2 * (A * D) := by
    have := Int.mul_le_mul_of_nonneg_left hd.1 hA0
    rw [Int.mul_left_comm, Int.mul_neg] at this; exact this
  rw [e3]
  omega
def vOf (a r x : Int) : Int := if x < 0 then -(divV (1024 * (a * max x (-x))) r) else divV (1024 * (a * max x (-x))) r
theorem vOf_sq (a r x : Int) : vOf a r x * vOf a r x = divV (1024 * (a * max x (-x))) r * divV (1024 * (a * max x (-x))) r := by
  unfold vOf; split
  · rw [Int.neg_mul_neg]
  · rfl
theorem max_sq (x : Int) : max x (-x) * max x (-x) = x * x := by
  rcases Int.le_total 0 x with hx | hx
  · rw [show max x (-x) = x by omega]
  · rw [show max x (-x) = -x by omega, Int.neg_mul_neg]
theorem sums {a r : Int} (ha : 0 ≤ a ∧ a ≤ 16777216) (hr : 1 ≤ r ∧ r ≤ 1000000) : ∀ l : List Int, (∀ x ∈ l, -24 ≤ x ∧ x ≤ 24 ∧ 1024 * max x (-x) ≤ r) →
    4 * (r * r * sumQ (l.map (vOf a r))) ≤ 4 * (1048576 * (a * a * sumQ l)) + l.length * (4 * (a * (r * r)) + r * r) ∧
    1048576 * (a * a * sumQ l) - l.length * (a * (r * r)) ≤ r * r * sumQ (l.map (vOf a r))
  | [], _ => by simp [sumQ]
  | x :: l, h => by
    obtain ⟨h1, h2, h3⟩ := h x (List.mem_cons_self)
    have ih := sums ha hr l (fun y hy => h y (List.mem_cons_of_mem _ hy))
    have hE := elem (w := divV (1024 * (a * max x (-x))) r) ha hr (by omega) h3 rfl
    have hS := elem_sq ha.1 hr.1 (y := max x (-x)) (by omega) h3 hE.1
    simp only [List.map_cons, sumQ, List.length_cons]
    rw [vOf_sq, ← max_sq x, show ((l.length + 1 : Nat) : Int) = (l.length : Int) + 1 by omega]
    simp only [Int.mul_add, Int.add_mul, Int.one_mul] at ih hS ⊢
    omega
/-- How loud what was spread is. -/
theorem loud {a r n g T P G S : Int} (ha : 0 ≤ a) (hr : 1024 ≤ r) (hn : 1 ≤ n) (hg : 1000 * g ≤ a ∧ a < 1000 * g + 1000) (hG : G = 1048576 * S) (hi : isq G r) (hP : isq T P)
    (hU : 4 * (r * r * T) ≤ 4 * (1048576 * (a * a * S)) + n * (4 * (a * (r * r)) + r * r)) (hL : 1048576 * (a * a * S) - n * (a * (r * r)) ≤ r * r * T) :
    P - a ≤ n + 1 + g ∧ -(n + 1 + g) ≤ P - a := by
  obtain ⟨_, g1, g2⟩ := hi
  obtain ⟨p0, p1, p2⟩ := hP
  rw [sq_succ] at g2
  have eG : 1048576 * (a * a * S) = a * a * G := by rw [hG, Int.mul_left_comm]
  rw [eG] at hU hL
  have hR : 0 < r * r := Int.mul_pos (by omega) (by omega)
  have hR2 : 1024 * r ≤ r * r := Int.mul_le_mul_of_nonneg_right hr (by omega)
  have aa := sq_nn a
  have k1 : a * a * G ≤ a * a * (r * r + 2 * r) := Int.mul_le_mul_of_nonneg_left (by omega) aa
  have k2 : a * a * (r * r) ≤ a * a * G := Int.mul_le_mul_of_nonneg_left g1 aa
  have k3 : a * a * (1024 * r) ≤ a * a * (r * r) := Int.mul_le_mul_of_nonneg_left hR2 aa
  rw [Int.mul_add] at k1
  have e1 : a * a * (1024 * r) = 1024 * (a * a * r) := Int.mul_left_comm _ _ _
  have e2 : a * a * (2 * r) = 2 * (a * a * r) := Int.mul_left_comm _ _ _
  have e3 : n * (4 * (a * (r * r)) + r * r) = 4 * (r * r * (n * a)) + r * r * n := by
    rw [Int.mul_add]
    congr 1
    · simp only [Int.mul_assoc, Int.mul_left_comm, Int.mul_comm]
    · exact Int.mul_comm _ _
  have e4 : n * (a * (r * r)) = r * r * (n * a) := by simp only [Int.mul_assoc, Int.mul_left_comm, Int.mul_comm]
  have e5 : a * a * (r * r) = r * r * (a * a) := Int.mul_comm _ _
  have up : r * r * (512 * T) ≤ r * r * (513 * (a * a) + 512 * (n * a) + 128 * n) := by
    rw [Int.mul_left_comm, Int.mul_add, Int.mul_add, Int.mul_left_comm (r * r) 513, Int.mul_left_comm (r * r) 512, Int.mul_left_comm (r * r) 128]
    omega
  have low : r * r * (a * a - n * a) ≤ r * r * T := by
    rw [Int.mul_sub]; omega
  have up := Int.le_of_mul_le_mul_left up hR
  have low := Int.le_of_mul_le_mul_left low hR
  constructor
  · apply Classical.byContradiction
    intro hc
    have hb := sq_mono (a := a + (n + 1 + g) + 1) (b := P) (by omega) (by omega)
    have f1 : (a + (n + 1 + g) + 1) * (a + (n + 1 + g) + 1) = a * a + 2 * (a * n) + 2 * (a * (g + 1)) + 2 * a + (n + 1 + g + 1) * (n + 1 + g + 1) := by
      have s2 : ∀ U, (a + U) * (a + U) = a * a + 2 * (a * U) + U * U := fun U => by
        rw [Int.add_mul, Int.mul_add, Int.mul_add, Int.mul_comm U a]; omega
      rw [show a + (n + 1 + g) + 1 = a + (n + 1 + g + 1) by omega, s2]
      have : a * (n + 1 + g + 1) = a * n + a * (g + 1) + a := by
        rw [show n + 1 + g + 1 = n + (g + 1) + 1 by omega, Int.mul_add, Int.mul_add a n, Int.mul_one]
      omega
    have f2 : a * a ≤ 1000 * (a * (g + 1)) := by
      have := Int.mul_le_mul_of_nonneg_left (show a ≤ 1000 * (g + 1) by omega) ha
      rw [Int.mul_left_comm] at this; exact this
    have f3 : n + 1 + g + 1 ≤ (n + 1 + g + 1) * (n + 1 + g + 1) := by
      have := Int.mul_le_mul_of_nonneg_left (show 1 ≤ n + 1 + g + 1 by omega) (show 0 ≤ n + 1 + g + 1 by omega)
      rw [Int.mul_one] at this; exact this
    have f4 : n * a = a * n := Int.mul_comm _ _
    have f5 : 0 ≤ a * (g + 1) := Int.mul_nonneg ha (by omega)
    have f6 : 0 ≤ a * n := Int.mul_nonneg ha (by omega)
    omega
  · apply Classical.byContradiction
    intro hc
    have hb := sq_mono (a := P + 1) (b := a - n) (by omega) (by omega)
    have f1 : (a - n) * (a - n) = a * a - 2 * (n * a) + n * n := by
      rw [Int.sub_mul, Int.mul_sub, Int.mul_sub, Int.mul_comm a n]; omega
    have f2 : n * n ≤ n * a := Int.mul_le_mul_of_nonneg_left (by omega) (by omega)
    omega

theorem isq_ex : ∀ n : Nat, ∃ r, isq n r
  | 0 => ⟨0, by decide, by decide, by decide⟩
  | n + 1 => by
    obtain ⟨r, h0, h1, h2⟩ := isq_ex n
    by_cases h : (r + 1) * (r + 1) ≤ ((n + 1 : Nat) : Int)
    · refine ⟨r + 1, by omega, h, ?_⟩
      rw [sq_succ] at h2
      rw [sq_succ (r + 1), sq_succ r]
      omega
    · exact ⟨r, h0, by omega, by omega⟩
theorem isq_sqV {n : Int} (h : 0 ≤ n ∧ n ≤ 1152921504606846976) : isq n (sqV n) := by
  obtain ⟨r, hr⟩ := isq_ex n.toNat
  rw [show ((n.toNat : Nat) : Int) = n by omega] at hr
  rw [sqV_eq h hr]; exact hr
theorem amp_range : ∀ c, c < 24 → ∀ f, f < 4 → 0 ≤ ampV ((c : Nat) : Int) ((f : Nat) : Int) ∧ ampV ((c : Nat) : Int) ((f : Nat) : Int) ≤ 16777216 := by decide +kernel
theorem amp_range' {c f : Int} (hc : 0 ≤ c ∧ c ≤ 23) (hf : 0 ≤ f ∧ f ≤ 3) : 0 ≤ ampV c f ∧ ampV c f ≤ 16777216 := by
  obtain ⟨m, rfl⟩ : ∃ m : Nat, c = m := ⟨c.toNat, by omega⟩
  obtain ⟨n, rfl⟩ : ∃ n : Nat, f = n := ⟨f.toNat, by omega⟩
  exact amp_range m (by omega) n (by omega)
theorem tab_map (l : List Int) (g : Int → Int) : (tab l.length fun i => g (l.getD i 0)) = l.map g := by
  apply List.ext_getElem (by simp [tab])
  intro i h1 h2
  simp only [tab, List.getElem_map, List.getElem_range]
  rw [List.length_map] at h2
  simp [List.getD, List.getElem?_eq_getElem h2]
theorem map_getD (l : List Int) (g : Int → Int) {i : Nat} (h : i < l.length) : (l.map g).getD i 0 = g (l.getD i 0) := by
  simp [List.getD, List.getElem?_eq_getElem h]
theorem divV_mono {A B r : Int} (hA : 0 ≤ A) (h : A ≤ B) (hB : B ≤ 1152921504606846976) (hr : 1 ≤ r ∧ r ≤ 1000000) : divV A r ≤ divV B r := by
  have e : ∀ X, 0 ≤ X → X ≤ 1152921504606846976 → divV X r = (2 * X + r) / (2 * r) := by
    intro X h0 h1
    unfold divV
    rw [if_neg (by omega), half_up X r (by omega)]
  rw [e A hA (by omega), e B (by omega) hB]
  exact Int.ediv_le_ediv (by omega) (by omega)
theorem loud_l19 (x m : List Int) (hl : x.length ≤ 8) (hm : m.length = x.length) (hx : ∀ i, i < x.length → -24 ≤ x.getD i 0 ∧ x.getD i 0 ≤ 24) (hw : ∀ i, i < x.length → -67108864 ≤ m.getD i 0 ∧ m.getD i 0 ≤ 67108864)
    (hmono : ∀ i j, i < x.length → j < x.length → max (x.getD i 0) (-(x.getD i 0)) ≤ max (x.getD j 0) (-(x.getD j 0)) → max (m.getD i 0) (-(m.getD i 0)) ≤ max (m.getD j 0) (-(m.getD j 0)))
    (i : Nat) (hi : i < x.length) (K0 : Bool → Prop) (K1 : List Int → Int → List Int → Prop) (h : K1 x i m) : ∀ n j : Nat, j + n = x.length → ∃ q, L17_ShapeLoud_l19 q x i j m K0 K1 := by
  intro n
  induction n with
  | zero =>
    intro j hj
    refine ⟨1, ?_⟩
    simp only [L17_ShapeLoud_l19, br_dec]
    rw [if_neg (by omega)]; exact h
  | succ n ih =>
    intro j hj
    obtain ⟨q, hq⟩ := ih (j + 1) (by omega)
    refine ⟨q + 1, ?_⟩
    have x1 := hx i hi
    have x2 := hx j (by omega)
    have w1 := hw i hi
    have w2 := hw j (by omega)
    have mo := hmono i j hi (by omega)
    simp only [L17_ShapeLoud_l19, br_dec, br_and, Int.toNat_natCast, i64_succ j (by omega)]
    rw [if_pos (by omega), if_pos (by omega), if_pos (by omega)]
    refine rabs_spec _ _ ?_
    rw [if_pos (by omega), if_pos (by omega)]
    refine rabs_spec _ _ ?_
    rw [absV_of (by omega), absV_of (by omega)]
    split
    · rename_i hc
      rw [if_pos (by omega), if_pos (by omega), if_pos (by omega)]
      refine rabs_spec _ _ ?_
      rw [if_pos (by omega), if_pos (by omega), if_pos (by omega)]
      refine rabs_spec _ _ ?_
      have := mo hc
      rw [absV_of (by omega), absV_of (by omega), if_neg (by omega)]
      exact hq
    · exact hq
theorem loud_l14 (x m : List Int) (hl : x.length ≤ 8) (hm : m.length = x.length) (hx : ∀ i, i < x.length → -24 ≤ x.getD i 0 ∧ x.getD i 0 ≤ 24) (hw : ∀ i, i < x.length → -67108864 ≤ m.getD i 0 ∧ m.getD i 0 ≤ 67108864)
    (hmono : ∀ i j, i < x.length → j < x.length → max (x.getD i 0) (-(x.getD i 0)) ≤ max (x.getD j 0) (-(x.getD j 0)) → max (m.getD i 0) (-(m.getD i 0)) ≤ max (m.getD j 0) (-(m.getD j 0)))
    (hs : ∀ i, i < x.length → (0 < x.getD i 0 → 0 ≤ m.getD i 0) ∧ (x.getD i 0 < 0 → m.getD i 0 ≤ 0) ∧ (x.getD i 0 = 0 → m.getD i 0 = 0))
    (K0 : Bool → Prop) (K1 : Prop) (h : K1) : ∀ n i : Nat, i + n = x.length → ∃ q, L17_ShapeLoud_l14 q x i m K0 K1 := by
  intro n
  induction n with
  | zero =>
    intro i hi
    refine ⟨1, ?_⟩
    simp only [L17_ShapeLoud_l14, br_dec]
    rw [if_neg (by omega)]; exact h
  | succ n ih =>
    intro i hi
    obtain ⟨q, hq⟩ := ih (i + 1) (by omega)
    refine ⟨q + 1, ?_⟩
    obtain ⟨s1, s2, s3⟩ := hs i (by omega)
    have fin : L17_ShapeLoud_j18 x i m K0 (fun x i m => L17_ShapeLoud_l14 q x (iadd .i64 i 1) m K0 K1) := by
      unfold L17_ShapeLoud_j18
      refine loud_l19 x m hl hm hx hw hmono i (by omega) K0 _ ?_ x.length 0 (by omega)
      rw [i64_succ _ (by omega)]; exact hq
    simp only [L17_ShapeLoud_l14, br_dec, br_and, br_not, Int.toNat_natCast]
    rcases Int.lt_trichotomy (x.getD i 0) 0 with hc | hc | hc
    · have := s2 hc
      repeat (first | rw [if_pos (by omega)] | rw [if_neg (by omega)])
      exact fin
    · have := s3 hc
      repeat (first | rw [if_pos (by omega)] | rw [if_neg (by omega)])
      exact fin
    · have := s1 hc
      repeat (first | rw [if_pos (by omega)] | rw [if_neg (by omega)])
      exact fin
theorem valL_eq {x : List Int} {a : Int} (h1 : 1 ≤ farS x) (h2 : farS x ≤ 24) (hl : x.length ≤ 8) (ha : 0 ≤ a ∧ a ≤ 16777216) : ∃ r, 1024 ≤ r ∧ r ≤ 1000000 ∧ isq (1048576 * sumQ x) r ∧ (∀ y ∈ x, -24 ≤ y ∧ y ≤ 24 ∧ 1024 * max y (-y) ≤ r) ∧ valL x a = x.map (vOf a r) := by
  have hS := sumQ_le x h2
  have hS0 := sumQ_pos x (by omega)
  have e1 : sqS 0 x = sumQ x := by rw [sqS_sum x 0 (by omega) (by omega)]; omega
  have e2 : ishl .i64 (sumQ x) 20 = 1048576 * sumQ x := by
    have := ishl64 (a := sumQ x) (n := 20) (by decide) (by omega)
    rw [show ((20 : Nat) : Int) = 20 from rfl] at this
    rw [this]; omega
  have hi := isq_sqV (n := 1048576 * sumQ x) (by omega)
  have hr1 : 1024 ≤ sqV (1048576 * sumQ x) := by
    apply Classical.byContradiction
    intro hn
    have := sq_mono (a := sqV (1048576 * sumQ x) + 1) (b := 1024) (by have := hi.1; omega) (by omega)
    have := hi.2.2
    omega
  have hr2 : sqV (1048576 * sumQ x) ≤ 1000000 := by
    apply Classical.byContradiction
    intro hn
    have := sq_mono (a := 1000000) (b := sqV (1048576 * sumQ x)) (by omega) (by omega)
    have := hi.2.1
    omega
  have hb : ∀ y ∈ x, -24 ≤ y ∧ y ≤ 24 ∧ 1024 * max y (-y) ≤ sqV (1048576 * sumQ x) := by
    intro y hy
    have f1 := farS_mem x y hy
    obtain ⟨b1, b2, _⟩ := farV_le (x := y) (by omega)
    refine ⟨b1, b2, ?_⟩
    have q1 := sumQ_ge x y hy
    apply Classical.byContradiction
    intro hn
    have g1 := sq_mono (a := sqV (1048576 * sumQ x) + 1) (b := 1024 * max y (-y)) (by omega) (by omega)
    have g2 := hi.2.2
    have g3 : 1024 * max y (-y) * (1024 * max y (-y)) = 1048576 * (y * y) := by
      rw [← max_sq y]
      generalize max y (-y) = z
      rw [show (1048576 : Int) = 1024 * 1024 from rfl]
      simp only [Int.mul_assoc, Int.mul_left_comm, Int.mul_comm]
    omega
  refine ⟨sqV (1048576 * sumQ x), hr1, hr2, hi, hb, ?_⟩
  unfold valL
  rw [e1, e2, ← tab_map]
  refine tab_congr fun i hj => ?_
  obtain ⟨b1, b2, b3⟩ := hb _ (getD_mem hj)
  have m0 : 0 ≤ a * max (x.getD i 0) (-(x.getD i 0)) := Int.mul_nonneg ha.1 (by omega)
  have m1 : a * max (x.getD i 0) (-(x.getD i 0)) ≤ 16777216 * 24 := Int.mul_le_mul ha.2 (by omega) (by omega) (by decide)
  unfold valF vOf
  rw [absV_of (by omega), imul64 (by omega)]
  have e3 : ishl .i64 (a * max (x.getD i 0) (-(x.getD i 0))) 10 = 1024 * (a * max (x.getD i 0) (-(x.getD i 0))) := by
    have := ishl64 (a := a * max (x.getD i 0) (-(x.getD i 0))) (n := 10) (by decide) (by omega)
    rw [show ((10 : Nat) : Int) = 10 from rfl] at this
    rw [this]; omega
  rw [e3]
  have hE := elem (a := a) (r := sqV (1048576 * sumQ x)) (y := max (x.getD i 0) (-(x.getD i 0))) ha (by omega) (by omega) b3 rfl
  rw [isub64 (by omega), Int.zero_sub]
theorem awake_of {K : Bool → Prop} (h : K true) : L17_awake K := awake_spec K h
theorem loud_j6 (x : List Int) (c f : Int) (hc : 1 ≤ c ∧ c ≤ 23) (hf : 0 ≤ f ∧ f ≤ 3) (h1 : 1 ≤ farS x) (h2 : farS x ≤ 24) (hl : 1 ≤ x.length ∧ x.length ≤ 8) (K : Bool → Prop) (h : K true) : L17_ShapeLoud_j6 x c f true (valL x (ampV c f)) K := by
  have ha := amp_range' (c := c) (f := f) (by omega) hf
  obtain ⟨r, hr1, hr2, hi, hb, hv⟩ := valL_eq (a := ampV c f) h1 h2 hl.2 ha
  rw [hv]
  unfold L17_ShapeLoud_j6
  rw [br_not, br_true, br_not, br_dec, if_pos (by rw [List.length_map])]
  refine ramp_spec _ _ _ (power_spec _ _ ?_)
  generalize ampV c f = a at *
  obtain ⟨s1, s2⟩ := sums ha (r := r) (by omega) x hb
  have vb : ∀ y ∈ x, -16777216 ≤ vOf a r y ∧ vOf a r y ≤ 16777216 ∧ max (vOf a r y) (-(vOf a r y)) = divV (1024 * (a * max y (-y))) r ∧ (0 < y → 0 ≤ vOf a r y) ∧ (y < 0 → vOf a r y ≤ 0) ∧ (y = 0 → vOf a r y = 0) := by
    intro y hy
    obtain ⟨b1, b2, b3⟩ := hb y hy
    have hE := elem (a := a) (r := r) (y := max y (-y)) ha (by omega) (by omega) b3 rfl
    have hz : y = 0 → divV (1024 * (a * max y (-y))) r = 0 := by
      rintro rfl
      rw [show max (0 : Int) (-0) = 0 from rfl, Int.mul_zero, Int.mul_zero]
      unfold divV
      rw [if_neg (by omega), Int.zero_emod, if_neg (by omega), Int.zero_ediv]
    unfold vOf
    split
    · omega
    · refine ⟨by omega, by omega, by omega, by omega, by omega, hz⟩
  have hlen : (x.map (vOf a r)).length = x.length := List.length_map _
  have hall : (x.map (vOf a r)).all (inB (-67108864) 67108864) = true := by
    rw [List.all_eq_true]
    intro z hz
    obtain ⟨y, hy, rfl⟩ := List.mem_map.1 hz
    have := vb y hy
    unfold inB; exact decide_eq_true (by omega)
  have hT0 := sumQ_nn (x.map (vOf a r))
  have hT1 : sumQ (x.map (vOf a r)) ≤ x.length * 281474976710656 := by
    have : ∀ l : List Int, (∀ y ∈ l, -16777216 ≤ vOf a r y ∧ vOf a r y ≤ 16777216) → sumQ (l.map (vOf a r)) ≤ l.length * 281474976710656 := by
      intro l
      induction l with
      | nil => intro _; simp [sumQ]
      | cons y l ih =>
        intro hy
        have i1 := ih fun z hz => hy z (List.mem_cons_of_mem _ hz)
        have i2 := hy y List.mem_cons_self
        have i3 : vOf a r y * vOf a r y ≤ 16777216 * 16777216 := by
          rw [← max_sq]
          exact Int.mul_le_mul (by omega) (by omega) (by omega) (by decide)
        simp only [List.map_cons, sumQ, List.length_cons]
        omega
    exact this x fun y hy => ⟨(vb y hy).1, (vb y hy).2.1⟩
  have hp : powV (x.map (vOf a r)) = sqV (sumQ (x.map (vOf a r))) := by
    unfold powV
    rw [if_pos ⟨by omega, hall⟩, sqS_sum _ 0 (by omega) (by omega), Int.zero_add]
  have hP := isq_sqV (n := sumQ (x.map (vOf a r))) (by omega)
  have hPl := root_le hP (by omega)
  obtain ⟨L1, L2⟩ := loud (n := x.length) (g := a / 1000) ha.1 hr1 (by omega) (by omega) rfl hi hP s1 s2
  rw [hp]
  have hP0 := hP.1
  generalize sqV (sumQ (x.map (vOf a r))) = P at *
  simp only [br_dec]
  rw [iquo64n (by decide) (by omega), iadd64 (a := (x.length : Int)) (by omega), iadd64 (by omega), isub64 (b := a) (by omega), isub64 (by omega), if_neg (by omega), if_neg (by omega)]
  refine loud_l14 x (x.map (vOf a r)) hl.2 hlen ?_ ?_ ?_ ?_ K _ (awake_spec K h) x.length 0 (by omega)
  · intro i hi
    have := hb _ (getD_mem hi); omega
  · intro i hi
    rw [map_getD _ _ hi]
    have := vb _ (getD_mem hi); omega
  · intro i j hi hj hij
    rw [map_getD _ _ hi, map_getD _ _ hj, (vb _ (getD_mem hi)).2.2.1, (vb _ (getD_mem hj)).2.2.1]
    have b1 := hb _ (getD_mem hi)
    have b2 := hb _ (getD_mem hj)
    have m0 : 0 ≤ a * max (x.getD i 0) (-(x.getD i 0)) := Int.mul_nonneg ha.1 (by omega)
    have m1 : a * max (x.getD j 0) (-(x.getD j 0)) ≤ 16777216 * 24 := Int.mul_le_mul ha.2 (by omega) (by omega) (by decide)
    have m2 : a * max (x.getD i 0) (-(x.getD i 0)) ≤ a * max (x.getD j 0) (-(x.getD j 0)) := Int.mul_le_mul_of_nonneg_left hij ha.1
    exact divV_mono (by omega) (by omega) (by omega) (by omega)
  · intro i hi
    rw [map_getD _ _ hi]
    exact (vb _ (getD_mem hi)).2.2.2
theorem loudL (x : List Int) (c f : Int) (_ : Rng (.sl (.int .i64)) x) (rc : Rng (.int .u8) c) (rf : Rng (.int .u8) f) (K : Bool → Prop) (h : K true) : L17_ShapeLoud x c f K := by
  have ha := awake_spec K h
  have bc := rng8 rc
  have bf := rng8 rf
  rw [L17_ShapeLoud_def]
  refine rsize_spec x _ ?_
  cases hs : sizeV x with
  | none =>
    simp only [sizeM, L17_ShapeLoud_j3, br_not, br_false, br_true]
    exact ha
  | some k =>
    simp only [sizeM, L17_ShapeLoud_j3, br_not, br_true, br_dec]
    split
    · exact ha
    rename_i hk
    have hsz : (1 ≤ x.length ∧ x.length ≤ 8 ∧ farS x ≤ 24) ∧ farS x = k := by
      unfold sizeV at hs
      split at hs
      · rename_i h'; cases hs; exact ⟨h', rfl⟩
      · cases hs
    obtain ⟨⟨l1, l2, l3⟩, rfl⟩ := hsz
    have f0 := (farS_b x).1
    unfold L17_ShapeLoud_j4
    have ec : iadd .i64 1 (irem .i64 (IntKind.wrap .i64 c) 23) = 1 + c % 23 := by
      rw [wrap64 (by omega), show irem .i64 c 23 = c.tmod 23 from rfl, Int.tmod_eq_emod_of_nonneg (by omega), iadd64 (by omega)]
    have ef : irem .i64 (IntKind.wrap .i64 f) 4 = f % 4 := by
      rw [wrap64 (by omega), show irem .i64 f 4 = f.tmod 4 from rfl, Int.tmod_eq_emod_of_nonneg (by omega)]
    simp only [ec, ef]
    refine values_spec _ _ _ _ _ ?_
    have hv : valuesV x (1 + c % 23) (f % 4) = some (valL x (ampV (1 + c % 23) (f % 4))) := by
      unfold valuesV
      rw [hs]
      simp only
      rw [if_neg (by omega), if_neg (by omega)]
    rw [hv]
    exact loud_j6 x _ _ (by omega) (by omega) (by omega) l3 ⟨l1, l2⟩ K h

end
end Go.Eng.A
