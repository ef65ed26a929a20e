import Derived.Test.YtniabjhjpkkllaaEngV
import Derived.Test.YtniabjhjpkkllaaEngU
import Derived.Test.YtniabjhjpkkllaaDctSumsP
set_option linter.unusedSimpArgs false
set_option linter.unusedVariables false
set_option maxHeartbeats 2000000
namespace Go.Eng.A
open Go Go.Eng
set_option maxRecDepth 100000
noncomputable section
theorem drop_cons {α : Type} (d : α) {l : List α} {i : Nat} (h : i < l.length) : l.drop i = l.getD i d :: l.drop (i + 1) := by
  rw [List.drop_eq_getElem_cons h]; simp [List.getD, List.getElem?_eq_getElem h]
theorem getD_of_drop {l : List Int} {i : Nat} {x : Int} {r : List Int} (h : l.drop i = x :: r) : l.getD i 0 = x ∧ i < l.length ∧ l.drop (i + 1) = r := by
  have hi : i < l.length := by
    apply Classical.byContradiction
    intro hn
    rw [List.drop_eq_nil_of_le (by omega)] at h
    cases h
  rw [drop_cons 0 hi] at h
  injection h with h1 h2
  exact ⟨h1, hi, h2⟩
theorem tab_length {α : Type} (n : Nat) (f : Nat → α) : (tab n f).length = n := by simp [tab]
theorem tab_get {α : Type} (n : Nat) (f : Nat → α) (d : α) {i : Nat} (h : i < n) : (tab n f).getD i d = f i := by
  simp [tab, List.getD, List.getElem?_map, List.getElem?_range h]
theorem tab_set {α : Type} (n : Nat) (f : Nat → α) (i : Nat) (a : α) : (tab n f).set i a = tab n fun j => if j = i then a else f j := by
  apply List.ext_getElem (by simp [tab])
  intro j h1 h2
  simp only [tab, List.length_set, List.length_map, List.length_range] at h1
  simp only [tab, List.getElem_set, List.getElem_map, List.getElem_range]
  by_cases e : i = j
  · rw [if_pos e, if_pos e.symm]
  · rw [if_neg e, if_neg (Ne.symm e)]
theorem tab_snoc {α : Type} (n : Nat) (f : Nat → α) : tab n f ++ [f n] = tab (n + 1) f := by simp [tab, List.range_succ]
theorem tab_congr {α : Type} {n : Nat} {f g : Nat → α} (h : ∀ j, j < n → f j = g j) : tab n f = tab n g := by
  unfold tab
  apply List.map_congr_left
  intro j hj; exact h j (List.mem_range.1 hj)
theorem tab_const {α : Type} (n : Nat) (a : α) : List.replicate n a = tab n fun _ => a := by
  apply List.ext_getElem (by simp [tab])
  intro j h1 h2
  simp [tab]
theorem tab_zero {α : Type} (f : Nat → α) : tab 0 f = [] := rfl
/-- A list that is filled place by place. -/
def fillT {α : Type} (n i : Nat) (d : α) (f : Nat → α) : List α := tab n fun j => if j < i then f j else d
theorem fillT_length {α : Type} (n i : Nat) (d : α) (f : Nat → α) : (fillT n i d f).length = n := tab_length _ _
theorem fillT_zero {α : Type} (n : Nat) (d : α) (f : Nat → α) : fillT n 0 d f = List.replicate n d := by
  rw [tab_const]; exact tab_congr fun j _ => if_neg (by omega)
theorem fillT_set {α : Type} (n i : Nat) (d : α) (f : Nat → α) : (fillT n i d f).set i (f i) = fillT n (i + 1) d f := by
  unfold fillT
  rw [tab_set]
  refine tab_congr fun j _ => ?_
  by_cases e : j = i
  · rw [if_pos e, if_pos (by omega), e]
  · rw [if_neg e]
    by_cases h : j < i
    · rw [if_pos h, if_pos (by omega)]
    · rw [if_neg h, if_neg (by omega)]
theorem fillT_full {α : Type} (n : Nat) (d : α) (f : Nat → α) : fillT n n d f = tab n f := tab_congr fun _ hj => if_pos hj
theorem wrap64 {n : Int} (h : -9223372036854775808 ≤ n ∧ n ≤ 9223372036854775807) : Go.IntKind.wrap .i64 n = n := Go.IntWalk.i64_in _ h
theorem imax_eq' (a b : Int) : imax a b = max a b := by unfold imax; omega
theorem imin_eq' (a b : Int) : imin a b = min a b := by unfold imin; omega
theorem rng16 {n : Int} (h : (Lit.int .i16 n).wf = true) : -32768 ≤ n ∧ n ≤ 32767 := by
  simpa [Lit.wf, IntKind.min, IntKind.max, IntKind.signed, IntKind.bits] using h
theorem rng8 {n : Int} (h : (Lit.int .u8 n).wf = true) : 0 ≤ n ∧ n ≤ 255 := by
  simpa [Lit.wf, IntKind.min, IntKind.max, IntKind.signed, IntKind.bits] using h
theorem i64_succ (i : Nat) (h : i < 1000000000) : iadd .i64 (i : Int) 1 = ((i + 1 : Nat) : Int) := by rw [iadd64 (by omega)]; omega
theorem all_getD {p : Int → Bool} {l : List Int} (h : l.all p = true) {i : Nat} (hi : i < l.length) : p (l.getD i 0) = true := by
  rw [List.all_eq_true] at h
  refine h _ ?_
  simp [List.getD, List.getElem?_eq_getElem hi]
theorem getD_mem {l : List Int} {i : Nat} (hi : i < l.length) : l.getD i 0 ∈ l := by simp [List.getD, List.getElem?_eq_getElem hi]
def inB (low high x : Int) : Bool := decide (low ≤ x ∧ x ≤ high)
theorem within_l2 (l : List Int) (low high : Int) (K0 : Bool → Prop) (K1 : Prop) (hl : l.length ≤ 1000000) : ∀ (n i : Nat), i + n = l.length →
    (if (l.drop i).all (inB low high) = true then K1 else K0 false) → ∃ q, R01_Within_l2 q l low high i K0 K1 := by
  intro n
  induction n with
  | zero =>
    intro i hi h
    refine ⟨1, ?_⟩
    rw [List.drop_eq_nil_of_le (by omega)] at h
    simp only [R01_Within_l2, br_dec]
    rw [if_neg (by omega)]
    simpa using h
  | succ n ih =>
    intro i hi h
    rw [drop_cons 0 (by omega), List.all_cons] at h
    by_cases hx : inB low high (l.getD i 0) = true
    · obtain ⟨q, hq⟩ := ih (i + 1) (by omega) (by rw [hx, Bool.true_and] at h; exact h)
      refine ⟨q + 1, ?_⟩
      unfold inB at hx
      rw [decide_eq_true_eq] at hx
      simp only [R01_Within_l2, br_dec, br_and, Int.toNat_natCast]
      rw [if_pos (by omega), if_pos (by omega), if_pos (by omega), if_neg (by omega), if_pos (by omega), if_pos (by omega), if_neg (by omega), iadd64 (by omega)]
      exact hq
    · refine ⟨1, ?_⟩
      have h : K0 false := by rw [Bool.eq_false_iff.2 hx, Bool.false_and] at h; exact h
      unfold inB at hx
      rw [decide_eq_true_eq] at hx
      simp only [R01_Within_l2, br_dec, br_and, Int.toNat_natCast]
      rw [if_pos (by omega), if_pos (by omega), if_pos (by omega)]
      split
      · exact h
      · rw [if_pos (by omega), if_pos (by omega), if_pos (by omega)]
        exact h
theorem within_spec (l : List Int) (low high : Int) (K0 : Bool → Prop) (hl : l.length ≤ 1000000) (h : K0 (l.all (inB low high))) : R01_Within l low high K0 := by
  rw [R01_Within_def]
  refine within_l2 l low high K0 _ hl l.length 0 (by omega) ?_
  rw [List.drop_zero]
  split
  · rename_i e; rw [e] at h; exact h
  · rename_i e; rw [Bool.eq_false_iff.2 e] at h; exact h
theorem same_l4 (a b : List Int) (K0 : Bool → Prop) (K1 : Prop) (hl : a.length ≤ 1000000) (hab : a.length = b.length) : ∀ (n i : Nat), i + n = a.length →
    (if a.drop i = b.drop i then K1 else K0 false) → ∃ q, R01_Same_l4 q a b i K0 K1 := by
  intro n
  induction n with
  | zero =>
    intro i hi h
    refine ⟨1, ?_⟩
    rw [List.drop_eq_nil_of_le (by omega), List.drop_eq_nil_of_le (by omega)] at h
    simp only [R01_Same_l4, br_dec]
    rw [if_neg (by omega)]
    simpa using h
  | succ n ih =>
    intro i hi h
    rw [drop_cons 0 (l := a) (by omega), drop_cons 0 (l := b) (by omega)] at h
    by_cases hx : a.getD i 0 = b.getD i 0
    · obtain ⟨q, hq⟩ := ih (i + 1) (by omega) (by rw [hx] at h; simpa only [List.cons.injEq, true_and] using h)
      refine ⟨q + 1, ?_⟩
      simp only [R01_Same_l4, br_dec, br_and, br_not, Int.toNat_natCast]
      rw [if_pos (by omega), if_pos (by omega), if_pos (by omega), if_pos (by omega), if_pos (by omega), if_pos hx, iadd64 (by omega)]
      exact hq
    · refine ⟨1, ?_⟩
      simp only [R01_Same_l4, br_dec, br_and, br_not, Int.toNat_natCast]
      rw [if_pos (by omega), if_pos (by omega), if_pos (by omega), if_pos (by omega), if_pos (by omega), if_neg hx]
      rw [if_neg (fun e => hx (by injection e))] at h
      exact h
theorem same_spec (a b : List Int) (K0 : Bool → Prop) (hl : a.length ≤ 1000000) (h : K0 (decide (a = b))) : R01_Same a b K0 := by
  rw [R01_Same_def]
  rw [br_not, br_dec]
  split
  · rename_i hab
    refine same_l4 a b _ _ hl (by omega) a.length 0 (by omega) ?_
    rw [List.drop_zero, List.drop_zero]
    split
    · rename_i e; rw [decide_eq_true e] at h; exact h
    · rename_i e; rw [decide_eq_false e] at h; exact h
  · rename_i hab
    rw [decide_eq_false (fun e => hab (by rw [e]))] at h
    exact h
theorem same_self (a : List Int) (K0 : Bool → Prop) (hl : a.length ≤ 1000000) (h : K0 true) : R01_Same a a K0 :=
  same_spec a a K0 hl (by rw [decide_eq_true rfl]; exact h)
/-- A number divided by a power of two, to the nearest. -/
def shrV (x n : Int) : Int := if n < 0 ∨ 60 < n ∨ x < -2305843009213693952 ∨ 2305843009213693952 < x then 0 else (2 * x + 2 ^ n.toNat) / (2 * 2 ^ n.toNat)
theorem shr_zero (x : Int) : (2 * x + 2 ^ (0 : Nat)) / (2 * 2 ^ (0 : Nat)) = x := by omega
theorem pow_bounds {k : Nat} (h : k ≤ 60) : (0 : Int) < 2 ^ k ∧ (2 : Int) ^ k ≤ 1152921504606846976 := by
  have h1 : 2 ^ k ≤ 2 ^ 60 := Nat.pow_le_pow_right (n := 2) (by decide) h
  have h2 : ((2 ^ k : Nat) : Int) ≤ ((2 ^ 60 : Nat) : Int) := Int.ofNat_le.2 h1
  rw [Int.natCast_pow, Int.natCast_pow] at h2
  exact ⟨Int.pow_pos (by decide), h2⟩
theorem shr_step (x : Int) (k : Nat) : (2 * x + 2 ^ (k + 1)) / (2 * 2 ^ (k + 1)) = (x + 2 ^ k) / 2 ^ (k + 1) := by
  have e : 2 * x + 2 ^ (k + 1) = 2 * (x + 2 ^ k) := by rw [Int.pow_succ, Int.mul_add, Int.mul_comm (2 ^ k) 2]
  rw [e, Int.mul_ediv_mul_of_pos _ _ (by decide : (0 : Int) < 2)]
theorem num_within1 (x : Int) (K0 : Bool → Prop) (h : K0 (decide (-2305843009213693952 ≤ x ∧ x ≤ 2305843009213693952))) : num_within 2305843009213693952 [x] K0 := by
  rw [num_within_def]
  refine ⟨2, ?_⟩
  have e0 : isub .i64 0 2305843009213693952 = -2305843009213693952 := by decide
  have e1 : iadd .i64 0 1 = 1 := by decide
  simp only [num_within_l2, br_dec, br_and, e0, e1, List.length_cons, List.length_nil]
  rw [if_pos (by decide), if_pos (by decide), if_pos (by decide)]
  show if x < _ then _ else if _ < x then _ else _
  split
  · rw [decide_eq_false (by omega)] at h; exact h
  split
  · rw [decide_eq_false (by omega)] at h; exact h
  · rw [if_neg (by decide)]
    rw [decide_eq_true (by omega)] at h; exact h
theorem shr_spec (x n : Int) (K0 : Int → Prop) (h : K0 (shrV x n)) : num_Shr x n K0 := by
  rw [num_Shr_def]
  unfold shrV at h
  simp only [br_dec]
  split
  · rw [if_pos (by omega)] at h; exact h
  split
  · rw [if_pos (by omega)] at h; exact h
  refine num_within1 x _ ?_
  unfold num_Shr_j2
  rw [br_not, br_dec]
  split
  · rename_i h1 h2 hx
    rw [if_neg (by omega)] at h
    rw [br_dec]
    split
    · rename_i hn
      subst hn
      rw [show (0 : Int).toNat = 0 from rfl, shr_zero] at h
      exact h
    · obtain ⟨k, rfl⟩ : ∃ k : Nat, n = ((k + 1 : Nat) : Int) := ⟨(n - 1).toNat, by omega⟩
      rw [Int.toNat_natCast, shr_step] at h
      obtain ⟨hp, hp2⟩ := pow_bounds (k := k) (by omega)
      have e1 : isub .i64 ((k + 1 : Nat) : Int) 1 = (k : Int) := by rw [isub64 (by omega)]; omega
      have e2 : ishl .i64 1 (k : Int) = 2 ^ k := by rw [ishl64 (by omega) (by omega), Int.one_mul]
      unfold num_Shr_j5
      simp only [e1, br_dec, e2]
      rw [if_neg (by omega), if_neg (by omega), iadd64 (by omega), ishr64 (by omega)]
      exact h
  · rw [if_pos (by omega)] at h; exact h
theorem rmod_spec (a b : Int) (hb : 1 ≤ b) (hb2 : b ≤ 1152921504606846976) (ha : -2305843009213693952 ≤ a ∧ a ≤ 2305843009213693952) (K0 : Int → Int → Prop) (h : K0 (a / b) (a % b)) : R01_Mod a b K0 := by
  rw [R01_Mod_def]
  simp only [br_dec]
  rw [if_neg (by omega), if_neg (by omega), if_neg (by omega), iquo64 hb (by omega)]
  have hm := Int.emod_nonneg a (show b ≠ 0 by omega)
  have hm2 := Int.emod_lt_of_pos a (show 0 < b by omega)
  have e1 := Int.tdiv_eq_ediv (a := a) (b := b)
  have e2 := Int.tmod_eq_emod (a := a) (b := b)
  have hs : b.sign = 1 := Int.sign_eq_one_of_pos (by omega)
  have hr : irem .i64 a b = a.tmod b := rfl
  have hq := tdiv_range hb (a := a) (by omega)
  rw [hr]
  by_cases hc : 0 ≤ a ∨ b ∣ a
  · rw [if_pos hc] at e1 e2
    have e3 : a.tdiv b = a / b := by omega
    have e4 : a.tmod b = a % b := by omega
    rw [if_neg (by omega), e3, e4]; exact h
  · rw [if_neg hc, hs] at e1
    rw [if_neg hc] at e2
    have h1 : -2305843009213693952 ≤ a / b := Int.le_ediv_of_mul_le (by omega) (by omega)
    have h2 : a / b ≤ 0 := by
      have := Int.ediv_le_ediv (a := a) (b := 0) (c := b) (by omega) (by omega)
      rwa [Int.zero_ediv] at this
    have hb3 : ((b.natAbs : Nat) : Int) = b := by omega
    rw [hb3] at e2
    rw [if_pos (by omega), e1, e2, isub64 (by omega), iadd64 (by omega)]
    rw [show a / b + 1 - 1 = a / b by omega, show a % b - b + b = a % b by omega]
    exact h
theorem half_up (x b : Int) (hb : 0 < b) : (2 * x + b) / (2 * b) = if b ≤ 2 * (x % b) then x / b + 1 else x / b := by
  have h0 := Int.emod_nonneg x (show b ≠ 0 by omega)
  have h1 := Int.emod_lt_of_pos x hb
  have h2 := Int.emod_add_mul_ediv x b
  have e : 2 * x + b = (2 * (x % b) + b) + 2 * b * (x / b) := by
    rw [Int.mul_assoc]; omega
  rw [e, Int.add_mul_ediv_left _ _ (show 2 * b ≠ 0 by omega)]
  split
  · rw [show (2 * (x % b) + b) / (2 * b) = 1 by
      rw [show 2 * (x % b) + b = (2 * (x % b) - b) + 2 * b * 1 by omega, Int.add_mul_ediv_left _ _ (show 2 * b ≠ 0 by omega), Int.ediv_eq_zero_of_lt (by omega) (by omega)]; rfl]
    omega
  · rw [Int.ediv_eq_zero_of_lt (by omega) (by omega)]; omega
theorem rshr_spec (x n : Int) (K0 : Int → Prop) (h : K0 (shrV x n)) : R01_Shr x n K0 := by
  rw [R01_Shr_def]
  unfold shrV at h
  simp only [br_dec]
  split
  · rw [if_pos (by omega)] at h; exact h
  split
  · rw [if_pos (by omega)] at h; exact h
  split
  · rw [if_pos (by omega)] at h; exact h
  split
  · rw [if_pos (by omega)] at h; exact h
  rw [if_neg (by omega)] at h
  obtain ⟨k, rfl⟩ : ∃ k : Nat, n = (k : Int) := ⟨n.toNat, by omega⟩
  rw [Int.toNat_natCast] at h
  obtain ⟨hp, hp2⟩ := pow_bounds (k := k) (by omega)
  have e2 : ishl .i64 1 (k : Int) = 2 ^ k := by rw [ishl64 (by omega) (by omega), Int.one_mul]
  rw [half_up x _ hp] at h
  rw [e2]
  refine rmod_spec x (2 ^ k) (by omega) hp2 (by omega) _ ?_
  have hm := Int.emod_nonneg x (show (2 : Int) ^ k ≠ 0 by omega)
  have hm2 := Int.emod_lt_of_pos x hp
  have h1 : -2305843009213693952 ≤ x / 2 ^ k := Int.le_ediv_of_mul_le (by omega) (by omega)
  have h2 : x / 2 ^ k ≤ 2305843009213693952 := Int.ediv_le_of_le_mul hp (by omega)
  rw [imul64 (by omega), iadd64 (by omega)]
  split
  · rename_i hc; rw [if_pos hc] at h; exact h
  · rename_i hc; rw [if_neg hc] at h; exact h
def qt : List Int := [16777216, 16775953, 16772163, 16765847, 16757007, 16745643, 16731757, 16715352, 16696429, 16674992, 16651044, 16624588, 16595628, 16564169, 16530216, 16493773, 16454846, 16413442, 16369565, 16323224, 16274424, 16223173, 16169479, 16113350, 16054795, 15993821, 15930439, 15864658, 15796488, 15725939, 15653022, 15577747, 15500126, 15420172, 15337895, 15253308, 15166424, 15077256, 14985817, 14892122, 14796184, 14698017, 14597637, 14495059, 14390298, 14283370, 14174291, 14063077, 13949745, 13834313, 13716797, 13597215, 13475586, 13351928, 13226258, 13098597, 12968963, 12837376, 12703856, 12568423, 12431097, 12291899, 12150850, 12007971, 11863283, 11716809, 11568571, 11418590, 11266890, 11113493, 10958422, 10801701, 10643353, 10483403, 10321873, 10158790, 9994176, 9828057, 9660458, 9491405, 9320922, 9149035, 8975771, 8801154, 8625213, 8447972, 8269459, 8089701, 7908725, 7726557, 7543226, 7358759, 7173184, 6986529, 6798821, 6610090, 6420363, 6229669, 6038037, 5845495, 5652074, 5457801, 5262706, 5066819, 4870169, 4672785, 4474698, 4275936, 4076531, 3876512, 3675909, 3474752, 3273072, 3070900, 2868265, 2665197, 2461729, 2257890, 2053710, 1849222, 1644455, 1439440, 1234209, 1028791, 823219, 617523, 411733, 205882, 0]
/-- The cosine of m parts of 512. -/
def cosQ (m : Nat) : Int := if 128 < m then -(qt.getD (256 - m) 0) else qt.getD m 0
def cosM (m : Nat) : Int := if 256 < m then cosQ (512 - m) else cosQ m
def cosT : List Int := tab 512 cosM
theorem qt_bound : ∀ j, j < 129 → -16777216 ≤ qt.getD j 0 ∧ qt.getD j 0 ≤ 16777216 := by decide +kernel
theorem gset (l : List Int) (i j : Nat) (a : Int) (hi : i < l.length) : (l.set i a).getD j 0 = if i = j then a else l.getD j 0 := by
  simp only [List.getD_eq_getElem?_getD, List.getElem?_set]
  split
  · rename_i e; subst e; simp [hi]
  · rfl
theorem qt128 : qt.getD 128 0 = 0 := by decide
theorem make_l3 (K0 : List Int → Prop) (h : K0 cosT) : ∀ (n v : Nat) (m : List Int), v + n = 129 → m.length = 512 →
    (∀ j, j < 512 → (∃ k, k < v ∧ (j = k ∨ j = 256 - k ∨ j = (256 + k) % 512 ∨ j = (512 - k) % 512)) → m.getD j 0 = cosM j) → ∃ q, trig_Make_l3 q v m qt K0 := by
  intro n
  induction n with
  | zero =>
    intro v m hv hm hj
    refine ⟨1, ?_⟩
    simp only [trig_Make_l3, br_dec]
    rw [if_neg (by omega)]
    have : m = cosT := by
      rw [eq_tab 0 hm]
      unfold cosT tab
      apply List.map_congr_left
      intro j hj'
      rw [List.mem_range] at hj'
      refine hj j hj' ?_
      by_cases h1 : j ≤ 128
      · exact ⟨j, by omega, .inl rfl⟩
      · by_cases h2 : j ≤ 256
        · exact ⟨256 - j, by omega, .inr (.inl (by omega))⟩
        · by_cases h3 : j ≤ 384
          · exact ⟨j - 256, by omega, .inr (.inr (.inl (by omega)))⟩
          · exact ⟨512 - j, by omega, .inr (.inr (.inr (by omega)))⟩
    rw [this]; exact h
  | succ n ih =>
    intro v m hv hm hj
    have hq : qt.length = 129 := rfl
    have hb := qt_bound v (by omega)
    have e1 : isub .i64 256 (v : Int) = ((256 - v : Nat) : Int) := by rw [isub64 (by omega)]; omega
    have e2 : irem .i64 (iadd .i64 256 (v : Int)) 512 = (((256 + v) % 512 : Nat) : Int) := by
      rw [iadd64 (by omega)]
      show ((256 + (v : Int)).tmod 512) = _
      rw [Int.tmod_eq_emod_of_nonneg (by omega)]; omega
    have e3 : irem .i64 (isub .i64 512 (v : Int)) 512 = (((512 - v) % 512 : Nat) : Int) := by
      rw [isub64 (by omega)]
      show ((512 - (v : Int)).tmod 512) = _
      rw [Int.tmod_eq_emod_of_nonneg (by omega)]; omega
    have e4 : iadd .i64 (v : Int) 1 = ((v + 1 : Nat) : Int) := by rw [iadd64 (by omega)]; omega
    have e5 : isub .i64 0 (qt.getD v 0) = -(qt.getD v 0) := by rw [isub64 (by omega)]; omega
    obtain ⟨q, hq'⟩ := ih (v + 1) ((((m.set v (qt.getD v 0)).set (256 - v) (-(qt.getD v 0))).set ((256 + v) % 512) (-(qt.getD v 0))).set ((512 - v) % 512) (qt.getD v 0)) (by omega) (by simp [hm]) (by
      intro j hj' ⟨k, hk, hjk⟩
      have hz : v = 128 → qt.getD v 0 = 0 := fun e => by rw [e]; exact qt128
      rw [gset _ _ _ _ (by simp [hm]; omega), gset _ _ _ _ (by simp [hm]; omega), gset _ _ _ _ (by simp [hm]; omega), gset _ _ _ _ (by rw [hm]; omega)]
      unfold cosM cosQ at *
      split
      · rename_i e
        by_cases h0 : v = 0
        · rw [if_neg (by omega), if_neg (by omega), show j = v by omega]
        · rw [if_pos (by omega), if_neg (by omega), show 512 - j = v by omega]
      split
      · rename_i e
        by_cases h0 : v = 0
        · rw [if_neg (by omega), if_pos (by omega), show 256 - j = v by omega]
        · rw [if_pos (by omega)]
          by_cases h1 : v = 128
          · rw [if_neg (by omega), show 512 - j = v by omega, hz h1]; rfl
          · rw [if_pos (by omega), show 256 - (512 - j) = v by omega]
      split
      · rename_i e
        rw [if_neg (by omega)]
        by_cases h1 : v = 128
        · rw [if_neg (by omega), show j = v by omega, hz h1]; rfl
        · rw [if_pos (by omega), show 256 - j = v by omega]
      split
      · rename_i e
        rw [if_neg (by omega), if_neg (by omega), e]
      · refine hj j hj' ⟨k, ?_, hjk⟩
        apply Classical.byContradiction
        intro hkv
        have : k = v := by omega
        subst this
        omega)
    refine ⟨q + 1, ?_⟩
    simp only [trig_Make_l3, br_dec, br_and, e1, e2, e3, e4, e5, Int.toNat_natCast, List.length_set]
    rw [if_pos (by omega), if_pos (by omega), if_pos (by omega), if_pos (by omega), if_pos (by omega), if_pos (by omega), if_pos (by omega), if_pos (by omega), if_pos (by omega), if_pos (by omega), if_pos (by omega), if_pos (by omega), if_pos (by omega), if_pos (by omega), if_pos (by omega), if_pos (by omega), if_pos (by omega), if_pos (by omega), if_pos (by omega), if_pos (by omega), if_pos (by omega), if_pos (by omega), if_pos (by omega), if_pos (by omega), if_pos (by omega)]
    exact hq'
theorem make_spec (K0 : List Int → Prop) (h : K0 cosT) : trig_Make K0 := by
  rw [trig_Make_def]; rw [trig_first_def]
  exact make_l3 K0 h 129 0 _ rfl (by simp) (fun j _ ⟨k, hk, _⟩ => by omega)
theorem iand511 (k : Int) : iand .i64 k 511 = k % 512 := by
  unfold iand
  have e1 : (BitVec.ofInt IntKind.i64.bits 511).toNat = 511 := by decide
  rw [BitVec.toNat_and, e1, show (511 : Nat) = 2 ^ 9 - 1 from rfl, Nat.and_two_pow_sub_one_eq_mod, BitVec.toNat_ofInt]
  have e2 : (((2 ^ IntKind.i64.bits : Nat) : Int)) = 18446744073709551616 := by decide
  rw [e2]
  have h1 := Int.emod_nonneg k (show (18446744073709551616 : Int) ≠ 0 by decide)
  rw [Go.IntWalk.i64_in _ (by omega)]
  omega
def cosV (k : Int) : Int := if k < -1152921504606846976 ∨ 1152921504606846976 < k then 0 else cosM (k % 512).toNat
def sinV (k : Int) : Int := if k < -1152921504606846976 ∨ 1152921504606846976 < k then 0 else cosV (k % 512 - 128)
theorem cosT_get (m : Nat) (h : m < 512) : cosT.getD m 0 = cosM m := by
  simp [cosT, tab, List.getD, List.getElem?_map, List.getElem?_range h]
theorem cos_spec (k : Int) (K0 : Int → Prop) (h : K0 (cosV k)) : trig_Table__Cos cosT k K0 := by
  rw [trig_Table__Cos_def]
  unfold cosV at h
  simp only [br_dec, br_and, iand511]
  split
  · rw [if_pos (by omega)] at h; exact h
  split
  · rw [if_pos (by omega)] at h; exact h
  rw [if_neg (by omega)] at h
  rw [if_pos (by omega), if_pos (by omega), cosT_get _ (by omega)]
  exact h
theorem cosM_bound (m : Nat) (h : m < 512) : -16777216 ≤ cosM m ∧ cosM m ≤ 16777216 := by
  unfold cosM cosQ
  split
  · split
    · have := qt_bound (256 - (512 - m)) (by omega); omega
    · exact qt_bound (512 - m) (by omega)
  · split
    · have := qt_bound (256 - m) (by omega); omega
    · exact qt_bound m (by omega)
theorem cosV_bound (k : Int) : -16777216 ≤ cosV k ∧ cosV k ≤ 16777216 := by
  unfold cosV
  split
  · omega
  · exact cosM_bound _ (by omega)
theorem rmake_l4 (K0 : List Int → Prop) (h : K0 cosT) : ∀ (n k : Nat), k + n = 512 → ∃ q, R07_Make_l4 q k qt (cosT.take k) K0 := by
  have hq : qt.length = 129 := rfl
  have hl : cosT.length = 512 := by simp [cosT, tab]
  intro n
  induction n with
  | zero =>
    intro k hk
    refine ⟨1, ?_⟩
    simp only [R07_Make_l4, br_dec]
    rw [if_neg (by omega), List.take_of_length_le (by omega)]
    exact h
  | succ n ih =>
    intro k hk
    obtain ⟨q, hq'⟩ := ih (k + 1) (by omega)
    have hel : cosT[k]'(by omega) = cosM k := by simp [cosT, tab]
    rw [List.take_succ_eq_append_getElem (by omega), hel] at hq'
    have e6 : iadd .i64 (k : Int) 1 = ((k + 1 : Nat) : Int) := by rw [iadd64 (by omega)]; omega
    have e1 : imin (k : Int) (isub .i64 512 (k : Int)) = ((min k (512 - k) : Nat) : Int) := by rw [isub64 (by omega), imin_eq']; omega
    have e2 : cosM k = cosQ (min k (512 - k)) := by
      unfold cosM
      split
      · rw [show min k (512 - k) = 512 - k by omega]
      · rw [show min k (512 - k) = k by omega]
    rw [e2] at hq'
    have hcap : ∀ z : List Int, z.length = 1 → ((List.take k cosT).length + z.length) * 8 ≤ 140737488355328 := by
      intro z hz; rw [List.length_take, hz]; omega
    generalize hm : min k (512 - k) = m at *
    have hm2 : m ≤ 256 := by omega
    refine ⟨q + 1, ?_⟩
    unfold cosQ at hq'
    simp only [R07_Make_l4, br_dec, br_and, e1, e6, Int.toNat_natCast]
    rw [if_pos (by omega)]
    split
    · rw [if_pos (by omega)] at hq'
      have e3 : isub .i64 256 (m : Int) = ((256 - m : Nat) : Int) := by rw [isub64 (by omega)]; omega
      have hb := qt_bound (256 - m) (by omega)
      rw [e3, Int.toNat_natCast, if_pos (by omega), if_pos (by omega), if_pos (by omega), if_pos (hcap _ rfl), isub64 (by omega), Int.zero_sub]
      exact hq'
    · rw [if_neg (by omega)] at hq'
      rw [if_pos (by omega), if_pos (by omega), if_pos (by omega), if_pos (hcap _ rfl)]
      exact hq'
theorem rmake_spec (K0 : List Int → Prop) (h : K0 cosT) : R07_Make K0 := by
  rw [R07_Make_def]; rw [R07_quarter_def]
  exact rmake_l4 K0 h 512 0 rfl
/-- The sum of the first n. -/
def sm (f : Nat → Int) : Nat → Int
  | 0 => 0
  | n + 1 => sm f n + f n
/-- The cosine of the i-th angle of wave k, of n. -/
def cg (n k i : Nat) : Int := cosM (64 / n * (2 * k + 1) * (2 * i + 1) % 512)
def dsum (u : List Int) (k : Nat) : Int := sm (fun i => u.getD i 0 * cg u.length k i) u.length
def fourV (u : List Int) (s : Int) : List Int := tab u.length fun k => shrV (dsum u k) s
abbrev sized (u : List Int) : Prop := u.length = 64 ∨ u.length = 8
def rightB (w : Int) (u : List Int) : Bool := decide (sized u) && u.all (inB (-w) w)

theorem cg_bound (n k i : Nat) : -16777216 ≤ cg n k i ∧ cg n k i ≤ 16777216 := cosM_bound _ (Nat.mod_lt _ (by decide))
theorem mul25 (a c : Int) (ha : -33554432 ≤ a ∧ a ≤ 33554432) (hc : -16777216 ≤ c ∧ c ≤ 16777216) : -562949953421312 ≤ a * c ∧ a * c ≤ 562949953421312 := by
  have h3 : (a * c).natAbs ≤ 33554432 * 16777216 := by rw [Int.natAbs_mul]; exact Nat.mul_le_mul (by omega) (by omega)
  omega
theorem sm_bound {f : Nat → Int} {B : Int} : ∀ n, (∀ i, i < n → -B ≤ f i ∧ f i ≤ B) → -(n * B) ≤ sm f n ∧ sm f n ≤ n * B
  | 0, _ => by simp [sm]
  | n + 1, h => by
    have h1 := sm_bound n fun i hi => h i (by omega)
    have h2 := h n (by omega)
    simp only [sm]
    have e : ((n + 1 : Nat) : Int) * B = n * B + B := by rw [Int.natCast_add, Int.add_mul]; simp
    rw [e]; omega
theorem right_at {w : Int} {u : List Int} (h : rightB w u = true) {i : Nat} (hi : i < u.length) : -w ≤ u.getD i 0 ∧ u.getD i 0 ≤ w := by
  simp only [rightB, Bool.and_eq_true] at h
  have := all_getD h.2 hi
  simpa [inB] using this
theorem right_sz {w : Int} {u : List Int} (h : rightB w u = true) : sized u := by
  simp only [rightB, Bool.and_eq_true] at h
  exact of_decide_eq_true h.1
theorem psum_bound {u : List Int} (h : rightB 33554432 u = true) (k n : Nat) (hn : n ≤ u.length) : -36028797018963968 ≤ sm (fun i => u.getD i 0 * cg u.length k i) n ∧ sm (fun i => u.getD i 0 * cg u.length k i) n ≤ 36028797018963968 := by
  have h1 := sm_bound (f := fun i => u.getD i 0 * cg u.length k i) n fun i hi => mul25 _ _ (right_at h (by omega)) (cg_bound _ _ _)
  have hs := right_sz h
  unfold sized at hs
  have h2 : ((n : Nat) : Int) * 562949953421312 ≤ 64 * 562949953421312 := by omega
  omega

/-! ### Angles -/
theorem iquo_n {u : List Int} (h : sized u) : iquo .i64 64 (u.length : Int) = ((64 / u.length : Nat) : Int) := by
  rcases h with h | h <;> rw [h] <;> decide
theorem step_bound {u : List Int} (h : sized u) {k : Nat} (hk : k < u.length) : 64 / u.length * (2 * k + 1) ≤ 128 := by
  rcases h with h | h <;> rw [h] at hk ⊢ <;> omega
theorem at_bound {u : List Int} (h : sized u) {k i : Nat} (hk : k < u.length) (hi : i ≤ u.length) : 64 / u.length * (2 * k + 1) * (2 * i + 1) ≤ 16512 := by
  have h1 := step_bound h hk
  have h2 : 2 * i + 1 ≤ 129 := by rcases h with h | h <;> omega
  exact Nat.mul_le_mul h1 h2
theorem step_eq {u : List Int} (h : sized u) {k : Nat} (hk : k < u.length) : imul .i64 (iquo .i64 64 (u.length : Int)) (iadd .i64 (imul .i64 2 (k : Int)) 1) = ((64 / u.length * (2 * k + 1) : Nat) : Int) := by
  have hk' : k < 64 := by rcases h with h | h <;> omega
  rw [iquo_n h, imul64 (a := 2) (by omega), iadd64 (by omega)]
  have e : (((64 / u.length : Nat) : Int) * (2 * (k : Int) + 1)) = ((64 / u.length * (2 * k + 1) : Nat) : Int) := by
    rw [Int.natCast_mul]; congr 1
  have := step_bound h hk
  rw [imul64 (by rw [e]; omega), e]

/-- A range over the angles. -/
theorem angles_l3 {S : Type} (rd : (Int × Int × Unit) → S → (Bool → S → Prop) → Prop) (u : List Int) (hs : sized u) (k : Nat) (hk : k < u.length) (f : Nat → S) (K0 : S → Prop)
    (hrd : ∀ i, i < u.length → ∀ Kb : Bool → S → Prop, Kb true (f (i + 1)) → rd (u.getD i 0, ((64 / u.length * (2 * k + 1) * (2 * i + 1) : Nat) : Int), ()) (f i) Kb) (h : K0 (f u.length)) :
    ∀ n i, i + n = u.length → ∃ q, It_dct_angles_1_l3 S rd q ((64 / u.length * (2 * k + 1) : Nat) : Int) ((64 / u.length * (2 * k + 1) * (2 * i + 1) : Nat) : Int) u (u.length : Int) (i : Int) (f i) K0 K0 := by
  intro n
  have hl : u.length ≤ 64 := by rcases hs with hs | hs <;> omega
  induction n with
  | zero =>
    intro i hi
    refine ⟨1, ?_⟩
    simp only [It_dct_angles_1_l3, br_dec]
    rw [if_neg (by omega), show i = u.length by omega]
    exact h
  | succ n ih =>
    intro i hi
    obtain ⟨q, hq⟩ := ih (i + 1) (by omega)
    refine ⟨q + 1, ?_⟩
    have h1 := step_bound hs hk
    have h2 := at_bound hs hk (i := i) (by omega)
    simp only [It_dct_angles_1_l3, br_dec, br_and, Int.toNat_natCast]
    rw [if_pos (by omega), if_pos (by omega), if_pos (by omega)]
    refine hrd i (by omega) _ ?_
    show It_dct_angles_1_l3 S rd q _ _ u _ _ _ K0 K0
    rw [imul64 (a := 2) (by omega), iadd64 (by omega), i64_succ i (by omega)]
    have e : (((64 / u.length * (2 * k + 1) * (2 * i + 1) : Nat) : Int) + 2 * ((64 / u.length * (2 * k + 1) : Nat) : Int)) = ((64 / u.length * (2 * k + 1) * (2 * (i + 1) + 1) : Nat) : Int) := by
      generalize 64 / u.length * (2 * k + 1) = P
      have e2 : P * (2 * (i + 1) + 1) = P * (2 * i + 1) + 2 * P := by rw [show 2 * (i + 1) + 1 = (2 * i + 1) + 2 by omega, Nat.mul_add]; omega
      rw [e2, Int.natCast_add]
      generalize P * (2 * i + 1) = Q
      omega
    rw [e]
    exact hq
theorem angles_spec {S : Type} (rd : (Int × Int × Unit) → S → (Bool → S → Prop) → Prop) (u : List Int) (hs : sized u) (k : Nat) (hk : k < u.length) (f : Nat → S) (K0 : S → Prop)
    (hrd : ∀ i, i < u.length → ∀ Kb : Bool → S → Prop, Kb true (f (i + 1)) → rd (u.getD i 0, ((64 / u.length * (2 * k + 1) * (2 * i + 1) : Nat) : Int), ()) (f i) Kb) (h : K0 (f u.length)) :
    It_dct_angles_1 u (k : Int) S rd (f 0) K0 := by
  rw [It_dct_angles_1_def, br_dec, if_neg (by rcases hs with hs | hs <;> omega)]
  show ∃ q, It_dct_angles_1_l3 S rd q _ _ u _ 0 (f 0) K0 K0
  rw [step_eq hs hk]
  have := angles_l3 rd u hs k hk f K0 hrd h u.length 0 (by omega)
  simpa using this

theorem cosV_at {u : List Int} (hs : sized u) {k i : Nat} (hk : k < u.length) (hi : i < u.length) : cosV ((64 / u.length * (2 * k + 1) * (2 * i + 1) : Nat) : Int) = cg u.length k i := by
  have h2 := at_bound hs hk (i := i) (by omega)
  unfold cosV cg
  rw [if_neg (by omega)]
  congr 1

theorem shifted_r7 {u : List Int} (hr : rightB 33554432 u = true) {k : Nat} (hk : k < u.length) (by_ v6 v7 : Int) (m5 : List Int) (K0 : List Int → Int → Int → Int → Int → List Int → List Int → Int → Prop)
    (h : K0 u by_ (k : Int) v6 v7 cosT m5 (dsum u k)) : dct_shifted_r7 u (k : Int) u by_ (k : Int) v6 v7 cosT m5 0 K0 := by
  have hs := right_sz hr
  unfold dct_shifted_r7
  refine angles_spec _ u hs k hk (fun i => (Rs.go ((u, by_, (k : Int), v6, v7, ()), (cosT, m5, sm (fun i => u.getD i 0 * cg u.length k i) i, ())) : Rs (((List Int) × Int × Int × Int × Int × Unit) × ((List Int) × (List Int) × Int × Unit)) Empty)) _ (fun i hi Kb hKb => ?_) ?_
  rotate_left
  · exact h
  simp only [Rs.on, dct_shifted_r7b]
  refine cos_spec _ _ ?_
  rw [cosV_at hs hk hi]
  have h1 := mul25 _ _ (right_at hr hi) (cg_bound u.length k i)
  have h2 := psum_bound hr k i (by omega)
  rw [imul64 (by omega), iadd64 (by omega)]
  exact hKb

theorem shifted_l3 {u : List Int} (hr : rightB 33554432 u = true) (by_ : Int) (K0 : List Int → Prop) (h : K0 (fourV u by_)) : ∀ n k, k + n = u.length →
    ∃ q, dct_shifted_l3 q u by_ (u.length : Int) (k : Int) cosT (fillT u.length k 0 fun k => shrV (dsum u k) by_) K0 := by
  intro n
  have hl : u.length ≤ 64 := by rcases right_sz hr with hs | hs <;> omega
  induction n with
  | zero =>
    intro k hk
    refine ⟨1, ?_⟩
    simp only [dct_shifted_l3, br_dec]
    rw [if_neg (by omega), show k = u.length by omega, fillT_full]
    exact h
  | succ n ih =>
    intro k hk
    obtain ⟨q, hq⟩ := ih (k + 1) (by omega)
    refine ⟨q + 1, ?_⟩
    simp only [dct_shifted_l3, br_dec, br_and, Int.toNat_natCast]
    rw [if_pos (by omega), dct_angles_def]
    refine shifted_r7 hr (by omega) _ _ _ _ _ (shr_spec _ _ _ ?_)
    rw [Int.toNat_natCast, fillT_length, if_pos (by omega), if_pos (by omega), if_pos (by omega), fillT_set, i64_succ k (by omega)]
    exact hq
theorem shifted_spec {u : List Int} (hr : rightB 33554432 u = true) (by_ : Int) (K0 : List Int → Prop) (h : K0 (fourV u by_)) : dct_shifted cosT u by_ K0 := by
  have hl : u.length ≤ 64 := by rcases right_sz hr with hs | hs <;> omega
  rw [dct_shifted_def]
  simp only [br_dec, br_and, Int.toNat_natCast, List.length_replicate]
  rw [if_pos (by omega), if_pos (by omega), if_pos (by omega)]
  have := shifted_l3 hr by_ K0 h u.length 0 (by omega)
  rw [fillT_zero] at this
  exact this

/-! ### What is a block -/
theorem right_l4 (w : Int) (hw : 0 ≤ w ∧ w ≤ 1000000000) (u : List Int) (hl : u.length ≤ 64) (K0 : Bool → Prop) (K1 : Prop) : ∀ n i, i + n = u.length → (if (u.drop i).all (inB (-w) w) then K1 else K0 false) →
    ∃ q, dct_right_l4 q w u (u.length : Int) (i : Int) K0 K1 := by
  intro n
  induction n with
  | zero =>
    intro i hi h
    refine ⟨1, ?_⟩
    simp only [dct_right_l4, br_dec]
    rw [if_neg (by omega)]
    rw [List.drop_eq_nil_of_le (by omega)] at h
    simpa using h
  | succ n ih =>
    intro i hi h
    rw [drop_cons (0 : Int) (show i < u.length by omega), List.all_cons] at h
    by_cases hx : inB (-w) w (u.getD i 0) = true
    · rw [hx, Bool.true_and] at h
      obtain ⟨q, hq⟩ := ih (i + 1) (by omega) h
      refine ⟨q + 1, ?_⟩
      have hx' : -w ≤ u.getD i 0 ∧ u.getD i 0 ≤ w := by simpa [inB] using hx
      simp only [dct_right_l4, br_dec, br_and, Int.toNat_natCast]
      rw [if_pos (by omega), if_pos (by omega), if_pos (by omega), isub64 (by omega), if_neg (by omega), if_neg (by omega), i64_succ i (by omega)]
      exact hq
    · refine ⟨1, ?_⟩
      have hx' : ¬ (-w ≤ u.getD i 0 ∧ u.getD i 0 ≤ w) := by simpa [inB] using hx
      rw [Bool.eq_false_iff.2 hx, Bool.false_and] at h
      simp only [dct_right_l4, br_dec, br_and, Int.toNat_natCast]
      rw [if_pos (by omega), if_pos (by omega), if_pos (by omega), isub64 (by omega)]
      by_cases h1 : u.getD i 0 < 0 - w
      · rw [if_pos h1]; simpa using h
      · rw [if_neg h1, if_pos (by omega)]; simpa using h
theorem right_j3 (w : Int) (hw : 0 ≤ w ∧ w ≤ 1000000000) (u : List Int) (hs : sized u) (K0 : Bool → Prop) (h : K0 (rightB w u)) : dct_right_j3 u w K0 := by
  unfold dct_right_j3
  have hl : u.length ≤ 64 := by rcases hs with hs | hs <;> omega
  have e : rightB w u = u.all (inB (-w) w) := by simp [rightB, hs]
  rw [e] at h
  refine right_l4 w hw u hl K0 _ u.length 0 (by omega) ?_
  rw [List.drop_zero]
  split
  · rename_i e; rw [e] at h; exact h
  · rename_i e; rw [Bool.eq_false_iff.2 e] at h; exact h
theorem right_spec (w : Int) (hw : 0 ≤ w ∧ w ≤ 1000000000) (u : List Int) (K0 : Bool → Prop) (h : K0 (rightB w u)) : dct_right u w K0 := by
  rw [dct_right_def]
  simp only [br_not, br_dec]
  split
  · rename_i h64
    exact right_j3 w hw u (.inl (by omega)) K0 h
  · rename_i h64
    split
    · rename_i h8
      exact right_j3 w hw u (.inr (by omega)) K0 h
    · rename_i h8
      have : rightB w u = false := by
        have : ¬ sized u := by unfold sized; omega
        simp [rightB, this]
      rw [this] at h; exact h
theorem rright_spec (w : Int) (hw : 0 ≤ w ∧ w ≤ 1000000000) (u : List Int) (hl : u.length ≤ 1000000) (K0 : Bool → Prop) (h : K0 (rightB w u)) : R10_Right u w K0 := by
  rw [R10_Right_def]
  simp only [br_dec]
  have e : isub .i64 0 w = -w := by rw [isub64 (by omega)]; omega
  rw [e]
  split
  · rename_i h8
    have : rightB w u = u.all (inB (-w) w) := by simp [rightB, show sized u from .inr (by omega)]
    rw [this] at h
    exact within_spec _ _ _ _ hl h
  · rename_i h8
    split
    · rename_i h64
      have : rightB w u = u.all (inB (-w) w) := by simp [rightB, show sized u from .inl (by omega)]
      rw [this] at h
      exact within_spec _ _ _ _ hl h
    · rename_i h64
      have : rightB w u = false := by
        have : ¬ sized u := by unfold sized; omega
        simp [rightB, this]
      rw [this] at h; exact h

theorem four_spec (u : List Int) (K0 : Prop) (K1 : List Int → Prop) (h : if rightB 33554432 u = true then K1 (fourV u 24) else K0) : dct_Four cosT u K0 K1 := by
  rw [dct_Four_def]
  refine right_spec _ (by omega) u _ ?_
  split at h
  · rename_i hr
    rw [hr]
    exact shifted_spec hr 24 K1 h
  · rename_i hr
    rw [Bool.eq_false_iff.2 hr]
    exact h
def backBy (u : List Int) : Int := if u.length = 8 then 26 else 29
theorem back_spec (u : List Int) (K0 : Prop) (K1 : List Int → Prop) (h : if rightB 33554432 u = true then K1 (fourV u (backBy u)) else K0) : dct_Back cosT u K0 K1 := by
  rw [dct_Back_def]
  refine right_spec _ (by omega) u _ ?_
  split at h
  · rename_i hr
    rw [hr]
    show Br _ _ _
    rw [br_dec]
    unfold backBy at h
    split
    · rename_i h8
      rw [if_pos (by omega)] at h
      exact shifted_spec hr 26 K1 h
    · rename_i h8
      rw [if_neg (by omega)] at h
      exact shifted_spec hr 29 K1 h
  · rename_i hr
    rw [Bool.eq_false_iff.2 hr]
    exact h
theorem rang_eq {u : List Int} (h : sized u) {k i : Nat} (hk : k < u.length) (hi : i < u.length) :
    irem .i64 (imul .i64 (imul .i64 ((64 / u.length : Nat) : Int) (iadd .i64 (imul .i64 2 (i : Int)) 1)) (iadd .i64 (imul .i64 2 (k : Int)) 1)) 512 = ((64 / u.length * (2 * k + 1) * (2 * i + 1) % 512 : Nat) : Int) := by
  have hk' : k < 64 := by rcases h with h | h <;> omega
  have h1 := step_eq h hi
  rw [iquo_n h] at h1
  have h2 := at_bound h hi (i := k) (by omega)
  rw [h1, imul64 (a := 2) (by omega), iadd64 (by omega)]
  have e : (((64 / u.length * (2 * i + 1) : Nat) : Int) * (2 * (k : Int) + 1)) = ((64 / u.length * (2 * i + 1) * (2 * k + 1) : Nat) : Int) := by
    rw [Int.natCast_mul (64 / u.length * (2 * i + 1))]; congr 1
  rw [imul64 (by rw [e]; omega), e]
  unfold irem
  rw [Int.tmod_eq_emod_of_nonneg (by omega), Nat.mul_right_comm]
  rfl
theorem rsum_l4 {u : List Int} (hr : rightB 33554432 u = true) {k : Nat} (hk : k < u.length) (K0 : Int → Prop) (h : K0 (dsum u k)) : ∀ n i, i + n = u.length →
    ∃ q, R10_sum_l4 q cosT u (k : Int) (sm (fun i => u.getD i 0 * cg u.length k i) i) ((64 / u.length : Nat) : Int) (i : Int) K0 := by
  intro n
  have hs := right_sz hr
  have hl : u.length ≤ 64 := by rcases hs with hs | hs <;> omega
  induction n with
  | zero =>
    intro i hi
    refine ⟨1, ?_⟩
    simp only [R10_sum_l4, br_dec]
    rw [if_neg (by omega), show i = u.length by omega]
    exact h
  | succ n ih =>
    intro i hi
    obtain ⟨q, hq⟩ := ih (i + 1) (by omega)
    refine ⟨q + 1, ?_⟩
    have hc : cosT.length = 512 := tab_length _ _
    have h1 := mul25 _ _ (right_at hr (show i < u.length by omega)) (cg_bound u.length k i)
    have h2 := psum_bound hr k i (by omega)
    have h3 : 64 / u.length * (2 * k + 1) * (2 * i + 1) % 512 < 512 := Nat.mod_lt _ (by decide)
    have e : cosT.getD (64 / u.length * (2 * k + 1) * (2 * i + 1) % 512) 0 = cg u.length k i := cosT_get _ h3
    simp only [R10_sum_l4, br_dec, br_and, rang_eq hs hk (show i < u.length by omega), Int.toNat_natCast, hc, e]
    rw [if_pos (by omega), if_pos (by omega), if_pos (by omega), if_pos (by omega), if_pos (by omega), imul64 (by omega), iadd64 (by omega), i64_succ i (by omega)]
    exact hq
theorem rsum_spec {u : List Int} (hr : rightB 33554432 u = true) {k : Nat} (hk : k < u.length) (K0 : Int → Prop) (h : K0 (dsum u k)) : R10_sum cosT u (k : Int) K0 := by
  have hs := right_sz hr
  rw [R10_sum_def, br_dec, if_neg (by omega), iquo_n hs]
  exact rsum_l4 hr hk K0 h u.length 0 (by omega)
theorem rsums_l4 {u : List Int} (hr : rightB 33554432 u = true) (K0 : List Int → Prop) (h : K0 (tab u.length fun k => dsum u k)) : ∀ n k, k + n = u.length →
    ∃ q, R10_Sums_l4 q u (k : Int) cosT (tab k fun k => dsum u k) K0 := by
  intro n
  have hl : u.length ≤ 64 := by rcases right_sz hr with hs | hs <;> omega
  induction n with
  | zero =>
    intro k hk
    refine ⟨1, ?_⟩
    simp only [R10_Sums_l4, br_dec]
    rw [if_neg (by omega), show k = u.length by omega]
    exact h
  | succ n ih =>
    intro k hk
    obtain ⟨q, hq⟩ := ih (k + 1) (by omega)
    refine ⟨q + 1, ?_⟩
    simp only [R10_Sums_l4, br_dec]
    rw [if_pos (by omega)]
    refine rsum_spec hr (by omega) _ ?_
    rw [if_pos (by rw [tab_length]; simp; omega), tab_snoc k (fun k => dsum u k), i64_succ k (by omega)]
    exact hq
theorem rsums_spec {u : List Int} (hr : rightB 33554432 u = true) (K0 : List Int → Prop) (h : K0 (tab u.length fun k => dsum u k)) : R10_Sums u K0 := by
  rw [R10_Sums_def]
  exact rmake_spec _ (rsums_l4 hr K0 h u.length 0 (by omega))
theorem rback_l9 (f : Nat → Int) (n : Nat) (hn : n ≤ 64) (by_ : Int) (K0 : List Int → Prop) (h : K0 (tab n fun k => shrV (f k) by_)) : ∀ m k, k + m = n →
    ∃ q, R10_Back_l9 q by_ (k : Int) (tab n f) (tab k fun k => shrV (f k) by_) K0 := by
  intro m
  induction m with
  | zero =>
    intro k hk
    refine ⟨1, ?_⟩
    simp only [R10_Back_l9, br_dec, tab_length]
    rw [if_neg (by omega), show k = n by omega]
    exact h
  | succ m ih =>
    intro k hk
    obtain ⟨q, hq⟩ := ih (k + 1) (by omega)
    refine ⟨q + 1, ?_⟩
    simp only [R10_Back_l9, br_dec, br_and, tab_length, Int.toNat_natCast]
    rw [if_pos (by omega), if_pos (by omega), if_pos (by omega), if_pos (by omega), tab_get n f 0 (by omega)]
    refine rshr_spec _ _ _ ?_
    rw [if_pos (by simp; omega), tab_snoc k (fun k => shrV (f k) by_), i64_succ k (by omega)]
    exact hq
theorem rback_j6 {u : List Int} (hr : rightB 33554432 u = true) (by_ : Int) (K0 : List Int → Prop) (h : K0 (fourV u by_)) : R10_Back_j6 u by_ K0 := by
  have hl : u.length ≤ 64 := by rcases right_sz hr with hs | hs <;> omega
  unfold R10_Back_j6
  exact rsums_spec hr _ (rback_l9 _ u.length hl by_ K0 h u.length 0 (by omega))
theorem rback_spec (u : List Int) (hl : u.length ≤ 1000000) (K0 : Prop) (K1 : List Int → Prop) (h : if rightB 33554432 u = true then K1 (fourV u (backBy u)) else K0) : R10_Back u K0 K1 := by
  rw [R10_Back_def]
  refine rright_spec _ (by omega) u hl _ ?_
  rw [br_not]
  split at h
  · rename_i hr
    rw [hr]
    show Br _ _ _
    rw [br_dec]
    unfold backBy at h
    split
    · rename_i h8
      rw [if_pos (by omega)] at h
      exact rback_j6 hr 26 K1 h
    · rename_i h8
      rw [if_neg (by omega)] at h
      exact rback_j6 hr 29 K1 h
  · rename_i hr
    rw [Bool.eq_false_iff.2 hr]
    exact h

theorem fourV_length (u : List Int) (s : Int) : (fourV u s).length = u.length := tab_length _ _
theorem awake_spec (K : Bool → Prop) (h : K true) : L10_awake K := by
  rw [L10_awake_def]
  refine make_spec _ (four_spec _ _ _ ?_)
  rw [if_pos (by decide +kernel)]
  unfold L10_awake_j3
  refine back_spec _ _ _ ?_
  rw [if_pos (by decide +kernel)]
  unfold L10_awake_j4
  have e1 : fourV (List.replicate 8 0) 24 = List.replicate 8 0 := by decide +kernel
  have e2 : fourV [32, 0, 0, 0, 0, 0, 0, 0] (backBy [32, 0, 0, 0, 0, 0, 0, 0]) = [8, 8, 7, 6, 5, 4, 2, 1] := by decide +kernel
  rw [e1]
  refine same_self _ _ (by decide) ?_
  show Br _ _ _
  rw [br_dec, if_pos (by decide)]
  refine rback_spec _ (by decide) _ _ ?_
  rw [if_pos (by decide +kernel), e2]
  refine same_self _ _ (by decide) ?_
  exact h
theorem rright_spec' (w : Int) (hw : 0 ≤ w ∧ w ≤ 1000000000) (u : List Int) (K0 : Bool → Prop) (h : K0 (rightB w u)) : R10_Right u w K0 := by
  by_cases hl : u.length ≤ 1000000
  · exact rright_spec w hw u hl K0 h
  · have : rightB w u = false := by
      have : ¬ sized u := by unfold sized; omega
      simp [rightB, this]
    rw [this] at h
    rw [R10_Right_def, br_dec, if_neg (by omega), br_dec, if_neg (by omega)]
    exact h
theorem rightB_of {w : Int} {u : List Int} (hs : sized u) (h : ∀ i, i < u.length → -w ≤ u.getD i 0 ∧ u.getD i 0 ≤ w) : rightB w u = true := by
  have h2 : u.all (inB (-w) w) = true := by
    rw [List.all_eq_true]
    intro x hx
    obtain ⟨i, hi, e⟩ := List.getElem_of_mem hx
    have := h i hi
    have e2 : u.getD i 0 = x := by simp [List.getD, hi, e]
    rw [e2] at this
    simpa [inB] using this
  simp only [rightB, h2, Bool.and_true]
  exact decide_eq_true hs
theorem rightB_mono {w w' : Int} {u : List Int} (hw : w ≤ w') (h : rightB w u = true) : rightB w' u = true :=
  rightB_of (right_sz h) fun i hi => by have := right_at h hi; omega
theorem sm_congr {f g : Nat → Int} : ∀ n, (∀ i, i < n → f i = g i) → sm f n = sm g n
  | 0, _ => rfl
  | n + 1, h => by simp only [sm]; rw [sm_congr n fun i hi => h i (by omega), h n (by omega)]
theorem sm_add (f g : Nat → Int) : ∀ n, sm (fun i => f i + g i) n = sm f n + sm g n
  | 0 => rfl
  | n + 1 => by simp only [sm]; rw [sm_add f g n]; omega
theorem sm_neg (f : Nat → Int) : ∀ n, sm (fun i => -f i) n = -sm f n
  | 0 => rfl
  | n + 1 => by simp only [sm]; rw [sm_neg f n]; omega
theorem shr_at {x : Int} {s : Nat} (hs : s ≤ 60) (h : -2305843009213693952 ≤ x ∧ x ≤ 2305843009213693952) : shrV x (s : Int) = (2 * x + 2 ^ s) / (2 * 2 ^ s) := by
  unfold shrV
  rw [if_neg (by omega), Int.toNat_natCast]
theorem dsum_bound {u : List Int} (h : rightB 33554432 u = true) (k : Nat) : -36028797018963968 ≤ dsum u k ∧ dsum u k ≤ 36028797018963968 := psum_bound h k u.length (Nat.le_refl _)
theorem shr24 {u : List Int} (h : rightB 33554432 u = true) (k : Nat) : shrV (dsum u k) 24 = (2 * dsum u k + 16777216) / 33554432 := by
  have := dsum_bound h k
  exact shr_at (s := 24) (by omega) (by omega)
def sumL (u v : List Int) : List Int := tab u.length fun i => u.getD i 0 + v.getD i 0
def negL (u : List Int) : List Int := tab u.length fun i => -(u.getD i 0)
theorem sums_l5 (u v : List Int) (hu : rightB 131072 u = true) (hv : rightB 131072 v = true) (he : v.length = u.length) (K0 : List Int → List Int → List Int → List Int → Prop) (h : K0 u v (sumL u v) (negL u)) : ∀ n i, i + n = u.length →
    ∃ q, L10_DctSums_l5 q u v (i : Int) (tab i fun i => u.getD i 0 + v.getD i 0) (tab i fun i => -(u.getD i 0)) K0 := by
  intro n
  have hl : u.length ≤ 64 := by rcases right_sz hu with hs | hs <;> omega
  induction n with
  | zero =>
    intro i hi
    refine ⟨1, ?_⟩
    simp only [L10_DctSums_l5, br_dec]
    rw [if_neg (by omega), show i = u.length by omega]
    exact h
  | succ n ih =>
    intro i hi
    obtain ⟨q, hq⟩ := ih (i + 1) (by omega)
    refine ⟨q + 1, ?_⟩
    have h1 := right_at hu (show i < u.length by omega)
    have h2 := right_at hv (show i < v.length by omega)
    simp only [L10_DctSums_l5, br_dec, br_and, Int.toNat_natCast, tab_length, List.length_singleton]
    rw [if_pos (by omega), if_pos (by omega), if_pos (by omega), if_pos (by omega), if_pos (by omega), if_pos (by omega), if_pos (by omega), if_pos (by omega), if_pos (by omega),
      iadd64 (a := u.getD i 0) (by omega), isub64 (by omega), i64_succ i (by omega), tab_snoc i (fun i => u.getD i 0 + v.getD i 0), show (0 : Int) - u.getD i 0 = -(u.getD i 0) by omega, tab_snoc i (fun i => -(u.getD i 0))]
    exact hq
theorem sums_l14 (u a b c d : List Int) (ha : a.length = u.length) (hb : b.length = u.length) (hc : c.length = u.length) (hd : d.length = u.length) (hl : u.length ≤ 64)
    (h1 : ∀ i, i < u.length → -2 ≤ c.getD i 0 - a.getD i 0 - b.getD i 0 ∧ c.getD i 0 - a.getD i 0 - b.getD i 0 ≤ 2) (h2 : ∀ i, i < u.length → -1 ≤ d.getD i 0 + a.getD i 0 ∧ d.getD i 0 + a.getD i 0 ≤ 1)
    (hr : ∀ i, i < u.length → (-1152921504606846976 ≤ a.getD i 0 ∧ a.getD i 0 ≤ 1152921504606846976) ∧ (-1152921504606846976 ≤ b.getD i 0 ∧ b.getD i 0 ≤ 1152921504606846976) ∧ (-1152921504606846976 ≤ c.getD i 0 ∧ c.getD i 0 ≤ 1152921504606846976)) (K0 : Bool → Prop) (K1 : Prop) (h : K1) : ∀ n i, i + n = u.length →
    ∃ q, L10_DctSums_l14 q u (i : Int) a b c d K0 K1 := by
  intro n
  induction n with
  | zero =>
    intro i hi
    refine ⟨1, ?_⟩
    simp only [L10_DctSums_l14, br_dec]
    rw [if_neg (by omega)]
    exact h
  | succ n ih =>
    intro i hi
    obtain ⟨q, hq⟩ := ih (i + 1) (by omega)
    refine ⟨q + 1, ?_⟩
    have g1 := h1 i (by omega)
    have g2 := h2 i (by omega)
    have g3 := hr i (by omega)
    have e1 : isub .i64 (c.getD i 0) (a.getD i 0) = c.getD i 0 - a.getD i 0 := isub64 (by omega)
    have e2 : isub .i64 (c.getD i 0 - a.getD i 0) (b.getD i 0) = c.getD i 0 - a.getD i 0 - b.getD i 0 := isub64 (by omega)
    have e3 : iadd .i64 (d.getD i 0) (a.getD i 0) = d.getD i 0 + a.getD i 0 := iadd64 (by omega)
    simp only [L10_DctSums_l14, br_dec, br_and, Int.toNat_natCast, ha, hb, hc, hd, e1, e2, e3, i64_succ i (show i < 1000000000 by omega)]
    rw [if_pos (by omega), if_pos (by omega), if_pos (by omega), if_pos (by omega), if_pos (by omega), if_pos (by omega), if_pos (by omega), if_pos (by omega), if_pos (by omega), if_pos (by omega), if_pos (by omega), if_pos (by omega), if_pos (by omega), if_pos (by omega), if_pos (by omega), if_pos (by omega), if_neg (by omega), if_neg (by omega), if_neg (by omega), if_neg (by omega)]
    exact hq
theorem sums (u v : List Int) (_ : Rng (.sl (.int .i64)) u) (_ : Rng (.sl (.int .i64)) v) (K : Bool → Prop) (h : K true) : L10_DctSums u v K := by
  have ha := awake_spec K h
  rw [L10_DctSums_def]
  refine rright_spec' _ (by omega) _ _ ?_
  rw [br_not]
  cases hu : rightB 131072 u with
  | false => exact ha
  | true =>
    refine br_t rfl (rright_spec' _ (by omega) _ _ ?_)
    rw [br_not]
    cases hv : rightB 131072 v with
    | false => exact ha
    | true =>
      refine br_t rfl ?_
      unfold L10_DctSums_j2
      rw [br_not, br_dec]
      split
      · rename_i hlen
        have he : v.length = u.length := by omega
        have hl : u.length ≤ 64 := by rcases right_sz hu with hs | hs <;> omega
        unfold L10_DctSums_j3
        have hsz : sized (sumL u v) := by have := right_sz hu; simpa [sumL, sized, tab_length] using this
        have hnz : sized (negL u) := by have := right_sz hu; simpa [negL, sized, tab_length] using this
        have hls : (sumL u v).length = u.length := tab_length _ _
        have hln : (negL u).length = u.length := tab_length _ _
        have gs : ∀ i, i < u.length → (sumL u v).getD i 0 = u.getD i 0 + v.getD i 0 := fun i hi => tab_get _ _ _ hi
        have gn : ∀ i, i < u.length → (negL u).getD i 0 = -(u.getD i 0) := fun i hi => tab_get _ _ _ hi
        have ru := rightB_mono (w' := 33554432) (by omega) hu
        have rv := rightB_mono (w' := 33554432) (by omega) hv
        have rs : rightB 33554432 (sumL u v) = true := rightB_of hsz fun i hi => by
          rw [hls] at hi
          have h1 := right_at hu hi; have h2 := right_at hv (show i < v.length by omega)
          rw [gs i hi]; omega
        have rn : rightB 33554432 (negL u) = true := rightB_of hnz fun i hi => by
          rw [hln] at hi
          have h1 := right_at hu hi
          rw [gn i hi]; omega
        refine sums_l5 u v hu hv he _ (make_spec _ (four_spec _ _ _ ?_)) u.length 0 (by omega)
        rw [ru, if_pos rfl]
        refine four_spec _ _ _ ?_
        rw [rv, if_pos rfl]
        refine four_spec _ _ _ ?_
        rw [rs, if_pos rfl]
        refine four_spec _ _ _ ?_
        rw [rn, if_pos rfl]
        unfold L10_DctSums_j11
        have l1 : (fourV u 24).length = u.length := fourV_length _ _
        have l2 : (fourV v 24).length = u.length := by rw [fourV_length]; exact he
        have l3 : (fourV (sumL u v) 24).length = u.length := by rw [fourV_length]; exact hls
        have l4 : (fourV (negL u) 24).length = u.length := by rw [fourV_length]; exact hln
        simp only [br_not, br_dec, l1, l2, l3, l4, if_true]
        have ds : ∀ k, dsum (sumL u v) k = dsum u k + dsum v k := fun k => by
          unfold dsum
          rw [hls, he, ← sm_add]
          refine sm_congr _ fun i hi => ?_
          rw [gs i hi, Int.add_mul]
        have dn : ∀ k, dsum (negL u) k = -dsum u k := fun k => by
          unfold dsum
          rw [hln, ← sm_neg]
          refine sm_congr _ fun i hi => ?_
          rw [gn i hi, Int.neg_mul]
        have e1 : ∀ i, i < u.length → (fourV u 24).getD i 0 = (2 * dsum u i + 16777216) / 33554432 := fun i hi => (tab_get _ _ _ hi).trans (shr24 ru i)
        have e2 : ∀ i, i < u.length → (fourV v 24).getD i 0 = (2 * dsum v i + 16777216) / 33554432 := fun i hi => (tab_get _ _ _ (by omega)).trans (shr24 rv i)
        have e3 : ∀ i, i < u.length → (fourV (sumL u v) 24).getD i 0 = (2 * (dsum u i + dsum v i) + 16777216) / 33554432 := fun i hi => ((tab_get _ _ _ (by omega)).trans (shr24 rs i)).trans (by rw [ds])
        have e4 : ∀ i, i < u.length → (fourV (negL u) 24).getD i 0 = (2 * (-dsum u i) + 16777216) / 33554432 := fun i hi => ((tab_get _ _ _ (by omega)).trans (shr24 rn i)).trans (by rw [dn])
        refine sums_l14 u _ _ _ _ l1 l2 l3 l4 hl (fun i hi => ?_) (fun i hi => ?_) (fun i hi => ?_) K _ ha u.length 0 (by omega)
        · rw [e1 i hi, e2 i hi, e3 i hi]; omega
        · rw [e1 i hi, e4 i hi]; omega
        · rw [e1 i hi, e2 i hi, e3 i hi]
          have b1 := dsum_bound ru i; have b2 := dsum_bound rv i
          omega
      · exact ha
end
end Go.Eng.A
