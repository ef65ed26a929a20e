import Derived.Test.YtniabjhjpkkllaaEngV
import Derived.Test.YtniabjhjpkkllaaEngU
import Derived.Test.YtniabjhjpkkllaaDctBackP
set_option linter.unusedSimpArgs false
set_option linter.unusedVariables false
set_option maxHeartbeats 2000000
namespace Go.Eng.A
open Go Go.Eng
set_option maxRecDepth 100000
noncomputable section
theorem drop_cons {α : Type} (d : α) {l : List α} {i : Nat} (h : i < l.length) : l.drop i = l.getD i d :: l.drop (i + 1) := by
  rw [List.drop_eq_getElem_cons h]; simp [List.getD, List.getElem?_eq_getElem h]
theorem getD_of_drop {l : List Int} {i : Nat} {x : Int} {r : List Int} (h : l.drop i = x :: r) : l.getD i 0 = x ∧ i < l.length ∧ l.drop (i + 1) = r := by
  have hi : i < l.length := by
    apply Classical.byContradiction
    intro hn
    rw [List.drop_eq_nil_of_le (by omega)] at h
    cases h
  rw [drop_cons 0 hi] at h
  injection h with h1 h2
  exact ⟨h1, hi, h2⟩
theorem tab_length {α : Type} (n : Nat) (f : Nat → α) : (tab n f).length = n := by simp [tab]
theorem tab_get {α : Type} (n : Nat) (f : Nat → α) (d : α) {i : Nat} (h : i < n) : (tab n f).getD i d = f i := by
  simp [tab, List.getD, List.getElem?_map, List.getElem?_range h]
theorem tab_set {α : Type} (n : Nat) (f : Nat → α) (i : Nat) (a : α) : (tab n f).set i a = tab n fun j => if j = i then a else f j := by
  apply List.ext_getElem (by simp [tab])
  intro j h1 h2
  simp only [tab, List.length_set, List.length_map, List.length_range] at h1
  simp only [tab, List.getElem_set, List.getElem_map, List.getElem_range]
  by_cases e : i = j
  · rw [if_pos e, if_pos e.symm]
  · rw [if_neg e, if_neg (Ne.symm e)]
theorem tab_snoc {α : Type} (n : Nat) (f : Nat → α) : tab n f ++ [f n] = tab (n + 1) f := by simp [tab, List.range_succ]
theorem tab_congr {α : Type} {n : Nat} {f g : Nat → α} (h : ∀ j, j < n → f j = g j) : tab n f = tab n g := by
  unfold tab
  apply List.map_congr_left
  intro j hj; exact h j (List.mem_range.1 hj)
theorem tab_const {α : Type} (n : Nat) (a : α) : List.replicate n a = tab n fun _ => a := by
  apply List.ext_getElem (by simp [tab])
  intro j h1 h2
  simp [tab]
theorem tab_zero {α : Type} (f : Nat → α) : tab 0 f = [] := rfl
/-- A list that is filled place by place. -/
def fillT {α : Type} (n i : Nat) (d : α) (f : Nat → α) : List α := tab n fun j => if j < i then f j else d
theorem fillT_length {α : Type} (n i : Nat) (d : α) (f : Nat → α) : (fillT n i d f).length = n := tab_length _ _
theorem fillT_zero {α : Type} (n : Nat) (d : α) (f : Nat → α) : fillT n 0 d f = List.replicate n d := by
  rw [tab_const]; exact tab_congr fun j _ => if_neg (by omega)
theorem fillT_set {α : Type} (n i : Nat) (d : α) (f : Nat → α) : (fillT n i d f).set i (f i) = fillT n (i + 1) d f := by
  unfold fillT
  rw [tab_set]
  refine tab_congr fun j _ => ?_
  by_cases e : j = i
  · rw [if_pos e, if_pos (by omega), e]
  · rw [if_neg e]
    by_cases h : j < i
    · rw [if_pos h, if_pos (by omega)]
    · rw [if_neg h, if_neg (by omega)]
theorem fillT_full {α : Type} (n : Nat) (d : α) (f : Nat → α) : fillT n n d f = tab n f := tab_congr fun _ hj => if_pos hj
theorem wrap64 {n : Int} (h : -9223372036854775808 ≤ n ∧ n ≤ 9223372036854775807) : Go.IntKind.wrap .i64 n = n := Go.IntWalk.i64_in _ h
theorem imax_eq' (a b : Int) : imax a b = max a b := by unfold imax; omega
theorem imin_eq' (a b : Int) : imin a b = min a b := by unfold imin; omega
theorem rng16 {n : Int} (h : (Lit.int .i16 n).wf = true) : -32768 ≤ n ∧ n ≤ 32767 := by
  simpa [Lit.wf, IntKind.min, IntKind.max, IntKind.signed, IntKind.bits] using h
theorem rng8 {n : Int} (h : (Lit.int .u8 n).wf = true) : 0 ≤ n ∧ n ≤ 255 := by
  simpa [Lit.wf, IntKind.min, IntKind.max, IntKind.signed, IntKind.bits] using h
theorem i64_succ (i : Nat) (h : i < 1000000000) : iadd .i64 (i : Int) 1 = ((i + 1 : Nat) : Int) := by rw [iadd64 (by omega)]; omega
theorem all_getD {p : Int → Bool} {l : List Int} (h : l.all p = true) {i : Nat} (hi : i < l.length) : p (l.getD i 0) = true := by
  rw [List.all_eq_true] at h
  refine h _ ?_
  simp [List.getD, List.getElem?_eq_getElem hi]
theorem getD_mem {l : List Int} {i : Nat} (hi : i < l.length) : l.getD i 0 ∈ l := by simp [List.getD, List.getElem?_eq_getElem hi]
def inB (low high x : Int) : Bool := decide (low ≤ x ∧ x ≤ high)
theorem within_l2 (l : List Int) (low high : Int) (K0 : Bool → Prop) (K1 : Prop) (hl : l.length ≤ 1000000) : ∀ (n i : Nat), i + n = l.length →
    (if (l.drop i).all (inB low high) = true then K1 else K0 false) → ∃ q, R01_Within_l2 q l low high i K0 K1 := by
  intro n
  induction n with
  | zero =>
    intro i hi h
    refine ⟨1, ?_⟩
    rw [List.drop_eq_nil_of_le (by omega)] at h
    simp only [R01_Within_l2, br_dec]
    rw [if_neg (by omega)]
    simpa using h
  | succ n ih =>
    intro i hi h
    rw [drop_cons 0 (by omega), List.all_cons] at h
    by_cases hx : inB low high (l.getD i 0) = true
    · obtain ⟨q, hq⟩ := ih (i + 1) (by omega) (by rw [hx, Bool.true_and] at h; exact h)
      refine ⟨q + 1, ?_⟩
      unfold inB at hx
      rw [decide_eq_true_eq] at hx
      simp only [R01_Within_l2, br_dec, br_and, Int.toNat_natCast]
      rw [if_pos (by omega), if_pos (by omega), if_pos (by omega), if_neg (by omega), if_pos (by omega), if_pos (by omega), if_neg (by omega), iadd64 (by omega)]
      exact hq
    · refine ⟨1, ?_⟩
      have h : K0 false := by rw [Bool.eq_false_iff.2 hx, Bool.false_and] at h; exact h
      unfold inB at hx
      rw [decide_eq_true_eq] at hx
      simp only [R01_Within_l2, br_dec, br_and, Int.toNat_natCast]
      rw [if_pos (by omega), if_pos (by omega), if_pos (by omega)]
      split
      · exact h
      · rw [if_pos (by omega), if_pos (by omega), if_pos (by omega)]
        exact h
theorem within_spec (l : List Int) (low high : Int) (K0 : Bool → Prop) (hl : l.length ≤ 1000000) (h : K0 (l.all (inB low high))) : R01_Within l low high K0 := by
  rw [R01_Within_def]
  refine within_l2 l low high K0 _ hl l.length 0 (by omega) ?_
  rw [List.drop_zero]
  split
  · rename_i e; rw [e] at h; exact h
  · rename_i e; rw [Bool.eq_false_iff.2 e] at h; exact h
theorem same_l4 (a b : List Int) (K0 : Bool → Prop) (K1 : Prop) (hl : a.length ≤ 1000000) (hab : a.length = b.length) : ∀ (n i : Nat), i + n = a.length →
    (if a.drop i = b.drop i then K1 else K0 false) → ∃ q, R01_Same_l4 q a b i K0 K1 := by
  intro n
  induction n with
  | zero =>
    intro i hi h
    refine ⟨1, ?_⟩
    rw [List.drop_eq_nil_of_le (by omega), List.drop_eq_nil_of_le (by omega)] at h
    simp only [R01_Same_l4, br_dec]
    rw [if_neg (by omega)]
    simpa using h
  | succ n ih =>
    intro i hi h
    rw [drop_cons 0 (l := a) (by omega), drop_cons 0 (l := b) (by omega)] at h
    by_cases hx : a.getD i 0 = b.getD i 0
    · obtain ⟨q, hq⟩ := ih (i + 1) (by omega) (by rw [hx] at h; simpa only [List.cons.injEq, true_and] using h)
      refine ⟨q + 1, ?_⟩
      simp only [R01_Same_l4, br_dec, br_and, br_not, Int.toNat_natCast]
      rw [if_pos (by omega), if_pos (by omega), if_pos (by omega), if_pos (by omega), if_pos (by omega), if_pos hx, iadd64 (by omega)]
      exact hq
    · refine ⟨1, ?_⟩
      simp only [R01_Same_l4, br_dec, br_and, br_not, Int.toNat_natCast]
      rw [if_pos (by omega), if_pos (by omega), if_pos (by omega), if_pos (by omega), if_pos (by omega), if_neg hx]
      rw [if_neg (fun e => hx (by injection e))] at h
      exact h
theorem same_spec (a b : List Int) (K0 : Bool → Prop) (hl : a.length ≤ 1000000) (h : K0 (decide (a = b))) : R01_Same a b K0 := by
  rw [R01_Same_def]
  rw [br_not, br_dec]
  split
  · rename_i hab
    refine same_l4 a b _ _ hl (by omega) a.length 0 (by omega) ?_
    rw [List.drop_zero, List.drop_zero]
    split
    · rename_i e; rw [decide_eq_true e] at h; exact h
    · rename_i e; rw [decide_eq_false e] at h; exact h
  · rename_i hab
    rw [decide_eq_false (fun e => hab (by rw [e]))] at h
    exact h
theorem same_self (a : List Int) (K0 : Bool → Prop) (hl : a.length ≤ 1000000) (h : K0 true) : R01_Same a a K0 :=
  same_spec a a K0 hl (by rw [decide_eq_true rfl]; exact h)
/-- A number divided by a power of two, to the nearest. -/
def shrV (x n : Int) : Int := if n < 0 ∨ 60 < n ∨ x < -2305843009213693952 ∨ 2305843009213693952 < x then 0 else (2 * x + 2 ^ n.toNat) / (2 * 2 ^ n.toNat)
theorem shr_zero (x : Int) : (2 * x + 2 ^ (0 : Nat)) / (2 * 2 ^ (0 : Nat)) = x := by omega
theorem pow_bounds {k : Nat} (h : k ≤ 60) : (0 : Int) < 2 ^ k ∧ (2 : Int) ^ k ≤ 1152921504606846976 := by
  have h1 : 2 ^ k ≤ 2 ^ 60 := Nat.pow_le_pow_right (n := 2) (by decide) h
  have h2 : ((2 ^ k : Nat) : Int) ≤ ((2 ^ 60 : Nat) : Int) := Int.ofNat_le.2 h1
  rw [Int.natCast_pow, Int.natCast_pow] at h2
  exact ⟨Int.pow_pos (by decide), h2⟩
theorem shr_step (x : Int) (k : Nat) : (2 * x + 2 ^ (k + 1)) / (2 * 2 ^ (k + 1)) = (x + 2 ^ k) / 2 ^ (k + 1) := by
  have e : 2 * x + 2 ^ (k + 1) = 2 * (x + 2 ^ k) := by rw [Int.pow_succ, Int.mul_add, Int.mul_comm (2 ^ k) 2]
  rw [e, Int.mul_ediv_mul_of_pos _ _ (by decide : (0 : Int) < 2)]
theorem num_within1 (x : Int) (K0 : Bool → Prop) (h : K0 (decide (-2305843009213693952 ≤ x ∧ x ≤ 2305843009213693952))) : num_within 2305843009213693952 [x] K0 := by
  rw [num_within_def]
  refine ⟨2, ?_⟩
  have e0 : isub .i64 0 2305843009213693952 = -2305843009213693952 := by decide
  have e1 : iadd .i64 0 1 = 1 := by decide
  simp only [num_within_l2, br_dec, br_and, e0, e1, List.length_cons, List.length_nil]
  rw [if_pos (by decide), if_pos (by decide), if_pos (by decide)]
  show if x < _ then _ else if _ < x then _ else _
  split
  · rw [decide_eq_false (by omega)] at h; exact h
  split
  · rw [decide_eq_false (by omega)] at h; exact h
  · rw [if_neg (by decide)]
    rw [decide_eq_true (by omega)] at h; exact h
theorem shr_spec (x n : Int) (K0 : Int → Prop) (h : K0 (shrV x n)) : num_Shr x n K0 := by
  rw [num_Shr_def]
  unfold shrV at h
  simp only [br_dec]
  split
  · rw [if_pos (by omega)] at h; exact h
  split
  · rw [if_pos (by omega)] at h; exact h
  refine num_within1 x _ ?_
  unfold num_Shr_j2
  rw [br_not, br_dec]
  split
  · rename_i h1 h2 hx
    rw [if_neg (by omega)] at h
    rw [br_dec]
    split
    · rename_i hn
      subst hn
      rw [show (0 : Int).toNat = 0 from rfl, shr_zero] at h
      exact h
    · obtain ⟨k, rfl⟩ : ∃ k : Nat, n = ((k + 1 : Nat) : Int) := ⟨(n - 1).toNat, by omega⟩
      rw [Int.toNat_natCast, shr_step] at h
      obtain ⟨hp, hp2⟩ := pow_bounds (k := k) (by omega)
      have e1 : isub .i64 ((k + 1 : Nat) : Int) 1 = (k : Int) := by rw [isub64 (by omega)]; omega
      have e2 : ishl .i64 1 (k : Int) = 2 ^ k := by rw [ishl64 (by omega) (by omega), Int.one_mul]
      unfold num_Shr_j5
      simp only [e1, br_dec, e2]
      rw [if_neg (by omega), if_neg (by omega), iadd64 (by omega), ishr64 (by omega)]
      exact h
  · rw [if_pos (by omega)] at h; exact h
theorem rmod_spec (a b : Int) (hb : 1 ≤ b) (hb2 : b ≤ 1152921504606846976) (ha : -2305843009213693952 ≤ a ∧ a ≤ 2305843009213693952) (K0 : Int → Int → Prop) (h : K0 (a / b) (a % b)) : R01_Mod a b K0 := by
  rw [R01_Mod_def]
  simp only [br_dec]
  rw [if_neg (by omega), if_neg (by omega), if_neg (by omega), iquo64 hb (by omega)]
  have hm := Int.emod_nonneg a (show b ≠ 0 by omega)
  have hm2 := Int.emod_lt_of_pos a (show 0 < b by omega)
  have e1 := Int.tdiv_eq_ediv (a := a) (b := b)
  have e2 := Int.tmod_eq_emod (a := a) (b := b)
  have hs : b.sign = 1 := Int.sign_eq_one_of_pos (by omega)
  have hr : irem .i64 a b = a.tmod b := rfl
  have hq := tdiv_range hb (a := a) (by omega)
  rw [hr]
  by_cases hc : 0 ≤ a ∨ b ∣ a
  · rw [if_pos hc] at e1 e2
    have e3 : a.tdiv b = a / b := by omega
    have e4 : a.tmod b = a % b := by omega
    rw [if_neg (by omega), e3, e4]; exact h
  · rw [if_neg hc, hs] at e1
    rw [if_neg hc] at e2
    have h1 : -2305843009213693952 ≤ a / b := Int.le_ediv_of_mul_le (by omega) (by omega)
    have h2 : a / b ≤ 0 := by
      have := Int.ediv_le_ediv (a := a) (b := 0) (c := b) (by omega) (by omega)
      rwa [Int.zero_ediv] at this
    have hb3 : ((b.natAbs : Nat) : Int) = b := by omega
    rw [hb3] at e2
    rw [if_pos (by omega), e1, e2, isub64 (by omega), iadd64 (by omega)]
    rw [show a / b + 1 - 1 = a / b by omega, show a % b - b + b = a % b by omega]
    exact h
theorem half_up (x b : Int) (hb : 0 < b) : (2 * x + b) / (2 * b) = if b ≤ 2 * (x % b) then x / b + 1 else x / b := by
  have h0 := Int.emod_nonneg x (show b ≠ 0 by omega)
  have h1 := Int.emod_lt_of_pos x hb
  have h2 := Int.emod_add_mul_ediv x b
  have e : 2 * x + b = (2 * (x % b) + b) + 2 * b * (x / b) := by
    rw [Int.mul_assoc]; omega
  rw [e, Int.add_mul_ediv_left _ _ (show 2 * b ≠ 0 by omega)]
  split
  · rw [show (2 * (x % b) + b) / (2 * b) = 1 by
      rw [show 2 * (x % b) + b = (2 * (x % b) - b) + 2 * b * 1 by omega, Int.add_mul_ediv_left _ _ (show 2 * b ≠ 0 by omega), Int.ediv_eq_zero_of_lt (by omega) (by omega)]; rfl]
    omega
  · rw [Int.ediv_eq_zero_of_lt (by omega) (by omega)]; omega
theorem rshr_spec (x n : Int) (K0 : Int → Prop) (h : K0 (shrV x n)) : R01_Shr x n K0 := by
  rw [R01_Shr_def]
  unfold shrV at h
  simp only [br_dec]
  split
  · rw [if_pos (by omega)] at h; exact h
  split
  · rw [if_pos (by omega)] at h; exact h
  split
  · rw [if_pos (by omega)] at h; exact h
  split
  · rw [if_pos (by omega)] at h; exact h
  rw [if_neg (by omega)] at h
  obtain ⟨k, rfl⟩ : ∃ k : Nat, n = (k : Int) := ⟨n.toNat, by omega⟩
  rw [Int.toNat_natCast] at h
  obtain ⟨hp, hp2⟩ := pow_bounds (k := k) (by omega)
  have e2 : ishl .i64 1 (k : Int) = 2 ^ k := by rw [ishl64 (by omega) (by omega), Int.one_mul]
  rw [half_up x _ hp] at h
  rw [e2]
  refine rmod_spec x (2 ^ k) (by omega) hp2 (by omega) _ ?_
  have hm := Int.emod_nonneg x (show (2 : Int) ^ k ≠ 0 by omega)
  have hm2 := Int.emod_lt_of_pos x hp
  have h1 : -2305843009213693952 ≤ x / 2 ^ k := Int.le_ediv_of_mul_le (by omega) (by omega)
  have h2 : x / 2 ^ k ≤ 2305843009213693952 := Int.ediv_le_of_le_mul hp (by omega)
  rw [imul64 (by omega), iadd64 (by omega)]
  split
  · rename_i hc; rw [if_pos hc] at h; exact h
  · rename_i hc; rw [if_neg hc] at h; exact h
def qt : List Int := [16777216, 16775953, 16772163, 16765847, 16757007, 16745643, 16731757, 16715352, 16696429, 16674992, 16651044, 16624588, 16595628, 16564169, 16530216, 16493773, 16454846, 16413442, 16369565, 16323224, 16274424, 16223173, 16169479, 16113350, 16054795, 15993821, 15930439, 15864658, 15796488, 15725939, 15653022, 15577747, 15500126, 15420172, 15337895, 15253308, 15166424, 15077256, 14985817, 14892122, 14796184, 14698017, 14597637, 14495059, 14390298, 14283370, 14174291, 14063077, 13949745, 13834313, 13716797, 13597215, 13475586, 13351928, 13226258, 13098597, 12968963, 12837376, 12703856, 12568423, 12431097, 12291899, 12150850, 12007971, 11863283, 11716809, 11568571, 11418590, 11266890, 11113493, 10958422, 10801701, 10643353, 10483403, 10321873, 10158790, 9994176, 9828057, 9660458, 9491405, 9320922, 9149035, 8975771, 8801154, 8625213, 8447972, 8269459, 8089701, 7908725, 7726557, 7543226, 7358759, 7173184, 6986529, 6798821, 6610090, 6420363, 6229669, 6038037, 5845495, 5652074, 5457801, 5262706, 5066819, 4870169, 4672785, 4474698, 4275936, 4076531, 3876512, 3675909, 3474752, 3273072, 3070900, 2868265, 2665197, 2461729, 2257890, 2053710, 1849222, 1644455, 1439440, 1234209, 1028791, 823219, 617523, 411733, 205882, 0]
/-- The cosine of m parts of 512. -/
def cosQ (m : Nat) : Int := if 128 < m then -(qt.getD (256 - m) 0) else qt.getD m 0
def cosM (m : Nat) : Int := if 256 < m then cosQ (512 - m) else cosQ m
def cosT : List Int := tab 512 cosM
theorem qt_bound : ∀ j, j < 129 → -16777216 ≤ qt.getD j 0 ∧ qt.getD j 0 ≤ 16777216 := by decide +kernel
theorem gset (l : List Int) (i j : Nat) (a : Int) (hi : i < l.length) : (l.set i a).getD j 0 = if i = j then a else l.getD j 0 := by
  simp only [List.getD_eq_getElem?_getD, List.getElem?_set]
  split
  · rename_i e; subst e; simp [hi]
  · rfl
theorem qt128 : qt.getD 128 0 = 0 := by decide
theorem make_l3 (K0 : List Int → Prop) (h : K0 cosT) : ∀ (n v : Nat) (m : List Int), v + n = 129 → m.length = 512 →
    (∀ j, j < 512 → (∃ k, k < v ∧ (j = k ∨ j = 256 - k ∨ j = (256 + k) % 512 ∨ j = (512 - k) % 512)) → m.getD j 0 = cosM j) → ∃ q, trig_Make_l3 q v m qt K0 := by
  intro n
  induction n with
  | zero =>
    intro v m hv hm hj
    refine ⟨1, ?_⟩
    simp only [trig_Make_l3, br_dec]
    rw [if_neg (by omega)]
    have : m = cosT := by
      rw [eq_tab 0 hm]
      unfold cosT tab
      apply List.map_congr_left
      intro j hj'
      rw [List.mem_range] at hj'
      refine hj j hj' ?_
      by_cases h1 : j ≤ 128
      · exact ⟨j, by omega, .inl rfl⟩
      · by_cases h2 : j ≤ 256
        · exact ⟨256 - j, by omega, .inr (.inl (by omega))⟩
        · by_cases h3 : j ≤ 384
          · exact ⟨j - 256, by omega, .inr (.inr (.inl (by omega)))⟩
          · exact ⟨512 - j, by omega, .inr (.inr (.inr (by omega)))⟩
    rw [this]; exact h
  | succ n ih =>
    intro v m hv hm hj
    have hq : qt.length = 129 := rfl
    have hb := qt_bound v (by omega)
    have e1 : isub .i64 256 (v : Int) = ((256 - v : Nat) : Int) := by rw [isub64 (by omega)]; omega
    have e2 : irem .i64 (iadd .i64 256 (v : Int)) 512 = (((256 + v) % 512 : Nat) : Int) := by
      rw [iadd64 (by omega)]
      show ((256 + (v : Int)).tmod 512) = _
      rw [Int.tmod_eq_emod_of_nonneg (by omega)]; omega
    have e3 : irem .i64 (isub .i64 512 (v : Int)) 512 = (((512 - v) % 512 : Nat) : Int) := by
      rw [isub64 (by omega)]
      show ((512 - (v : Int)).tmod 512) = _
      rw [Int.tmod_eq_emod_of_nonneg (by omega)]; omega
    have e4 : iadd .i64 (v : Int) 1 = ((v + 1 : Nat) : Int) := by rw [iadd64 (by omega)]; omega
    have e5 : isub .i64 0 (qt.getD v 0) = -(qt.getD v 0) := by rw [isub64 (by omega)]; omega
    obtain ⟨q, hq'⟩ := ih (v + 1) ((((m.set v (qt.getD v 0)).set (256 - v) (-(qt.getD v 0))).set ((256 + v) % 512) (-(qt.getD v 0))).set ((512 - v) % 512) (qt.getD v 0)) (by omega) (by simp [hm]) (by
      intro j hj' ⟨k, hk, hjk⟩
      have hz : v = 128 → qt.getD v 0 = 0 := fun e => by rw [e]; exact qt128
      rw [gset _ _ _ _ (by simp [hm]; omega), gset _ _ _ _ (by simp [hm]; omega), gset _ _ _ _ (by simp [hm]; omega), gset _ _ _ _ (by rw [hm]; omega)]
      unfold cosM cosQ at *
      split
      · rename_i e
        by_cases h0 : v = 0
        · rw [if_neg (by omega), if_neg (by omega), show j = v by omega]
        · rw [if_pos (by omega), if_neg (by omega), show 512 - j = v by omega]
      split
      · rename_i e
        by_cases h0 : v = 0
        · rw [if_neg (by omega), if_pos (by omega), show 256 - j = v by omega]
        · rw [if_pos (by omega)]
          by_cases h1 : v = 128
          · rw [if_neg (by omega), show 512 - j = v by omega, hz h1]; rfl
          · rw [if_pos (by omega), show 256 - (512 - j) = v by omega]
      split
      · rename_i e
        rw [if_neg (by omega)]
        by_cases h1 : v = 128
        · rw [if_neg (by omega), show j = v by omega, hz h1]; rfl
        · rw [if_pos (by omega), show 256 - j = v by omega]
      split
      · rename_i e
        rw [if_neg (by omega), if_neg (by omega), e]
      · refine hj j hj' ⟨k, ?_, hjk⟩
        apply Classical.byContradiction
        intro hkv
        have : k = v := by omega
        subst this
        omega)
    refine ⟨q + 1, ?_⟩
    simp only [trig_Make_l3, br_dec, br_and, e1, e2, e3, e4, e5, Int.toNat_natCast, List.length_set]
    rw [if_pos (by omega), if_pos (by omega), if_pos (by omega), if_pos (by omega), if_pos (by omega), if_pos (by omega), if_pos (by omega), if_pos (by omega), if_pos (by omega), if_pos (by omega), if_pos (by omega), if_pos (by omega), if_pos (by omega), if_pos (by omega), if_pos (by omega), if_pos (by omega), if_pos (by omega), if_pos (by omega), if_pos (by omega), if_pos (by omega), if_pos (by omega), if_pos (by omega), if_pos (by omega), if_pos (by omega), if_pos (by omega)]
    exact hq'
theorem make_spec (K0 : List Int → Prop) (h : K0 cosT) : trig_Make K0 := by
  rw [trig_Make_def]; rw [trig_first_def]
  exact make_l3 K0 h 129 0 _ rfl (by simp) (fun j _ ⟨k, hk, _⟩ => by omega)
theorem iand511 (k : Int) : iand .i64 k 511 = k % 512 := by
  unfold iand
  have e1 : (BitVec.ofInt IntKind.i64.bits 511).toNat = 511 := by decide
  rw [BitVec.toNat_and, e1, show (511 : Nat) = 2 ^ 9 - 1 from rfl, Nat.and_two_pow_sub_one_eq_mod, BitVec.toNat_ofInt]
  have e2 : (((2 ^ IntKind.i64.bits : Nat) : Int)) = 18446744073709551616 := by decide
  rw [e2]
  have h1 := Int.emod_nonneg k (show (18446744073709551616 : Int) ≠ 0 by decide)
  rw [Go.IntWalk.i64_in _ (by omega)]
  omega
def cosV (k : Int) : Int := if k < -1152921504606846976 ∨ 1152921504606846976 < k then 0 else cosM (k % 512).toNat
def sinV (k : Int) : Int := if k < -1152921504606846976 ∨ 1152921504606846976 < k then 0 else cosV (k % 512 - 128)
theorem cosT_get (m : Nat) (h : m < 512) : cosT.getD m 0 = cosM m := by
  simp [cosT, tab, List.getD, List.getElem?_map, List.getElem?_range h]
theorem cos_spec (k : Int) (K0 : Int → Prop) (h : K0 (cosV k)) : trig_Table__Cos cosT k K0 := by
  rw [trig_Table__Cos_def]
  unfold cosV at h
  simp only [br_dec, br_and, iand511]
  split
  · rw [if_pos (by omega)] at h; exact h
  split
  · rw [if_pos (by omega)] at h; exact h
  rw [if_neg (by omega)] at h
  rw [if_pos (by omega), if_pos (by omega), cosT_get _ (by omega)]
  exact h
theorem cosM_bound (m : Nat) (h : m < 512) : -16777216 ≤ cosM m ∧ cosM m ≤ 16777216 := by
  unfold cosM cosQ
  split
  · split
    · have := qt_bound (256 - (512 - m)) (by omega); omega
    · exact qt_bound (512 - m) (by omega)
  · split
    · have := qt_bound (256 - m) (by omega); omega
    · exact qt_bound m (by omega)
theorem cosV_bound (k : Int) : -16777216 ≤ cosV k ∧ cosV k ≤ 16777216 := by
  unfold cosV
  split
  · omega
  · exact cosM_bound _ (by omega)
theorem rmake_l4 (K0 : List Int → Prop) (h : K0 cosT) : ∀ (n k : Nat), k + n = 512 → ∃ q, R07_Make_l4 q k qt (cosT.take k) K0 := by
  have hq : qt.length = 129 := rfl
  have hl : cosT.length = 512 := by simp [cosT, tab]
  intro n
  induction n with
  | zero =>
    intro k hk
    refine ⟨1, ?_⟩
    simp only [R07_Make_l4, br_dec]
    rw [if_neg (by omega), List.take_of_length_le (by omega)]
    exact h
  | succ n ih =>
    intro k hk
    obtain ⟨q, hq'⟩ := ih (k + 1) (by omega)
    have hel : cosT[k]'(by omega) = cosM k := by simp [cosT, tab]
    rw [List.take_succ_eq_append_getElem (by omega), hel] at hq'
    have e6 : iadd .i64 (k : Int) 1 = ((k + 1 : Nat) : Int) := by rw [iadd64 (by omega)]; omega
    have e1 : imin (k : Int) (isub .i64 512 (k : Int)) = ((min k (512 - k) : Nat) : Int) := by rw [isub64 (by omega), imin_eq']; omega
    have e2 : cosM k = cosQ (min k (512 - k)) := by
      unfold cosM
      split
      · rw [show min k (512 - k) = 512 - k by omega]
      · rw [show min k (512 - k) = k by omega]
    rw [e2] at hq'
    have hcap : ∀ z : List Int, z.length = 1 → ((List.take k cosT).length + z.length) * 8 ≤ 140737488355328 := by
      intro z hz; rw [List.length_take, hz]; omega
    generalize hm : min k (512 - k) = m at *
    have hm2 : m ≤ 256 := by omega
    refine ⟨q + 1, ?_⟩
    unfold cosQ at hq'
    simp only [R07_Make_l4, br_dec, br_and, e1, e6, Int.toNat_natCast]
    rw [if_pos (by omega)]
    split
    · rw [if_pos (by omega)] at hq'
      have e3 : isub .i64 256 (m : Int) = ((256 - m : Nat) : Int) := by rw [isub64 (by omega)]; omega
      have hb := qt_bound (256 - m) (by omega)
      rw [e3, Int.toNat_natCast, if_pos (by omega), if_pos (by omega), if_pos (by omega), if_pos (hcap _ rfl), isub64 (by omega), Int.zero_sub]
      exact hq'
    · rw [if_neg (by omega)] at hq'
      rw [if_pos (by omega), if_pos (by omega), if_pos (by omega), if_pos (hcap _ rfl)]
      exact hq'
theorem rmake_spec (K0 : List Int → Prop) (h : K0 cosT) : R07_Make K0 := by
  rw [R07_Make_def]; rw [R07_quarter_def]
  exact rmake_l4 K0 h 512 0 rfl
/-- The sum of the first n. -/
def sm (f : Nat → Int) : Nat → Int
  | 0 => 0
  | n + 1 => sm f n + f n
/-- The cosine of the i-th angle of wave k, of n. -/
def cg (n k i : Nat) : Int := cosM (64 / n * (2 * k + 1) * (2 * i + 1) % 512)
def dsum (u : List Int) (k : Nat) : Int := sm (fun i => u.getD i 0 * cg u.length k i) u.length
def fourV (u : List Int) (s : Int) : List Int := tab u.length fun k => shrV (dsum u k) s
abbrev sized (u : List Int) : Prop := u.length = 64 ∨ u.length = 8
def rightB (w : Int) (u : List Int) : Bool := decide (sized u) && u.all (inB (-w) w)

theorem cg_bound (n k i : Nat) : -16777216 ≤ cg n k i ∧ cg n k i ≤ 16777216 := cosM_bound _ (Nat.mod_lt _ (by decide))
theorem mul25 (a c : Int) (ha : -33554432 ≤ a ∧ a ≤ 33554432) (hc : -16777216 ≤ c ∧ c ≤ 16777216) : -562949953421312 ≤ a * c ∧ a * c ≤ 562949953421312 := by
  have h3 : (a * c).natAbs ≤ 33554432 * 16777216 := by rw [Int.natAbs_mul]; exact Nat.mul_le_mul (by omega) (by omega)
  omega
theorem sm_bound {f : Nat → Int} {B : Int} : ∀ n, (∀ i, i < n → -B ≤ f i ∧ f i ≤ B) → -(n * B) ≤ sm f n ∧ sm f n ≤ n * B
  | 0, _ => by simp [sm]
  | n + 1, h => by
    have h1 := sm_bound n fun i hi => h i (by omega)
    have h2 := h n (by omega)
    simp only [sm]
    have e : ((n + 1 : Nat) : Int) * B = n * B + B := by rw [Int.natCast_add, Int.add_mul]; simp
    rw [e]; omega
theorem right_at {w : Int} {u : List Int} (h : rightB w u = true) {i : Nat} (hi : i < u.length) : -w ≤ u.getD i 0 ∧ u.getD i 0 ≤ w := by
  simp only [rightB, Bool.and_eq_true] at h
  have := all_getD h.2 hi
  simpa [inB] using this
theorem right_sz {w : Int} {u : List Int} (h : rightB w u = true) : sized u := by
  simp only [rightB, Bool.and_eq_true] at h
  exact of_decide_eq_true h.1
theorem psum_bound {u : List Int} (h : rightB 33554432 u = true) (k n : Nat) (hn : n ≤ u.length) : -36028797018963968 ≤ sm (fun i => u.getD i 0 * cg u.length k i) n ∧ sm (fun i => u.getD i 0 * cg u.length k i) n ≤ 36028797018963968 := by
  have h1 := sm_bound (f := fun i => u.getD i 0 * cg u.length k i) n fun i hi => mul25 _ _ (right_at h (by omega)) (cg_bound _ _ _)
  have hs := right_sz h
  unfold sized at hs
  have h2 : ((n : Nat) : Int) * 562949953421312 ≤ 64 * 562949953421312 := by omega
  omega

/-! ### Angles -/
theorem iquo_n {u : List Int} (h : sized u) : iquo .i64 64 (u.length : Int) = ((64 / u.length : Nat) : Int) := by
  rcases h with h | h <;> rw [h] <;> decide
theorem step_bound {u : List Int} (h : sized u) {k : Nat} (hk : k < u.length) : 64 / u.length * (2 * k + 1) ≤ 128 := by
  rcases h with h | h <;> rw [h] at hk ⊢ <;> omega
theorem at_bound {u : List Int} (h : sized u) {k i : Nat} (hk : k < u.length) (hi : i ≤ u.length) : 64 / u.length * (2 * k + 1) * (2 * i + 1) ≤ 16512 := by
  have h1 := step_bound h hk
  have h2 : 2 * i + 1 ≤ 129 := by rcases h with h | h <;> omega
  exact Nat.mul_le_mul h1 h2
theorem step_eq {u : List Int} (h : sized u) {k : Nat} (hk : k < u.length) : imul .i64 (iquo .i64 64 (u.length : Int)) (iadd .i64 (imul .i64 2 (k : Int)) 1) = ((64 / u.length * (2 * k + 1) : Nat) : Int) := by
  have hk' : k < 64 := by rcases h with h | h <;> omega
  rw [iquo_n h, imul64 (a := 2) (by omega), iadd64 (by omega)]
  have e : (((64 / u.length : Nat) : Int) * (2 * (k : Int) + 1)) = ((64 / u.length * (2 * k + 1) : Nat) : Int) := by
    rw [Int.natCast_mul]; congr 1
  have := step_bound h hk
  rw [imul64 (by rw [e]; omega), e]

/-- A range over the angles. -/
theorem angles_l3 {S : Type} (rd : (Int × Int × Unit) → S → (Bool → S → Prop) → Prop) (u : List Int) (hs : sized u) (k : Nat) (hk : k < u.length) (f : Nat → S) (K0 : S → Prop)
    (hrd : ∀ i, i < u.length → ∀ Kb : Bool → S → Prop, Kb true (f (i + 1)) → rd (u.getD i 0, ((64 / u.length * (2 * k + 1) * (2 * i + 1) : Nat) : Int), ()) (f i) Kb) (h : K0 (f u.length)) :
    ∀ n i, i + n = u.length → ∃ q, It_dct_angles_1_l3 S rd q ((64 / u.length * (2 * k + 1) : Nat) : Int) ((64 / u.length * (2 * k + 1) * (2 * i + 1) : Nat) : Int) u (u.length : Int) (i : Int) (f i) K0 K0 := by
  intro n
  have hl : u.length ≤ 64 := by rcases hs with hs | hs <;> omega
  induction n with
  | zero =>
    intro i hi
    refine ⟨1, ?_⟩
    simp only [It_dct_angles_1_l3, br_dec]
    rw [if_neg (by omega), show i = u.length by omega]
    exact h
  | succ n ih =>
    intro i hi
    obtain ⟨q, hq⟩ := ih (i + 1) (by omega)
    refine ⟨q + 1, ?_⟩
    have h1 := step_bound hs hk
    have h2 := at_bound hs hk (i := i) (by omega)
    simp only [It_dct_angles_1_l3, br_dec, br_and, Int.toNat_natCast]
    rw [if_pos (by omega), if_pos (by omega), if_pos (by omega)]
    refine hrd i (by omega) _ ?_
    show It_dct_angles_1_l3 S rd q _ _ u _ _ _ K0 K0
    rw [imul64 (a := 2) (by omega), iadd64 (by omega), i64_succ i (by omega)]
    have e : (((64 / u.length * (2 * k + 1) * (2 * i + 1) : Nat) : Int) + 2 * ((64 / u.length * (2 * k + 1) : Nat) : Int)) = ((64 / u.length * (2 * k + 1) * (2 * (i + 1) + 1) : Nat) : Int) := by
      generalize 64 / u.length * (2 * k + 1) = P
      have e2 : P * (2 * (i + 1) + 1) = P * (2 * i + 1) + 2 * P := by rw [show 2 * (i + 1) + 1 = (2 * i + 1) + 2 by omega, Nat.mul_add]; omega
      rw [e2, Int.natCast_add]
      generalize P * (2 * i + 1) = Q
      omega
    rw [e]
    exact hq
theorem angles_spec {S : Type} (rd : (Int × Int × Unit) → S → (Bool → S → Prop) → Prop) (u : List Int) (hs : sized u) (k : Nat) (hk : k < u.length) (f : Nat → S) (K0 : S → Prop)
    (hrd : ∀ i, i < u.length → ∀ Kb : Bool → S → Prop, Kb true (f (i + 1)) → rd (u.getD i 0, ((64 / u.length * (2 * k + 1) * (2 * i + 1) : Nat) : Int), ()) (f i) Kb) (h : K0 (f u.length)) :
    It_dct_angles_1 u (k : Int) S rd (f 0) K0 := by
  rw [It_dct_angles_1_def, br_dec, if_neg (by rcases hs with hs | hs <;> omega)]
  show ∃ q, It_dct_angles_1_l3 S rd q _ _ u _ 0 (f 0) K0 K0
  rw [step_eq hs hk]
  have := angles_l3 rd u hs k hk f K0 hrd h u.length 0 (by omega)
  simpa using this

theorem cosV_at {u : List Int} (hs : sized u) {k i : Nat} (hk : k < u.length) (hi : i < u.length) : cosV ((64 / u.length * (2 * k + 1) * (2 * i + 1) : Nat) : Int) = cg u.length k i := by
  have h2 := at_bound hs hk (i := i) (by omega)
  unfold cosV cg
  rw [if_neg (by omega)]
  congr 1

theorem shifted_r7 {u : List Int} (hr : rightB 33554432 u = true) {k : Nat} (hk : k < u.length) (by_ v6 v7 : Int) (m5 : List Int) (K0 : List Int → Int → Int → Int → Int → List Int → List Int → Int → Prop)
    (h : K0 u by_ (k : Int) v6 v7 cosT m5 (dsum u k)) : dct_shifted_r7 u (k : Int) u by_ (k : Int) v6 v7 cosT m5 0 K0 := by
  have hs := right_sz hr
  unfold dct_shifted_r7
  refine angles_spec _ u hs k hk (fun i => (Rs.go ((u, by_, (k : Int), v6, v7, ()), (cosT, m5, sm (fun i => u.getD i 0 * cg u.length k i) i, ())) : Rs (((List Int) × Int × Int × Int × Int × Unit) × ((List Int) × (List Int) × Int × Unit)) Empty)) _ (fun i hi Kb hKb => ?_) ?_
  rotate_left
  · exact h
  simp only [Rs.on, dct_shifted_r7b]
  refine cos_spec _ _ ?_
  rw [cosV_at hs hk hi]
  have h1 := mul25 _ _ (right_at hr hi) (cg_bound u.length k i)
  have h2 := psum_bound hr k i (by omega)
  rw [imul64 (by omega), iadd64 (by omega)]
  exact hKb

theorem shifted_l3 {u : List Int} (hr : rightB 33554432 u = true) (by_ : Int) (K0 : List Int → Prop) (h : K0 (fourV u by_)) : ∀ n k, k + n = u.length →
    ∃ q, dct_shifted_l3 q u by_ (u.length : Int) (k : Int) cosT (fillT u.length k 0 fun k => shrV (dsum u k) by_) K0 := by
  intro n
  have hl : u.length ≤ 64 := by rcases right_sz hr with hs | hs <;> omega
  induction n with
  | zero =>
    intro k hk
    refine ⟨1, ?_⟩
    simp only [dct_shifted_l3, br_dec]
    rw [if_neg (by omega), show k = u.length by omega, fillT_full]
    exact h
  | succ n ih =>
    intro k hk
    obtain ⟨q, hq⟩ := ih (k + 1) (by omega)
    refine ⟨q + 1, ?_⟩
    simp only [dct_shifted_l3, br_dec, br_and, Int.toNat_natCast]
    rw [if_pos (by omega), dct_angles_def]
    refine shifted_r7 hr (by omega) _ _ _ _ _ (shr_spec _ _ _ ?_)
    rw [Int.toNat_natCast, fillT_length, if_pos (by omega), if_pos (by omega), if_pos (by omega), fillT_set, i64_succ k (by omega)]
    exact hq
theorem shifted_spec {u : List Int} (hr : rightB 33554432 u = true) (by_ : Int) (K0 : List Int → Prop) (h : K0 (fourV u by_)) : dct_shifted cosT u by_ K0 := by
  have hl : u.length ≤ 64 := by rcases right_sz hr with hs | hs <;> omega
  rw [dct_shifted_def]
  simp only [br_dec, br_and, Int.toNat_natCast, List.length_replicate]
  rw [if_pos (by omega), if_pos (by omega), if_pos (by omega)]
  have := shifted_l3 hr by_ K0 h u.length 0 (by omega)
  rw [fillT_zero] at this
  exact this

/-! ### What is a block -/
theorem right_l4 (w : Int) (hw : 0 ≤ w ∧ w ≤ 1000000000) (u : List Int) (hl : u.length ≤ 64) (K0 : Bool → Prop) (K1 : Prop) : ∀ n i, i + n = u.length → (if (u.drop i).all (inB (-w) w) then K1 else K0 false) →
    ∃ q, dct_right_l4 q w u (u.length : Int) (i : Int) K0 K1 := by
  intro n
  induction n with
  | zero =>
    intro i hi h
    refine ⟨1, ?_⟩
    simp only [dct_right_l4, br_dec]
    rw [if_neg (by omega)]
    rw [List.drop_eq_nil_of_le (by omega)] at h
    simpa using h
  | succ n ih =>
    intro i hi h
    rw [drop_cons (0 : Int) (show i < u.length by omega), List.all_cons] at h
    by_cases hx : inB (-w) w (u.getD i 0) = true
    · rw [hx, Bool.true_and] at h
      obtain ⟨q, hq⟩ := ih (i + 1) (by omega) h
      refine ⟨q + 1, ?_⟩
      have hx' : -w ≤ u.getD i 0 ∧ u.getD i 0 ≤ w := by simpa [inB] using hx
      simp only [dct_right_l4, br_dec, br_and, Int.toNat_natCast]
      rw [if_pos (by omega), if_pos (by omega), if_pos (by omega), isub64 (by omega), if_neg (by omega), if_neg (by omega), i64_succ i (by omega)]
      exact hq
    · refine ⟨1, ?_⟩
      have hx' : ¬ (-w ≤ u.getD i 0 ∧ u.getD i 0 ≤ w) := by simpa [inB] using hx
      rw [Bool.eq_false_iff.2 hx, Bool.false_and] at h
      simp only [dct_right_l4, br_dec, br_and, Int.toNat_natCast]
      rw [if_pos (by omega), if_pos (by omega), if_pos (by omega), isub64 (by omega)]
      by_cases h1 : u.getD i 0 < 0 - w
      · rw [if_pos h1]; simpa using h
      · rw [if_neg h1, if_pos (by omega)]; simpa using h
theorem right_j3 (w : Int) (hw : 0 ≤ w ∧ w ≤ 1000000000) (u : List Int) (hs : sized u) (K0 : Bool → Prop) (h : K0 (rightB w u)) : dct_right_j3 u w K0 := by
  unfold dct_right_j3
  have hl : u.length ≤ 64 := by rcases hs with hs | hs <;> omega
  have e : rightB w u = u.all (inB (-w) w) := by simp [rightB, hs]
  rw [e] at h
  refine right_l4 w hw u hl K0 _ u.length 0 (by omega) ?_
  rw [List.drop_zero]
  split
  · rename_i e; rw [e] at h; exact h
  · rename_i e; rw [Bool.eq_false_iff.2 e] at h; exact h
theorem right_spec (w : Int) (hw : 0 ≤ w ∧ w ≤ 1000000000) (u : List Int) (K0 : Bool → Prop) (h : K0 (rightB w u)) : dct_right u w K0 := by
  rw [dct_right_def]
  simp only [br_not, br_dec]
  split
  · rename_i h64
    exact right_j3 w hw u (.inl (by omega)) K0 h
  · rename_i h64
    split
    · rename_i h8
      exact right_j3 w hw u (.inr (by omega)) K0 h
    · rename_i h8
      have : rightB w u = false := by
        have : ¬ sized u := by unfold sized; omega
        simp [rightB, this]
      rw [this] at h; exact h
theorem rright_spec (w : Int) (hw : 0 ≤ w ∧ w ≤ 1000000000) (u : List Int) (hl : u.length ≤ 1000000) (K0 : Bool → Prop) (h : K0 (rightB w u)) : R10_Right u w K0 := by
  rw [R10_Right_def]
  simp only [br_dec]
  have e : isub .i64 0 w = -w := by rw [isub64 (by omega)]; omega
  rw [e]
  split
  · rename_i h8
    have : rightB w u = u.all (inB (-w) w) := by simp [rightB, show sized u from .inr (by omega)]
    rw [this] at h
    exact within_spec _ _ _ _ hl h
  · rename_i h8
    split
    · rename_i h64
      have : rightB w u = u.all (inB (-w) w) := by simp [rightB, show sized u from .inl (by omega)]
      rw [this] at h
      exact within_spec _ _ _ _ hl h
    · rename_i h64
      have : rightB w u = false := by
        have : ¬ sized u := by unfold sized; omega
        simp [rightB, this]
      rw [this] at h; exact h

theorem four_spec (u : List Int) (K0 : Prop) (K1 : List Int → Prop) (h : if rightB 33554432 u = true then K1 (fourV u 24) else K0) : dct_Four cosT u K0 K1 := by
  rw [dct_Four_def]
  refine right_spec _ (by omega) u _ ?_
  split at h
  · rename_i hr
    rw [hr]
    exact shifted_spec hr 24 K1 h
  · rename_i hr
    rw [Bool.eq_false_iff.2 hr]
    exact h
def backBy (u : List Int) : Int := if u.length = 8 then 26 else 29
theorem back_spec (u : List Int) (K0 : Prop) (K1 : List Int → Prop) (h : if rightB 33554432 u = true then K1 (fourV u (backBy u)) else K0) : dct_Back cosT u K0 K1 := by
  rw [dct_Back_def]
  refine right_spec _ (by omega) u _ ?_
  split at h
  · rename_i hr
    rw [hr]
    show Br _ _ _
    rw [br_dec]
    unfold backBy at h
    split
    · rename_i h8
      rw [if_pos (by omega)] at h
      exact shifted_spec hr 26 K1 h
    · rename_i h8
      rw [if_neg (by omega)] at h
      exact shifted_spec hr 29 K1 h
  · rename_i hr
    rw [Bool.eq_false_iff.2 hr]
    exact h
theorem rang_eq {u : List Int} (h : sized u) {k i : Nat} (hk : k < u.length) (hi : i < u.length) :
    irem .i64 (imul .i64 (imul .i64 ((64 / u.length : Nat) : Int) (iadd .i64 (imul .i64 2 (i : Int)) 1)) (iadd .i64 (imul .i64 2 (k : Int)) 1)) 512 = ((64 / u.length * (2 * k + 1) * (2 * i + 1) % 512 : Nat) : Int) := by
  have hk' : k < 64 := by rcases h with h | h <;> omega
  have h1 := step_eq h hi
  rw [iquo_n h] at h1
  have h2 := at_bound h hi (i := k) (by omega)
  rw [h1, imul64 (a := 2) (by omega), iadd64 (by omega)]
  have e : (((64 / u.length * (2 * i + 1) : Nat) : Int) * (2 * (k : Int) + 1)) = ((64 / u.length * (2 * i + 1) * (2 * k + 1) : Nat) : Int) := by
    rw [Int.natCast_mul (64 / u.length * (2 * i + 1))]; congr 1
  rw [imul64 (by rw [e]; omega), e]
  unfold irem
  rw [Int.tmod_eq_emod_of_nonneg (by omega), Nat.mul_right_comm]
  rfl
theorem rsum_l4 {u : List Int} (hr : rightB 33554432 u = true) {k : Nat} (hk : k < u.length) (K0 : Int → Prop) (h : K0 (dsum u k)) : ∀ n i, i + n = u.length →
    ∃ q, R10_sum_l4 q cosT u (k : Int) (sm (fun i => u.getD i 0 * cg u.length k i) i) ((64 / u.length : Nat) : Int) (i : Int) K0 := by
  intro n
  have hs := right_sz hr
  have hl : u.length ≤ 64 := by rcases hs with hs | hs <;> omega
  induction n with
  | zero =>
    intro i hi
    refine ⟨1, ?_⟩
    simp only [R10_sum_l4, br_dec]
    rw [if_neg (by omega), show i = u.length by omega]
    exact h
  | succ n ih =>
    intro i hi
    obtain ⟨q, hq⟩ := ih (i + 1) (by omega)
    refine ⟨q + 1, ?_⟩
    have hc : cosT.length = 512 := tab_length _ _
    have h1 := mul25 _ _ (right_at hr (show i < u.length by omega)) (cg_bound u.length k i)
    have h2 := psum_bound hr k i (by omega)
    have h3 : 64 / u.length * (2 * k + 1) * (2 * i + 1) % 512 < 512 := Nat.mod_lt _ (by decide)
    have e : cosT.getD (64 / u.length * (2 * k + 1) * (2 * i + 1) % 512) 0 = cg u.length k i := cosT_get _ h3
    simp only [R10_sum_l4, br_dec, br_and, rang_eq hs hk (show i < u.length by omega), Int.toNat_natCast, hc, e]
    rw [if_pos (by omega), if_pos (by omega), if_pos (by omega), if_pos (by omega), if_pos (by omega), imul64 (by omega), iadd64 (by omega), i64_succ i (by omega)]
    exact hq
theorem rsum_spec {u : List Int} (hr : rightB 33554432 u = true) {k : Nat} (hk : k < u.length) (K0 : Int → Prop) (h : K0 (dsum u k)) : R10_sum cosT u (k : Int) K0 := by
  have hs := right_sz hr
  rw [R10_sum_def, br_dec, if_neg (by omega), iquo_n hs]
  exact rsum_l4 hr hk K0 h u.length 0 (by omega)
theorem rsums_l4 {u : List Int} (hr : rightB 33554432 u = true) (K0 : List Int → Prop) (h : K0 (tab u.length fun k => dsum u k)) : ∀ n k, k + n = u.length →
    ∃ q, R10_Sums_l4 q u (k : Int) cosT (tab k fun k => dsum u k) K0 := by
  intro n
  have hl : u.length ≤ 64 := by rcases right_sz hr with hs | hs <;> omega
  induction n with
  | zero =>
    intro k hk
    refine ⟨1, ?_⟩
    simp only [R10_Sums_l4, br_dec]
    rw [if_neg (by omega), show k = u.length by omega]
    exact h
  | succ n ih =>
    intro k hk
    obtain ⟨q, hq⟩ := ih (k + 1) (by omega)
    refine ⟨q + 1, ?_⟩
    simp only [R10_Sums_l4, br_dec]
    rw [if_pos (by omega)]
    refine rsum_spec hr (by omega) _ ?_
    rw [if_pos (by rw [tab_length]; simp; omega), tab_snoc k (fun k => dsum u k), i64_succ k (by omega)]
    exact hq
theorem rsums_spec {u : List Int} (hr : rightB 33554432 u = true) (K0 : List Int → Prop) (h : K0 (tab u.length fun k => dsum u k)) : R10_Sums u K0 := by
  rw [R10_Sums_def]
  exact rmake_spec _ (rsums_l4 hr K0 h u.length 0 (by omega))
theorem rback_l9 (f : Nat → Int) (n : Nat) (hn : n ≤ 64) (by_ : Int) (K0 : List Int → Prop) (h : K0 (tab n fun k => shrV (f k) by_)) : ∀ m k, k + m = n →
    ∃ q, R10_Back_l9 q by_ (k : Int) (tab n f) (tab k fun k => shrV (f k) by_) K0 := by
  intro m
  induction m with
  | zero =>
    intro k hk
    refine ⟨1, ?_⟩
    simp only [R10_Back_l9, br_dec, tab_length]
    rw [if_neg (by omega), show k = n by omega]
    exact h
  | succ m ih =>
    intro k hk
    obtain ⟨q, hq⟩ := ih (k + 1) (by omega)
    refine ⟨q + 1, ?_⟩
    simp only [R10_Back_l9, br_dec, br_and, tab_length, Int.toNat_natCast]
    rw [if_pos (by omega), if_pos (by omega), if_pos (by omega), if_pos (by omega), tab_get n f 0 (by omega)]
    refine rshr_spec _ _ _ ?_
    rw [if_pos (by simp; omega), tab_snoc k (fun k => shrV (f k) by_), i64_succ k (by omega)]
    exact hq
theorem rback_j6 {u : List Int} (hr : rightB 33554432 u = true) (by_ : Int) (K0 : List Int → Prop) (h : K0 (fourV u by_)) : R10_Back_j6 u by_ K0 := by
  have hl : u.length ≤ 64 := by rcases right_sz hr with hs | hs <;> omega
  unfold R10_Back_j6
  exact rsums_spec hr _ (rback_l9 _ u.length hl by_ K0 h u.length 0 (by omega))
theorem rback_spec (u : List Int) (hl : u.length ≤ 1000000) (K0 : Prop) (K1 : List Int → Prop) (h : if rightB 33554432 u = true then K1 (fourV u (backBy u)) else K0) : R10_Back u K0 K1 := by
  rw [R10_Back_def]
  refine rright_spec _ (by omega) u hl _ ?_
  rw [br_not]
  split at h
  · rename_i hr
    rw [hr]
    show Br _ _ _
    rw [br_dec]
    unfold backBy at h
    split
    · rename_i h8
      rw [if_pos (by omega)] at h
      exact rback_j6 hr 26 K1 h
    · rename_i h8
      rw [if_neg (by omega)] at h
      exact rback_j6 hr 29 K1 h
  · rename_i hr
    rw [Bool.eq_false_iff.2 hr]
    exact h

theorem fourV_length (u : List Int) (s : Int) : (fourV u s).length = u.length := tab_length _ _
theorem awake_spec (K : Bool → Prop) (h : K true) : L10_awake K := by
  rw [L10_awake_def]
  refine make_spec _ (four_spec _ _ _ ?_)
  rw [if_pos (by decide +kernel)]
  unfold L10_awake_j3
  refine back_spec _ _ _ ?_
  rw [if_pos (by decide +kernel)]
  unfold L10_awake_j4
  have e1 : fourV (List.replicate 8 0) 24 = List.replicate 8 0 := by decide +kernel
  have e2 : fourV [32, 0, 0, 0, 0, 0, 0, 0] (backBy [32, 0, 0, 0, 0, 0, 0, 0]) = [8, 8, 7, 6, 5, 4, 2, 1] := by decide +kernel
  rw [e1]
  refine same_self _ _ (by decide) ?_
  show Br _ _ _
  rw [br_dec, if_pos (by decide)]
  refine rback_spec _ (by decide) _ _ ?_
  rw [if_pos (by decide +kernel), e2]
  refine same_self _ _ (by decide) ?_
  exact h
theorem rright_spec' (w : Int) (hw : 0 ≤ w ∧ w ≤ 1000000000) (u : List Int) (K0 : Bool → Prop) (h : K0 (rightB w u)) : R10_Right u w K0 := by
  by_cases hl : u.length ≤ 1000000
  · exact rright_spec w hw u hl K0 h
  · have : rightB w u = false := by
      have : ¬ sized u := by unfold sized; omega
      simp [rightB, this]
    rw [this] at h
    rw [R10_Right_def, br_dec, if_neg (by omega), br_dec, if_neg (by omega)]
    exact h
theorem rightB_of {w : Int} {u : List Int} (hs : sized u) (h : ∀ i, i < u.length → -w ≤ u.getD i 0 ∧ u.getD i 0 ≤ w) : rightB w u = true := by
  have h2 : u.all (inB (-w) w) = true := by
    rw [List.all_eq_true]
    intro x hx
    obtain ⟨i, hi, e⟩ := List.getElem_of_mem hx
    have := h i hi
    have e2 : u.getD i 0 = x := by simp [List.getD, hi, e]
    rw [e2] at this
    simpa [inB] using this
  simp only [rightB, h2, Bool.and_true]
  exact decide_eq_true hs
theorem rightB_mono {w w' : Int} {u : List Int} (hw : w ≤ w') (h : rightB w u = true) : rightB w' u = true :=
  rightB_of (right_sz h) fun i hi => by have := right_at h hi; omega
theorem sm_congr {f g : Nat → Int} : ∀ n, (∀ i, i < n → f i = g i) → sm f n = sm g n
  | 0, _ => rfl
  | n + 1, h => by simp only [sm]; rw [sm_congr n fun i hi => h i (by omega), h n (by omega)]
theorem sm_add (f g : Nat → Int) : ∀ n, sm (fun i => f i + g i) n = sm f n + sm g n
  | 0 => rfl
  | n + 1 => by simp only [sm]; rw [sm_add f g n]; omega
theorem sm_neg (f : Nat → Int) : ∀ n, sm (fun i => -f i) n = -sm f n
  | 0 => rfl
  | n + 1 => by simp only [sm]; rw [sm_neg f n]; omega
theorem shr_at {x : Int} {s : Nat} (hs : s ≤ 60) (h : -2305843009213693952 ≤ x ∧ x ≤ 2305843009213693952) : shrV x (s : Int) = (2 * x + 2 ^ s) / (2 * 2 ^ s) := by
  unfold shrV
  rw [if_neg (by omega), Int.toNat_natCast]
theorem dsum_bound {u : List Int} (h : rightB 33554432 u = true) (k : Nat) : -36028797018963968 ≤ dsum u k ∧ dsum u k ≤ 36028797018963968 := psum_bound h k u.length (Nat.le_refl _)
theorem shr24 {u : List Int} (h : rightB 33554432 u = true) (k : Nat) : shrV (dsum u k) 24 = (2 * dsum u k + 16777216) / 33554432 := by
  have := dsum_bound h k
  exact shr_at (s := 24) (by omega) (by omega)
def M8 : List (List Nat) := [[33473645, 32832011, 31573400, 29746179, 27420569, 24685941, 21647385, 18421671],
  [32832011, 27420569, 18421671, 8868491, 1981032, 80787, 3808253, 11907047],
  [31573400, 18421671, 3808253, 722421, 11907047, 27420569, 33473645, 24685941],
  [29746179, 8868491, 722421, 18421671, 33473645, 21647385, 1981032, 6133863],
  [27420569, 1981032, 11907047, 33473645, 15132761, 722421, 24685941, 29746179],
  [24685941, 80787, 27420569, 21647385, 722421, 29746179, 18421671, 1981032],
  [21647385, 3808253, 33473645, 1981032, 24685941, 18421671, 6133863, 32832011],
  [18421671, 11907047, 24685941, 6133863, 29746179, 1981032, 32832011, 80787]]
def M64 : List (List Nat) := [[33553169, 33543063, 33522859, 33492568, 33452208, 33401804, 33341385, 33270989, 33190658, 33100440, 33000389, 32890566, 32771037, 32641874, 32503155, 32354963, 32197388, 32030524, 31854472, 31669338, 31475233, 31272275, 31060586, 30840293, 30611529, 30374431, 30129144, 29875813, 29614592, 29345639, 29069115, 28785187, 28494025, 28195806, 27890709, 27578917, 27260619, 26936006, 26605273, 26268621, 25926251, 25578370, 25225188, 24866917, 24503773, 24135975, 23763745, 23387306, 23006885, 22622711, 22235017, 21844035, 21450001, 21053152, 20653728, 20251968, 19848116, 19442413, 19035106, 18626438, 18216656, 17806007, 17394739, 16983098],
  [33543063, 33452208, 33270989, 33000389, 32641874, 32197388, 31669338, 31060586, 30374431, 29614592, 28785187, 27890709, 26936006, 25926251, 24866917, 23763745, 22622711, 21450001, 20251968, 19035106, 17806007, 16571334, 15337776, 14112019, 12900704, 11710397, 10547547, 9418457, 8329244, 7285811, 6293813, 5358626, 4485317, 3678619, 2942903, 2282157, 1699960, 1199469, 783395, 453992, 213047, 61864, 1263, 31573, 152628, 363774, 663866, 1051277, 1523908, 2079199, 2714139, 3425288, 4208793, 5060407, 5975515, 6949159, 7976062, 9050659, 10167126, 11319415, 12501280, 13706316, 14927994, 16159693],
  [33522859, 33270989, 32771037, 32030524, 31060586, 29875813, 28494025, 26936006, 25225188, 23387306, 21450001, 19442413, 17394739, 15337776, 13302464, 11319415, 9418457, 7628181, 5975515, 4485317, 3180001, 2079199, 1199469, 554043, 152628, 1263, 102224, 453992, 1051277, 1885094, 2942903, 4208793, 5663723, 7285811, 9050659, 10931721, 12900704, 14927994, 16983098, 19035106, 21053152, 23006885, 24866917, 26605273, 28195806, 29614592, 30840293, 31854472, 32641874, 33190658, 33492568, 33543063, 33341385, 32890566, 32197388, 31272275, 30129144, 28785187, 27260619, 25578370, 23763745, 21844035, 19848116, 17806007],
  [33492568, 33000389, 32030524, 30611529, 28785187, 26605273, 24135975, 21450001, 18626438, 15748425, 12900704, 10167126, 7628181, 5358626, 3425288, 1885094, 783395, 152628, 11369, 363774, 1199469, 2493846, 4208793, 6293813, 8687515, 11319415, 14112019, 16983098, 19848116, 22622711, 25225188, 27578917, 29614592, 31272275, 32503155, 33270989, 33553169, 33341385, 32641874, 31475233, 29875813, 27890709, 25578370, 23006885, 20251968, 17394739, 14519326, 11710397, 9050659, 6618426, 4485317, 2714139, 1357044, 453992, 31573, 102224, 663866, 1699960, 3180001, 5060407, 7285811, 9790687, 12501280, 15337776],
  [33452208, 32641874, 31060586, 28785187, 25926251, 22622711, 19035106, 15337776, 11710397, 8329244, 5358626, 2942903, 1199469, 213047, 31573, 663866, 2079199, 4208793, 6949159, 10167126, 13706316, 17394739, 21053152, 24503773, 27578917, 30129144, 32030524, 33190658, 33553169, 33100440, 31854472, 29875813, 27260619, 24135975, 20653728, 16983098, 13302464, 9790687, 6618426, 3939840, 1885094, 554043, 11369, 283443, 1357044, 3180001, 5663723, 8687515, 12104431, 15748425, 19442413, 23006885, 26268621, 29069115, 31272275, 32771037, 33492568, 33401804, 32503155, 30840293, 28494025, 25578370, 22235017, 18626438],
  [33401804, 32197388, 29875813, 26605273, 22622711, 18216656, 13706316, 9418457, 5663723, 2714139, 783395, 11369, 453992, 2079199, 4769245, 8329244, 12501280, 16983098, 21450001, 25578370, 29069115, 31669338, 33190658, 33522859, 32641874, 30611529, 27578917, 23763745, 19442413, 14927994, 10547547, 6618426, 3425288, 1199469, 102224, 213047, 1523908, 3939840, 7285811, 11319415, 15748425, 20251968, 24503773, 28195806, 31060586, 32890566, 33553169, 33000389, 31272275, 28494025, 24866917, 20653728, 16159693, 11710397, 7628181, 4208793, 1699960, 283443, 61864, 1051277, 3180001, 6293813, 10167126, 14519326],
  [33341385, 31669338, 28494025, 24135975, 19035106, 13706316, 8687515, 4485317, 1523908, 102224, 363774, 2282157, 5663723, 10167126, 15337776, 20653728, 25578370, 29614592, 32354963, 33522859, 33000389, 30840293, 27260619, 22622711, 17394739, 12104431, 7285811, 3425288, 912558, 1263, 783395, 3180001, 6949159, 11710397, 16983098, 22235017, 26936006, 30611529, 32890566, 33543063, 32503155, 29875813, 25926251, 21053152, 15748425, 10547547, 5975515, 2493846, 453992, 61864, 1357044, 4208793, 8329244, 13302464, 18626438, 23763745, 28195806, 31475233, 33270989, 33401804, 31854472, 28785187, 24503773, 19442413],
  [33270989, 31060586, 26936006, 21450001, 15337776, 9418457, 4485317, 1199469, 1263, 1051277, 4208793, 9050659, 14927994, 21053152, 26605273, 30840293, 33190658, 33341385, 31272275, 27260619, 21844035, 15748425, 9790687, 4769245, 1357044, 11369, 912558, 3939840, 8687515, 14519326, 20653728, 26268621, 30611529, 33100440, 33401804, 31475233, 27578917, 22235017, 16159693, 10167126, 5060407, 1523908, 31573, 783395, 3678619, 8329244, 14112019, 20251968, 25926251, 30374431, 33000389, 33452208, 31669338, 27890709, 22622711, 16571334, 10547547, 5358626, 1699960, 61864, 663866, 3425288, 7976062, 13706316],
  [33190658, 30374431, 25225188, 18626438, 11710397, 5663723, 1523908, 1263, 1357044, 5358626, 11319415, 18216656, 24866917, 30129144, 33100440, 33270989, 30611529, 25578370, 19035106, 12104431, 5975515, 1699960, 11369, 1199469, 5060407, 10931721, 17806007, 24503773, 29875813, 33000389, 33341385, 30840293, 25926251, 19442413, 12501280, 6293813, 1885094, 31573, 1051277, 4769245, 10547547, 17394739, 24135975, 29614592, 32890566, 33401804, 31060586, 26268621, 19848116, 12900704, 6618426, 2079199, 61864, 912558, 4485317, 10167126, 16983098, 23763745, 29345639, 32771037, 33452208, 31272275, 26605273, 20251968],
  [33100440, 29614592, 23387306, 15748425, 8329244, 2714139, 102224, 1051277, 5358626, 12104431, 19848116, 26936006, 31854472, 33553169, 31669338, 26605273, 19442413, 11710397, 5060407, 912558, 152628, 2942903, 8687515, 16159693, 23763745, 29875813, 33190658, 33000389, 29345639, 23006885, 15337776, 7976062, 2493846, 61864, 1199469, 5663723, 12501280, 20251968, 27260619, 32030524, 33543063, 31475233, 26268621, 19035106, 11319415, 4769245, 783395, 213047, 3180001, 9050659, 16571334, 24135975, 30129144, 33270989, 32890566, 29069115, 22622711, 14927994, 7628181, 2282157, 31573, 1357044, 5975515, 12900704],
  [33000389, 28785187, 21450001, 12900704, 5358626, 783395, 363774, 4208793, 11319415, 19848116, 27578917, 32503155, 33341385, 29875813, 23006885, 14519326, 6618426, 1357044, 102224, 3180001, 9790687, 18216656, 26268621, 31854472, 33522859, 30840293, 24503773, 16159693, 7976062, 2079199, 1263, 2282157, 8329244, 16571334, 24866917, 31060586, 33543063, 31669338, 25926251, 17806007, 9418457, 2942903, 61864, 1523908, 6949159, 14927994, 23387306, 30129144, 33401804, 32354963, 27260619, 19442413, 10931721, 3939840, 283443, 912558, 5663723, 13302464, 21844035, 29069115, 33100440, 32890566, 28494025, 21053152],
  [32890566, 27890709, 19442413, 10167126, 2942903, 11369, 2282157, 9050659, 18216656, 26936006, 32503155, 33190658, 28785187, 20653728, 11319415, 3678619, 102224, 1699960, 7976062, 16983098, 25926251, 32030524, 33401804, 29614592, 21844035, 12501280, 4485317, 283443, 1199469, 6949159, 15748425, 24866917, 31475233, 33522859, 30374431, 23006885, 13706316, 5358626, 554043, 783395, 5975515, 14519326, 23763745, 30840293, 33553169, 31060586, 24135975, 14927994, 6293813, 912558, 453992, 5060407, 13302464, 22622711, 30129144, 33492568, 31669338, 25225188, 16159693, 7285811, 1357044, 213047, 4208793, 12104431],
  [32771037, 26936006, 17394739, 7628181, 1199469, 453992, 5663723, 14927994, 24866917, 31854472, 33341385, 28785187, 19848116, 9790687, 2282157, 61864, 3939840, 12501280, 22622711, 30611529, 33553169, 30374431, 22235017, 12104431, 3678619, 31573, 2493846, 10167126, 20251968, 29069115, 33401804, 31669338, 24503773, 14519326, 5358626, 363774, 1357044, 7976062, 17806007, 27260619, 32890566, 32641874, 26605273, 16983098, 7285811, 1051277, 554043, 5975515, 15337776, 25225188, 32030524, 33270989, 28494025, 19442413, 9418457, 2079199, 102224, 4208793, 12900704, 23006885, 30840293, 33543063, 30129144, 21844035],
  [32641874, 25926251, 15337776, 5358626, 213047, 2079199, 10167126, 21053152, 30129144, 33553169, 29875813, 20653728, 9790687, 1885094, 283443, 5663723, 15748425, 26268621, 32771037, 32503155, 25578370, 14927994, 5060407, 152628, 2282157, 10547547, 21450001, 30374431, 33543063, 29614592, 20251968, 9418457, 1699960, 363774, 5975515, 16159693, 26605273, 32890566, 32354963, 25225188, 14519326, 4769245, 102224, 2493846, 10931721, 21844035, 30611529, 33522859, 29345639, 19848116, 9050659, 1523908, 453992, 6293813, 16571334, 26936006, 33000389, 32197388, 24866917, 14112019, 4485317, 61864, 2714139, 11319415],
  [32503155, 24866917, 13302464, 3425288, 31573, 4769245, 15337776, 26605273, 33100440, 31669338, 23006885, 11319415, 2282157, 283443, 6293813, 17394739, 28195806, 33452208, 30611529, 21053152, 9418457, 1357044, 783395, 7976062, 19442413, 29614592, 33553169, 29345639, 19035106, 7628181, 663866, 1523908, 9790687, 21450001, 30840293, 33401804, 27890709, 16983098, 5975515, 213047, 2493846, 11710397, 23387306, 31854472, 33000389, 26268621, 14927994, 4485317, 11369, 3678619, 13706316, 25225188, 32641874, 32354963, 24503773, 12900704, 3180001, 61864, 5060407, 15748425, 26936006, 33190658, 31475233, 22622711],
  [32354963, 23763745, 11319415, 1885094, 663866, 8329244, 20653728, 30840293, 33270989, 26605273, 14519326, 3678619, 61864, 5663723, 17394739, 28785187, 33553169, 29069115, 17806007, 5975515, 102224, 3425288, 14112019, 26268621, 33190658, 31060586, 21053152, 8687515, 783395, 1699960, 10931721, 23387306, 32197388, 32503155, 24135975, 11710397, 2079199, 554043, 7976062, 20251968, 30611529, 33341385, 26936006, 14927994, 3939840, 31573, 5358626, 16983098, 28494025, 33543063, 29345639, 18216656, 6293813, 152628, 3180001, 13706316, 25926251, 33100440, 31272275, 21450001, 9050659, 912558, 1523908, 10547547],
  [32197388, 22622711, 9418457, 783395, 2079199, 12501280, 25578370, 33190658, 30611529, 19442413, 6618426, 102224, 3939840, 15748425, 28195806, 33553169, 28494025, 16159693, 4208793, 61864, 6293813, 19035106, 30374431, 33270989, 25926251, 12900704, 2282157, 663866, 9050659, 22235017, 32030524, 32354963, 23006885, 9790687, 912558, 1885094, 12104431, 25225188, 33100440, 30840293, 19848116, 6949159, 152628, 3678619, 15337776, 27890709, 33543063, 28785187, 16571334, 4485317, 31573, 5975515, 18626438, 30129144, 33341385, 26268621, 13302464, 2493846, 554043, 8687515, 21844035, 31854472, 32503155, 23387306],
  [32030524, 21450001, 7628181, 152628, 4208793, 16983098, 29614592, 33341385, 25578370, 11710397, 1357044, 1699960, 12501280, 26268621, 33452208, 29069115, 16159693, 3678619, 283443, 8329244, 22235017, 32354963, 31669338, 20653728, 6949159, 61864, 4769245, 17806007, 30129144, 33190658, 24866917, 10931721, 1051277, 2079199, 13302464, 26936006, 33522859, 28494025, 15337776, 3180001, 453992, 9050659, 23006885, 32641874, 31272275, 19848116, 6293813, 11369, 5358626, 18626438, 30611529, 33000389, 24135975, 10167126, 783395, 2493846, 14112019, 27578917, 33553169, 27890709, 14519326, 2714139, 663866, 9790687],
  [31854472, 20251968, 5975515, 11369, 6949159, 21450001, 32354963, 31272275, 19035106, 5060407, 102224, 7976062, 22622711, 32771037, 30611529, 17806007, 4208793, 283443, 9050659, 23763745, 33100440, 29875813, 16571334, 3425288, 554043, 10167126, 24866917, 33341385, 29069115, 15337776, 2714139, 912558, 11319415, 25926251, 33492568, 28195806, 14112019, 2079199, 1357044, 12501280, 26936006, 33553169, 27260619, 12900704, 1523908, 1885094, 13706316, 27890709, 33522859, 26268621, 11710397, 1051277, 2493846, 14927994, 28785187, 33401804, 25225188, 10547547, 663866, 3180001, 16159693, 29614592, 33190658, 24135975],
  [31669338, 19035106, 4485317, 363774, 10167126, 25578370, 33522859, 27260619, 12104431, 912558, 3180001, 16983098, 30611529, 32503155, 21053152, 5975515, 61864, 8329244, 23763745, 33270989, 28785187, 14112019, 1699960, 2079199, 14927994, 29345639, 33100440, 23006885, 7628181, 11369, 6618426, 21844035, 32771037, 30129144, 16159693, 2714139, 1199469, 12900704, 27890709, 33452208, 24866917, 9418457, 213047, 5060407, 19848116, 32030524, 31272275, 18216656, 3939840, 554043, 10931721, 26268621, 33553169, 26605273, 11319415, 663866, 3678619, 17806007, 31060586, 32197388, 20251968, 5358626, 152628, 9050659],
  [31475233, 17806007, 3180001, 1199469, 13706316, 29069115, 33000389, 21844035, 5975515, 152628, 9790687, 25926251, 33553169, 25578370, 9418457, 102224, 6293813, 22235017, 33100440, 28785187, 13302464, 1051277, 3425288, 18216656, 31669338, 31272275, 17394739, 2942903, 1357044, 14112019, 29345639, 32890566, 21450001, 5663723, 213047, 10167126, 26268621, 33543063, 25225188, 9050659, 61864, 6618426, 22622711, 33190658, 28494025, 12900704, 912558, 3678619, 18626438, 31854472, 31060586, 16983098, 2714139, 1523908, 14519326, 29614592, 32771037, 21053152, 5358626, 283443, 10547547, 26605273, 33522859, 24866917],
  [31272275, 16571334, 2079199, 2493846, 17394739, 31669338, 30840293, 15748425, 1699960, 2942903, 18216656, 32030524, 30374431, 14927994, 1357044, 3425288, 19035106, 32354963, 29875813, 14112019, 1051277, 3939840, 19848116, 32641874, 29345639, 13302464, 783395, 4485317, 20653728, 32890566, 28785187, 12501280, 554043, 5060407, 21450001, 33100440, 28195806, 11710397, 363774, 5663723, 22235017, 33270989, 27578917, 10931721, 213047, 6293813, 23006885, 33401804, 26936006, 10167126, 102224, 6949159, 23763745, 33492568, 26268621, 9418457, 31573, 7628181, 24503773, 33543063, 25578370, 8687515, 1263, 8329244],
  [31060586, 15337776, 1199469, 4208793, 21053152, 33190658, 27260619, 9790687, 11369, 8687515, 26268621, 33401804, 22235017, 5060407, 783395, 14112019, 30374431, 31669338, 16571334, 1699960, 3425288, 19848116, 32890566, 28195806, 10931721, 102224, 7628181, 25225188, 33522859, 23387306, 5975515, 453992, 12900704, 29614592, 32197388, 17806007, 2282157, 2714139, 18626438, 32503155, 29069115, 12104431, 283443, 6618426, 24135975, 33553169, 24503773, 6949159, 213047, 11710397, 28785187, 32641874, 19035106, 2942903, 2079199, 17394739, 32030524, 29875813, 13302464, 554043, 5663723, 23006885, 33492568, 25578370],
  [30840293, 14112019, 554043, 6293813, 24503773, 33522859, 22622711, 4769245, 1199469, 16159693, 31854472, 29614592, 12104431, 152628, 7976062, 26268621, 33270989, 20653728, 3425288, 2079199, 18216656, 32641874, 28195806, 10167126, 1263, 9790687, 27890709, 32771037, 18626438, 2282157, 3180001, 20251968, 33190658, 26605273, 8329244, 102224, 11710397, 29345639, 32030524, 16571334, 1357044, 4485317, 22235017, 33492568, 24866917, 6618426, 453992, 13706316, 30611529, 31060586, 14519326, 663866, 5975515, 24135975, 33543063, 23006885, 5060407, 1051277, 15748425, 31669338, 29875813, 12501280, 213047, 7628181],
  [30611529, 12900704, 152628, 8687515, 27578917, 32641874, 17394739, 1357044, 5060407, 23763745, 33522859, 21844035, 3678619, 2282157, 19442413, 33190658, 25926251, 6949159, 554043, 14927994, 31669338, 29345639, 10931721, 1263, 10547547, 29069115, 31854472, 15337776, 663866, 6618426, 25578370, 33270989, 19848116, 2493846, 3425288, 21450001, 33492568, 24135975, 5358626, 1199469, 16983098, 32503155, 27890709, 9050659, 102224, 12501280, 30374431, 30840293, 13302464, 213047, 8329244, 27260619, 32771037, 17806007, 1523908, 4769245, 23387306, 33543063, 22235017, 3939840, 2079199, 19035106, 33100440, 26268621],
  [30374431, 11710397, 1263, 11319415, 30129144, 30611529, 12104431, 11369, 10931721, 29875813, 30840293, 12501280, 31573, 10547547, 29614592, 31060586, 12900704, 61864, 10167126, 29345639, 31272275, 13302464, 102224, 9790687, 29069115, 31475233, 13706316, 152628, 9418457, 28785187, 31669338, 14112019, 213047, 9050659, 28494025, 31854472, 14519326, 283443, 8687515, 28195806, 32030524, 14927994, 363774, 8329244, 27890709, 32197388, 15337776, 453992, 7976062, 27578917, 32354963, 15748425, 554043, 7628181, 27260619, 32503155, 16159693, 663866, 7285811, 26936006, 32641874, 16571334, 783395, 6949159],
  [30129144, 10547547, 102224, 14112019, 32030524, 27578917, 7285811, 912558, 17806007, 33190658, 24503773, 4485317, 2493846, 21450001, 33553169, 21053152, 2282157, 4769245, 24866917, 33100440, 17394739, 783395, 7628181, 27890709, 31854472, 13706316, 61864, 10931721, 30374431, 29875813, 10167126, 152628, 14519326, 32197388, 27260619, 6949159, 1051277, 18216656, 33270989, 24135975, 4208793, 2714139, 21844035, 33543063, 20653728, 2079199, 5060407, 25225188, 33000389, 16983098, 663866, 7976062, 28195806, 31669338, 13302464, 31573, 11319415, 30611529, 29614592, 9790687, 213047, 14927994, 32354963, 26936006],
  [29875813, 9418457, 453992, 16983098, 33190658, 23763745, 3425288, 3939840, 24503773, 33000389, 16159693, 283443, 10167126, 30374431, 29345639, 8687515, 663866, 17806007, 33341385, 23006885, 2942903, 4485317, 25225188, 32771037, 15337776, 152628, 10931721, 30840293, 28785187, 7976062, 912558, 18626438, 33452208, 22235017, 2493846, 5060407, 25926251, 32503155, 14519326, 61864, 11710397, 31272275, 28195806, 7285811, 1199469, 19442413, 33522859, 21450001, 2079199, 5663723, 26605273, 32197388, 13706316, 11369, 12501280, 31669338, 27578917, 6618426, 1523908, 20251968, 33553169, 20653728, 1699960, 6293813],
  [29614592, 8329244, 1051277, 19848116, 33553169, 19442413, 912558, 8687515, 29875813, 29345639, 7976062, 1199469, 20251968, 33543063, 19035106, 783395, 9050659, 30129144, 29069115, 7628181, 1357044, 20653728, 33522859, 18626438, 663866, 9418457, 30374431, 28785187, 7285811, 1523908, 21053152, 33492568, 18216656, 554043, 9790687, 30611529, 28494025, 6949159, 1699960, 21450001, 33452208, 17806007, 453992, 10167126, 30840293, 28195806, 6618426, 1885094, 21844035, 33401804, 17394739, 363774, 10547547, 31060586, 27890709, 6293813, 2079199, 22235017, 33341385, 16983098, 283443, 10931721, 31272275, 27578917],
  [29345639, 7285811, 1885094, 22622711, 33100440, 14927994, 1263, 14519326, 33000389, 23006885, 2079199, 6949159, 29069115, 29614592, 7628181, 1699960, 22235017, 33190658, 15337776, 11369, 14112019, 32890566, 23387306, 2282157, 6618426, 28785187, 29875813, 7976062, 1523908, 21844035, 33270989, 15748425, 31573, 13706316, 32771037, 23763745, 2493846, 6293813, 28494025, 30129144, 8329244, 1357044, 21450001, 33341385, 16159693, 61864, 13302464, 32641874, 24135975, 2714139, 5975515, 28195806, 30374431, 8687515, 1199469, 21053152, 33401804, 16571334, 102224, 12900704, 32503155, 24503773, 2942903, 5663723],
  [29069115, 6293813, 2942903, 25225188, 31854472, 10547547, 783395, 20653728, 33341385, 15337776, 1263, 15748425, 33401804, 20251968, 663866, 10931721, 32030524, 24866917, 2714139, 6618426, 29345639, 28785187, 5975515, 3180001, 25578370, 31669338, 10167126, 912558, 21053152, 33270989, 14927994, 11369, 16159693, 33452208, 19848116, 554043, 11319415, 32197388, 24503773, 2493846, 6949159, 29614592, 28494025, 5663723, 3425288, 25926251, 31475233, 9790687, 1051277, 21450001, 33190658, 14519326, 31573, 16571334, 33492568, 19442413, 453992, 11710397, 32354963, 24135975, 2282157, 7285811, 29875813, 28195806],
  [28785187, 5358626, 4208793, 27578917, 29875813, 6618426, 3180001, 26268621, 30840293, 7976062, 2282157, 24866917, 31669338, 9418457, 1523908, 23387306, 32354963, 10931721, 912558, 21844035, 32890566, 12501280, 453992, 20251968, 33270989, 14112019, 152628, 18626438, 33492568, 15748425, 11369, 16983098, 33553169, 17394739, 31573, 15337776, 33452208, 19035106, 213047, 13706316, 33190658, 20653728, 554043, 12104431, 32771037, 22235017, 1051277, 10547547, 32197388, 23763745, 1699960, 9050659, 31475233, 25225188, 2493846, 7628181, 30611529, 26605273, 3425288, 6293813, 29614592, 27890709, 4485317, 5060407],
  [28494025, 4485317, 5663723, 29614592, 27260619, 3425288, 6949159, 30611529, 25926251, 2493846, 8329244, 31475233, 24503773, 1699960, 9790687, 32197388, 23006885, 1051277, 11319415, 32771037, 21450001, 554043, 12900704, 33190658, 19848116, 213047, 14519326, 33452208, 18216656, 31573, 16159693, 33553169, 16571334, 11369, 17806007, 33492568, 14927994, 152628, 19442413, 33270989, 13302464, 453992, 21053152, 32890566, 11710397, 912558, 22622711, 32354963, 10167126, 1523908, 24135975, 31669338, 8687515, 2282157, 25578370, 30840293, 7285811, 3180001, 26936006, 29875813, 5975515, 4208793, 28195806, 28785187],
  [28195806, 3678619, 7285811, 31272275, 24135975, 1199469, 11710397, 33100440, 19442413, 61864, 16571334, 33522859, 14519326, 363774, 21450001, 32503155, 9790687, 2079199, 25926251, 30129144, 5663723, 5060407, 29614592, 26605273, 2493846, 9050659, 32197388, 22235017, 554043, 13706316, 33452208, 17394739, 11369, 18626438, 33270989, 12501280, 912558, 23387306, 31669338, 7976062, 3180001, 27578917, 28785187, 4208793, 6618426, 30840293, 24866917, 1523908, 10931721, 32890566, 20251968, 152628, 15748425, 33553169, 15337776, 213047, 20653728, 32771037, 10547547, 1699960, 25225188, 30611529, 6293813, 4485317],
  [27890709, 2942903, 9050659, 32503155, 20653728, 102224, 16983098, 33401804, 12501280, 1199469, 24866917, 30374431, 5358626, 5975515, 30840293, 24135975, 912558, 13302464, 33492568, 16159693, 213047, 21450001, 32197388, 8329244, 3425288, 28494025, 27260619, 2493846, 9790687, 32771037, 19848116, 31573, 17806007, 33270989, 11710397, 1523908, 25578370, 29875813, 4769245, 6618426, 31272275, 23387306, 663866, 14112019, 33543063, 15337776, 363774, 22235017, 31854472, 7628181, 3939840, 29069115, 26605273, 2079199, 10547547, 33000389, 19035106, 1263, 18626438, 33100440, 10931721, 1885094, 26268621, 29345639],
  [27578917, 2282157, 10931721, 33270989, 16983098, 213047, 22235017, 31475233, 6293813, 5663723, 31060586, 23006885, 363774, 16159693, 33401804, 11710397, 1885094, 26936006, 28195806, 2714139, 10167126, 33100440, 17806007, 102224, 21450001, 31854472, 6949159, 5060407, 30611529, 23763745, 554043, 15337776, 33492568, 12501280, 1523908, 26268621, 28785187, 3180001, 9418457, 32890566, 18626438, 31573, 20653728, 32197388, 7628181, 4485317, 30129144, 24503773, 783395, 14519326, 33543063, 13302464, 1199469, 25578370, 29345639, 3678619, 8687515, 32641874, 19442413, 1263, 19848116, 32503155, 8329244, 3939840],
  [27260619, 1699960, 12900704, 33553169, 13302464, 1523908, 26936006, 27578917, 1885094, 12501280, 33543063, 13706316, 1357044, 26605273, 27890709, 2079199, 12104431, 33522859, 14112019, 1199469, 26268621, 28195806, 2282157, 11710397, 33492568, 14519326, 1051277, 25926251, 28494025, 2493846, 11319415, 33452208, 14927994, 912558, 25578370, 28785187, 2714139, 10931721, 33401804, 15337776, 783395, 25225188, 29069115, 2942903, 10547547, 33341385, 15748425, 663866, 24866917, 29345639, 3180001, 10167126, 33270989, 16159693, 554043, 24503773, 29614592, 3425288, 9790687, 33190658, 16571334, 453992, 24135975, 29875813],
  [26936006, 1199469, 14927994, 33341385, 9790687, 3939840, 30611529, 22235017, 31573, 20251968, 31669338, 5358626, 7976062, 32890566, 16983098, 554043, 25225188, 28494025, 2079199, 12900704, 33543063, 11710397, 2714139, 29345639, 24135975, 283443, 18216656, 32503155, 6949159, 6293813, 32197388, 19035106, 152628, 23387306, 29875813, 3180001, 10931721, 33492568, 13706316, 1699960, 27890709, 25926251, 783395, 16159693, 33100440, 8687515, 4769245, 31272275, 21053152, 1263, 21450001, 31060586, 4485317, 9050659, 33190658, 15748425, 912558, 26268621, 27578917, 1523908, 14112019, 33452208, 10547547, 3425288],
  [26605273, 783395, 16983098, 32641874, 6618426, 7285811, 32890566, 16159693, 1051277, 27260619, 25926251, 554043, 17806007, 32354963, 5975515, 7976062, 33100440, 15337776, 1357044, 27890709, 25225188, 363774, 18626438, 32030524, 5358626, 8687515, 33270989, 14519326, 1699960, 28494025, 24503773, 213047, 19442413, 31669338, 4769245, 9418457, 33401804, 13706316, 2079199, 29069115, 23763745, 102224, 20251968, 31272275, 4208793, 10167126, 33492568, 12900704, 2493846, 29614592, 23006885, 31573, 21053152, 30840293, 3678619, 10931721, 33543063, 12104431, 2942903, 30129144, 22235017, 1263, 21844035, 30374431],
  [26268621, 453992, 19035106, 31475233, 3939840, 11319415, 33543063, 10167126, 4769245, 32030524, 17806007, 783395, 27260619, 25225188, 213047, 20251968, 30840293, 3180001, 12501280, 33452208, 9050659, 5663723, 32503155, 16571334, 1199469, 28195806, 24135975, 61864, 21450001, 30129144, 2493846, 13706316, 33270989, 7976062, 6618426, 32890566, 15337776, 1699960, 29069115, 23006885, 1263, 22622711, 29345639, 1885094, 14927994, 33000389, 6949159, 7628181, 33190658, 14112019, 2282157, 29875813, 21844035, 31573, 23763745, 28494025, 1357044, 16159693, 32641874, 5975515, 8687515, 33401804, 12900704, 2942903],
  [25926251, 213047, 21053152, 29875813, 1885094, 15748425, 32503155, 5060407, 10547547, 33543063, 9418457, 5975515, 32890566, 14519326, 2493846, 30611529, 19848116, 453992, 26936006, 24866917, 61864, 22235017, 29069115, 1357044, 16983098, 32030524, 4208793, 11710397, 33452208, 8329244, 6949159, 33190658, 13302464, 3180001, 31272275, 18626438, 783395, 27890709, 23763745, 1263, 23387306, 28195806, 912558, 18216656, 31475233, 3425288, 12900704, 33270989, 7285811, 7976062, 33401804, 12104431, 3939840, 31854472, 17394739, 1199469, 28785187, 22622711, 31573, 24503773, 27260619, 554043, 19442413, 30840293],
  [25578370, 61864, 23006885, 27890709, 554043, 20251968, 29875813, 1523908, 17394739, 31475233, 2942903, 14519326, 32641874, 4769245, 11710397, 33341385, 6949159, 9050659, 33553169, 9418457, 6618426, 33270989, 12104431, 4485317, 32503155, 14927994, 2714139, 31272275, 17806007, 1357044, 29614592, 20653728, 453992, 27578917, 23387306, 31573, 25225188, 25926251, 102224, 22622711, 28195806, 663866, 19848116, 30129144, 1699960, 16983098, 31669338, 3180001, 14112019, 32771037, 5060407, 11319415, 33401804, 7285811, 8687515, 33543063, 9790687, 6293813, 33190658, 12501280, 4208793, 32354963, 15337776, 2493846],
  [25225188, 1263, 24866917, 25578370, 11369, 24503773, 25926251, 31573, 24135975, 26268621, 61864, 23763745, 26605273, 102224, 23387306, 26936006, 152628, 23006885, 27260619, 213047, 22622711, 27578917, 283443, 22235017, 27890709, 363774, 21844035, 28195806, 453992, 21450001, 28494025, 554043, 21053152, 28785187, 663866, 20653728, 29069115, 783395, 20251968, 29345639, 912558, 19848116, 29614592, 1051277, 19442413, 29875813, 1199469, 19035106, 30129144, 1357044, 18626438, 30374431, 1523908, 18216656, 30611529, 1699960, 17806007, 30840293, 1885094, 17394739, 31060586, 2079199, 16983098, 31272275],
  [24866917, 31573, 26605273, 23006885, 283443, 28195806, 21053152, 783395, 29614592, 19035106, 1523908, 30840293, 16983098, 2493846, 31854472, 14927994, 3678619, 32641874, 12900704, 5060407, 33190658, 10931721, 6618426, 33492568, 9050659, 8329244, 33543063, 7285811, 10167126, 33341385, 5663723, 12104431, 32890566, 4208793, 14112019, 32197388, 2942903, 16159693, 31272275, 1885094, 18216656, 30129144, 1051277, 20251968, 28785187, 453992, 22235017, 27260619, 102224, 24135975, 25578370, 1263, 25926251, 23763745, 152628, 27578917, 21844035, 554043, 29069115, 19848116, 1199469, 30374431, 17806007, 2079199],
  [24503773, 152628, 28195806, 20251968, 1357044, 31060586, 15748425, 3678619, 32890566, 11319415, 6949159, 33553169, 7285811, 10931721, 33000389, 3939840, 15337776, 31272275, 1523908, 19848116, 28494025, 213047, 24135975, 24866917, 102224, 27890709, 20653728, 1199469, 30840293, 16159693, 3425288, 32771037, 11710397, 6618426, 33543063, 7628181, 10547547, 33100440, 4208793, 14927994, 31475233, 1699960, 19442413, 28785187, 283443, 23763745, 25225188, 61864, 27578917, 21053152, 1051277, 30611529, 16571334, 3180001, 32641874, 12104431, 6293813, 33522859, 7976062, 10167126, 33190658, 4485317, 14519326, 31669338],
  [24135975, 363774, 29614592, 17394739, 3180001, 32890566, 10547547, 8329244, 33401804, 4769245, 14927994, 31060586, 1051277, 21844035, 26268621, 31573, 27890709, 19848116, 1885094, 32030524, 12900704, 6293813, 33553169, 6618426, 12501280, 32197388, 2079199, 19442413, 28195806, 61864, 25926251, 22235017, 912558, 30840293, 15337776, 4485317, 33341385, 8687515, 10167126, 33000389, 3425288, 16983098, 29875813, 453992, 23763745, 24503773, 283443, 29345639, 17806007, 2942903, 32771037, 10931721, 7976062, 33452208, 5060407, 14519326, 31272275, 1199469, 21450001, 26605273, 11369, 27578917, 20251968, 1699960],
  [23763745, 663866, 30840293, 14519326, 5663723, 33553169, 5975515, 14112019, 31060586, 783395, 23387306, 24135975, 554043, 30611529, 14927994, 5358626, 33543063, 6293813, 13706316, 31272275, 912558, 23006885, 24503773, 453992, 30374431, 15337776, 5060407, 33522859, 6618426, 13302464, 31475233, 1051277, 22622711, 24866917, 363774, 30129144, 15748425, 4769245, 33492568, 6949159, 12900704, 31669338, 1199469, 22235017, 25225188, 283443, 29875813, 16159693, 4485317, 33452208, 7285811, 12501280, 31854472, 1357044, 21844035, 25578370, 213047, 29614592, 16571334, 4208793, 33401804, 7628181, 12104431, 32030524],
  [23387306, 1051277, 31854472, 11710397, 8687515, 33000389, 2493846, 20251968, 26268621, 213047, 30129144, 14927994, 5975515, 33522859, 4485317, 16983098, 28785187, 11369, 27890709, 18216656, 3678619, 33401804, 6949159, 13706316, 30840293, 453992, 25225188, 21450001, 1885094, 32641874, 9790687, 10547547, 32354963, 1523908, 22235017, 24503773, 663866, 31272275, 12900704, 7628181, 33270989, 3180001, 19035106, 27260619, 61864, 29345639, 16159693, 5060407, 33553169, 5358626, 15748425, 29614592, 102224, 26936006, 19442413, 2942903, 33190658, 7976062, 12501280, 31475233, 783395, 24135975, 22622711, 1357044],
  [23006885, 1523908, 32641874, 9050659, 12104431, 31272275, 453992, 25926251, 19848116, 3180001, 33401804, 6293813, 15337776, 29345639, 11369, 28494025, 16571334, 5358626, 33522859, 3939840, 18626438, 26936006, 213047, 30611529, 13302464, 7976062, 33000389, 2079199, 21844035, 24135975, 1051277, 32197388, 10167126, 10931721, 31854472, 783395, 24866917, 21053152, 2493846, 33190658, 7285811, 14112019, 30129144, 102224, 27578917, 17806007, 4485317, 33553169, 4769245, 17394739, 27890709, 61864, 29875813, 14519326, 6949159, 33270989, 2714139, 20653728, 25225188, 663866, 31669338, 11319415, 9790687, 32354963],
  [22622711, 2079199, 33190658, 6618426, 15748425, 28494025, 61864, 30374431, 12900704, 9050659, 32354963, 912558, 25225188, 19848116, 3678619, 33543063, 4485317, 18626438, 26268621, 554043, 31854472, 10167126, 11710397, 31060586, 213047, 27578917, 16983098, 5663723, 33401804, 2714139, 21450001, 23763745, 1523908, 32890566, 7628181, 14519326, 29345639, 1263, 29614592, 14112019, 7976062, 32771037, 1357044, 24135975, 21053152, 2942903, 33452208, 5358626, 17394739, 27260619, 283443, 31272275, 11319415, 10547547, 31669338, 453992, 26605273, 18216656, 4769245, 33522859, 3425288, 20251968, 24866917, 1051277],
  [22235017, 2714139, 33492568, 4485317, 19442413, 24866917, 1357044, 33000389, 6618426, 16571334, 27260619, 453992, 32030524, 9050659, 13706316, 29345639, 31573, 30611529, 11710397, 10931721, 31060586, 102224, 28785187, 14519326, 8329244, 32354963, 663866, 26605273, 17394739, 5975515, 33190658, 1699960, 24135975, 20251968, 3939840, 33543063, 3180001, 21450001, 23006885, 2282157, 33401804, 5060407, 18626438, 25578370, 1051277, 32771037, 7285811, 15748425, 27890709, 283443, 31669338, 9790687, 12900704, 29875813, 1263, 30129144, 12501280, 10167126, 31475233, 213047, 28195806, 15337776, 7628181, 32641874],
  [21844035, 3425288, 33543063, 2714139, 23006885, 20653728, 4208793, 33452208, 2079199, 24135975, 19442413, 5060407, 33270989, 1523908, 25225188, 18216656, 5975515, 33000389, 1051277, 26268621, 16983098, 6949159, 32641874, 663866, 27260619, 15748425, 7976062, 32197388, 363774, 28195806, 14519326, 9050659, 31669338, 152628, 29069115, 13302464, 10167126, 31060586, 31573, 29875813, 12104431, 11319415, 30374431, 1263, 30611529, 10931721, 12501280, 29614592, 61864, 31272275, 9790687, 13706316, 28785187, 213047, 31854472, 8687515, 14927994, 27890709, 453992, 32354963, 7628181, 16159693, 26936006, 783395],
  [21450001, 4208793, 33341385, 1357044, 26268621, 16159693, 8329244, 31669338, 61864, 30129144, 10931721, 13302464, 28494025, 453992, 32641874, 6293813, 18626438, 24135975, 2493846, 33553169, 2714139, 23763745, 19035106, 5975515, 32771037, 554043, 28195806, 13706316, 10547547, 30374431, 31573, 31475233, 8687515, 15748425, 26605273, 1199469, 33270989, 4485317, 21053152, 21844035, 3939840, 33401804, 1523908, 25926251, 16571334, 7976062, 31854472, 102224, 29875813, 11319415, 12900704, 28785187, 363774, 32503155, 6618426, 18216656, 24503773, 2282157, 33543063, 2942903, 23387306, 19442413, 5663723, 32890566],
  [21053152, 5060407, 32890566, 453992, 29069115, 11710397, 13302464, 27890709, 912558, 33270989, 3939840, 22622711, 19442413, 6293813, 32354963, 152628, 30129144, 10167126, 14927994, 26605273, 1523908, 33492568, 2942903, 24135975, 17806007, 7628181, 31669338, 11369, 31060586, 8687515, 16571334, 25225188, 2282157, 33553169, 2079199, 25578370, 16159693, 9050659, 30840293, 31573, 31854472, 7285811, 18216656, 23763745, 3180001, 33452208, 1357044, 26936006, 14519326, 10547547, 29875813, 213047, 32503155, 5975515, 19848116, 22235017, 4208793, 33190658, 783395, 28195806, 12900704, 12104431, 28785187, 554043],
  [20653728, 5975515, 32197388, 31573, 31272275, 7628181, 18626438, 22622711, 4485317, 32890566, 283443, 30129144, 9418457, 16571334, 24503773, 3180001, 33341385, 783395, 28785187, 11319415, 14519326, 26268621, 2079199, 33543063, 1523908, 27260619, 13302464, 12501280, 27890709, 1199469, 33492568, 2493846, 25578370, 15337776, 10547547, 29345639, 554043, 33190658, 3678619, 23763745, 17394739, 8687515, 30611529, 152628, 32641874, 5060407, 21844035, 19442413, 6949159, 31669338, 1263, 31854472, 6618426, 19848116, 21450001, 5358626, 32503155, 102224, 30840293, 8329244, 17806007, 23387306, 3939840, 33100440],
  [20251968, 6949159, 31272275, 102224, 32771037, 4208793, 23763745, 16571334, 10167126, 29069115, 912558, 33492568, 2079199, 26936006, 12900704, 13706316, 26268621, 2493846, 33401804, 663866, 29614592, 9418457, 17394739, 23006885, 4769245, 32503155, 31573, 31669338, 6293813, 21053152, 19442413, 7628181, 30840293, 213047, 33000389, 3678619, 24503773, 15748425, 10931721, 28494025, 1199469, 33543063, 1699960, 27578917, 12104431, 14519326, 25578370, 2942903, 33270989, 453992, 30129144, 8687515, 18216656, 22235017, 5358626, 32197388, 1263, 32030524, 5663723, 21844035, 18626438, 8329244, 30374431, 363774],
  [19848116, 7976062, 30129144, 663866, 33492568, 1699960, 28195806, 10547547, 16983098, 22622711, 5663723, 31669338, 102224, 33000389, 3180001, 25926251, 13302464, 14112019, 25225188, 3678619, 32771037, 31573, 32030524, 5060407, 23387306, 16159693, 11319415, 27578917, 2079199, 33401804, 453992, 30611529, 7285811, 20653728, 19035106, 8687515, 29614592, 912558, 33543063, 1357044, 28785187, 9790687, 17806007, 21844035, 6293813, 31272275, 213047, 33190658, 2714139, 26605273, 12501280, 14927994, 24503773, 4208793, 32503155, 1263, 32354963, 4485317, 24135975, 15337776, 12104431, 26936006, 2493846, 33270989],
  [19442413, 9050659, 28785187, 1699960, 33401804, 283443, 31475233, 5358626, 23763745, 14927994, 13302464, 25225188, 4208793, 32197388, 61864, 33100440, 2493846, 27578917, 10547547, 17806007, 21053152, 7628181, 29875813, 1051277, 33543063, 663866, 30611529, 6618426, 22235017, 16571334, 11710397, 26605273, 3180001, 32771037, 1263, 32641874, 3425288, 26268621, 12104431, 16159693, 22622711, 6293813, 30840293, 554043, 33522859, 1199469, 29614592, 7976062, 20653728, 18216656, 10167126, 27890709, 2282157, 33190658, 102224, 32030524, 4485317, 24866917, 13706316, 14519326, 24135975, 5060407, 31669338, 213047],
  [19035106, 10167126, 27260619, 3180001, 32503155, 61864, 33270989, 1699960, 29345639, 7628181, 21844035, 16159693, 12900704, 24866917, 5060407, 31272275, 554043, 33553169, 663866, 31060586, 5358626, 24503773, 13302464, 15748425, 22235017, 7285811, 29614592, 1523908, 33341385, 102224, 32354963, 3425288, 26936006, 10547547, 18626438, 19442413, 9790687, 27578917, 2942903, 32641874, 31573, 33190658, 1885094, 29069115, 7976062, 21450001, 16571334, 12501280, 25225188, 4769245, 31475233, 453992, 33543063, 783395, 30840293, 5663723, 24135975, 13706316, 15337776, 22622711, 6949159, 29875813, 1357044, 33401804],
  [18626438, 11319415, 25578370, 5060407, 30840293, 1051277, 33401804, 61864, 32771037, 2282157, 29069115, 7285811, 23006885, 14112019, 15748425, 21450001, 8687515, 27890709, 3180001, 32197388, 283443, 33543063, 554043, 31669338, 3939840, 26936006, 9790687, 20251968, 16983098, 12900704, 24135975, 6293813, 29875813, 1699960, 33100440, 1263, 33190658, 1523908, 30129144, 5975515, 24503773, 12501280, 17394739, 19848116, 10167126, 26605273, 4208793, 31475233, 663866, 33522859, 213047, 32354963, 2942903, 28195806, 8329244, 21844035, 15337776, 14519326, 22622711, 7628181, 28785187, 2493846, 32641874, 102224],
  [18216656, 12501280, 23763745, 7285811, 28494025, 3180001, 31854472, 663866, 33452208, 31573, 33100440, 1357044, 30840293, 4485317, 26936006, 9050659, 21844035, 14519326, 16159693, 20251968, 10547547, 25578370, 5663723, 29875813, 2079199, 32641874, 213047, 33553169, 283443, 32503155, 2282157, 29614592, 5975515, 25225188, 10931721, 19848116, 16571334, 14112019, 22235017, 8687515, 27260619, 4208793, 31060586, 1199469, 33190658, 11369, 33401804, 783395, 31669338, 3425288, 28195806, 7628181, 23387306, 12900704, 17806007, 18626438, 12104431, 24135975, 6949159, 28785187, 2942903, 32030524, 554043, 33492568],
  [17806007, 13706316, 21844035, 9790687, 25578370, 6293813, 28785187, 3425288, 31272275, 1357044, 32890566, 213047, 33543063, 61864, 33190658, 912558, 31854472, 2714139, 29614592, 5358626, 26605273, 8687515, 23006885, 12501280, 19035106, 16571334, 14927994, 20653728, 10931721, 24503773, 7285811, 27890709, 4208793, 30611529, 1885094, 32503155, 453992, 33452208, 1263, 33401804, 554043, 32354963, 2079199, 30374431, 4485317, 27578917, 7628181, 24135975, 11319415, 20251968, 15337776, 16159693, 19442413, 12104431, 23387306, 8329244, 26936006, 5060407, 29875813, 2493846, 32030524, 783395, 33270989, 31573],
  [17394739, 14927994, 19848116, 12501280, 22235017, 10167126, 24503773, 7976062, 26605273, 5975515, 28494025, 4208793, 30129144, 2714139, 31475233, 1523908, 32503155, 663866, 33190658, 152628, 33522859, 1263, 33492568, 213047, 33100440, 783395, 32354963, 1699960, 31272275, 2942903, 29875813, 4485317, 28195806, 6293813, 26268621, 8329244, 24135975, 10547547, 21844035, 12900704, 19442413, 15337776, 16983098, 17806007, 14519326, 20251968, 12104431, 22622711, 9790687, 24866917, 7628181, 26936006, 5663723, 28785187, 3939840, 30374431, 2493846, 31669338, 1357044, 32641874, 554043, 33270989, 102224, 33543063],
  [16983098, 16159693, 17806007, 15337776, 18626438, 14519326, 19442413, 13706316, 20251968, 12900704, 21053152, 12104431, 21844035, 11319415, 22622711, 10547547, 23387306, 9790687, 24135975, 9050659, 24866917, 8329244, 25578370, 7628181, 26268621, 6949159, 26936006, 6293813, 27578917, 5663723, 28195806, 5060407, 28785187, 4485317, 29345639, 3939840, 29875813, 3425288, 30374431, 2942903, 30840293, 2493846, 31272275, 2079199, 31669338, 1699960, 32030524, 1357044, 32354963, 1051277, 32641874, 783395, 32890566, 554043, 33100440, 363774, 33270989, 213047, 33401804, 102224, 33492568, 31573, 33543063, 1263]]
def dN : List Nat → List Nat → Nat
  | a :: l, b :: r => a * b + dN l r
  | _, _ => 0
def sN : List Nat → Nat
  | [] => 0
  | a :: l => a + sN l
def okR (n S : Nat) (a : List Nat) (i j : Nat) (b : List Nat) : Bool := Nat.ble (dN a b + n * 281474976710656) (16777216 * (sN a + sN b) + (if Nat.beq i j then S else 0) + 134217728) && Nat.ble (16777216 * (sN a + sN b) + (if Nat.beq i j then S else 0)) (dN a b + n * 281474976710656 + 134217728)
def okL (n S : Nat) (a : List Nat) (i : Nat) : Nat → List (List Nat) → Bool
  | _, [] => true
  | j, b :: l => okR n S a i j b && okL n S a i (j + 1) l
def okA (n S : Nat) (T : List (List Nat)) : Nat → List (List Nat) → Bool
  | _, [] => true
  | i, a :: l => okL n S a i 0 T && okA n S T (i + 1) l
theorem ok8 : okA 8 1125899906842624 M8 0 M8 = true := by decide +kernel
theorem ok64 : okA 64 9007199254740992 M64 0 M64 = true := by decide +kernel
theorem M8_eq : M8 = tab 8 fun k => tab 8 fun i => (cg 8 k i + 16777216).toNat := by decide +kernel
theorem M64_eq : M64 = tab 64 fun k => tab 64 fun i => (cg 64 k i + 16777216).toNat := by decide +kernel
theorem okL_at {n S : Nat} {a : List Nat} {i : Nat} : ∀ (l : List (List Nat)) (j p : Nat), okL n S a i j l = true → p < l.length → okR n S a i (j + p) (l.getD p []) = true
  | [], _, _, _, h => by simp at h
  | b :: l, j, 0, h, _ => by simp only [okL, Bool.and_eq_true] at h; simpa using h.1
  | b :: l, j, p + 1, h, hp => by
    simp only [okL, Bool.and_eq_true] at h
    have := okL_at l (j + 1) p h.2 (by simpa using hp)
    rw [show j + (p + 1) = j + 1 + p by omega]
    simpa using this
theorem okA_at {n S : Nat} {T : List (List Nat)} : ∀ (l : List (List Nat)) (i p : Nat), okA n S T i l = true → p < l.length → okL n S (l.getD p []) (i + p) 0 T = true
  | [], _, _, _, h => by simp at h
  | b :: l, i, 0, h, _ => by simp only [okA, Bool.and_eq_true] at h; simpa using h.1
  | b :: l, i, p + 1, h, hp => by
    simp only [okA, Bool.and_eq_true] at h
    have := okA_at l (i + 1) p h.2 (by simpa using hp)
    rw [show i + (p + 1) = i + 1 + p by omega]
    simpa using this
theorem dN_snoc : ∀ (a b : List Nat) (x y : Nat), a.length = b.length → dN (a ++ [x]) (b ++ [y]) = dN a b + x * y
  | [], [], x, y, _ => by simp [dN]
  | [], _ :: _, _, _, h => by simp at h
  | _ :: _, [], _, _, h => by simp at h
  | p :: a, q :: b, x, y, h => by
    simp only [List.cons_append, dN]
    rw [dN_snoc a b x y (by simpa using h)]; omega
theorem sN_snoc : ∀ (a : List Nat) (x : Nat), sN (a ++ [x]) = sN a + x
  | [], x => by simp [sN]
  | p :: a, x => by simp only [List.cons_append, sN]; rw [sN_snoc a x]; omega
theorem dot_eq (f g : Nat → Int) (hf : ∀ k, -16777216 ≤ f k) (hg : ∀ k, -16777216 ≤ g k) : ∀ n : Nat,
    sm (fun k => f k * g k) n = (dN (tab n fun k => (f k + 16777216).toNat) (tab n fun k => (g k + 16777216).toNat) : Int) - 16777216 * ((sN (tab n fun k => (f k + 16777216).toNat) : Int) + (sN (tab n fun k => (g k + 16777216).toNat) : Int)) + n * 281474976710656
  | 0 => by simp [sm, tab_zero, dN, sN]
  | n + 1 => by
    have ih := dot_eq f g hf hg n
    rw [← tab_snoc, ← tab_snoc, dN_snoc _ _ _ _ (by simp [tab_length]), sN_snoc, sN_snoc]
    simp only [sm]
    rw [ih]
    have h1 : (((f n + 16777216).toNat : Nat) : Int) = f n + 16777216 := Int.toNat_of_nonneg (by have := hf n; omega)
    have h2 : (((g n + 16777216).toNat : Nat) : Int) = g n + 16777216 := Int.toNat_of_nonneg (by have := hg n; omega)
    have h3 : (f n + 16777216) * (g n + 16777216) = f n * g n + f n * 16777216 + (16777216 * g n + 16777216 * 16777216) := by rw [Int.add_mul, Int.mul_add, Int.mul_add]
    rw [Int.natCast_add (dN _ _), Int.natCast_mul, Int.natCast_add (sN _), Int.natCast_add (sN _), h1, h2, h3, Int.natCast_add n]
    omega
theorem cg_comm (n k i : Nat) : cg n k i = cg n i k := by unfold cg; rw [Nat.mul_right_comm]

theorem gram_of {n S : Nat} {T : List (List Nat)} (hT : T = tab n fun k => tab n fun i => (cg n k i + 16777216).toNat) (hok : okA n S T 0 T = true) {i j : Nat} (hi : i < n) (hj : j < n) :
    -134217728 ≤ sm (fun k => cg n i k * cg n k j) n - (if i = j then (S : Int) else 0) ∧ sm (fun k => cg n i k * cg n k j) n - (if i = j then (S : Int) else 0) ≤ 134217728 := by
  have hl : T.length = n := by rw [hT, tab_length]
  have h1 := okA_at T 0 i hok (by omega)
  have h2 := okL_at T 0 j h1 (by omega)
  have ei : T.getD i [] = tab n fun k => (cg n i k + 16777216).toNat := by rw [hT]; exact tab_get _ _ _ hi
  have ej : T.getD j [] = tab n fun k => (cg n j k + 16777216).toNat := by rw [hT]; exact tab_get _ _ _ hj
  rw [ei, ej] at h2
  have h3 := dot_eq (fun k => cg n i k) (fun k => cg n j k) (fun k => (cg_bound _ _ _).1) (fun k => (cg_bound _ _ _).1) n
  have h4 : sm (fun k => cg n i k * cg n k j) n = sm (fun k => cg n i k * cg n j k) n := sm_congr n fun k _ => by rw [cg_comm n k j]
  rw [h4, h3]
  simp only [okR, Bool.and_eq_true, Nat.zero_add] at h2
  have h5 := Nat.le_of_ble_eq_true h2.1
  have h6 := Nat.le_of_ble_eq_true h2.2
  have hd : (if Nat.beq i j = true then S else 0) = (if i = j then S else 0) := by
    by_cases e : i = j
    · subst e; simp
    · rw [if_neg e, if_neg (by intro h; exact e (Nat.eq_of_beq_eq_true h))]
  rw [hd] at h5 h6
  generalize dN _ _ = p at *
  generalize sN (tab n fun k => (cg n i k + 16777216).toNat) = q at *
  generalize sN (tab n fun k => (cg n j k + 16777216).toNat) = r at *
  split
  · rename_i e; rw [if_pos e] at h5 h6; omega
  · rename_i e; rw [if_neg e] at h5 h6; omega
theorem gram {n : Nat} (hn : n = 64 ∨ n = 8) {i j : Nat} (hi : i < n) (hj : j < n) :
    -134217728 ≤ sm (fun k => cg n i k * cg n k j) n - (if i = j then (n : Int) * 140737488355328 else 0) ∧ sm (fun k => cg n i k * cg n k j) n - (if i = j then (n : Int) * 140737488355328 else 0) ≤ 134217728 := by
  rcases hn with rfl | rfl
  · exact gram_of M64_eq ok64 hi hj
  · exact gram_of M8_eq ok8 hi hj

theorem sm_mul (f : Nat → Int) (c : Int) : ∀ n, sm (fun i => f i * c) n = sm f n * c
  | 0 => by simp [sm]
  | n + 1 => by simp only [sm]; rw [sm_mul f c n, Int.add_mul]
theorem sm_zero : ∀ n, sm (fun _ => 0) n = 0
  | 0 => rfl
  | n + 1 => by simp only [sm]; rw [sm_zero n]; rfl
theorem sm_swap (f : Nat → Nat → Int) (m : Nat) : ∀ n, sm (fun k => sm (fun j => f k j) m) n = sm (fun j => sm (fun k => f k j) n) m
  | 0 => by simp only [sm]; exact (sm_zero m).symm
  | n + 1 => by
    simp only [sm]
    rw [sm_swap f m n, ← sm_add]
theorem sm_delta (f : Nat → Int) (S : Int) {i : Nat} : ∀ n, sm (fun j => f j * (if i = j then S else 0)) n = if i < n then f i * S else 0
  | 0 => rfl
  | n + 1 => by
    simp only [sm]
    rw [sm_delta f S n]
    by_cases h : i = n
    · subst h; rw [if_neg (by omega), if_pos rfl, if_pos (by omega)]; omega
    · rw [if_neg h]
      by_cases h2 : i < n
      · rw [if_pos h2, if_pos (by omega)]; omega
      · rw [if_neg h2, if_neg (by omega)]; omega
theorem mul_bd {a b : Int} {A B : Nat} (ha : -(A : Int) ≤ a ∧ a ≤ A) (hb : -(B : Int) ≤ b ∧ b ≤ B) : -((A * B : Nat) : Int) ≤ a * b ∧ a * b ≤ ((A * B : Nat) : Int) := by
  have h3 : (a * b).natAbs ≤ A * B := by rw [Int.natAbs_mul]; exact Nat.mul_le_mul (by omega) (by omega)
  omega
/-- There and back, ahead of the last rounding. -/
theorem back_near {u : List Int} (hr : rightB 131072 u = true) (x : List Int) (hx : x.length = u.length) (hxv : ∀ k, k < u.length → x.getD k 0 = (2 * dsum u k + 16777216) / 33554432) {i : Nat} (hi : i < u.length) :
    -((u.length : Int) * 158329674399744) ≤ 16777216 * dsum x i - (u.length : Int) * 140737488355328 * u.getD i 0 ∧ 16777216 * dsum x i - (u.length : Int) * 140737488355328 * u.getD i 0 ≤ (u.length : Int) * 158329674399744 := by
  have hn : u.length = 64 ∨ u.length = 8 := right_sz hr
  generalize hnn : u.length = n at *
  have e1 : 16777216 * dsum x i = sm (fun k => dsum u k * cg n i k) n + sm (fun k => (16777216 * x.getD k 0 - dsum u k) * cg n i k) n := by
    rw [← sm_add]
    have : dsum x i = sm (fun k => x.getD k 0 * cg n i k) n := by unfold dsum; rw [hx]
    rw [this, Int.mul_comm, ← sm_mul]
    refine sm_congr n fun k hk => ?_
    rw [← Int.add_mul, show dsum u k + (16777216 * x.getD k 0 - dsum u k) = x.getD k 0 * 16777216 by omega, Int.mul_right_comm]
  have e2 : sm (fun k => dsum u k * cg n i k) n = sm (fun j => u.getD j 0 * sm (fun k => cg n i k * cg n k j) n) n := by
    have : ∀ k, k < n → dsum u k * cg n i k = sm (fun j => u.getD j 0 * cg n k j * cg n i k) n := fun k _ => by
      unfold dsum; rw [hnn]; exact (sm_mul _ _ _).symm
    rw [sm_congr n this, sm_swap]
    refine sm_congr n fun j _ => ?_
    rw [Int.mul_comm (u.getD j 0), ← sm_mul]
    refine sm_congr n fun k _ => ?_
    rw [Int.mul_assoc, Int.mul_comm, Int.mul_comm (cg n k j)]
  have e3 : sm (fun j => u.getD j 0 * sm (fun k => cg n i k * cg n k j) n) n = u.getD i 0 * ((n : Int) * 140737488355328) + sm (fun j => u.getD j 0 * (sm (fun k => cg n i k * cg n k j) n - (if i = j then (n : Int) * 140737488355328 else 0))) n := by
    have h0 := sm_delta (fun j => u.getD j 0) ((n : Int) * 140737488355328) (i := i) n
    rw [if_pos hi] at h0
    rw [← h0, ← sm_add]
    refine sm_congr n fun j _ => ?_
    rw [← Int.mul_add]
    congr 1; omega
  have b1 := sm_bound (f := fun j => u.getD j 0 * (sm (fun k => cg n i k * cg n k j) n - (if i = j then (n : Int) * 140737488355328 else 0))) (B := 17592186044416) n fun j hj => by
    have := mul_bd (A := 131072) (B := 134217728) (right_at hr (by rw [hnn]; exact hj)) (gram hn hi hj)
    simpa using this
  have b2 := sm_bound (f := fun k => (16777216 * x.getD k 0 - dsum u k) * cg n i k) (B := 140737488355328) n fun k hk => by
    have h1 : -(8388608 : Int) ≤ 16777216 * x.getD k 0 - dsum u k ∧ 16777216 * x.getD k 0 - dsum u k ≤ 8388608 := by rw [hxv k hk]; omega
    have := mul_bd (A := 8388608) (B := 16777216) h1 (cg_bound n i k)
    simpa using this
  rw [e1, e2, e3, Int.mul_comm (u.getD i 0)]
  omega
theorem back_l9 (u m : List Int) (hm : m.length = u.length) (hl : u.length ≤ 64) (h1 : ∀ i, i < u.length → (-1152921504606846976 ≤ u.getD i 0 ∧ u.getD i 0 ≤ 1152921504606846976) ∧ -8 ≤ m.getD i 0 - u.getD i 0 ∧ m.getD i 0 - u.getD i 0 ≤ 8) (K0 : Bool → Prop) (K1 : Prop) (h : K1) : ∀ n i, i + n = u.length →
    ∃ q, L10_DctBack_l9 q u (i : Int) m K0 K1 := by
  intro n
  induction n with
  | zero =>
    intro i hi
    refine ⟨1, ?_⟩
    simp only [L10_DctBack_l9, br_dec]
    rw [if_neg (by omega)]
    exact h
  | succ n ih =>
    intro i hi
    obtain ⟨q, hq⟩ := ih (i + 1) (by omega)
    refine ⟨q + 1, ?_⟩
    have g := h1 i (by omega)
    have e1 : isub .i64 (m.getD i 0) (u.getD i 0) = m.getD i 0 - u.getD i 0 := isub64 (by omega)
    have e2 : isub .i64 (u.getD i 0) (m.getD i 0) = u.getD i 0 - m.getD i 0 := isub64 (by omega)
    simp only [L10_DctBack_l9, br_dec, br_and, Int.toNat_natCast, hm, e1, e2, i64_succ i (show i < 1000000000 by omega)]
    rw [if_pos (by omega), if_pos (by omega), if_pos (by omega), if_pos (by omega), if_pos (by omega), if_pos (by omega), if_neg (by omega), if_pos (by omega), if_pos (by omega), if_pos (by omega), if_pos (by omega), if_pos (by omega), if_neg (by omega)]
    exact hq
theorem back (u : List Int) (_ : Rng (.sl (.int .i64)) u) (K : Bool → Prop) (h : K true) : L10_DctBack u K := by
  have ha := awake_spec K h
  rw [L10_DctBack_def]
  refine rright_spec' _ (by omega) _ _ ?_
  rw [br_not]
  cases hu : rightB 131072 u with
  | false => exact ha
  | true =>
    refine br_t rfl (make_spec _ (four_spec _ _ _ ?_))
    have hl : u.length ≤ 64 := by rcases right_sz hu with hs | hs <;> omega
    have ru := rightB_mono (w' := 33554432) (by omega) hu
    rw [ru, if_pos rfl]
    unfold L10_DctBack_j5
    have lx : (fourV u 24).length = u.length := fourV_length _ _
    have ex : ∀ k, k < u.length → (fourV u 24).getD k 0 = (2 * dsum u k + 16777216) / 33554432 := fun k hk => (tab_get _ _ _ hk).trans (shr24 ru k)
    have db : ∀ k, -140737488355328 ≤ dsum u k ∧ dsum u k ≤ 140737488355328 := fun k => by
      have := sm_bound (f := fun i => u.getD i 0 * cg u.length k i) (B := 2199023255552) u.length fun i hi => by
        have := mul_bd (A := 131072) (B := 16777216) (right_at hu hi) (cg_bound u.length k i)
        simpa using this
      unfold dsum
      omega
    have rx : rightB 33554432 (fourV u 24) = true := rightB_of (by have := right_sz hu; unfold sized; rw [lx]; exact this) fun i hi => by
      rw [lx] at hi
      rw [ex i hi]
      have := db i
      omega
    refine back_spec _ _ _ ?_
    rw [rx, if_pos rfl]
    unfold L10_DctBack_j6
    have ly : (fourV (fourV u 24) (backBy (fourV u 24))).length = u.length := by rw [fourV_length]; exact lx
    simp only [br_not, br_dec, lx, ly, if_true]
    refine back_l9 u _ ly hl (fun i hi => ?_) K _ ha u.length 0 (by omega)
    have hn := back_near hu (fourV u 24) lx ex hi
    have hui := right_at hu hi
    have hxb := dsum_bound rx i
    refine ⟨by omega, ?_⟩
    have ey : (fourV (fourV u 24) (backBy (fourV u 24))).getD i 0 = shrV (dsum (fourV u 24) i) (backBy (fourV u 24)) := tab_get _ _ _ (by omega)
    rw [ey]
    unfold backBy
    rw [lx]
    rcases right_sz hu with hs | hs
    · rw [hs, if_neg (by decide)]
      rw [hs] at hn
      have := shr_at (s := 29) (by omega) (x := dsum (fourV u 24) i) (by omega)
      rw [show ((29 : Nat) : Int) = 29 from rfl] at this
      rw [this]
      generalize dsum (fourV u 24) i = b at *
      omega
    · rw [hs, if_pos rfl]
      rw [hs] at hn
      have := shr_at (s := 26) (by omega) (x := dsum (fourV u 24) i) (by omega)
      rw [show ((26 : Nat) : Int) = 26 from rfl] at this
      rw [this]
      generalize dsum (fourV u 24) i = b at *
      omega
end
end Go.Eng.A
