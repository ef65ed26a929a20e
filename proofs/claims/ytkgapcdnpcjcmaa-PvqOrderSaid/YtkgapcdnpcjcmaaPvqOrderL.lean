import Derived.Test.YtkgapcdnpcjcmaaEngV
import Derived.Test.YtkgapcdnpcjcmaaEngU
import Derived.Test.YtkgapcdnpcjcmaaPvqOrderP
set_option linter.unusedSimpArgs false
set_option linter.unusedVariables false
set_option maxHeartbeats 2000000
namespace Go.Eng.A
open Go Go.Eng
set_option maxRecDepth 100000
noncomputable section
theorem drop_cons {α : Type} (d : α) {l : List α} {i : Nat} (h : i < l.length) : l.drop i = l.getD i d :: l.drop (i + 1) := by
  rw [List.drop_eq_getElem_cons h]; simp [List.getD, List.getElem?_eq_getElem h]
theorem getD_of_drop {l : List Int} {i : Nat} {x : Int} {r : List Int} (h : l.drop i = x :: r) : l.getD i 0 = x ∧ i < l.length ∧ l.drop (i + 1) = r := by
  have hi : i < l.length := by
    apply Classical.byContradiction
    intro hn
    rw [List.drop_eq_nil_of_le (by omega)] at h
    cases h
  rw [drop_cons 0 hi] at h
  injection h with h1 h2
  exact ⟨h1, hi, h2⟩
theorem tab_length {α : Type} (n : Nat) (f : Nat → α) : (tab n f).length = n := by simp [tab]
theorem tab_get {α : Type} (n : Nat) (f : Nat → α) (d : α) {i : Nat} (h : i < n) : (tab n f).getD i d = f i := by
  simp [tab, List.getD, List.getElem?_map, List.getElem?_range h]
theorem tab_set {α : Type} (n : Nat) (f : Nat → α) (i : Nat) (a : α) : (tab n f).set i a = tab n fun j => if j = i then a else f j := by
  apply List.ext_getElem (by simp [tab])
  intro j h1 h2
  simp only [tab, List.length_set, List.length_map, List.length_range] at h1
  simp only [tab, List.getElem_set, List.getElem_map, List.getElem_range]
  by_cases e : i = j
  · rw [if_pos e, if_pos e.symm]
  · rw [if_neg e, if_neg (Ne.symm e)]
theorem tab_snoc {α : Type} (n : Nat) (f : Nat → α) : tab n f ++ [f n] = tab (n + 1) f := by simp [tab, List.range_succ]
theorem tab_congr {α : Type} {n : Nat} {f g : Nat → α} (h : ∀ j, j < n → f j = g j) : tab n f = tab n g := by
  unfold tab
  apply List.map_congr_left
  intro j hj; exact h j (List.mem_range.1 hj)
theorem tab_const {α : Type} (n : Nat) (a : α) : List.replicate n a = tab n fun _ => a := by
  apply List.ext_getElem (by simp [tab])
  intro j h1 h2
  simp [tab]
theorem tab_zero {α : Type} (f : Nat → α) : tab 0 f = [] := rfl
/-- A list that is filled place by place. -/
def fillT {α : Type} (n i : Nat) (d : α) (f : Nat → α) : List α := tab n fun j => if j < i then f j else d
theorem fillT_length {α : Type} (n i : Nat) (d : α) (f : Nat → α) : (fillT n i d f).length = n := tab_length _ _
theorem fillT_zero {α : Type} (n : Nat) (d : α) (f : Nat → α) : fillT n 0 d f = List.replicate n d := by
  rw [tab_const]; exact tab_congr fun j _ => if_neg (by omega)
theorem fillT_set {α : Type} (n i : Nat) (d : α) (f : Nat → α) : (fillT n i d f).set i (f i) = fillT n (i + 1) d f := by
  unfold fillT
  rw [tab_set]
  refine tab_congr fun j _ => ?_
  by_cases e : j = i
  · rw [if_pos e, if_pos (by omega), e]
  · rw [if_neg e]
    by_cases h : j < i
    · rw [if_pos h, if_pos (by omega)]
    · rw [if_neg h, if_neg (by omega)]
theorem fillT_full {α : Type} (n : Nat) (d : α) (f : Nat → α) : fillT n n d f = tab n f := tab_congr fun _ hj => if_pos hj
theorem wrap64 {n : Int} (h : -9223372036854775808 ≤ n ∧ n ≤ 9223372036854775807) : Go.IntKind.wrap .i64 n = n := Go.IntWalk.i64_in _ h
theorem imax_eq' (a b : Int) : imax a b = max a b := by unfold imax; omega
theorem imin_eq' (a b : Int) : imin a b = min a b := by unfold imin; omega
theorem rng16 {n : Int} (h : (Lit.int .i16 n).wf = true) : -32768 ≤ n ∧ n ≤ 32767 := by
  simpa [Lit.wf, IntKind.min, IntKind.max, IntKind.signed, IntKind.bits] using h
theorem rng8 {n : Int} (h : (Lit.int .u8 n).wf = true) : 0 ≤ n ∧ n ≤ 255 := by
  simpa [Lit.wf, IntKind.min, IntKind.max, IntKind.signed, IntKind.bits] using h
theorem i64_succ (i : Nat) (h : i < 1000000000) : iadd .i64 (i : Int) 1 = ((i + 1 : Nat) : Int) := by rw [iadd64 (by omega)]; omega
theorem all_getD {p : Int → Bool} {l : List Int} (h : l.all p = true) {i : Nat} (hi : i < l.length) : p (l.getD i 0) = true := by
  rw [List.all_eq_true] at h
  refine h _ ?_
  simp [List.getD, List.getElem?_eq_getElem hi]
theorem getD_mem {l : List Int} {i : Nat} (hi : i < l.length) : l.getD i 0 ∈ l := by simp [List.getD, List.getElem?_eq_getElem hi]
theorem same_l4 (a b : List Int) (K0 : Bool → Prop) (K1 : Prop) (hl : a.length ≤ 1000000) (hab : a.length = b.length) : ∀ (n i : Nat), i + n = a.length →
    (if a.drop i = b.drop i then K1 else K0 false) → ∃ q, R01_Same_l4 q a b i K0 K1 := by
  intro n
  induction n with
  | zero =>
    intro i hi h
    refine ⟨1, ?_⟩
    rw [List.drop_eq_nil_of_le (by omega), List.drop_eq_nil_of_le (by omega)] at h
    simp only [R01_Same_l4, br_dec]
    rw [if_neg (by omega)]
    simpa using h
  | succ n ih =>
    intro i hi h
    rw [drop_cons 0 (l := a) (by omega), drop_cons 0 (l := b) (by omega)] at h
    by_cases hx : a.getD i 0 = b.getD i 0
    · obtain ⟨q, hq⟩ := ih (i + 1) (by omega) (by rw [hx] at h; simpa only [List.cons.injEq, true_and] using h)
      refine ⟨q + 1, ?_⟩
      simp only [R01_Same_l4, br_dec, br_and, br_not, Int.toNat_natCast]
      rw [if_pos (by omega), if_pos (by omega), if_pos (by omega), if_pos (by omega), if_pos (by omega), if_pos hx, iadd64 (by omega)]
      exact hq
    · refine ⟨1, ?_⟩
      simp only [R01_Same_l4, br_dec, br_and, br_not, Int.toNat_natCast]
      rw [if_pos (by omega), if_pos (by omega), if_pos (by omega), if_pos (by omega), if_pos (by omega), if_neg hx]
      rw [if_neg (fun e => hx (by injection e))] at h
      exact h
theorem same_spec (a b : List Int) (K0 : Bool → Prop) (hl : a.length ≤ 1000000) (h : K0 (decide (a = b))) : R01_Same a b K0 := by
  rw [R01_Same_def]
  rw [br_not, br_dec]
  split
  · rename_i hab
    refine same_l4 a b _ _ hl (by omega) a.length 0 (by omega) ?_
    rw [List.drop_zero, List.drop_zero]
    split
    · rename_i e; rw [decide_eq_true e] at h; exact h
    · rename_i e; rw [decide_eq_false e] at h; exact h
  · rename_i hab
    rw [decide_eq_false (fun e => hab (by rw [e]))] at h
    exact h
theorem same_self (a : List Int) (K0 : Bool → Prop) (hl : a.length ≤ 1000000) (h : K0 true) : R01_Same a a K0 :=
  same_spec a a K0 hl (by rw [decide_eq_true rfl]; exact h)
/-- How far a number is from 0, unless it is too far. -/
def absV (x : Int) : Int := if x < -4611686018427387904 ∨ 4611686018427387904 < x then 0 else max x (-x)
theorem abs_within1 (x : Int) (K0 : Bool → Prop) (h : K0 (decide (-4611686018427387904 ≤ x ∧ x ≤ 4611686018427387904))) : num_within 4611686018427387904 [x] K0 := by
  rw [num_within_def]
  refine ⟨2, ?_⟩
  have e0 : isub .i64 0 4611686018427387904 = -4611686018427387904 := by decide
  have e1 : iadd .i64 0 1 = 1 := by decide
  simp only [num_within_l2, br_dec, br_and, e0, e1, List.length_cons, List.length_nil]
  rw [if_pos (by decide), if_pos (by decide), if_pos (by decide)]
  show if x < _ then _ else if _ < x then _ else _
  split
  · rw [decide_eq_false (by omega)] at h; exact h
  split
  · rw [decide_eq_false (by omega)] at h; exact h
  · rw [if_neg (by decide)]
    rw [decide_eq_true (by omega)] at h; exact h
theorem abs_spec (x : Int) (K0 : Int → Prop) (h : K0 (absV x)) : num_Abs x K0 := by
  rw [num_Abs_def]
  refine abs_within1 x _ ?_
  unfold absV at h
  rw [br_not, br_dec]
  split
  · rw [if_neg (by omega)] at h
    rw [br_dec]
    split
    · rw [isub64 (by omega), show (0 : Int) - x = max x (-x) by omega]; exact h
    · rw [show max x (-x) = x by omega] at h; exact h
  · rw [if_pos (by omega)] at h; exact h
theorem absV_of {x : Int} (h : -4611686018427387904 ≤ x ∧ x ≤ 4611686018427387904) : absV x = max x (-x) := by unfold absV; rw [if_neg (by omega)]
/-- How far a number is from 0, where it may be. -/
def farV (x : Int) : Int := if x < -24 ∨ 24 < x then 25 else max x (-x)
def farS : List Int → Int
  | [] => 0
  | x :: r => farV x + farS r
theorem farV_b (x : Int) : 0 ≤ farV x ∧ farV x ≤ 25 := by unfold farV; split <;> omega
theorem farS_b : ∀ l : List Int, 0 ≤ farS l ∧ farS l ≤ 25 * l.length
  | [] => by simp [farS]
  | x :: r => by
    have := farV_b x
    have := farS_b r
    simp only [farS, List.length_cons]
    omega
def sizeK (k : Int) (K0 : Int → Bool → Prop) : Prop := if 24 < k then K0 0 false else K0 k true
def sizeV (x : List Int) : Option Int := if 1 ≤ x.length ∧ x.length ≤ 8 ∧ farS x ≤ 24 then some (farS x) else none
def sizeM (o : Option Int) (K0 : Int → Bool → Prop) : Prop := match o with | none => K0 0 false | some k => K0 k true
theorem size_l5 (x : List Int) (hl : x.length ≤ 8) (K0 : Int → Bool → Prop) (K1 : Int → Prop) (hK : ∀ k, sizeK k K0 → K1 k) : ∀ (n i : Nat) (k : Int), i + n = x.length → 0 ≤ k ∧ k ≤ 25 * i → sizeK (k + farS (x.drop i)) K0 → ∃ q, pvq_Size_l5 q k x x.length i K0 K1 := by
  intro n
  induction n with
  | zero =>
    intro i k hi hk h
    refine ⟨1, ?_⟩
    rw [List.drop_eq_nil_of_le (by omega)] at h
    simp only [pvq_Size_l5, br_dec]
    rw [if_neg (by omega)]
    refine hK _ ?_
    simpa [farS] using h
  | succ n ih =>
    intro i k hi hk h
    rw [drop_cons 0 (by omega)] at h
    simp only [farS] at h
    have h2 := farS_b (x.drop (i + 1))
    by_cases hv : x.getD i 0 < -24 ∨ 24 < x.getD i 0
    · have hf : farV (x.getD i 0) = 25 := by unfold farV; rw [if_pos hv]
      have h : K0 0 false := by
        unfold sizeK at h; rw [if_pos (by omega)] at h; exact h
      refine ⟨1, ?_⟩
      simp only [pvq_Size_l5, pvq_Size_j8, br_dec, br_and, br_true, Int.toNat_natCast]
      rw [if_pos (by omega), if_pos (by omega), if_pos (by omega)]
      split
      · exact h
      · rw [if_pos (by omega)]; exact h
    · have hf : farV (x.getD i 0) = max (x.getD i 0) (-(x.getD i 0)) := by unfold farV; rw [if_neg hv]
      have ha : absV (x.getD i 0) = farV (x.getD i 0) := by rw [hf]; exact absV_of (by omega)
      have hb := farV_b (x.getD i 0)
      obtain ⟨q, hq⟩ := ih (i + 1) (k + farV (x.getD i 0)) (by omega) (by omega) (by rw [Int.add_assoc]; exact h)
      refine ⟨q + 1, ?_⟩
      simp only [pvq_Size_l5, pvq_Size_j8, pvq_Size_j9, br_dec, br_and, br_true, Int.toNat_natCast]
      rw [if_pos (by omega), if_pos (by omega), if_pos (by omega), if_neg (by omega), if_neg (by omega)]
      refine abs_spec _ _ ?_
      rw [ha, iadd64 (by omega), i64_succ _ (by omega)]
      exact hq
theorem size_spec (x : List Int) (K0 : Int → Bool → Prop) (h : sizeM (sizeV x) K0) : pvq_Size x K0 := by
  rw [pvq_Size_def]
  unfold sizeV at h
  simp only [br_dec, pvq_Size_j2, br_true]
  split
  · rw [if_neg (by omega)] at h; exact h
  split
  · rw [if_neg (by omega)] at h; exact h
  · unfold pvq_Size_j3
    refine size_l5 x (by omega) K0 _ (fun k hk => ?_) x.length 0 0 (by omega) (by omega) ?_
    · rw [br_dec]; exact hk
    · rw [List.drop_zero, Int.zero_add]
      unfold sizeK
      split
      · rw [if_neg (by omega)] at h; exact h
      · rw [if_pos (by omega)] at h; exact h
theorem rfar_spec (x : Int) (K : Int → Prop) (h : K (farV x)) : R16_far x K := by
  rw [R16_far_def]
  unfold farV at h
  simp only [br_dec]
  split
  · rw [if_pos (by omega)] at h; exact h
  split
  · rw [if_pos (by omega)] at h; exact h
  · rw [if_neg (by omega)] at h
    rw [isub64 (by omega), imax_eq', Int.zero_sub]; exact h
def pvT : List (List Int) := [[1, 0, 0, 0, 0, 0, 0, 0, 0, 0, 0, 0, 0, 0, 0, 0, 0, 0, 0, 0, 0, 0, 0, 0, 0], [1, 2, 2, 2, 2, 2, 2, 2, 2, 2, 2, 2, 2, 2, 2, 2, 2, 2, 2, 2, 2, 2, 2, 2, 2], [1, 4, 8, 12, 16, 20, 24, 28, 32, 36, 40, 44, 48, 52, 56, 60, 64, 68, 72, 76, 80, 84, 88, 92, 96], [1, 6, 18, 38, 66, 102, 146, 198, 258, 326, 402, 486, 578, 678, 786, 902, 1026, 1158, 1298, 1446, 1602, 1766, 1938, 2118, 2306], [1, 8, 32, 88, 192, 360, 608, 952, 1408, 1992, 2720, 3608, 4672, 5928, 7392, 9080, 11008, 13192, 15648, 18392, 21440, 24808, 28512, 32568, 36992], [1, 10, 50, 170, 450, 1002, 1970, 3530, 5890, 9290, 14002, 20330, 28610, 39210, 52530, 69002, 89090, 113290, 142130, 176170, 216002, 262250, 315570, 376650, 446210], [1, 12, 72, 292, 912, 2364, 5336, 10836, 20256, 35436, 58728, 93060, 142000, 209820, 301560, 423092, 581184, 783564, 1038984, 1357284, 1749456, 2227708, 2805528, 3497748, 4320608], [1, 14, 98, 462, 1666, 4942, 12642, 28814, 59906, 115598, 209762, 361550, 596610, 948430, 1459810, 2184462, 3188738, 4553486, 6376034, 8772302, 11879042, 15856206, 20889442, 27192718, 35011074], [1, 16, 128, 688, 2816, 9424, 27008, 68464, 157184, 332688, 658048, 1229360, 2187520, 3732560, 6140800, 9785072, 15158272, 22900496, 33830016, 48978352, 69629696, 97364944, 134110592, 182192752, 244396544]]
def T (a b : Nat) : Int := (pvT.getD a []).getD b 0
theorem T_rel : ∀ a, a < 8 → ∀ b, b < 24 → T (a + 1) (b + 1) = T a (b + 1) + T (a + 1) b + T a b := by decide +kernel
theorem T_one : ∀ a, a < 9 → T a 0 = 1 := by decide +kernel
theorem T_nul : ∀ b, b < 24 → T 0 (b + 1) = 0 := by decide +kernel
theorem T_b : ∀ a, a < 9 → ∀ b, b < 25 → 0 ≤ T a b ∧ T a b ≤ 1000000000000 := by decide +kernel
def matM (n v : Nat) : List (List Int) := tab 9 fun a => tab 25 fun b => if a ≤ n ∨ (a = n + 1 ∧ b ≤ v) then T a b else 0
def rowM (n : Nat) : List (List Int) := tab 9 fun a => tab 25 fun b => if a ≤ n then T a b else 0
def matT : List (List Int) := tab 9 fun a => tab 25 fun b => T a b
theorem rowM_8 : rowM 8 = matT := tab_congr fun a ha => tab_congr fun b _ => if_pos (by omega)
theorem matM_24 (n : Nat) : matM n 24 = rowM (n + 1) := by
  refine tab_congr fun a ha => tab_congr fun b hb => ?_
  by_cases h : a ≤ n + 1
  · rw [if_pos h, if_pos (by omega)]
  · rw [if_neg h, if_neg (by omega)]
theorem matM_row (n v : Nat) {a : Nat} (ha : a < 9) : (matM n v).getD a (List.replicate 25 0) = tab 25 fun b => if a ≤ n ∨ (a = n + 1 ∧ b ≤ v) then T a b else 0 := tab_get _ _ _ ha
theorem matM_get (n v : Nat) {a b : Nat} (ha : a < 9) (hb : b < 25) : ((matM n v).getD a (List.replicate 25 0)).getD b 0 = if a ≤ n ∨ (a = n + 1 ∧ b ≤ v) then T a b else 0 := by
  rw [matM_row n v ha, tab_get _ _ _ hb]
theorem matM_step (n v : Nat) (hn : n < 8) (hv : v < 24) : (matM n v).set (n + 1) (((matM n v).getD (n + 1) (List.replicate 25 0)).set (v + 1) (T n (v + 1) + T (n + 1) v + T n v)) = matM n (v + 1) := by
  rw [matM_row n v (by omega), tab_set, ← T_rel n hn v hv]
  unfold matM
  rw [tab_set]
  refine tab_congr fun a ha => ?_
  split
  · rename_i e
    subst e
    refine tab_congr fun b hb => ?_
    split
    · rename_i e; subst e; rw [if_pos (by omega)]
    · by_cases h : b ≤ v
      · rw [if_pos (by omega), if_pos (by omega)]
      · rw [if_neg (by omega), if_neg (by omega)]
  · refine tab_congr fun b hb => ?_
    by_cases h : a ≤ n
    · rw [if_pos (by omega), if_pos (by omega)]
    · rw [if_neg (by omega), if_neg (by omega)]
theorem rowM_step (n : Nat) (hn : n < 8) : (rowM n).set (n + 1) (((rowM n).getD (n + 1) (List.replicate 25 0)).set 0 1) = matM n 0 := by
  have e : (rowM n).getD (n + 1) (List.replicate 25 0) = tab 25 fun b => if n + 1 ≤ n then T (n + 1) b else 0 := tab_get _ _ _ (by omega)
  rw [e, tab_set]
  unfold matM rowM
  rw [tab_set]
  refine tab_congr fun a ha => ?_
  split
  · rename_i e
    subst e
    refine tab_congr fun b hb => ?_
    split
    · rename_i e; subst e; rw [if_pos (by omega), T_one _ (by omega)]
    · rw [if_neg (by omega), if_neg (by omega)]
  · refine tab_congr fun b hb => ?_
    by_cases h : a ≤ n
    · rw [if_pos h, if_pos (by omega)]
    · rw [if_neg h, if_neg (by omega)]
theorem rowM_zero : (List.replicate 9 (List.replicate 25 (0 : Int))).set 0 (((List.replicate 9 (List.replicate 25 (0 : Int))).getD 0 (List.replicate 25 0)).set 0 1) = rowM 0 := by decide +kernel
theorem made_l8 (n : Nat) (hn : n < 8) (K : Int → List (List Int) → Prop) (h : K n (rowM (n + 1))) : ∀ d v : Nat, v + d = 24 → ∃ q, pvq_made_l8 q n n v (matM n v) K := by
  intro d
  induction d with
  | zero =>
    intro v hv
    refine ⟨1, ?_⟩
    have hv : v = 24 := by omega
    subst hv
    simp only [pvq_made_l8, br_dec]
    rw [if_neg (by omega), matM_24]; exact h
  | succ d ih =>
    intro v hv
    obtain ⟨q, hq⟩ := ih (v + 1) (by omega)
    refine ⟨q + 1, ?_⟩
    have b1 := T_b n (by omega) (v + 1) (by omega)
    have b2 := T_b (n + 1) (by omega) v (by omega)
    have b3 := T_b n (by omega) v (by omega)
    have e1 := i64_succ n (by omega)
    have e2 := i64_succ v (by omega)
    have hl : (matM n v).length = 9 := tab_length _ _
    have hr : ∀ a, a < 9 → ((matM n v).getD a (List.replicate 25 0)).length = 25 := fun a ha => by rw [matM_row n v ha]; exact tab_length _ _
    simp only [pvq_made_l8, br_dec, br_and, e1, e2, Int.toNat_natCast, hl, hr n (by omega), hr (n + 1) (by omega)]
    have g1 : ((matM n v).getD n (List.replicate 25 0)).getD (v + 1) 0 = T n (v + 1) := by rw [matM_get n v (by omega) (by omega)]; exact if_pos (Or.inl (Nat.le_refl n))
    have g2 : ((matM n v).getD (n + 1) (List.replicate 25 0)).getD v 0 = T (n + 1) v := by rw [matM_get n v (by omega) (by omega)]; exact if_pos (Or.inr ⟨rfl, Nat.le_refl v⟩)
    have g3 : ((matM n v).getD n (List.replicate 25 0)).getD v 0 = T n v := by rw [matM_get n v (by omega) (by omega)]; exact if_pos (Or.inl (Nat.le_refl n))
    rw [g1, g2, g3, iadd64 (a := T n (v + 1)) (by omega), iadd64 (by omega), matM_step n v hn (by omega)]
    repeat rw [if_pos (by omega)]
    exact hq
theorem made_l4 (K : List (List Int) → Prop) (h : K matT) : ∀ d n : Nat, n + d = 8 → ∃ q, pvq_made_l4 q n (rowM n) K := by
  intro d
  induction d with
  | zero =>
    intro n hn
    refine ⟨1, ?_⟩
    have hn : n = 8 := by omega
    subst hn
    simp only [pvq_made_l4, br_dec]
    rw [if_neg (by omega), rowM_8]; exact h
  | succ d ih =>
    intro n hn
    obtain ⟨q, hq⟩ := ih (n + 1) (by omega)
    refine ⟨q + 1, ?_⟩
    have e1 := i64_succ n (by omega)
    have hl : (rowM n).length = 9 := tab_length _ _
    have hr : ((rowM n).getD (n + 1) (List.replicate 25 0)).length = 25 := by
      have e : (rowM n).getD (n + 1) (List.replicate 25 0) = tab 25 fun b => if n + 1 ≤ n then T (n + 1) b else 0 := tab_get _ _ _ (by omega)
      rw [e, tab_length]
    simp only [pvq_made_l4, br_dec, br_and, e1, Int.toNat_natCast, hl, hr]
    rw [if_pos (by omega), if_pos (by omega), if_pos (by omega), if_pos (by omega), if_pos (by omega), rowM_step n (by omega)]
    refine made_l8 n (by omega) _ ?_ 24 0 rfl
    rw [e1]; exact hq
theorem made_spec (K : List (List Int) → Prop) (h : K matT) : pvq_made K := by
  rw [pvq_made_def]
  simp only [br_dec]
  rw [if_pos (by decide), if_pos (by decide), rowM_zero]
  exact made_l4 K h 8 0 rfl
/-- How many there are. -/
def cntV (n k : Int) : Int := if n < 0 ∨ 8 < n ∨ k < 0 ∨ 24 < k then 0 else T n.toNat k.toNat
theorem matT_row {a : Nat} (ha : a < 9) (d : List Int) : matT.getD a d = tab 25 (T a) := tab_get _ _ _ ha
theorem count_spec (n k : Int) (K : Int → Prop) (h : K (cntV n k)) : pvq_Count n k K := by
  rw [pvq_Count_def]
  unfold cntV at h
  simp only [br_dec, br_and]
  split
  · rw [if_pos (by omega)] at h; exact h
  split
  · rw [if_pos (by omega)] at h; exact h
  split
  · rw [if_pos (by omega)] at h; exact h
  split
  · rw [if_pos (by omega)] at h; exact h
  rw [if_neg (by omega)] at h
  refine made_spec _ ?_
  rw [if_pos (by omega), if_pos (by omega), if_pos (by omega), if_pos (by omega), matT_row (by omega), tab_get _ _ _ (by omega)]
  exact h
def ps (i k : Nat) : Nat → Int
  | 0 => T i k
  | j + 1 => ps i k j + 2 * T i (k - (j + 1))
theorem ps_eq : ∀ i, i < 8 → ∀ k, k < 25 → ps i k k = T (i + 1) k := by decide +kernel
theorem ps_b : ∀ i, i < 8 → ∀ k, k < 25 → ∀ j, j < 25 → 0 ≤ ps i k j ∧ ps i k j ≤ 1000000000000000 := by decide +kernel
def rowsL (i : Nat) : List (List Int) := tab i fun a => tab 25 (T a)
theorem rowsL_get {i a : Nat} (h : a < i) : (rowsL i).getD a [] = tab 25 (T a) := tab_get _ _ _ h
def aS (s : Nat) : Nat := (s + 1) / 2
/-- The digits, in their order. -/
def pS (s : Nat) : Int := if s % 2 = 1 then ((aS s : Nat) : Int) else -((aS s : Nat) : Int)
def iS (v : Int) : Nat := if 0 < v then 2 * v.natAbs - 1 else 2 * v.natAbs
theorem aS_iS (v : Int) : aS (iS v) = v.natAbs := by unfold aS iS; split <;> omega
theorem pS_iS (v : Int) : pS (iS v) = v := by
  unfold pS; rw [aS_iS]; unfold iS
  split <;> split <;> omega
theorem iS_pS (s : Nat) : iS (pS s) = s := by
  unfold pS aS iS
  split
  · split <;> omega
  · split <;> omega
theorem pS_abs (s : Nat) : (pS s).natAbs = aS s := by unfold pS; split <;> omega
/-- How many numbers lie ahead of a digit's. -/
def ofs (m k : Nat) : Nat → Int
  | 0 => 0
  | s + 1 => ofs m k s + T m (k - aS s)
theorem ofs_ps (m k : Nat) : ∀ j, ofs m k (2 * j + 1) = ps m k j
  | 0 => by
    show (0 : Int) + T m (k - aS 0) = T m k
    rw [Int.zero_add]; rfl
  | j + 1 => by
    have ih := ofs_ps m k j
    show ofs m k (2 * j + 1) + T m (k - aS (2 * j + 1)) + T m (k - aS (2 * j + 2)) = ps m k j + 2 * T m (k - (j + 1))
    rw [ih, show aS (2 * j + 1) = j + 1 by unfold aS; omega, show aS (2 * j + 2) = j + 1 by unfold aS; omega]
    omega
theorem ofs_full {m k : Nat} (hm : m < 8) (hk : k < 25) : ofs m k (2 * k + 1) = T (m + 1) k := by rw [ofs_ps, ps_eq m hm k hk]
theorem ofs_step {m k : Nat} (hm : m < 9) (hk : k < 25) (s : Nat) : ofs m k s ≤ ofs m k (s + 1) := by
  have := T_b m hm (k - aS s) (by omega)
  show _ ≤ ofs m k s + T m (k - aS s)
  omega
theorem ofs_mono {m k : Nat} (hm : m < 9) (hk : k < 25) (s : Nat) : ∀ d, ofs m k s ≤ ofs m k (s + d)
  | 0 => Int.le_refl _
  | d + 1 => Int.le_trans (ofs_mono hm hk s d) (ofs_step hm hk (s + d))
theorem ofs_le {m k s t : Nat} (hm : m < 9) (hk : k < 25) (h : s ≤ t) : ofs m k s ≤ ofs m k t := by
  have := ofs_mono hm hk s (t - s)
  rwa [show s + (t - s) = t by omega] at this
theorem ofs_b {m k s : Nat} (hm : m < 8) (hk : k < 25) (hs : s ≤ 2 * k + 1) : 0 ≤ ofs m k s ∧ ofs m k s ≤ 1000000000000 := by
  have h1 := ofs_le (m := m) (k := k) (s := 0) (t := s) (by omega) hk (by omega)
  have h2 := ofs_le (m := m) (k := k) (by omega) hk hs
  rw [ofs_full hm hk] at h2
  have h3 := T_b (m + 1) (by omega) k hk
  have h4 : ofs m k 0 = 0 := rfl
  omega
def sOf (m k : Nat) (i : Int) : Nat → Nat → Nat
  | 0, s => s
  | d + 1, s => if i < ofs m k (s + 1) then s else sOf m k i d (s + 1)
theorem sOf_eq {m k : Nat} (hm : m < 9) (hk : k < 25) {i : Int} {S : Nat} (h1 : ofs m k S ≤ i) (h2 : i < ofs m k (S + 1)) : ∀ d s, s ≤ S → S ≤ s + d → sOf m k i d s = S
  | 0, s, ha, hb => by unfold sOf; omega
  | d + 1, s, ha, hb => by
    unfold sOf
    by_cases he : s = S
    · rw [if_pos (by rw [he]; exact h2)]; exact he
    · have := ofs_le (m := m) (k := k) (s := s + 1) (t := S) hm hk (by omega)
      rw [if_neg (by omega)]
      exact sOf_eq hm hk h1 h2 d (s + 1) (by omega) (by omega)
theorem s_ex {m k : Nat} {i : Int} (h0 : 0 ≤ i) : ∀ t, i < ofs m k t → ∃ S, S < t ∧ ofs m k S ≤ i ∧ i < ofs m k (S + 1)
  | 0, h => by have : ofs m k 0 = 0 := rfl; omega
  | t + 1, h => by
    by_cases hc : i < ofs m k t
    · obtain ⟨S, a, b⟩ := s_ex h0 t hc
      exact ⟨S, by omega, b⟩
    · exact ⟨t, by omega, by omega, h⟩
def dgS (m k : Nat) (i : Int) : Nat := sOf m k i (2 * k) 0
theorem dgS_spec {m k : Nat} (hm : m < 8) (hk : k < 25) {i : Int} (h : 0 ≤ i ∧ i < T (m + 1) k) : dgS m k i ≤ 2 * k ∧ ofs m k (dgS m k i) ≤ i ∧ i < ofs m k (dgS m k i + 1) := by
  obtain ⟨S, a, b, c⟩ := s_ex (m := m) (k := k) h.1 (2 * k + 1) (by rw [ofs_full hm hk]; exact h.2)
  have e : dgS m k i = S := sOf_eq (by omega) hk b c (2 * k) 0 (by omega) (by omega)
  rw [e]; exact ⟨by omega, b, c⟩
theorem dgS_eq {m k S : Nat} (hm : m < 8) (hk : k < 25) {i : Int} (hS : S ≤ 2 * k) (h1 : ofs m k S ≤ i) (h2 : i < ofs m k (S + 1)) : dgS m k i = S := sOf_eq (by omega) hk h1 h2 (2 * k) 0 (by omega) (by omega)
def sumA : List Int → Nat
  | [] => 0
  | x :: r => x.natAbs + sumA r
/-- The number of pulses, and the pulses of a number. -/
def idx : List Int → Nat → Int
  | [], _ => 0
  | x :: r, k => ofs r.length k (iS x) + idx r (k - x.natAbs)
def vec : Nat → Nat → Int → List Int
  | 0, _, _ => []
  | m + 1, k, i => pS (dgS m k i) :: vec m (k - aS (dgS m k i)) (i - ofs m k (dgS m k i))
theorem iS_le {x : Int} {k : Nat} (h : x.natAbs ≤ k) : iS x ≤ 2 * k := by unfold iS; split <;> omega
theorem ofs_next (m k : Nat) (x : Int) : ofs m k (iS x + 1) = ofs m k (iS x) + T m (k - x.natAbs) := by
  show ofs m k (iS x) + T m (k - aS (iS x)) = _
  rw [aS_iS]
theorem idx_b : ∀ (x : List Int) (k : Nat), x.length ≤ 8 → k < 25 → sumA x = k → 0 ≤ idx x k ∧ idx x k < T x.length k
  | [], k, _, _, h => by
    simp only [sumA] at h
    subst h
    simp only [idx, List.length_nil]
    rw [T_one 0 (by omega)]; omega
  | x :: r, k, hl, hk, h => by
    simp only [sumA, List.length_cons] at h hl
    obtain ⟨h1, h2⟩ := idx_b r (k - x.natAbs) (by omega) (by omega) (by omega)
    have h3 := ofs_b (m := r.length) (k := k) (s := iS x) (by omega) hk (by have := iS_le (x := x) (k := k) (by omega); omega)
    have h4 := ofs_le (m := r.length) (k := k) (s := iS x + 1) (t := 2 * k + 1) (by omega) hk (by have := iS_le (x := x) (k := k) (by omega); omega)
    rw [ofs_full (by omega) hk, ofs_next] at h4
    simp only [idx, List.length_cons]
    omega
theorem vec_idx : ∀ (x : List Int) (k : Nat), x.length ≤ 8 → k < 25 → sumA x = k → vec x.length k (idx x k) = x
  | [], k, _, _, _ => rfl
  | x :: r, k, hl, hk, h => by
    simp only [sumA, List.length_cons] at h hl
    obtain ⟨h1, h2⟩ := idx_b r (k - x.natAbs) (by omega) (by omega) (by omega)
    have e : dgS r.length k (idx (x :: r) k) = iS x := by
      refine dgS_eq (by omega) hk (iS_le (by omega)) ?_ ?_
      · simp only [idx]; omega
      · rw [ofs_next]; simp only [idx]; omega
    simp only [List.length_cons, vec]
    rw [e, pS_iS, aS_iS]
    have e2 : idx (x :: r) k - ofs r.length k (iS x) = idx r (k - x.natAbs) := by simp only [idx]; omega
    rw [e2, vec_idx r _ (by omega) (by omega) (by omega)]
theorem vec_spec : ∀ (n k : Nat) (i : Int), n ≤ 8 → k < 25 → 0 ≤ i ∧ i < T n k → (vec n k i).length = n ∧ sumA (vec n k i) = k ∧ idx (vec n k i) k = i
  | 0, k, i, _, hk, h => by
    have : k = 0 := by
      apply Classical.byContradiction
      intro hn
      have := T_nul (k - 1) (by omega)
      rw [show k - 1 + 1 = k by omega] at this
      omega
    subst this
    rw [T_one 0 (by omega)] at h
    exact ⟨rfl, rfl, by show (0 : Int) = i; omega⟩
  | n + 1, k, i, hn, hk, h => by
    obtain ⟨h1, h2, h3⟩ := dgS_spec (m := n) (by omega) hk h
    have h4 : ofs n k (dgS n k i + 1) = ofs n k (dgS n k i) + T n (k - aS (dgS n k i)) := rfl
    have h5 : aS (dgS n k i) ≤ k := by unfold aS; omega
    obtain ⟨a, b, c⟩ := vec_spec n (k - aS (dgS n k i)) (i - ofs n k (dgS n k i)) (by omega) (by omega) (by omega)
    refine ⟨?_, ?_, ?_⟩
    · simp only [vec, List.length_cons, a]
    · simp only [vec, sumA, pS_abs, b]; omega
    · simp only [vec, idx, pS_abs, iS_pS, a, c]; omega
theorem two_ofs (m k j : Nat) (hj : 1 ≤ j) : ofs m k (2 * (j + 1) - 1) = ofs m k (2 * j - 1) + 2 * T m (k - j) := by
  obtain ⟨t, rfl⟩ : ∃ t, j = t + 1 := ⟨j - 1, by omega⟩
  rw [show 2 * (t + 1 + 1) - 1 = 2 * (t + 1) + 1 by omega, show 2 * (t + 1) - 1 = 2 * t + 1 by omega, ofs_ps, ofs_ps]
  rfl
theorem one_ofs (m k j : Nat) (hj : 1 ≤ j) : ofs m k (2 * j) = ofs m k (2 * j - 1) + T m (k - j) := by
  obtain ⟨t, rfl⟩ : ∃ t, j = t + 1 := ⟨j - 1, by omega⟩
  rw [show 2 * (t + 1) - 1 = 2 * t + 1 by omega]
  show ofs m k (2 * t + 1) + T m (k - aS (2 * t + 1)) = _
  rw [show aS (2 * t + 1) = t + 1 by unfold aS; omega]
theorem ofs_one (m k : Nat) : ofs m k 1 = T m k := by rw [show 1 = 2 * 0 + 1 from rfl, ofs_ps]; rfl
theorem tabT (m b : Nat) (hb : b < 25) : (tab 25 (T m)).getD b 0 = T m b := tab_get _ _ _ hb
theorem first_l5 (m k S : Nat) (hm : m < 8) (hk : k < 25) (i : Int) (hS : S ≤ 2 * k) (J : Nat) (hJ : aS S = J) (h1 : ofs m k S ≤ i) (h2 : i < ofs m k (S + 1)) (K : List Int → Int → Int → Int → Prop) (h : K (tab 25 (T m)) k (i - ofs m k (2 * J - 1)) J) :
    ∀ d j : Nat, j + d = J → 1 ≤ j → ∃ q, pvq_first_l5 q (tab 25 (T m)) k (i - ofs m k (2 * j - 1)) j K := by
  unfold aS at hJ
  have b0 : ∀ s, s ≤ 2 * k + 1 → 0 ≤ ofs m k s ∧ ofs m k s ≤ 1000000000000 := fun s hs => ofs_b hm hk hs
  have b1 := b0 S (by omega)
  have b2 := b0 (S + 1) (by omega)
  intro d
  induction d with
  | zero =>
    intro j hj hj1
    have hj : j = J := by omega
    subst hj
    refine ⟨1, ?_⟩
    have e1 : isub .i64 (k : Int) (j : Int) = ((k - j : Nat) : Int) := by rw [isub64 (by omega)]; omega
    have t1 := T_b m (by omega) (k - j) (by omega)
    have o1 := ofs_le (m := m) (k := k) (s := S + 1) (t := 2 * (j + 1) - 1) (by omega) hk (by omega)
    rw [two_ofs m k j hj1] at o1
    simp only [pvq_first_l5, br_dec, br_and, e1, Int.toNat_natCast]
    rw [if_pos (by omega), if_pos (by omega), tabT m _ (by omega), imul64 (by omega), if_neg (by omega)]
    exact h
  | succ d ih =>
    intro j hj hj1
    obtain ⟨q, hq⟩ := ih (j + 1) (by omega) (by omega)
    refine ⟨q + 1, ?_⟩
    have e1 : isub .i64 (k : Int) (j : Int) = ((k - j : Nat) : Int) := by rw [isub64 (by omega)]; omega
    have t1 := T_b m (by omega) (k - j) (by omega)
    have o1 := ofs_le (m := m) (k := k) (s := 2 * (j + 1) - 1) (t := S) (by omega) hk (by omega)
    have o2 := b0 (2 * j - 1) (by omega)
    rw [two_ofs m k j hj1] at o1 hq
    simp only [pvq_first_l5, br_dec, br_and, e1, Int.toNat_natCast]
    rw [if_pos (by omega), if_pos (by omega), tabT m _ (by omega), imul64 (by omega), if_pos (by omega), if_pos (by omega), if_pos (by omega), isub64 (by omega), i64_succ _ (by omega)]
    rw [show i - ofs m k (2 * j - 1) - 2 * T m (k - j) = i - (ofs m k (2 * j - 1) + 2 * T m (k - j)) by omega]
    exact hq
theorem first_spec (m k : Nat) (hm : m < 8) (hk : k < 25) (i : Int) (hi : 0 ≤ i ∧ i < T (m + 1) k) (K : Int → Int → Prop) (h : K (pS (dgS m k i)) (i - ofs m k (dgS m k i))) : pvq_first (tab 25 (T m)) k i K := by
  obtain ⟨h1, h2, h3⟩ := dgS_spec (m := m) hm hk hi
  generalize dgS m k i = S at *
  have b0 : ∀ s, s ≤ 2 * k + 1 → 0 ≤ ofs m k s ∧ ofs m k s ≤ 1000000000000 := fun s hs => ofs_b hm hk hs
  have b1 := b0 S (by omega)
  have b2 := b0 (S + 1) (by omega)
  rw [pvq_first_def]
  simp only [br_dec, br_and, Int.toNat_natCast]
  rw [if_pos (by omega), if_pos (by omega)]
  simp only [tabT m k hk]
  by_cases hS : S = 0
  · subst hS
    rw [show ofs m k (0 + 1) = T m k from ofs_one m k] at h3
    rw [if_pos h3]
    rw [show pS 0 = 0 from rfl, show ofs m k 0 = 0 from rfl, Int.sub_zero] at h
    exact h
  · have o1 := ofs_le (m := m) (k := k) (s := 1) (t := S) (by omega) hk (by omega)
    rw [ofs_one] at o1
    have t0 := T_b m (by omega) k (by omega)
    rw [if_neg (by omega), if_pos (by omega), if_pos (by omega), isub64 (by omega), ← ofs_one m k]
    have hJ : 1 ≤ aS S ∧ aS S ≤ k := by unfold aS; omega
    refine first_l5 m k S hm hk i (by omega) (aS S) rfl h2 h3 _ ?_ (aS S - 1) 1 (by omega) (by omega)
    have e1 : isub .i64 (k : Int) (aS S : Int) = ((k - aS S : Nat) : Int) := by rw [isub64 (by omega)]; omega
    have t1 := T_b m (by omega) (k - aS S) (by omega)
    have o2 := b0 (2 * aS S - 1) (by omega)
    have o3 := one_ofs m k (aS S) hJ.1
    have o4 := b0 (2 * aS S) (by omega)
    simp only [e1, Int.toNat_natCast]
    rw [if_pos (by omega), if_pos (by omega), tabT m _ (by omega)]
    by_cases hp : S % 2 = 1
    · have hs : S = 2 * aS S - 1 := by unfold aS; omega
      rw [show ofs m k (S + 1) = ofs m k (2 * aS S) by congr 1; omega] at h3
      rw [show ofs m k S = ofs m k (2 * aS S - 1) by congr 1] at h
      rw [if_neg (by omega)]
      unfold pS at h
      rw [if_pos hp] at h
      exact h
    · have hs : S = 2 * aS S := by unfold aS; omega
      rw [show ofs m k S = ofs m k (2 * aS S) by congr 1] at h h2
      rw [if_pos (by omega), if_pos (by omega), if_pos (by omega), isub64 (by omega), isub64 (by omega), Int.zero_sub]
      unfold pS at h
      rw [if_neg hp, o3] at h
      rw [show i - ofs m k (2 * aS S - 1) - T m (k - aS S) = i - (ofs m k (2 * aS S - 1) + T m (k - aS S)) by omega]
      exact h
theorem set_mid (pre : List Int) (n : Nat) (v : Int) : (pre ++ List.replicate (n + 1) 0).set pre.length v = (pre ++ [v]) ++ List.replicate n 0 := by
  induction pre with
  | nil => simp [List.replicate_succ]
  | cons a pre ih => simp only [List.cons_append, List.length_cons, List.set_cons_succ, ih]
theorem vector_l6 (n : Nat) (hn : n ≤ 8) (K : List Int → Prop) : ∀ (d k : Nat) (i : Int) (pre : List Int), pre.length + d = n → k < 25 → 0 ≤ i ∧ i < T d k → K (pre ++ vec d k i) →
    ∃ q, pvq_Vector_l6 q n k i matT n (pre.length : Nat) (pre ++ List.replicate d 0) K := by
  intro d
  induction d with
  | zero =>
    intro k i pre hp hk hi h
    refine ⟨1, ?_⟩
    simp only [pvq_Vector_l6, br_dec]
    rw [if_neg (by omega)]
    exact h
  | succ d ih =>
    intro k i pre hp hk hi h
    obtain ⟨h1, h2, h3⟩ := dgS_spec (m := d) (by omega) hk hi
    have h4 : ofs d k (dgS d k i + 1) = ofs d k (dgS d k i) + T d (k - aS (dgS d k i)) := rfl
    have h5 : aS (dgS d k i) ≤ k := by unfold aS; omega
    simp only [vec] at h
    obtain ⟨q, hq⟩ := ih (k - aS (dgS d k i)) (i - ofs d k (dgS d k i)) (pre ++ [pS (dgS d k i)]) (by simp; omega) (by omega) (by omega) (by rw [List.append_assoc]; exact h)
    refine ⟨q + 1, ?_⟩
    have e1 : isub .i64 (isub .i64 (n : Int) 1) (pre.length : Int) = (d : Int) := by rw [isub64 (a := (n : Int)) (by omega), isub64 (by omega)]; omega
    have hl : (pre ++ List.replicate (d + 1) (0 : Int)).length = n := by simp; omega
    simp only [pvq_Vector_l6, br_dec, br_and, e1, Int.toNat_natCast, hl, List.length_set]
    rw [if_pos (by omega), if_pos (by omega), if_pos (by omega), matT_row (by omega)]
    refine first_spec d k (by omega) hk i hi _ ?_
    rw [if_pos (by omega), if_pos (by omega), if_pos (by omega), if_pos (by omega), if_pos (by omega), if_pos (by omega), set_mid]
    have hg : ((pre ++ [pS (dgS d k i)]) ++ List.replicate d 0).getD pre.length 0 = pS (dgS d k i) := by
      simp [List.getD]
    rw [hg]
    refine abs_spec _ _ ?_
    have ha := pS_abs (dgS d k i)
    rw [absV_of (by omega), isub64 (by omega), i64_succ _ (by omega)]
    rw [show (k : Int) - max (pS (dgS d k i)) (-pS (dgS d k i)) = ((k - aS (dgS d k i) : Nat) : Int) by omega]
    rw [show (pre ++ [pS (dgS d k i)]).length = pre.length + 1 by simp] at hq
    exact hq
/-- The pulses of a number, where there are some. -/
def vecV (n k i : Int) : Option (List Int) := if n < 1 ∨ i < 0 ∨ cntV n k ≤ i then none else some (vec n.toNat k.toNat i)
def vecM (o : Option (List Int)) (K0 : Bool → Prop) (K1 : Bool → List Int → Prop) : Prop := match o with | none => K0 false | some l => K1 true l
theorem vector_spec (n k i : Int) (K0 : Bool → Prop) (K1 : Bool → List Int → Prop) (h : vecM (vecV n k i) K0 K1) : pvq_Vector n k i K0 K1 := by
  rw [pvq_Vector_def]
  unfold vecV at h
  simp only [br_dec, pvq_Vector_j2, br_true]
  split
  · rw [if_pos (by omega)] at h; exact h
  split
  · rw [if_pos (by omega)] at h; exact h
  refine count_spec _ _ _ ?_
  split
  · rw [if_pos (by omega)] at h; exact h
  · rw [if_neg (by omega)] at h
    rename_i h1 h2 h3
    unfold cntV at h3
    have hr : ¬ (n < 0 ∨ 8 < n ∨ k < 0 ∨ 24 < k) := fun hc => by rw [if_pos hc] at h3; omega
    rw [if_neg hr] at h3
    obtain ⟨a, rfl⟩ : ∃ a : Nat, n = a := ⟨n.toNat, by omega⟩
    obtain ⟨b, rfl⟩ : ∃ b : Nat, k = b := ⟨k.toNat, by omega⟩
    rw [Int.toNat_natCast, Int.toNat_natCast] at h3 h
    unfold pvq_Vector_j3
    refine made_spec _ ?_
    simp only [br_dec, br_and, Int.toNat_natCast, List.length_replicate]
    rw [if_pos (by omega), if_pos (by omega), if_pos (by omega)]
    exact vector_l6 a (by omega) _ a b i [] (by simp) (by omega) (by omega) h
theorem idx_l14 (m k : Nat) (hm : m < 8) (hk : k < 25) (a : Nat) (ha : a ≤ k) (x : List Int) (t : List (List Int)) (i : Int) (hi : 0 ≤ i ∧ i ≤ 100000000000000) (v19 : Int) (v20 : List Int) (v21 v22 : Int)
    (K : List Int → Int → List (List Int) → Int → Int → List Int → Int → List Int → Int → Int → Prop) (h : K x k t (i + ofs m k (2 * a - 1)) v19 (tab 25 (T m)) a v20 v21 v22) : ∀ d j : Nat, j + d = a → 1 ≤ j →
    ∃ q, pvq_Index_l14 q x k t (i + ofs m k (2 * j - 1)) v19 (tab 25 (T m)) a j v20 v21 v22 K := by
  intro d
  induction d with
  | zero =>
    intro j hj hj1
    refine ⟨1, ?_⟩
    have hj : j = a := by omega
    subst hj
    simp only [pvq_Index_l14, br_dec]
    rw [if_neg (by omega)]; exact h
  | succ d ih =>
    intro j hj hj1
    obtain ⟨q, hq⟩ := ih (j + 1) (by omega) (by omega)
    refine ⟨q + 1, ?_⟩
    have e1 : isub .i64 (k : Int) (j : Int) = ((k - j : Nat) : Int) := by rw [isub64 (by omega)]; omega
    have t1 := T_b m (by omega) (k - j) (by omega)
    have o2 := ofs_b (m := m) (k := k) (s := 2 * j - 1) hm hk (by omega)
    rw [two_ofs m k j hj1] at hq
    simp only [pvq_Index_l14, br_dec, br_and, e1, Int.toNat_natCast]
    rw [if_pos (by omega), if_pos (by omega), if_pos (by omega), tabT m _ (by omega), imul64 (by omega), iadd64 (by omega), i64_succ _ (by omega), Int.add_assoc]
    exact hq
theorem index_l7 (x : List Int) (hx : x.length ≤ 8) (K : Int → Prop) : ∀ (d s k : Nat) (i : Int), s + d = x.length → k < 25 → sumA (x.drop s) = k → 0 ≤ i ∧ i ≤ 1000000000000 * s → K (i + idx (x.drop s) k) →
    ∃ q, pvq_Index_l7 q x k matT i x x.length s K := by
  intro d
  induction d with
  | zero =>
    intro s k i hs hk hk2 hi h
    refine ⟨1, ?_⟩
    rw [List.drop_eq_nil_of_le (by omega)] at h
    simp only [pvq_Index_l7, br_dec]
    rw [if_neg (by omega)]
    simpa [idx] using h
  | succ d ih =>
    intro s k i hs hk hk2 hi h
    have hld : (x.drop (s + 1)).length = d := by rw [List.length_drop]; omega
    rw [drop_cons 0 (by omega)] at h hk2
    simp only [idx, sumA, hld] at h hk2
    have hab : (x.getD s 0).natAbs ≤ k := by omega
    have ob := ofs_b (m := d) (k := k) (s := iS (x.getD s 0)) (by omega) hk (by have := iS_le hab; omega)
    obtain ⟨q, hq⟩ := ih (s + 1) (k - (x.getD s 0).natAbs) (i + ofs d k (iS (x.getD s 0))) (by omega) (by omega) (by omega) (by omega) (by rw [Int.add_assoc]; exact h)
    refine ⟨q + 1, ?_⟩
    have e1 : isub .i64 (isub .i64 (x.length : Int) 1) (s : Int) = (d : Int) := by rw [isub64 (a := (x.length : Int)) (by omega), isub64 (by omega)]; omega
    simp only [pvq_Index_l7, br_dec, br_and, e1, Int.toNat_natCast]
    rw [if_pos (by omega), if_pos (by omega), if_pos (by omega), if_pos (by omega), if_pos (by omega), matT_row (by omega)]
    refine abs_spec _ _ ?_
    rw [absV_of (by omega)]
    have t0 := T_b d (by omega) k hk
    have e2 : isub .i64 (k : Int) (((x.getD s 0).natAbs : Nat) : Int) = ((k - (x.getD s 0).natAbs : Nat) : Int) := by rw [isub64 (by omega)]; omega
    have t1 := T_b d (by omega) (k - (x.getD s 0).natAbs) (by omega)
    rw [show max (x.getD s 0) (-(x.getD s 0)) = (((x.getD s 0).natAbs : Nat) : Int) by omega]
    by_cases h0 : x.getD s 0 = 0
    · rw [if_neg (by omega)]
      unfold pvq_Index_j13
      refine ⟨1, ?_⟩
      simp only [pvq_Index_l14, br_dec, e2]
      rw [if_neg (by omega), if_neg (by omega), i64_succ _ (by omega)]
      rw [show ofs d k (iS (x.getD s 0)) = 0 by rw [h0]; rfl, Int.add_zero] at hq
      exact hq
    · rw [if_pos (by omega), if_pos (by omega), if_pos (by omega), tabT d _ hk, iadd64 (by omega)]
      unfold pvq_Index_j13
      have o1 := ofs_b (m := d) (k := k) (s := 2 * (x.getD s 0).natAbs - 1) (by omega) hk (by omega)
      rw [← ofs_one d k]
      refine idx_l14 d k (by omega) hk (x.getD s 0).natAbs hab x matT i (by omega) _ _ _ _ _ ?_ ((x.getD s 0).natAbs - 1) 1 (by omega) (by omega)
      simp only [br_dec, br_and, e2, Int.toNat_natCast]
      rw [i64_succ _ (by omega)]
      by_cases hn : x.getD s 0 < 0
      · rw [if_pos hn, if_pos (by omega), if_pos (by omega), tabT d _ (by omega), iadd64 (by omega), Int.add_assoc, ← one_ofs d k _ (by omega)]
        rw [show iS (x.getD s 0) = 2 * (x.getD s 0).natAbs by unfold iS; rw [if_neg (by omega)]] at hq
        exact hq
      · rw [if_neg hn]
        rw [show iS (x.getD s 0) = 2 * (x.getD s 0).natAbs - 1 by unfold iS; rw [if_pos (by omega)]] at hq
        exact hq
theorem sumA_far : ∀ l : List Int, farS l ≤ 24 → farS l = (sumA l : Int)
  | [], _ => rfl
  | x :: r, h => by
    simp only [farS, sumA] at h ⊢
    have h1 := farV_b x
    have h2 := (farS_b r).1
    have h3 := sumA_far r (by omega)
    have h4 : farV x = (x.natAbs : Int) := by
      have : farV x ≤ 24 := by omega
      unfold farV at this ⊢
      split at this
      · omega
      · rename_i hc; rw [if_neg hc]; omega
    omega
theorem sizeV_spec {x : List Int} {k : Int} (h : sizeV x = some k) : (1 ≤ x.length ∧ x.length ≤ 8 ∧ sumA x < 25) ∧ k = (sumA x : Int) := by
  unfold sizeV at h
  split at h
  · rename_i h'
    cases h
    have := sumA_far x h'.2.2
    omega
  · cases h
def idxV (x : List Int) : Option Int := match sizeV x with | none => none | some _ => some (idx x (sumA x))
theorem index_spec (x : List Int) (K : Int → Bool → Prop) (h : sizeM (idxV x) K) : pvq_Index x K := by
  rw [pvq_Index_def]
  refine size_spec x _ ?_
  unfold idxV at h
  cases hs : sizeV x with
  | none => rw [hs] at h; simp only [sizeM, br_not, br_false] at h ⊢; exact h
  | some k =>
    rw [hs] at h
    obtain ⟨⟨h1, h2, h3⟩, rfl⟩ := sizeV_spec hs
    simp only [sizeM, br_not, br_true] at h ⊢
    refine made_spec _ ?_
    refine index_l7 x h2 _ x.length 0 (sumA x) 0 (by omega) h3 rfl (by omega) ?_
    rw [List.drop_zero, Int.zero_add]; exact h
theorem awake_spec (K : Bool → Prop) (h : K true) : L16_awake K := by
  rw [L16_awake_def]
  refine vector_spec _ _ _ _ _ ?_
  rw [show vecV 2 1 1 = some [0, -1] by decide +kernel]
  show L16_awake_j2 true [0, -1] K
  unfold L16_awake_j2
  refine index_spec _ _ ?_
  rw [show idxV [-1, 0] = some 3 by decide +kernel]
  refine vector_spec _ _ _ _ _ ?_
  rw [show vecV 2 1 4 = none by decide +kernel]
  show L16_awake_j4 true 3 true false [0, -1] K
  unfold L16_awake_j4
  refine count_spec _ _ _ ?_
  rw [show cntV 2 1 = 4 by decide +kernel, br_dec, if_pos rfl, br_true]
  refine same_self _ _ (by decide) ?_
  rw [br_true, br_true, br_dec, if_pos rfl]
  exact h
theorem vec_length : ∀ (n k : Nat) (i : Int), (vec n k i).length = n
  | 0, _, _ => rfl
  | n + 1, k, i => by simp only [vec, List.length_cons, vec_length n]
theorem T_pos : ∀ a, a < 9 → 1 ≤ a → ∀ b, b < 25 → 1 ≤ T a b := by decide +kernel
def lessL : List Int → List Int → Bool
  | x :: a, y :: b => if x = y then lessL a b else if farV x = farV y then decide (y < x) else decide (farV x < farV y)
  | [], _ => false
  | _ :: _, [] => false
theorem less_l2 (a b : List Int) (ha : a.length ≤ 100) (hb : b.length = a.length) (K0 : Bool → Prop) : ∀ d i : Nat, i + d = a.length → K0 (lessL (a.drop i) (b.drop i)) → ∃ q, R16_Less_l2 q a b i K0 (K0 false) := by
  intro d
  induction d with
  | zero =>
    intro i hi h
    refine ⟨1, ?_⟩
    rw [List.drop_eq_nil_of_le (by omega), List.drop_eq_nil_of_le (by omega)] at h
    simp only [R16_Less_l2, br_dec]
    rw [if_neg (by omega)]; exact h
  | succ d ih =>
    intro i hi h
    rw [drop_cons 0 (show i < a.length by omega), drop_cons 0 (show i < b.length by omega)] at h
    simp only [lessL] at h
    by_cases he : a.getD i 0 = b.getD i 0
    · rw [if_pos he] at h
      obtain ⟨q, hq⟩ := ih (i + 1) (by omega) h
      refine ⟨q + 1, ?_⟩
      simp only [R16_Less_l2, br_dec, br_and, Int.toNat_natCast]
      rw [if_pos (by omega), if_pos (by omega), if_pos (by omega), if_pos (by omega), if_pos (by omega), if_pos (by omega), if_pos he, i64_succ _ (by omega)]
      exact hq
    · rw [if_neg he] at h
      refine ⟨1, ?_⟩
      simp only [R16_Less_l2, br_dec, br_and, br_not, Int.toNat_natCast]
      rw [if_pos (by omega), if_pos (by omega), if_pos (by omega), if_pos (by omega), if_pos (by omega), if_pos (by omega), if_neg he, if_pos (by omega), if_pos (by omega)]
      refine rfar_spec _ _ ?_
      rw [if_pos (by omega), if_pos (by omega)]
      refine rfar_spec _ _ ?_
      by_cases hf : farV (a.getD i 0) = farV (b.getD i 0)
      · rw [if_pos hf] at h
        rw [if_pos hf, if_pos (by omega), if_pos (by omega), if_pos (by omega), if_pos (by omega)]
        exact h
      · rw [if_neg hf] at h
        rw [if_neg hf, if_pos (by omega), if_pos (by omega)]
        refine rfar_spec _ _ ?_
        rw [if_pos (by omega), if_pos (by omega)]
        exact rfar_spec _ _ h
theorem less_spec (a b : List Int) (ha : a.length ≤ 100) (hb : b.length = a.length) (K0 : Bool → Prop) (h : K0 (lessL a b)) : R16_Less a b K0 := by
  rw [R16_Less_def]
  exact less_l2 a b ha hb K0 a.length 0 (by omega) h
theorem lessL_idx : ∀ (x y : List Int) (k : Nat), x.length ≤ 8 → y.length = x.length → k < 25 → sumA x = k → sumA y = k → lessL x y = decide (idx x k < idx y k)
  | [], [], _, _, _, _, _, _ => by simp [lessL, idx]
  | [], _ :: _, _, _, h, _, _, _ => by simp at h
  | _ :: _, [], _, _, h, _, _, _ => by simp at h
  | x :: a, y :: b, k, hl, hh, hk, hx, hy => by
    simp only [List.length_cons] at hl hh
    simp only [sumA] at hx hy
    have hlen : b.length = a.length := by omega
    obtain ⟨a1, a2⟩ := idx_b a (k - x.natAbs) (by omega) (by omega) (by omega)
    obtain ⟨b1, b2⟩ := idx_b b (k - y.natAbs) (by omega) (by omega) (by omega)
    rw [hlen] at b2
    simp only [lessL, idx, hlen]
    by_cases he : x = y
    · subst he
      rw [if_pos rfl, lessL_idx a b (k - x.natAbs) (by omega) hlen (by omega) (by omega) (by omega)]
      congr 1
      apply propext
      constructor <;> intro <;> omega
    · rw [if_neg he]
      have f1 : farV x = (x.natAbs : Int) := by unfold farV; rw [if_neg (by omega)]; omega
      have f2 : farV y = (y.natAbs : Int) := by unfold farV; rw [if_neg (by omega)]; omega
      have n1 := ofs_next a.length k x
      have n2 := ofs_next a.length k y
      have lt1 : iS x < iS y → ofs a.length k (iS x) + idx a (k - x.natAbs) < ofs a.length k (iS y) + idx b (k - y.natAbs) := fun h => by
        have := ofs_le (m := a.length) (k := k) (s := iS x + 1) (t := iS y) (by omega) hk (by omega)
        omega
      have lt2 : iS y < iS x → ofs a.length k (iS y) + idx b (k - y.natAbs) < ofs a.length k (iS x) + idx a (k - x.natAbs) := fun h => by
        have := ofs_le (m := a.length) (k := k) (s := iS y + 1) (t := iS x) (by omega) hk (by omega)
        omega
      have key : ∀ p : Bool, (p = true → iS x < iS y) → (p = false → iS y < iS x) → p = decide (ofs a.length k (iS x) + idx a (k - x.natAbs) < ofs a.length k (iS y) + idx b (k - y.natAbs)) := by
        intro p h1 h2
        cases p with
        | true => rw [decide_eq_true (lt1 (h1 rfl))]
        | false => rw [decide_eq_false (by have := lt2 (h2 rfl); omega)]
      by_cases hf : farV x = farV y
      · rw [if_pos hf]
        refine key _ (fun h => ?_) (fun h => ?_)
        · have h := of_decide_eq_true h
          unfold iS; split <;> split <;> omega
        · have h := of_decide_eq_false h
          unfold iS; split <;> split <;> omega
      · rw [if_neg hf]
        refine key _ (fun h => ?_) (fun h => ?_)
        · have h := of_decide_eq_true h
          unfold iS; split <;> split <;> omega
        · have h := of_decide_eq_false h
          unfold iS; split <;> split <;> omega
theorem order_j7 (i j w : Int) (n k : Nat) (a b : Int) (hn : 1 ≤ n ∧ n ≤ 8) (hk : k < 25) (hw : w = n) (ha : 0 ≤ a ∧ a < T n k) (hb : 0 ≤ b ∧ b < T n k)
    (e1 : irem .i64 (IntKind.wrap .i64 i) (T n k) = a) (e2 : irem .i64 (IntKind.wrap .i64 j) (T n k) = b) (K : Bool → Prop) (h : K true) : L16_PvqOrder_j7 i j w (T n k) true true (vec n k a) (vec n k b) K := by
  have hak := awake_spec K h
  obtain ⟨v1, v2, v3⟩ := vec_spec n k a hn.2 hk ha
  obtain ⟨w1, w2, w3⟩ := vec_spec n k b hn.2 hk hb
  unfold L16_PvqOrder_j7
  simp only [br_true, br_dec, v1, w1]
  rw [if_pos (by omega), if_pos (by omega)]
  refine less_spec _ _ (by omega) (by omega) _ ?_
  rw [lessL_idx _ _ k (by omega) (by omega) hk v2 w2, v3, w3, if_neg (by omega), if_neg (by omega), e1, e2, beq_self_eq_true, br_true]
  exact hak
theorem order (n k i j : Int) (rn : Rng (.int .u8) n) (rk : Rng (.int .u8) k) (ri : Rng (.int .u32) i) (rj : Rng (.int .u32) j) (K : Bool → Prop) (h : K true) : L16_PvqOrder n k i j K := by
  have ha := awake_spec K h
  have bn := rng8 rn
  have bk := rng8 rk
  have b32 : ∀ x : Int, Rng (.int .u32) x → 0 ≤ x ∧ x ≤ 4294967295 := fun x hx => by
    have : (Lit.int .u32 x).wf = true := hx
    simpa [Lit.wf, IntKind.min, IntKind.max, IntKind.signed, IntKind.bits] using this
  have bi := b32 i ri
  have bj := b32 j rj
  rw [L16_PvqOrder_def]
  have e1 : iadd .i64 1 (irem .i64 (IntKind.wrap .i64 n) 8) = ((1 + (n % 8).toNat : Nat) : Int) := by
    rw [wrap64 (by omega), show irem .i64 n 8 = n.tmod 8 from rfl, Int.tmod_eq_emod_of_nonneg (by omega), iadd64 (by omega)]; omega
  have e2 : irem .i64 (IntKind.wrap .i64 k) 25 = (((k % 25).toNat : Nat) : Int) := by
    rw [wrap64 (by omega), show irem .i64 k 25 = k.tmod 25 from rfl, Int.tmod_eq_emod_of_nonneg (by omega)]; omega
  simp only [e1, e2]
  have hN : 1 ≤ 1 + (n % 8).toNat ∧ 1 + (n % 8).toNat ≤ 8 := by omega
  have hK : (k % 25).toNat < 25 := by omega
  generalize 1 + (n % 8).toNat = N at *
  generalize (k % 25).toNat = M at *
  have tp := T_pos N (by omega) hN.1 M hK
  have tb := T_b N (by omega) M hK
  have hc : cntV (N : Int) (M : Int) = T N M := by unfold cntV; rw [if_neg (by omega), Int.toNat_natCast, Int.toNat_natCast]
  refine count_spec _ _ _ ?_
  rw [hc, br_dec, if_neg (by omega), br_dec, if_neg (by omega)]
  have e3 : ∀ x : Int, 0 ≤ x ∧ x ≤ 4294967295 → irem .i64 (IntKind.wrap .i64 x) (T N M) = x % T N M := fun x hx => by
    rw [wrap64 (by omega), show irem .i64 x (T N M) = x.tmod (T N M) from rfl, Int.tmod_eq_emod_of_nonneg (by omega)]
  have rr : ∀ x : Int, 0 ≤ x % T N M ∧ x % T N M < T N M := fun x => ⟨Int.emod_nonneg x (show T N M ≠ 0 by omega), Int.emod_lt_of_pos x (show 0 < T N M by omega)⟩
  have r1 := rr i
  have r2 := rr j
  refine vector_spec _ _ _ _ _ ?_
  rw [e3 i bi]
  unfold vecV
  rw [hc, if_neg (by omega), Int.toNat_natCast, Int.toNat_natCast]
  simp only [vecM]
  unfold L16_PvqOrder_j6
  rw [br_dec, if_neg (by omega)]
  refine vector_spec _ _ _ _ _ ?_
  rw [e3 j bj]
  unfold vecV
  rw [hc, if_neg (by omega), Int.toNat_natCast, Int.toNat_natCast]
  simp only [vecM]
  exact order_j7 i j N N M (i % T N M) (j % T N M) hN hK rfl r1 r2 (e3 i bi) (e3 j bj) K h

end
end Go.Eng.A
