import Derived.Test.YtampmpiapdegcaaEngV
import Derived.Test.YtampmpiapdegcaaEngU
import Derived.Test.YtampmpiapdegcaaAccountGoesP
set_option linter.unusedSimpArgs false
set_option linter.unusedVariables false
set_option maxHeartbeats 2000000
namespace Go.Eng.A
open Go Go.Eng
set_option maxRecDepth 100000
noncomputable section
theorem drop_cons {α : Type} (d : α) {l : List α} {i : Nat} (h : i < l.length) : l.drop i = l.getD i d :: l.drop (i + 1) := by
  rw [List.drop_eq_getElem_cons h]; simp [List.getD, List.getElem?_eq_getElem h]
theorem getD_of_drop {l : List Int} {i : Nat} {x : Int} {r : List Int} (h : l.drop i = x :: r) : l.getD i 0 = x ∧ i < l.length ∧ l.drop (i + 1) = r := by
  have hi : i < l.length := by
    apply Classical.byContradiction
    intro hn
    rw [List.drop_eq_nil_of_le (by omega)] at h
    cases h
  rw [drop_cons 0 hi] at h
  injection h with h1 h2
  exact ⟨h1, hi, h2⟩
theorem tab_length {α : Type} (n : Nat) (f : Nat → α) : (tab n f).length = n := by simp [tab]
theorem tab_get {α : Type} (n : Nat) (f : Nat → α) (d : α) {i : Nat} (h : i < n) : (tab n f).getD i d = f i := by
  simp [tab, List.getD, List.getElem?_map, List.getElem?_range h]
theorem tab_set {α : Type} (n : Nat) (f : Nat → α) (i : Nat) (a : α) : (tab n f).set i a = tab n fun j => if j = i then a else f j := by
  apply List.ext_getElem (by simp [tab])
  intro j h1 h2
  simp only [tab, List.length_set, List.length_map, List.length_range] at h1
  simp only [tab, List.getElem_set, List.getElem_map, List.getElem_range]
  by_cases e : i = j
  · rw [if_pos e, if_pos e.symm]
  · rw [if_neg e, if_neg (Ne.symm e)]
theorem tab_snoc {α : Type} (n : Nat) (f : Nat → α) : tab n f ++ [f n] = tab (n + 1) f := by simp [tab, List.range_succ]
theorem tab_congr {α : Type} {n : Nat} {f g : Nat → α} (h : ∀ j, j < n → f j = g j) : tab n f = tab n g := by
  unfold tab
  apply List.map_congr_left
  intro j hj; exact h j (List.mem_range.1 hj)
theorem tab_const {α : Type} (n : Nat) (a : α) : List.replicate n a = tab n fun _ => a := by
  apply List.ext_getElem (by simp [tab])
  intro j h1 h2
  simp [tab]
theorem tab_zero {α : Type} (f : Nat → α) : tab 0 f = [] := rfl
/-- A list that is filled place by place. -/
def fillT {α : Type} (n i : Nat) (d : α) (f : Nat → α) : List α := tab n fun j => if j < i then f j else d
theorem fillT_length {α : Type} (n i : Nat) (d : α) (f : Nat → α) : (fillT n i d f).length = n := tab_length _ _
theorem fillT_zero {α : Type} (n : Nat) (d : α) (f : Nat → α) : fillT n 0 d f = List.replicate n d := by
  rw [tab_const]; exact tab_congr fun j _ => if_neg (by omega)
theorem fillT_set {α : Type} (n i : Nat) (d : α) (f : Nat → α) : (fillT n i d f).set i (f i) = fillT n (i + 1) d f := by
  unfold fillT
  rw [tab_set]
  refine tab_congr fun j _ => ?_
  by_cases e : j = i
  · rw [if_pos e, if_pos (by omega), e]
  · rw [if_neg e]
    by_cases h : j < i
    · rw [if_pos h, if_pos (by omega)]
    · rw [if_neg h, if_neg (by omega)]
theorem fillT_full {α : Type} (n : Nat) (d : α) (f : Nat → α) : fillT n n d f = tab n f := tab_congr fun _ hj => if_pos hj
theorem wrap64 {n : Int} (h : -9223372036854775808 ≤ n ∧ n ≤ 9223372036854775807) : Go.IntKind.wrap .i64 n = n := Go.IntWalk.i64_in _ h
theorem imax_eq' (a b : Int) : imax a b = max a b := by unfold imax; omega
theorem imin_eq' (a b : Int) : imin a b = min a b := by unfold imin; omega
theorem rng16 {n : Int} (h : (Lit.int .i16 n).wf = true) : -32768 ≤ n ∧ n ≤ 32767 := by
  simpa [Lit.wf, IntKind.min, IntKind.max, IntKind.signed, IntKind.bits] using h
theorem rng8 {n : Int} (h : (Lit.int .u8 n).wf = true) : 0 ≤ n ∧ n ≤ 255 := by
  simpa [Lit.wf, IntKind.min, IntKind.max, IntKind.signed, IntKind.bits] using h
theorem i64_succ (i : Nat) (h : i < 1000000000) : iadd .i64 (i : Int) 1 = ((i + 1 : Nat) : Int) := by rw [iadd64 (by omega)]; omega
theorem all_getD {p : Int → Bool} {l : List Int} (h : l.all p = true) {i : Nat} (hi : i < l.length) : p (l.getD i 0) = true := by
  rw [List.all_eq_true] at h
  refine h _ ?_
  simp [List.getD, List.getElem?_eq_getElem hi]
theorem getD_mem {l : List Int} {i : Nat} (hi : i < l.length) : l.getD i 0 ∈ l := by simp [List.getD, List.getElem?_eq_getElem hi]
/-- How far a number is from 0, unless it is too far. -/
def absV (x : Int) : Int := if x < -4611686018427387904 ∨ 4611686018427387904 < x then 0 else max x (-x)
theorem abs_within1 (x : Int) (K0 : Bool → Prop) (h : K0 (decide (-4611686018427387904 ≤ x ∧ x ≤ 4611686018427387904))) : num_within 4611686018427387904 [x] K0 := by
  rw [num_within_def]
  refine ⟨2, ?_⟩
  have e0 : isub .i64 0 4611686018427387904 = -4611686018427387904 := by decide
  have e1 : iadd .i64 0 1 = 1 := by decide
  simp only [num_within_l2, br_dec, br_and, e0, e1, List.length_cons, List.length_nil]
  rw [if_pos (by decide), if_pos (by decide), if_pos (by decide)]
  show if x < _ then _ else if _ < x then _ else _
  split
  · rw [decide_eq_false (by omega)] at h; exact h
  split
  · rw [decide_eq_false (by omega)] at h; exact h
  · rw [if_neg (by decide)]
    rw [decide_eq_true (by omega)] at h; exact h
theorem abs_spec (x : Int) (K0 : Int → Prop) (h : K0 (absV x)) : num_Abs x K0 := by
  rw [num_Abs_def]
  refine abs_within1 x _ ?_
  unfold absV at h
  rw [br_not, br_dec]
  split
  · rw [if_neg (by omega)] at h
    rw [br_dec]
    split
    · rw [isub64 (by omega), show (0 : Int) - x = max x (-x) by omega]; exact h
    · rw [show max x (-x) = x by omega] at h; exact h
  · rw [if_pos (by omega)] at h; exact h
theorem absV_of {x : Int} (h : -4611686018427387904 ≤ x ∧ x ≤ 4611686018427387904) : absV x = max x (-x) := by unfold absV; rw [if_neg (by omega)]
/-- How far a number is from 0, where it may be. -/
def farV (x : Int) : Int := if x < -24 ∨ 24 < x then 25 else max x (-x)
def farS : List Int → Int
  | [] => 0
  | x :: r => farV x + farS r
theorem farV_b (x : Int) : 0 ≤ farV x ∧ farV x ≤ 25 := by unfold farV; split <;> omega
theorem farS_b : ∀ l : List Int, 0 ≤ farS l ∧ farS l ≤ 25 * l.length
  | [] => by simp [farS]
  | x :: r => by
    have := farV_b x
    have := farS_b r
    simp only [farS, List.length_cons]
    omega
def sizeK (k : Int) (K0 : Int → Bool → Prop) : Prop := if 24 < k then K0 0 false else K0 k true
def sizeV (x : List Int) : Option Int := if 1 ≤ x.length ∧ x.length ≤ 8 ∧ farS x ≤ 24 then some (farS x) else none
def sizeM (o : Option Int) (K0 : Int → Bool → Prop) : Prop := match o with | none => K0 0 false | some k => K0 k true
theorem size_l5 (x : List Int) (hl : x.length ≤ 8) (K0 : Int → Bool → Prop) (K1 : Int → Prop) (hK : ∀ k, sizeK k K0 → K1 k) : ∀ (n i : Nat) (k : Int), i + n = x.length → 0 ≤ k ∧ k ≤ 25 * i → sizeK (k + farS (x.drop i)) K0 → ∃ q, pvq_Size_l5 q k x x.length i K0 K1 := by
  intro n
  induction n with
  | zero =>
    intro i k hi hk h
    refine ⟨1, ?_⟩
    rw [List.drop_eq_nil_of_le (by omega)] at h
    simp only [pvq_Size_l5, br_dec]
    rw [if_neg (by omega)]
    refine hK _ ?_
    simpa [farS] using h
  | succ n ih =>
    intro i k hi hk h
    rw [drop_cons 0 (by omega)] at h
    simp only [farS] at h
    have h2 := farS_b (x.drop (i + 1))
    by_cases hv : x.getD i 0 < -24 ∨ 24 < x.getD i 0
    · have hf : farV (x.getD i 0) = 25 := by unfold farV; rw [if_pos hv]
      have h : K0 0 false := by
        unfold sizeK at h; rw [if_pos (by omega)] at h; exact h
      refine ⟨1, ?_⟩
      simp only [pvq_Size_l5, pvq_Size_j8, br_dec, br_and, br_true, Int.toNat_natCast]
      rw [if_pos (by omega), if_pos (by omega), if_pos (by omega)]
      split
      · exact h
      · rw [if_pos (by omega)]; exact h
    · have hf : farV (x.getD i 0) = max (x.getD i 0) (-(x.getD i 0)) := by unfold farV; rw [if_neg hv]
      have ha : absV (x.getD i 0) = farV (x.getD i 0) := by rw [hf]; exact absV_of (by omega)
      have hb := farV_b (x.getD i 0)
      obtain ⟨q, hq⟩ := ih (i + 1) (k + farV (x.getD i 0)) (by omega) (by omega) (by rw [Int.add_assoc]; exact h)
      refine ⟨q + 1, ?_⟩
      simp only [pvq_Size_l5, pvq_Size_j8, pvq_Size_j9, br_dec, br_and, br_true, Int.toNat_natCast]
      rw [if_pos (by omega), if_pos (by omega), if_pos (by omega), if_neg (by omega), if_neg (by omega)]
      refine abs_spec _ _ ?_
      rw [ha, iadd64 (by omega), i64_succ _ (by omega)]
      exact hq
theorem size_spec (x : List Int) (K0 : Int → Bool → Prop) (h : sizeM (sizeV x) K0) : pvq_Size x K0 := by
  rw [pvq_Size_def]
  unfold sizeV at h
  simp only [br_dec, pvq_Size_j2, br_true]
  split
  · rw [if_neg (by omega)] at h; exact h
  split
  · rw [if_neg (by omega)] at h; exact h
  · unfold pvq_Size_j3
    refine size_l5 x (by omega) K0 _ (fun k hk => ?_) x.length 0 0 (by omega) (by omega) ?_
    · rw [br_dec]; exact hk
    · rw [List.drop_zero, Int.zero_add]
      unfold sizeK
      split
      · rw [if_neg (by omega)] at h; exact h
      · rw [if_pos (by omega)] at h; exact h
theorem rfar_spec (x : Int) (K : Int → Prop) (h : K (farV x)) : R16_far x K := by
  rw [R16_far_def]
  unfold farV at h
  simp only [br_dec]
  split
  · rw [if_pos (by omega)] at h; exact h
  split
  · rw [if_pos (by omega)] at h; exact h
  · rw [if_neg (by omega)] at h
    rw [isub64 (by omega), imax_eq', Int.zero_sub]; exact h
theorem rsize_l5 (x : List Int) (hl : x.length ≤ 8) (K1 : Int → Prop) : ∀ (n i : Nat) (k : Int), i + n = x.length → 0 ≤ k ∧ k ≤ 25 * i → K1 (k + farS (x.drop i)) → ∃ q, R16_Size_l5 q x k i K1 := by
  intro n
  induction n with
  | zero =>
    intro i k hi hk h
    refine ⟨1, ?_⟩
    rw [List.drop_eq_nil_of_le (by omega)] at h
    simp only [R16_Size_l5, br_dec]
    rw [if_neg (by omega)]
    simpa [farS] using h
  | succ n ih =>
    intro i k hi hk h
    rw [drop_cons 0 (by omega)] at h
    simp only [farS] at h
    have hb := farV_b (x.getD i 0)
    obtain ⟨q, hq⟩ := ih (i + 1) (k + farV (x.getD i 0)) (by omega) (by omega) (by rw [Int.add_assoc]; exact h)
    refine ⟨q + 1, ?_⟩
    simp only [R16_Size_l5, br_dec, br_and, Int.toNat_natCast]
    rw [if_pos (by omega), if_pos (by omega), if_pos (by omega)]
    refine rfar_spec _ _ ?_
    rw [iadd64 (by omega), i64_succ _ (by omega)]
    exact hq
theorem rsize_spec (x : List Int) (K0 : Int → Bool → Prop) (h : sizeM (sizeV x) K0) : R16_Size x K0 := by
  rw [R16_Size_def]
  unfold sizeV at h
  simp only [br_dec, R16_Size_j2, br_true]
  split
  · rw [if_neg (by omega)] at h; exact h
  split
  · rw [if_neg (by omega)] at h; exact h
  · unfold R16_Size_j3
    refine rsize_l5 x (by omega) _ x.length 0 0 (by omega) (by omega) ?_
    rw [List.drop_zero, Int.zero_add, br_dec]
    split
    · rw [if_neg (by omega)] at h; exact h
    · rw [if_pos (by omega)] at h; exact h
/-- How many pulses a band has. -/
def band (q c w : Int) : Int :=
  if q < 0 ∨ 10 < q ∨ c < 1 ∨ 23 < c then 0 else
    (if w = 2 then 1 else if w = 4 then 2 else if w = 8 then 3 else 0) * (max 0 (min 8 (c + q - 8)))

theorem imax_eq (a b : Int) : imax a b = max a b := by unfold imax; omega
theorem imin_eq (a b : Int) : imin a b = min a b := by unfold imin; omega

theorem good_spec (q : Int) (K0 : Bool → Prop) (h : K0 (decide (0 ≤ q ∧ q ≤ 10))) : alloc_good q K0 := by
  rw [alloc_good_def]; rw [alloc_held_int__def]
  simp only [imax_eq, imin_eq]
  have e : decide (max 0 (min 10 q) = q) = decide (0 ≤ q ∧ q ≤ 10) := by apply decide_eq_decide.2; omega
  rw [e]; exact h
theorem band_spec (q c w : Int) (K0 : Int → Prop) (h : K0 (band q c w)) : alloc_Band q c w K0 := by
  rw [alloc_Band_def]
  refine good_spec q _ ?_
  rw [br_not, br_dec]
  unfold band at h
  split
  · rename_i hq
    simp only [alloc_held_int__def, imax_eq, imin_eq, br_not, br_dec]
    split
    · rename_i hc
      rw [if_neg (by omega)] at h
      rw [alloc_times_def]
      simp only [br_dec, iadd64 (a := c) (b := q) (by omega), isub64 (a := c + q) (b := 8) (by omega)]
      split
      · rename_i hw; rw [if_pos hw] at h; rw [imul64 (by omega)]; exact h
      · rename_i hw; rw [if_neg hw] at h
        split
        · rename_i hw; rw [if_pos hw] at h; rw [imul64 (by omega)]; exact h
        · rename_i hw; rw [if_neg hw] at h
          split
          · rename_i hw; rw [if_pos hw] at h; rw [imul64 (by omega)]; exact h
          · rename_i hw; rw [if_neg hw] at h; rw [imul64 (by omega)]; exact h
    · rename_i hc
      rw [if_pos (by omega)] at h; exact h
  · rename_i hq
    rw [if_pos (by omega)] at h; exact h
theorem rband_spec (q c w : Int) (K0 : Int → Prop) (h : K0 (band q c w)) : R15_Band q c w K0 := by
  rw [R15_Band_def]
  simp only [br_dec]
  unfold band at h
  split
  · rw [if_pos (by omega)] at h; exact h
  split
  · rw [if_pos (by omega)] at h; exact h
  split
  · rw [if_pos (by omega)] at h; exact h
  split
  · rw [if_pos (by omega)] at h; exact h
  rw [if_neg (by omega)] at h
  rw [iadd64 (a := c) (b := q) (by omega), isub64 (by omega), imax_eq, imin_eq]
  split
  · rename_i hw; rw [if_pos hw, Int.one_mul] at h; exact h
  · rename_i hw; rw [if_neg hw] at h
    split
    · rename_i hw; rw [if_pos hw] at h; rw [imul64 (by omega)]; exact h
    · rename_i hw; rw [if_neg hw] at h
      split
      · rename_i hw; rw [if_pos hw] at h; rw [imul64 (by omega)]; exact h
      · rename_i hw; rw [if_neg hw, Int.zero_mul] at h; exact h
abbrev BandT := Int × Int × List Int × Unit
abbrev ChanT := List BandT × Unit
abbrev FrameT := Bool × Bool × Bool × Int × List ChanT × Unit
abbrev UnitT := FrameT × Int × Int × Unit
abbrev HeadT := Int × Int × Int × Int × Int × Int × Unit
abbrev FileT := HeadT × List (List UnitT) × Unit
def allF (p : Nat → Bool) : Nat → Nat → Bool
  | 0, _ => true
  | d + 1, i => p i && allF p d (i + 1)
def width (b : Nat) : Int := if b < 4 then 2 else if b < 8 then 4 else 8
theorem width_spec (b : Nat) (hb : b < 13) (K0 : Int → Prop) (h : K0 (width b)) : layout_Width b K0 := by
  rw [layout_Width_def]
  simp only [br_dec, br_and, Int.toNat_natCast]
  rw [if_neg (by omega), if_neg (by omega), layout_widths_def]
  rw [if_pos (by omega), if_pos (by omega), if_pos (by simp only [List.length_cons, List.length_nil]; omega)]
  have : ∀ b, b < 13 → ([2, 2, 2, 2, 4, 4, 4, 4, 8, 8, 8, 8, 8] : List Int).getD b 0 = width b := by decide +kernel
  rw [this b hb]; exact h
theorem rwidth_spec (b : Nat) (hb : b < 13) (K0 : Int → Prop) (h : K0 (width b)) : R13_Width b K0 := by
  rw [R13_Width_def]
  unfold width at h
  simp only [br_dec, R13_Width_j2, br_true]
  rw [if_neg (by omega), if_neg (by omega)]
  by_cases h1 : b < 4
  · rw [if_pos h1] at h; rw [if_pos (by omega)]; exact h
  · rw [if_neg h1] at h; rw [if_neg (by omega)]
    by_cases h2 : b < 8
    · rw [if_pos h2] at h; rw [if_pos (by omega)]; exact h
    · rw [if_neg h2] at h; rw [if_neg (by omega)]; exact h
/-- May a band be, of any quality and width? -/
def fitB (b : BandT) (q w : Int) : Bool := match sizeV b.2.2.1 with
  | none => false
  | some k => decide ((0 ≤ b.1 ∧ b.1 ≤ 23) ∧ (0 ≤ b.2.1 ∧ b.2.1 ≤ 3) ∧ (0 < b.1 ∨ b.2.1 = 0) ∧ (b.2.2.1.length : Int) = w ∧ k = band q b.1 w)
theorem fits_spec (b : BandT) (q : Int) (at_ : Nat) (hat : at_ < 13) (K : Bool → Prop) (h : K (fitB b q (width at_))) : frame_fits b q at_ K := by
  rw [frame_fits_def]
  refine width_spec at_ hat _ (size_spec _ _ ?_)
  unfold fitB at h
  cases hs : sizeV b.2.2.1 with
  | none => rw [hs] at h; simp only [sizeM, br_not, br_false]; exact h
  | some k =>
    rw [hs] at h
    simp only [sizeM, br_not, br_true, br_dec] at h ⊢
    by_cases h1 : (b.2.2.1.length : Int) = width at_
    · rw [if_pos h1]
      refine band_spec _ _ _ _ ?_
      by_cases h2 : k = band q b.1 (width at_)
      · rw [if_pos h2]
        by_cases h3 : b.1 = 0
        · rw [if_pos h3]
          rw [show decide (b.2.1 = 0) = decide ((0 ≤ b.1 ∧ b.1 ≤ 23) ∧ (0 ≤ b.2.1 ∧ b.2.1 ≤ 3) ∧ (0 < b.1 ∨ b.2.1 = 0) ∧ (b.2.2.1.length : Int) = width at_ ∧ k = band q b.1 (width at_)) by apply decide_eq_decide.2; omega]
          exact h
        · rw [if_neg h3]
          by_cases h4 : 0 < b.1
          · rw [if_pos h4]
            by_cases h5 : b.1 ≤ 23
            · rw [if_pos h5]
              by_cases h6 : 0 ≤ b.2.1
              · rw [if_pos h6]
                rw [show decide (b.2.1 ≤ 3) = decide ((0 ≤ b.1 ∧ b.1 ≤ 23) ∧ (0 ≤ b.2.1 ∧ b.2.1 ≤ 3) ∧ (0 < b.1 ∨ b.2.1 = 0) ∧ (b.2.2.1.length : Int) = width at_ ∧ k = band q b.1 (width at_)) by apply decide_eq_decide.2; omega]
                exact h
              · rw [if_neg h6]; rw [decide_eq_false (by omega)] at h; exact h
            · rw [if_neg h5]; rw [decide_eq_false (by omega)] at h; exact h
          · rw [if_neg h4]; rw [decide_eq_false (by omega)] at h; exact h
      · rw [if_neg h2]; rw [decide_eq_false (by omega)] at h; exact h
    · rw [if_neg h1]; rw [decide_eq_false (by omega)] at h; exact h
theorem rband_fit (b : BandT) (q w : Int) (K : Bool → Prop) (h : K (fitB b q w)) : R20_Band b q w K := by
  rw [R20_Band_def]
  refine rsize_spec _ _ ?_
  unfold fitB at h
  have no : ∀ k, ¬ ((0 ≤ b.1 ∧ b.1 ≤ 23) ∧ (0 ≤ b.2.1 ∧ b.2.1 ≤ 3) ∧ (0 < b.1 ∨ b.2.1 = 0) ∧ (b.2.2.1.length : Int) = w ∧ k = band q b.1 w) → sizeV b.2.2.1 = some k → K false := by
    intro k hn hs
    rw [hs] at h; simp only at h
    rw [decide_eq_false hn] at h; exact h
  have fin : ∀ k, sizeV b.2.2.1 = some k → (0 ≤ b.1 ∧ b.1 ≤ 23) → (0 ≤ b.2.1 ∧ b.2.1 ≤ 3) → (0 < b.1 ∨ b.2.1 = 0) → (if (b.2.2.1.length : Int) = w then R15_Band q b.1 w (fun r3 => K (decide (k = r3))) else K false) := by
    intro k hs h1 h2 h3
    split
    · rename_i h4
      refine rband_spec _ _ _ _ ?_
      rw [hs] at h; simp only at h
      rw [show decide (k = band q b.1 w) = decide ((0 ≤ b.1 ∧ b.1 ≤ 23) ∧ (0 ≤ b.2.1 ∧ b.2.1 ≤ 3) ∧ (0 < b.1 ∨ b.2.1 = 0) ∧ (b.2.2.1.length : Int) = w ∧ k = band q b.1 w) by apply decide_eq_decide.2; omega]
      exact h
    · rename_i h4; exact no k (fun e => h4 e.2.2.2.1) hs
  cases hs : sizeV b.2.2.1 with
  | none =>
    rw [hs] at h
    simp only [sizeM, br_dec, br_false]
    by_cases h1 : 0 ≤ b.1
    · rw [if_pos h1]
      by_cases h2 : b.1 ≤ 23
      · rw [if_pos h2]
        by_cases h3 : 0 ≤ b.2.1
        · rw [if_pos h3]
          by_cases h4 : b.2.1 ≤ 3
          · rw [if_pos h4]
            by_cases h5 : 0 < b.1
            · rw [if_pos h5]
              by_cases h6 : (b.2.2.1.length : Int) = w
              · rw [if_pos h6]; exact h
              · rw [if_neg h6]; exact h
            · rw [if_neg h5]
              by_cases h7 : b.2.1 = 0
              · rw [if_pos h7]
                by_cases h6 : (b.2.2.1.length : Int) = w
                · rw [if_pos h6]; exact h
                · rw [if_neg h6]; exact h
              · rw [if_neg h7]; exact h
          · rw [if_neg h4]; exact h
        · rw [if_neg h3]; exact h
      · rw [if_neg h2]; exact h
    · rw [if_neg h1]; exact h
  | some k =>
    simp only [sizeM, br_dec, br_true]
    by_cases h1 : 0 ≤ b.1
    · rw [if_pos h1]
      by_cases h2 : b.1 ≤ 23
      · rw [if_pos h2]
        by_cases h3 : 0 ≤ b.2.1
        · rw [if_pos h3]
          by_cases h4 : b.2.1 ≤ 3
          · rw [if_pos h4]
            by_cases h5 : 0 < b.1
            · rw [if_pos h5]
              exact fin k hs ⟨h1, h2⟩ ⟨h3, h4⟩ (.inl h5)
            · rw [if_neg h5]
              by_cases h7 : b.2.1 = 0
              · rw [if_pos h7]
                exact fin k hs ⟨h1, h2⟩ ⟨h3, h4⟩ (.inr h7)
              · rw [if_neg h7]; exact no k (by omega) hs
          · rw [if_neg h4]; exact no k (by omega) hs
        · rw [if_neg h3]; exact no k (by omega) hs
      · rw [if_neg h2]; exact no k (by omega) hs
    · rw [if_neg h1]; exact no k (by omega) hs
def fitC (c : ChanT) (q : Int) : Bool := decide (c.1.length = 13) && allF (fun i => fitB (c.1.getD i (0, (0, ([], ())))) q (width i)) 13 0
theorem fit_l11 (q : Int) (v25 : List ChanT) (v26 v27 : Int) (bs : List BandT) (hl : bs.length = 13) (K0 : Bool → Prop) (K1 : Int → List ChanT → Int → Int → Prop) : ∀ d i : Nat, i + d = 13 →
    (if allF (fun i => fitB (bs.getD i (0, (0, ([], ())))) q (width i)) d i = true then K1 q v25 v26 v27 else K0 false) → ∃ n, frame_Fit_l11 n q v25 v26 v27 bs bs.length i K0 K1 := by
  intro d
  induction d with
  | zero =>
    intro i hi h
    refine ⟨1, ?_⟩
    simp only [frame_Fit_l11, br_dec]
    rw [if_neg (by omega)]
    simpa [allF] using h
  | succ d ih =>
    intro i hi h
    rw [allF] at h
    by_cases hb : fitB (bs.getD i (0, (0, ([], ())))) q (width i) = true
    · rw [hb, Bool.true_and] at h
      obtain ⟨n, hn⟩ := ih (i + 1) (by omega) h
      refine ⟨n + 1, ?_⟩
      simp only [frame_Fit_l11, br_dec, br_and, Int.toNat_natCast]
      rw [if_pos (by omega), if_pos (by omega), if_pos (by omega)]
      refine fits_spec _ _ i (by omega) _ ?_
      rw [hb, br_not, br_true, i64_succ _ (by omega)]
      exact hn
    · have hb : fitB (bs.getD i (0, (0, ([], ())))) q (width i) = false := by simpa using hb
      rw [hb, Bool.false_and, if_neg (by simp)] at h
      refine ⟨1, ?_⟩
      simp only [frame_Fit_l11, br_dec, br_and, Int.toNat_natCast]
      rw [if_pos (by omega), if_pos (by omega), if_pos (by omega)]
      refine fits_spec _ _ i (by omega) _ ?_
      rw [hb, br_not, br_false]
      exact h
theorem fit_l6 (q : Int) (cs : List ChanT) (hcs : cs.length ≤ 1000) (K0 : Bool → Prop) (K1 : Prop) : ∀ d i : Nat, i + d = cs.length →
    (if allF (fun i => fitC (cs.getD i ([], ())) q) d i = true then K1 else K0 false) → ∃ n, frame_Fit_l6 n q cs cs.length i K0 K1 := by
  intro d
  induction d with
  | zero =>
    intro i hi h
    refine ⟨1, ?_⟩
    simp only [frame_Fit_l6, br_dec]
    rw [if_neg (by omega)]
    simpa [allF] using h
  | succ d ih =>
    intro i hi h
    rw [allF] at h
    by_cases hb : fitC (cs.getD i ([], ())) q = true
    · rw [hb, Bool.true_and] at h
      obtain ⟨n, hn⟩ := ih (i + 1) (by omega) h
      refine ⟨n + 1, ?_⟩
      simp only [frame_Fit_l6, br_dec, br_and, br_not, Int.toNat_natCast]
      unfold fitC at hb
      rw [Bool.and_eq_true, decide_eq_true_eq] at hb
      rw [if_pos (by omega), if_pos (by omega), if_pos (by omega), if_pos (by omega)]
      refine fit_l11 q cs _ _ _ hb.1 K0 _ 13 0 rfl ?_
      rw [if_pos hb.2, i64_succ _ (by omega)]
      exact hn
    · have hb : fitC (cs.getD i ([], ())) q = false := by simpa using hb
      rw [hb, Bool.false_and, if_neg (by simp)] at h
      refine ⟨1, ?_⟩
      simp only [frame_Fit_l6, br_dec, br_and, br_not, Int.toNat_natCast]
      rw [if_pos (by omega), if_pos (by omega), if_pos (by omega)]
      by_cases hl : (cs.getD i ([], ())).1.length = 13
      · rw [if_pos (by omega)]
        refine fit_l11 q cs _ _ _ hl K0 _ 13 0 rfl ?_
        unfold fitC at hb
        rw [decide_eq_true hl, Bool.true_and] at hb
        rw [hb, if_neg (by simp)]; exact h
      · rw [if_neg (by omega)]; exact h
/-- May a frame be, of so many channels, of any quality? -/
def fitF (f : FrameT) (n q : Int) : Bool := decide ((1 ≤ n ∧ n ≤ 2) ∧ (0 ≤ q ∧ q ≤ 10) ∧ (f.2.2.2.2.1.length : Int) = n ∧ (-64 ≤ f.2.2.2.1 ∧ f.2.2.2.1 ≤ 32) ∧ ¬ (f.2.1 = true ∧ n = 1)) &&
  allF (fun i => fitC (f.2.2.2.2.1.getD i ([], ())) q) f.2.2.2.2.1.length 0
theorem fit_j5 (q : Int) (f : FrameT) (hl : f.2.2.2.2.1.length ≤ 1000) (K : Bool → Prop) (h : K (allF (fun i => fitC (f.2.2.2.2.1.getD i ([], ())) q) f.2.2.2.2.1.length 0)) : frame_Fit_j5 q f K := by
  unfold frame_Fit_j5
  refine fit_l6 q f.2.2.2.2.1 hl K _ f.2.2.2.2.1.length 0 (by omega) ?_
  split
  · rename_i e; rw [e] at h; exact h
  · rename_i e; rw [Bool.eq_false_iff.2 e] at h; exact h
theorem fit_spec (f : FrameT) (n q : Int) (K : Bool → Prop) (h : K (fitF f n q)) : frame_Fit f n q K := by
  rw [frame_Fit_def]
  unfold fitF at h
  simp only [br_dec, br_not, frame_Fit_j2, br_true, br_false]
  by_cases h1 : n < 1
  · rw [if_pos h1]; rw [decide_eq_false (by omega), Bool.false_and] at h; exact h
  rw [if_neg h1]
  by_cases h2 : 2 < n
  · rw [if_pos h2]; rw [decide_eq_false (by omega), Bool.false_and] at h; exact h
  rw [if_neg h2]
  by_cases h3 : (f.2.2.2.2.1.length : Int) = n
  · rw [if_pos h3]
    have rest : ¬ (f.2.1 = true ∧ n = 1) → (if q < 0 then K false else if 10 < q then K false else if f.2.2.2.1 < -64 then K false else if 32 < f.2.2.2.1 then K false else frame_Fit_j5 q f K) := by
      intro h4
      by_cases h5 : q < 0
      · rw [if_pos h5]; rw [decide_eq_false (by omega), Bool.false_and] at h; exact h
      rw [if_neg h5]
      by_cases h6 : 10 < q
      · rw [if_pos h6]; rw [decide_eq_false (by omega), Bool.false_and] at h; exact h
      rw [if_neg h6]
      by_cases h7 : f.2.2.2.1 < -64
      · rw [if_pos h7]; rw [decide_eq_false (by omega), Bool.false_and] at h; exact h
      rw [if_neg h7]
      by_cases h8 : 32 < f.2.2.2.1
      · rw [if_pos h8]; rw [decide_eq_false (by omega), Bool.false_and] at h; exact h
      rw [if_neg h8]
      rw [decide_eq_true ⟨by omega, by omega, h3, by omega, h4⟩, Bool.true_and] at h
      exact fit_j5 q f (by omega) K h
    cases hm : f.2.1 with
    | true =>
      rw [br_true]
      by_cases h4 : n = 1
      · rw [if_pos h4]; rw [decide_eq_false (fun e => e.2.2.2.2 ⟨hm, h4⟩), Bool.false_and] at h; exact h
      · rw [if_neg h4]; exact rest (fun e => h4 e.2)
    | false =>
      rw [br_false]
      exact rest (fun e => by rw [hm] at e; cases e.1)
  · rw [if_neg h3]; rw [decide_eq_false (fun e => h3 e.2.2.1), Bool.false_and] at h; exact h
theorem rfit_l9 (n q : Int) (i2 : Nat) (f : FrameT) (hi2 : i2 < f.2.2.2.2.1.length) (hl : (f.2.2.2.2.1.getD i2 ([], ())).1.length = 13) (K0 : Bool → Prop) (K1 : Int → Int → Int → FrameT → Prop) : ∀ d i : Nat, i + d = 13 →
    (if allF (fun i => fitB ((f.2.2.2.2.1.getD i2 ([], ())).1.getD i (0, (0, ([], ())))) q (width i)) d i = true then K1 n q i2 f else K0 false) → ∃ m, R20_Fit_l9 m n q i2 i f K0 K1 := by
  intro d
  induction d with
  | zero =>
    intro i hi h
    refine ⟨1, ?_⟩
    simp only [R20_Fit_l9, br_dec]
    rw [if_neg (by omega)]
    simpa [allF] using h
  | succ d ih =>
    intro i hi h
    rw [allF] at h
    by_cases hb : fitB ((f.2.2.2.2.1.getD i2 ([], ())).1.getD i (0, (0, ([], ())))) q (width i) = true
    · rw [hb, Bool.true_and] at h
      obtain ⟨m, hm⟩ := ih (i + 1) (by omega) h
      refine ⟨m + 1, ?_⟩
      simp only [R20_Fit_l9, br_dec, br_and, Int.toNat_natCast]
      rw [if_pos (by omega), if_pos (by omega), if_pos (by omega), if_pos (by omega), if_pos (by omega)]
      refine rwidth_spec i (by omega) _ (rband_fit _ _ _ _ ?_)
      rw [hb, br_not, br_true, i64_succ _ (by omega)]
      exact hm
    · have hb : fitB ((f.2.2.2.2.1.getD i2 ([], ())).1.getD i (0, (0, ([], ())))) q (width i) = false := by simpa using hb
      rw [hb, Bool.false_and, if_neg (by simp)] at h
      refine ⟨1, ?_⟩
      simp only [R20_Fit_l9, br_dec, br_and, Int.toNat_natCast]
      rw [if_pos (by omega), if_pos (by omega), if_pos (by omega), if_pos (by omega), if_pos (by omega)]
      refine rwidth_spec i (by omega) _ (rband_fit _ _ _ _ ?_)
      rw [hb, br_not, br_false]
      exact h
theorem rfit_l4 (n q : Int) (f : FrameT) (hn : (f.2.2.2.2.1.length : Int) = n) (hl : f.2.2.2.2.1.length ≤ 1000) (K0 : Bool → Prop) (K1 : Prop) : ∀ d i : Nat, i + d = f.2.2.2.2.1.length →
    (if allF (fun i => fitC (f.2.2.2.2.1.getD i ([], ())) q) d i = true then K1 else K0 false) → ∃ m, R20_Fit_l4 m n q i f K0 K1 := by
  intro d
  induction d with
  | zero =>
    intro i hi h
    refine ⟨1, ?_⟩
    simp only [R20_Fit_l4, br_dec]
    rw [if_neg (by omega)]
    simpa [allF] using h
  | succ d ih =>
    intro i hi h
    rw [allF] at h
    by_cases hb : fitC (f.2.2.2.2.1.getD i ([], ())) q = true
    · rw [hb, Bool.true_and] at h
      obtain ⟨m, hm⟩ := ih (i + 1) (by omega) h
      refine ⟨m + 1, ?_⟩
      simp only [R20_Fit_l4, br_dec, br_and, br_not, Int.toNat_natCast]
      unfold fitC at hb
      rw [Bool.and_eq_true, decide_eq_true_eq] at hb
      rw [if_pos (by omega), if_pos (by omega), if_pos (by omega), if_pos (by omega)]
      refine rfit_l9 n q i f (by omega) hb.1 K0 _ 13 0 rfl ?_
      rw [if_pos hb.2, i64_succ _ (by omega)]
      exact hm
    · have hb : fitC (f.2.2.2.2.1.getD i ([], ())) q = false := by simpa using hb
      rw [hb, Bool.false_and, if_neg (by simp)] at h
      refine ⟨1, ?_⟩
      simp only [R20_Fit_l4, br_dec, br_and, br_not, Int.toNat_natCast]
      rw [if_pos (by omega), if_pos (by omega), if_pos (by omega)]
      by_cases hc : (f.2.2.2.2.1.getD i ([], ())).1.length = 13
      · rw [if_pos (by omega)]
        refine rfit_l9 n q i f (by omega) hc K0 _ 13 0 rfl ?_
        unfold fitC at hb
        rw [decide_eq_true hc, Bool.true_and] at hb
        rw [hb, if_neg (by simp)]; exact h
      · rw [if_neg (by omega)]; exact h
theorem rfit_spec (f : FrameT) (n q : Int) (K : Bool → Prop) (h : K (fitF f n q)) : R20_Fit f n q K := by
  rw [R20_Fit_def]
  unfold fitF at h
  simp only [br_dec, br_not]
  by_cases h1 : n < 1
  · rw [if_pos h1]; rw [decide_eq_false (by omega), Bool.false_and] at h; exact h
  rw [if_neg h1]
  by_cases h2 : 2 < n
  · rw [if_pos h2]; rw [decide_eq_false (by omega), Bool.false_and] at h; exact h
  rw [if_neg h2]
  by_cases h5 : q < 0
  · rw [if_pos h5]; rw [decide_eq_false (by omega), Bool.false_and] at h; exact h
  rw [if_neg h5]
  by_cases h6 : 10 < q
  · rw [if_pos h6]; rw [decide_eq_false (by omega), Bool.false_and] at h; exact h
  rw [if_neg h6]
  by_cases h3 : (f.2.2.2.2.1.length : Int) = n
  · rw [if_pos h3]
    by_cases h7 : f.2.2.2.1 < -64
    · rw [if_pos h7]; rw [decide_eq_false (by omega), Bool.false_and] at h; exact h
    rw [if_neg h7]
    by_cases h8 : 32 < f.2.2.2.1
    · rw [if_pos h8]; rw [decide_eq_false (by omega), Bool.false_and] at h; exact h
    rw [if_neg h8]
    have rest : ¬ (f.2.1 = true ∧ n = 1) → R20_Fit_j3 n q f K := by
      intro h4
      rw [decide_eq_true ⟨by omega, by omega, h3, by omega, h4⟩, Bool.true_and] at h
      unfold R20_Fit_j3
      refine rfit_l4 n q f h3 (by omega) K _ f.2.2.2.2.1.length 0 (by omega) ?_
      split
      · rename_i e; rw [e] at h; exact h
      · rename_i e; rw [Bool.eq_false_iff.2 e] at h; exact h
    cases hm : f.2.1 with
    | true =>
      rw [br_true]
      by_cases h4 : n = 1
      · rw [if_pos h4]; rw [decide_eq_false (fun e => e.2.2.2.2 ⟨hm, h4⟩), Bool.false_and] at h; exact h
      · rw [if_neg h4]; exact rest (fun e => h4 e.2)
    | false =>
      rw [br_false]
      exact rest (fun e => by rw [hm] at e; cases e.1)
  · rw [if_neg h3]; rw [decide_eq_false (fun e => h3 e.2.2.1), Bool.false_and] at h; exact h
def unitB (u : UnitT) : Bool := decide ((0 ≤ u.2.1 ∧ u.2.1 ≤ 64) ∧ (0 ≤ u.2.2.1 ∧ u.2.2.1 ≤ 64) ∧ u.2.1 + u.2.2.1 ≤ 64)
theorem unit_spec (u : UnitT) (K : Bool → Prop) (h : K (unitB u)) : account_Unit u K := by
  rw [account_Unit_def]
  unfold unitB at h
  simp only [br_dec, imin_eq', imax_eq']
  by_cases h1 : 0 ≤ min u.2.1 u.2.2.1
  · rw [if_pos h1]
    by_cases h2 : max u.2.1 u.2.2.1 ≤ 64
    · rw [if_pos h2, iadd64 (by omega)]
      rw [show decide (u.2.1 + u.2.2.1 ≤ 64) = decide ((0 ≤ u.2.1 ∧ u.2.1 ≤ 64) ∧ (0 ≤ u.2.2.1 ∧ u.2.2.1 ≤ 64) ∧ u.2.1 + u.2.2.1 ≤ 64) by apply decide_eq_decide.2; omega]
      exact h
    · rw [if_neg h2]; rw [decide_eq_false (by omega)] at h; exact h
  · rw [if_neg h1]; rw [decide_eq_false (by omega)] at h; exact h
theorem runit_spec (u : UnitT) (K : Bool → Prop) (h : K (unitB u)) : R28_Unit u K := by
  rw [R28_Unit_def]
  unfold unitB at h
  simp only [br_dec]
  by_cases h1 : 0 ≤ u.2.1
  · rw [if_pos h1]
    by_cases h2 : u.2.1 ≤ 64
    · rw [if_pos h2]
      by_cases h3 : 0 ≤ u.2.2.1
      · rw [if_pos h3]
        by_cases h4 : u.2.2.1 ≤ 64
        · rw [if_pos h4, iadd64 (by omega)]
          rw [show decide (u.2.1 + u.2.2.1 ≤ 64) = decide ((0 ≤ u.2.1 ∧ u.2.1 ≤ 64) ∧ (0 ≤ u.2.2.1 ∧ u.2.2.1 ≤ 64) ∧ u.2.1 + u.2.2.1 ≤ 64) by apply decide_eq_decide.2; omega]
          exact h
        · rw [if_neg h4]; rw [decide_eq_false (by omega)] at h; exact h
      · rw [if_neg h3]; rw [decide_eq_false (by omega)] at h; exact h
    · rw [if_neg h2]; rw [decide_eq_false (by omega)] at h; exact h
  · rw [if_neg h1]; rw [decide_eq_false (by omega)] at h; exact h
def keepV (u : UnitT) : Int := if unitB u = true then 64 - u.2.1 - u.2.2.1 else 0
theorem keepV_b (u : UnitT) : 0 ≤ keepV u ∧ keepV u ≤ 64 := by
  unfold keepV
  split
  · rename_i h; unfold unitB at h; rw [decide_eq_true_eq] at h; omega
  · omega
theorem keeps_spec (u : UnitT) (K : Int → Prop) (h : K (keepV u)) : account_Keeps u K := by
  rw [account_Keeps_def]
  refine unit_spec u _ ?_
  unfold keepV at h
  rw [br_not]
  refine br_of (fun hu => ?_) (fun hu => ?_)
  · rw [if_pos hu] at h
    unfold unitB at hu; rw [decide_eq_true_eq] at hu
    rw [isub64 (a := 64) (by omega), isub64 (by omega)]; exact h
  · rw [if_neg (by rw [hu]; simp)] at h; exact h
theorem rkeeps_spec (u : UnitT) (K : Int → Prop) (h : K (keepV u)) : R28_Keeps u K := by
  rw [R28_Keeps_def]
  refine runit_spec u _ ?_
  unfold keepV at h
  rw [br_not]
  refine br_of (fun hu => ?_) (fun hu => ?_)
  · rw [if_pos hu] at h
    unfold unitB at hu; rw [decide_eq_true_eq] at hu
    rw [isub64 (a := 64) (by omega), isub64 (by omega)]; exact h
  · rw [if_neg (by rw [hu]; simp)] at h; exact h
/-- How many samples a page keeps; and pages. -/
def pgS : List UnitT → Int
  | [] => 0
  | u :: r => keepV u + pgS r
theorem pgS_b : ∀ l : List UnitT, 0 ≤ pgS l ∧ pgS l ≤ 64 * l.length
  | [] => by simp [pgS]
  | u :: r => by
    have := keepV_b u
    have := pgS_b r
    simp only [pgS, List.length_cons]; omega
theorem dec_iff {p q : Prop} [Decidable p] [Decidable q] (K : Bool → Prop) (hk : K (decide q)) (h : p ↔ q) : K (decide p) := by rw [decide_eq_decide.2 h]; exact hk
theorem page_l3 (l : List UnitT) (hl : l.length ≤ 100000) (K : Int → Prop) : ∀ (d i : Nat) (n : Int), i + d = l.length → 0 ≤ n ∧ n ≤ 64 * i → K (n + pgS (l.drop i)) → ∃ q, api_Unit__82__account_Keeps_l3 q n l l.length i K := by
  intro d
  induction d with
  | zero =>
    intro i n hi hn h
    refine ⟨1, ?_⟩
    rw [List.drop_eq_nil_of_le (by omega)] at h
    simp only [api_Unit__82__account_Keeps_l3, br_dec]
    rw [if_neg (by omega)]
    simpa [pgS] using h
  | succ d ih =>
    intro i n hi hn h
    rw [drop_cons (((false, (false, (false, (0, ([], ()))))), (0, (0, ()))) : UnitT) (by omega)] at h
    have hb := keepV_b (l.getD i (((false, (false, (false, (0, ([], ()))))), (0, (0, ()))) : UnitT))
    obtain ⟨q, hq⟩ := ih (i + 1) (n + keepV (l.getD i (((false, (false, (false, (0, ([], ()))))), (0, (0, ()))) : UnitT))) (by omega) (by omega) (by rw [Int.add_assoc]; exact h)
    refine ⟨q + 1, ?_⟩
    simp only [api_Unit__82__account_Keeps_l3, br_dec, br_and, Int.toNat_natCast]
    rw [if_pos (by omega), if_pos (by omega), if_pos (by omega)]
    refine keeps_spec _ _ ?_
    rw [iadd64 (by omega), i64_succ _ (by omega)]
    exact hq
theorem page_spec (l : List UnitT) (hl : l.length ≤ 100000) (K : Int → Prop) (h : K (pgS l)) : account_Page l K := by
  rw [account_Page_def, api_Unit__82__account_Keeps_def]
  refine page_l3 l hl K l.length 0 0 (by omega) (by omega) ?_
  rw [List.drop_zero, Int.zero_add]; exact h
theorem rpage_l3 (l : List UnitT) (hl : l.length ≤ 100000) (K : Int → Prop) : ∀ (d i : Nat) (n : Int), i + d = l.length → 0 ≤ n ∧ n ≤ 64 * i → K (n + pgS (l.drop i)) → ∃ q, R28_Page_l3 q l n i K := by
  intro d
  induction d with
  | zero =>
    intro i n hi hn h
    refine ⟨1, ?_⟩
    rw [List.drop_eq_nil_of_le (by omega)] at h
    simp only [R28_Page_l3, br_dec]
    rw [if_neg (by omega)]
    simpa [pgS] using h
  | succ d ih =>
    intro i n hi hn h
    rw [drop_cons (((false, (false, (false, (0, ([], ()))))), (0, (0, ()))) : UnitT) (by omega)] at h
    have hb := keepV_b (l.getD i (((false, (false, (false, (0, ([], ()))))), (0, (0, ()))) : UnitT))
    obtain ⟨q, hq⟩ := ih (i + 1) (n + keepV (l.getD i (((false, (false, (false, (0, ([], ()))))), (0, (0, ()))) : UnitT))) (by omega) (by omega) (by rw [Int.add_assoc]; exact h)
    refine ⟨q + 1, ?_⟩
    simp only [R28_Page_l3, br_dec, br_and, Int.toNat_natCast]
    rw [if_pos (by omega), if_pos (by omega), if_pos (by omega)]
    refine rkeeps_spec _ _ ?_
    rw [iadd64 (by omega), i64_succ _ (by omega)]
    exact hq
theorem rpage_spec (l : List UnitT) (hl : l.length ≤ 100000) (K : Int → Prop) (h : K (pgS l)) : R28_Page l K := by
  rw [R28_Page_def]
  refine rpage_l3 l hl K l.length 0 0 (by omega) (by omega) ?_
  rw [List.drop_zero, Int.zero_add]; exact h
def lgS : List (List UnitT) → Int
  | [] => 0
  | l :: r => pgS l + lgS r
/-- Few pages of few units. -/
def few (p : List (List UnitT)) : Prop := p.length ≤ 6 ∧ ∀ i, (p.getD i []).length ≤ 10
theorem pg10 {p : List (List UnitT)} (h : few p) (i : Nat) : 0 ≤ pgS (p.getD i []) ∧ pgS (p.getD i []) ≤ 640 := by
  have h1 := pgS_b (p.getD i [])
  have h2 := h.2 i
  omega
theorem lgS_b : ∀ p : List (List UnitT), (∀ i, (p.getD i []).length ≤ 10) → 0 ≤ lgS p ∧ lgS p ≤ 640 * p.length
  | [], _ => by simp [lgS]
  | l :: r, h => by
    have h1 := pgS_b l
    have h2 : l.length ≤ 10 := by have := h 0; simpa using this
    have h3 := lgS_b r (fun i => by have := h (i + 1); simpa using this)
    simp only [lgS, List.length_cons]; omega
theorem len_l3 (p : List (List UnitT)) (hf : few p) (K : Int → Prop) : ∀ (d i : Nat) (n : Int), i + d = p.length → 0 ≤ n ∧ n ≤ 640 * i → K (n + lgS (p.drop i)) → ∃ q, api_Unit__58__account_Page_l3 q n p p.length i K := by
  have h6 := hf.1
  intro d
  induction d with
  | zero =>
    intro i n hi hn h
    refine ⟨1, ?_⟩
    rw [List.drop_eq_nil_of_le (by omega)] at h
    simp only [api_Unit__58__account_Page_l3, br_dec]
    rw [if_neg (by omega)]
    simpa [lgS] using h
  | succ d ih =>
    intro i n hi hn h
    rw [drop_cons [] (by omega)] at h
    have hb := pg10 hf i
    have hl := hf.2 i
    obtain ⟨q, hq⟩ := ih (i + 1) (n + pgS (p.getD i [])) (by omega) (by omega) (by rw [Int.add_assoc]; exact h)
    refine ⟨q + 1, ?_⟩
    simp only [api_Unit__58__account_Page_l3, br_dec, br_and, Int.toNat_natCast]
    rw [if_pos (by omega), if_pos (by omega), if_pos (by omega)]
    refine page_spec _ (by omega) _ ?_
    rw [iadd64 (by omega), i64_succ _ (by omega)]
    exact hq
def bnd (x : Int) : Prop := 0 ≤ x ∧ x ≤ 131072
theorem length_spec (f : FileT) (hf : few f.2.1) (h1 : bnd f.1.2.2.2.1) (h2 : bnd f.1.2.2.2.2.1) (K : Int → Prop) (h : K (lgS f.2.1 - f.1.2.2.2.1 - f.1.2.2.2.2.1)) : account_Length f K := by
  rw [account_Length_def, api_Unit__58__account_Page_def]
  have hb := lgS_b f.2.1 hf.2
  have h6 := hf.1
  unfold bnd at h1 h2
  refine len_l3 f.2.1 hf _ f.2.1.length 0 0 (by omega) (by omega) ?_
  rw [List.drop_zero, Int.zero_add, isub64 (a := lgS f.2.1) (by omega), isub64 (by omega)]; exact h
theorem rlen_l3 (f : FileT) (hf : few f.2.1) (K : Int → FileT → Prop) : ∀ (d i : Nat) (n : Int), i + d = f.2.1.length → 0 ≤ n ∧ n ≤ 640 * i → K (n + lgS (f.2.1.drop i)) f → ∃ q, R28_Length_l3 q n i f K := by
  have h6 := hf.1
  intro d
  induction d with
  | zero =>
    intro i n hi hn h
    refine ⟨1, ?_⟩
    rw [List.drop_eq_nil_of_le (by omega)] at h
    simp only [R28_Length_l3, br_dec]
    rw [if_neg (by omega)]
    simpa [lgS] using h
  | succ d ih =>
    intro i n hi hn h
    rw [drop_cons [] (by omega)] at h
    have hb := pg10 hf i
    have hl := hf.2 i
    obtain ⟨q, hq⟩ := ih (i + 1) (n + pgS (f.2.1.getD i [])) (by omega) (by omega) (by rw [Int.add_assoc]; exact h)
    refine ⟨q + 1, ?_⟩
    simp only [R28_Length_l3, br_dec, br_and, Int.toNat_natCast]
    rw [if_pos (by omega), if_pos (by omega), if_pos (by omega)]
    refine rpage_spec _ (by omega) _ ?_
    rw [iadd64 (by omega), i64_succ _ (by omega)]
    exact hq
theorem rlength_spec (f : FileT) (hf : few f.2.1) (h1 : bnd f.1.2.2.2.1) (h2 : bnd f.1.2.2.2.2.1) (K : Int → Prop) (h : K (lgS f.2.1 - f.1.2.2.2.1 - f.1.2.2.2.2.1)) : R28_Length f K := by
  rw [R28_Length_def]
  have hb := lgS_b f.2.1 hf.2
  have h6 := hf.1
  unfold bnd at h1 h2
  refine rlen_l3 f hf _ f.2.1.length 0 0 (by omega) (by omega) ?_
  rw [List.drop_zero, Int.zero_add, isub64 (a := lgS f.2.1) (by omega), isub64 (by omega)]; exact h
def headB (h : HeadT) : Bool := decide ((1 ≤ h.1 ∧ h.1 ≤ 2) ∧ (1 ≤ h.2.1 ∧ h.2.1 ≤ 192000) ∧ (0 ≤ h.2.2.1 ∧ h.2.2.1 ≤ 10) ∧ (0 ≤ h.2.2.2.1 ∧ h.2.2.2.1 ≤ 128) ∧ (0 ≤ h.2.2.2.2.1 ∧ h.2.2.2.2.1 ≤ 128) ∧ (0 ≤ h.2.2.2.2.2.1 ∧ h.2.2.2.2.2.1 ≤ 131072))
theorem between_spec (x a b : Int) (K : Bool → Prop) (h : K (decide (a ≤ x ∧ x ≤ b))) : account_between x a b K := by
  rw [account_between_def, br_dec]
  by_cases h1 : a ≤ x
  · rw [if_pos h1, show decide (x ≤ b) = decide (a ≤ x ∧ x ≤ b) by apply decide_eq_decide.2; omega]; exact h
  · rw [if_neg h1]; rw [decide_eq_false (by omega)] at h; exact h
theorem head_spec (h : HeadT) (K : Bool → Prop) (hk : K (headB h)) : account_head h K := by
  rw [account_head_def]
  unfold headB at hk
  refine between_spec _ _ _ _ ?_
  rw [br_dec]
  by_cases h1 : 1 ≤ h.1 ∧ h.1 ≤ 2
  · rw [if_pos h1]
    refine between_spec _ _ _ _ ?_
    rw [br_dec]
    by_cases h2 : 1 ≤ h.2.1 ∧ h.2.1 ≤ 192000
    · rw [if_pos h2]
      refine between_spec _ _ _ _ ?_
      rw [br_dec]
      by_cases h3 : 0 ≤ h.2.2.1 ∧ h.2.2.1 ≤ 10
      · rw [if_pos h3]
        refine between_spec _ _ _ _ ?_
        rw [br_dec]
        by_cases h4 : 0 ≤ h.2.2.2.1 ∧ h.2.2.2.1 ≤ 128
        · rw [if_pos h4]
          refine between_spec _ _ _ _ ?_
          rw [br_dec]
          by_cases h5 : 0 ≤ h.2.2.2.2.1 ∧ h.2.2.2.2.1 ≤ 128
          · rw [if_pos h5]
            refine between_spec _ _ _ _ ?_
            exact dec_iff K hk ⟨fun e => ⟨h1, h2, h3, h4, h5, e⟩, fun e => e.2.2.2.2.2⟩
          · rw [if_neg h5]; rw [decide_eq_false (fun e => h5 e.2.2.2.2.1)] at hk; exact hk
        · rw [if_neg h4]; rw [decide_eq_false (fun e => h4 e.2.2.2.1)] at hk; exact hk
      · rw [if_neg h3]; rw [decide_eq_false (fun e => h3 e.2.2.1)] at hk; exact hk
    · rw [if_neg h2]; rw [decide_eq_false (fun e => h2 e.2.1)] at hk; exact hk
  · rw [if_neg h1]; rw [decide_eq_false (fun e => h1 e.1)] at hk; exact hk
theorem rhead_rest (h : HeadT) (K : Bool → Prop) (h1 : 1 ≤ h.1 ∧ h.1 ≤ 2) (hk : K (headB h)) :
    (if 1 ≤ h.2.1 then if h.2.1 ≤ 192000 then if 0 ≤ h.2.2.1 then if h.2.2.1 ≤ 10 then if 0 ≤ h.2.2.2.1 then if h.2.2.2.1 ≤ 128 then if 0 ≤ h.2.2.2.2.1 then if h.2.2.2.2.1 ≤ 128 then if 0 ≤ h.2.2.2.2.2.1 then K (decide (h.2.2.2.2.2.1 ≤ 131072)) else K false else K false else K false else K false else K false else K false else K false else K false else K false) := by
  unfold headB at hk
  have no : ¬ ((1 ≤ h.2.1 ∧ h.2.1 ≤ 192000) ∧ (0 ≤ h.2.2.1 ∧ h.2.2.1 ≤ 10) ∧ (0 ≤ h.2.2.2.1 ∧ h.2.2.2.1 ≤ 128) ∧ (0 ≤ h.2.2.2.2.1 ∧ h.2.2.2.2.1 ≤ 128) ∧ 0 ≤ h.2.2.2.2.2.1 ∧ h.2.2.2.2.2.1 ≤ 131072) → K false := fun hn => by
    rw [decide_eq_false (fun e => hn e.2)] at hk; exact hk
  by_cases a1 : 1 ≤ h.2.1
  · rw [if_pos a1]
    by_cases a2 : h.2.1 ≤ 192000
    · rw [if_pos a2]
      by_cases a3 : 0 ≤ h.2.2.1
      · rw [if_pos a3]
        by_cases a4 : h.2.2.1 ≤ 10
        · rw [if_pos a4]
          by_cases a5 : 0 ≤ h.2.2.2.1
          · rw [if_pos a5]
            by_cases a6 : h.2.2.2.1 ≤ 128
            · rw [if_pos a6]
              by_cases a7 : 0 ≤ h.2.2.2.2.1
              · rw [if_pos a7]
                by_cases a8 : h.2.2.2.2.1 ≤ 128
                · rw [if_pos a8]
                  by_cases a9 : 0 ≤ h.2.2.2.2.2.1
                  · rw [if_pos a9]
                    exact dec_iff K hk ⟨fun e => ⟨h1, ⟨a1, a2⟩, ⟨a3, a4⟩, ⟨a5, a6⟩, ⟨a7, a8⟩, a9, e⟩, fun e => e.2.2.2.2.2.2⟩
                  · rw [if_neg a9]; exact no (by omega)
                · rw [if_neg a8]; exact no (by omega)
              · rw [if_neg a7]; exact no (by omega)
            · rw [if_neg a6]; exact no (by omega)
          · rw [if_neg a5]; exact no (by omega)
        · rw [if_neg a4]; exact no (by omega)
      · rw [if_neg a3]; exact no (by omega)
    · rw [if_neg a2]; exact no (by omega)
  · rw [if_neg a1]; exact no (by omega)
theorem rhead_spec (h : HeadT) (K : Bool → Prop) (hk : K (headB h)) : R28_Head h K := by
  rw [R28_Head_def]
  simp only [br_dec]
  by_cases h1 : h.1 = 1
  · rw [if_pos h1]; exact rhead_rest h K (by omega) hk
  · rw [if_neg h1]
    by_cases h2 : h.1 = 2
    · rw [if_pos h2]; exact rhead_rest h K (by omega) hk
    · rw [if_neg h2]
      unfold headB at hk
      rw [decide_eq_false (fun e => by omega)] at hk; exact hk
def uB (u : UnitT) (h : HeadT) : Bool := unitB u && fitF u.1 h.1 h.2.2.1
def usB (l : List UnitT) (h : HeadT) : Bool := allF (fun i => uB (l.getD i (((false, (false, (false, (0, ([], ()))))), (0, (0, ()))) : UnitT)) h) l.length 0
/-- May a page be? -/
def pageB (l : List UnitT) (h : HeadT) : Bool := usB l h && decide (1 ≤ l.length ∧ l.length ≤ 8) && (l.getD 0 (((false, (false, (false, (0, ([], ()))))), (0, (0, ()))) : UnitT)).1.2.2.1
theorem rpg_l2 (l : List UnitT) (h : HeadT) (hl : l.length ≤ 100000) (K0 : Bool → Prop) (K1 : List UnitT → Prop) : ∀ d i : Nat, i + d = l.length →
    (if allF (fun i => uB (l.getD i (((false, (false, (false, (0, ([], ()))))), (0, (0, ()))) : UnitT)) h) d i = true then K1 l else K0 false) → ∃ q, R28_page_l2 q l i h K0 K1 := by
  intro d
  induction d with
  | zero =>
    intro i hi hh
    refine ⟨1, ?_⟩
    simp only [R28_page_l2, br_dec]
    rw [if_neg (by omega)]
    simpa [allF] using hh
  | succ d ih =>
    intro i hi hh
    rw [allF] at hh
    by_cases hb : uB (l.getD i (((false, (false, (false, (0, ([], ()))))), (0, (0, ()))) : UnitT)) h = true
    · rw [hb, Bool.true_and] at hh
      obtain ⟨q, hq⟩ := ih (i + 1) (by omega) hh
      refine ⟨q + 1, ?_⟩
      unfold uB at hb
      rw [Bool.and_eq_true] at hb
      simp only [R28_page_l2, br_dec, br_and, Int.toNat_natCast]
      rw [if_pos (by omega), if_pos (by omega), if_pos (by omega)]
      refine runit_spec _ _ ?_
      rw [hb.1, br_not, br_true, if_pos (by omega), if_pos (by omega)]
      refine rfit_spec _ _ _ _ ?_
      rw [hb.2, br_not, br_true, i64_succ _ (by omega)]
      exact hq
    · have hb : uB (l.getD i (((false, (false, (false, (0, ([], ()))))), (0, (0, ()))) : UnitT)) h = false := by simpa using hb
      rw [hb, Bool.false_and, if_neg (by simp)] at hh
      refine ⟨1, ?_⟩
      unfold uB at hb
      simp only [R28_page_l2, br_dec, br_and, Int.toNat_natCast]
      rw [if_pos (by omega), if_pos (by omega), if_pos (by omega)]
      refine runit_spec _ _ ?_
      rw [br_not]
      refine br_of (fun hu => ?_) (fun hu => hh)
      rw [hu, Bool.true_and] at hb
      rw [if_pos (by omega), if_pos (by omega)]
      refine rfit_spec _ _ _ _ ?_
      rw [hb, br_not, br_false]
      exact hh
theorem rpg_spec (l : List UnitT) (h : HeadT) (hl : l.length ≤ 100000) (K : Bool → Prop) (hk : K (pageB l h)) : R28_page l h K := by
  rw [R28_page_def]
  unfold pageB at hk
  refine rpg_l2 l h hl K _ l.length 0 (by omega) ?_
  by_cases hu : usB l h = true
  · rw [hu, Bool.true_and] at hk
    unfold usB at hu
    rw [if_pos hu]
    simp only [br_dec]
    by_cases h1 : 1 ≤ l.length
    · rw [if_pos (by omega)]
      by_cases h2 : l.length ≤ 8
      · rw [if_pos (by omega), if_pos (by omega)]
        rw [decide_eq_true ⟨h1, h2⟩, Bool.true_and] at hk; exact hk
      · rw [if_neg (by omega)]; rw [decide_eq_false (fun e => h2 e.2), Bool.false_and] at hk; exact hk
    · rw [if_neg (by omega)]; rw [decide_eq_false (fun e => h1 e.1), Bool.false_and] at hk; exact hk
  · have hu' : usB l h = false := by simpa using hu
    rw [hu', Bool.false_and, Bool.false_and] at hk
    unfold usB at hu
    rw [if_neg hu]; exact hk
theorem bad_spec (u : UnitT) (f : FileT) (K : Bool → Prop) (h : K (!(uB u f.1))) : account_Fit_1 u f K := by
  rw [account_Fit_1_def]
  unfold uB at h
  refine unit_spec _ _ ?_
  rw [br_not]
  refine br_of (fun hu => ?_) (fun hu => ?_)
  · rw [hu, Bool.true_and] at h
    exact fit_spec _ _ _ _ h
  · rw [hu, Bool.false_and] at h; exact h
theorem has_l2 (l : List UnitT) (f : FileT) (hl : l.length ≤ 100000) (K0 : Int → Prop) (K1 : Prop) : ∀ d i : Nat, i + d = l.length →
    (if allF (fun i => uB (l.getD i (((false, (false, (false, (0, ([], ()))))), (0, (0, ()))) : UnitT)) f.1) d i = true then K1 else ∀ j : Nat, K0 j) → ∃ q, api_Unit__110__account_Fit_1_l2 q l f l.length i K0 K1 := by
  intro d
  induction d with
  | zero =>
    intro i hi hh
    refine ⟨1, ?_⟩
    simp only [api_Unit__110__account_Fit_1_l2, br_dec]
    rw [if_neg (by omega)]
    simpa [allF] using hh
  | succ d ih =>
    intro i hi hh
    rw [allF] at hh
    by_cases hb : uB (l.getD i (((false, (false, (false, (0, ([], ()))))), (0, (0, ()))) : UnitT)) f.1 = true
    · rw [hb, Bool.true_and] at hh
      obtain ⟨q, hq⟩ := ih (i + 1) (by omega) hh
      refine ⟨q + 1, ?_⟩
      simp only [api_Unit__110__account_Fit_1_l2, br_dec, br_and, Int.toNat_natCast]
      rw [if_pos (by omega), if_pos (by omega), if_pos (by omega)]
      refine bad_spec _ _ _ ?_
      rw [hb, Bool.not_true, br_false, i64_succ _ (by omega)]
      exact hq
    · have hb : uB (l.getD i (((false, (false, (false, (0, ([], ()))))), (0, (0, ()))) : UnitT)) f.1 = false := by simpa using hb
      rw [hb, Bool.false_and, if_neg (by simp)] at hh
      refine ⟨1, ?_⟩
      simp only [api_Unit__110__account_Fit_1_l2, br_dec, br_and, Int.toNat_natCast]
      rw [if_pos (by omega), if_pos (by omega), if_pos (by omega)]
      refine bad_spec _ _ _ ?_
      rw [hb, Bool.not_false, br_true]
      exact hh i
theorem has_spec (l : List UnitT) (f : FileT) (hl : l.length ≤ 100000) (K : Bool → Prop) (h : K (!(usB l f.1))) : api_Unit___account_Fit_1 l f K := by
  rw [api_Unit___account_Fit_1_def, api_Unit__110__account_Fit_1_def]
  refine has_l2 l f hl _ _ l.length 0 (by omega) ?_
  unfold usB at h
  split
  · rename_i e; rw [e] at h; exact h
  · rename_i e
    rw [Bool.eq_false_iff.2 e] at h
    intro j
    rw [decide_eq_true (by omega)]; exact h
theorem fit_l4 (f : FileT) (hf : few f.2.1) (K0 : Bool → Prop) (K1 : FileT → Prop) : ∀ d i : Nat, i + d = f.2.1.length →
    (if allF (fun i => pageB (f.2.1.getD i []) f.1) d i = true then K1 f else K0 false) → ∃ q, account_Fit_l4 q f.2.1 f.2.1.length i f K0 K1 := by
  have h6 := hf.1
  intro d
  induction d with
  | zero =>
    intro i hi hh
    refine ⟨1, ?_⟩
    simp only [account_Fit_l4, br_dec]
    rw [if_neg (by omega)]
    simpa [allF] using hh
  | succ d ih =>
    intro i hi hh
    rw [allF] at hh
    have h10 := hf.2 i
    by_cases hb : pageB (f.2.1.getD i []) f.1 = true
    · rw [hb, Bool.true_and] at hh
      obtain ⟨q, hq⟩ := ih (i + 1) (by omega) hh
      refine ⟨q + 1, ?_⟩
      unfold pageB at hb
      rw [Bool.and_eq_true, Bool.and_eq_true, decide_eq_true_eq] at hb
      simp only [account_Fit_l4, br_dec, br_and, Int.toNat_natCast]
      rw [if_pos (by omega), if_pos (by omega), if_pos (by omega)]
      refine between_spec _ _ _ _ ?_
      rw [decide_eq_true (by omega), br_not, br_true, if_pos (by omega), hb.2, br_not, br_true]
      refine has_spec _ _ (by omega) _ ?_
      rw [hb.1.1, Bool.not_true, br_false, i64_succ _ (by omega)]
      exact hq
    · have hb : pageB (f.2.1.getD i []) f.1 = false := by simpa using hb
      rw [hb, Bool.false_and, if_neg (by simp)] at hh
      refine ⟨1, ?_⟩
      unfold pageB at hb
      simp only [account_Fit_l4, br_dec, br_and, Int.toNat_natCast]
      rw [if_pos (by omega), if_pos (by omega), if_pos (by omega)]
      refine between_spec _ _ _ _ ?_
      by_cases hl : 1 ≤ (f.2.1.getD i []).length ∧ (f.2.1.getD i []).length ≤ 8
      · rw [decide_eq_true (by omega), br_not, br_true, if_pos (by omega), br_not]
        rw [decide_eq_true hl, Bool.and_true] at hb
        refine br_of (fun hi' => ?_) (fun _ => hh)
        rw [hi', Bool.and_true] at hb
        refine has_spec _ _ (by omega) _ ?_
        rw [hb, Bool.not_false, br_true]
        exact hh
      · rw [decide_eq_false (by omega), br_not, br_false]; exact hh
/-- What both ends leave out lies within the first and the last page. -/
def endB (f : FileT) : Bool := if f.2.1.length = 0 then decide (f.1.2.2.2.1 = 0 ∧ f.1.2.2.2.2.1 = 0) else if f.2.1.length = 1 then decide (f.1.2.2.2.1 + f.1.2.2.2.2.1 ≤ pgS (f.2.1.getD 0 [])) else
  decide (f.1.2.2.2.1 ≤ pgS (f.2.1.getD 0 []) ∧ f.1.2.2.2.2.1 ≤ pgS (f.2.1.getD (f.2.1.length - 1) []))
def fileB (f : FileT) : Bool := headB f.1 && (allF (fun i => pageB (f.2.1.getD i []) f.1) f.2.1.length 0 && (endB f && decide (f.1.2.2.2.2.2.1 = lgS f.2.1 - f.1.2.2.2.1 - f.1.2.2.2.2.1)))
theorem head_bnd {h : HeadT} (hb : headB h = true) : bnd h.2.2.2.1 ∧ bnd h.2.2.2.2.1 ∧ h.2.2.2.1 ≤ 128 ∧ h.2.2.2.2.1 ≤ 128 := by
  unfold headB at hb
  rw [decide_eq_true_eq] at hb
  unfold bnd; omega
theorem ends_spec (f : FileT) (hf : few f.2.1) (hh : headB f.1 = true) (K : Bool → Prop) (h : K (endB f)) : account_ends f K := by
  rw [account_ends_def]
  have h6 := hf.1
  obtain ⟨⟨a0, _⟩, ⟨b0, _⟩, a1, b1⟩ := head_bnd hh
  unfold endB at h
  simp only [br_dec, br_and]
  by_cases h0 : f.2.1.length = 0
  · rw [if_pos h0] at h
    rw [if_pos (by omega), iadd64 (by omega)]
    exact dec_iff K h (by omega)
  · rw [if_neg h0] at h
    rw [if_neg (by omega)]
    by_cases h1 : f.2.1.length = 1
    · rw [if_pos h1] at h
      rw [if_pos (by omega), if_pos (by omega)]
      refine page_spec _ (by have := hf.2 0; omega) _ ?_
      rw [iadd64 (by omega)]; exact h
    · rw [if_neg h1] at h
      rw [if_neg (by omega), if_pos (by omega)]
      refine page_spec _ (by have := hf.2 0; omega) _ ?_
      by_cases h2 : f.1.2.2.2.1 ≤ pgS (f.2.1.getD 0 [])
      · have e : isub .i64 (f.2.1.length : Int) 1 = ((f.2.1.length - 1 : Nat) : Int) := by rw [isub64 (by omega)]; omega
        rw [if_pos h2, e, Int.toNat_natCast, if_pos (by omega), if_pos (by omega)]
        refine page_spec _ (by have := hf.2 (f.2.1.length - 1); omega) _ ?_
        exact dec_iff K h ⟨fun e => ⟨h2, e⟩, fun e => e.2⟩
      · rw [if_neg h2]; rw [decide_eq_false (fun e => h2 e.1)] at h; exact h
theorem afit_spec (f : FileT) (hf : few f.2.1) (K : Bool → Prop) (h : K (fileB f)) : account_Fit f K := by
  rw [account_Fit_def]
  have h6 := hf.1
  unfold fileB at h
  refine head_spec _ _ ?_
  rw [br_not]
  refine br_of (fun hh => ?_) (fun hh => ?_)
  · rw [hh, Bool.true_and] at h
    rw [br_dec, if_neg (by omega)]
    refine fit_l4 f hf K _ f.2.1.length 0 (by omega) ?_
    split
    · rename_i hp
      rw [hp, Bool.true_and] at h
      refine ends_spec f hf hh _ ?_
      refine br_of (fun he => ?_) (fun he => ?_)
      · rw [he, Bool.true_and] at h
        exact length_spec f hf (head_bnd hh).1 (head_bnd hh).2.1 _ h
      · rw [he, Bool.false_and] at h; exact h
    · rename_i hp
      rw [Bool.eq_false_iff.2 hp, Bool.false_and] at h; exact h
  · rw [hh, Bool.false_and] at h; exact h
theorem rfit_l6 (f : FileT) (hf : few f.2.1) (K0 : Bool → Prop) (K1 : Int → FileT → HeadT → Prop) : ∀ d i : Nat, i + d = f.2.1.length →
    (if allF (fun i => pageB (f.2.1.getD i []) f.1) d i = true then K1 f.2.1.length f f.1 else K0 false) → ∃ q, R28_Fit_l6 q f.2.1.length i f f.1 K0 K1 := by
  have h6 := hf.1
  intro d
  induction d with
  | zero =>
    intro i hi hh
    refine ⟨1, ?_⟩
    simp only [R28_Fit_l6, br_dec]
    rw [if_neg (by omega)]
    simpa [allF] using hh
  | succ d ih =>
    intro i hi hh
    rw [allF] at hh
    have h10 := hf.2 i
    by_cases hb : pageB (f.2.1.getD i []) f.1 = true
    · rw [hb, Bool.true_and] at hh
      obtain ⟨q, hq⟩ := ih (i + 1) (by omega) hh
      refine ⟨q + 1, ?_⟩
      simp only [R28_Fit_l6, br_dec, br_and, Int.toNat_natCast]
      rw [if_pos (by omega), if_pos (by omega), if_pos (by omega)]
      refine rpg_spec _ _ (by omega) _ ?_
      rw [hb, br_not, br_true, i64_succ _ (by omega)]
      exact hq
    · have hb : pageB (f.2.1.getD i []) f.1 = false := by simpa using hb
      rw [hb, Bool.false_and, if_neg (by simp)] at hh
      refine ⟨1, ?_⟩
      simp only [R28_Fit_l6, br_dec, br_and, Int.toNat_natCast]
      rw [if_pos (by omega), if_pos (by omega), if_pos (by omega)]
      refine rpg_spec _ _ (by omega) _ ?_
      rw [hb, br_not, br_false]
      exact hh
theorem rafit_spec (f : FileT) (hf : few f.2.1) (K : Bool → Prop) (h : K (fileB f)) : R28_Fit f K := by
  rw [R28_Fit_def]
  have h6 := hf.1
  unfold fileB at h
  refine rhead_spec _ _ ?_
  rw [br_not]
  refine br_of (fun hh => ?_) (fun hh => ?_)
  · rw [hh, Bool.true_and] at h
    obtain ⟨hb1, hb2, a1, b1⟩ := head_bnd hh
    have c1 := hb1; have c2 := hb2
    unfold bnd at c1 c2
    rw [br_dec, if_neg (by omega)]
    refine rfit_l6 f hf K _ f.2.1.length 0 (by omega) ?_
    split
    · rename_i hp
      rw [hp, Bool.true_and] at h
      unfold endB at h
      simp only [br_dec, br_and]
      by_cases h0 : f.2.1.length = 0
      · rw [if_pos h0] at h
        rw [if_pos (by omega)]
        have hl : lgS f.2.1 = 0 := by rw [List.eq_nil_of_length_eq_zero h0]; rfl
        rw [hl] at h
        by_cases h1 : f.1.2.2.2.1 = 0
        · rw [if_pos h1]
          by_cases h2 : f.1.2.2.2.2.1 = 0
          · rw [if_pos h2]
            rw [decide_eq_true ⟨h1, h2⟩, Bool.true_and] at h
            exact dec_iff K h (by omega)
          · rw [if_neg h2]; rw [decide_eq_false (fun e => h2 e.2), Bool.false_and] at h; exact h
        · rw [if_neg h1]; rw [decide_eq_false (fun e => h1 e.1), Bool.false_and] at h; exact h
      · rw [if_neg h0] at h
        rw [if_neg (by omega)]
        by_cases h1 : f.2.1.length = 1
        · rw [if_pos h1] at h
          rw [if_pos (by omega), if_pos (by omega)]
          refine rpage_spec _ (by have := hf.2 0; omega) _ ?_
          rw [iadd64 (by omega)]
          by_cases h2 : f.1.2.2.2.1 + f.1.2.2.2.2.1 ≤ pgS (f.2.1.getD 0 [])
          · rw [if_pos h2]
            rw [decide_eq_true h2, Bool.true_and] at h
            exact rlength_spec f hf hb1 hb2 _ h
          · rw [if_neg h2]; rw [decide_eq_false h2, Bool.false_and] at h; exact h
        · rw [if_neg h1] at h
          rw [if_neg (by omega), if_pos (by omega)]
          refine rpage_spec _ (by have := hf.2 0; omega) _ ?_
          by_cases h2 : f.1.2.2.2.1 ≤ pgS (f.2.1.getD 0 [])
          · have e : isub .i64 (f.2.1.length : Int) 1 = ((f.2.1.length - 1 : Nat) : Int) := by rw [isub64 (by omega)]; omega
            rw [if_pos h2, e, Int.toNat_natCast, if_pos (by omega), if_pos (by omega)]
            refine rpage_spec _ (by have := hf.2 (f.2.1.length - 1); omega) _ ?_
            by_cases h3 : f.1.2.2.2.2.1 ≤ pgS (f.2.1.getD (f.2.1.length - 1) [])
            · rw [if_pos h3]
              rw [decide_eq_true ⟨h2, h3⟩, Bool.true_and] at h
              exact rlength_spec f hf hb1 hb2 _ h
            · rw [if_neg h3]; rw [decide_eq_false (fun e => h3 e.2), Bool.false_and] at h; exact h
          · rw [if_neg h2]; rw [decide_eq_false (fun e => h2 e.1), Bool.false_and] at h; exact h
    · rename_i hp
      rw [Bool.eq_false_iff.2 hp, Bool.false_and] at h; exact h
  · rw [hh, Bool.false_and] at h; exact h
theorem allF_spec {p : Nat → Bool} : ∀ d i : Nat, allF p d i = true → ∀ j, i ≤ j → j < i + d → p j = true
  | 0, i, _, j, h1, h2 => by omega
  | d + 1, i, h, j, h1, h2 => by
    rw [allF, Bool.and_eq_true] at h
    by_cases e : j = i
    · rw [e]; exact h.1
    · exact allF_spec d (i + 1) h.2 j (by omega) (by omega)
abbrev BandD : BandT := (0, (0, ([], ())))
def fewC (c : ChanT) : Bool := decide (c.1.length ≤ 15) && allF (fun b => decide ((c.1.getD b (0, (0, ([], ())))).2.2.1.length ≤ 10)) c.1.length 0
def fewF (f : FrameT) : Bool := decide (f.2.2.2.2.1.length ≤ 4) && allF (fun i => fewC (f.2.2.2.2.1.getD i ([], ()))) f.2.2.2.2.1.length 0
theorem few_l9 (i2 : Nat) (f : FrameT) (hi : i2 < f.2.2.2.2.1.length) (h15 : (f.2.2.2.2.1.getD i2 ([], ())).1.length ≤ 15) (K0 : Bool → Prop) (K1 : Int → FrameT → Prop) : ∀ d b : Nat, b + d = (f.2.2.2.2.1.getD i2 ([], ())).1.length →
    (if allF (fun b => decide (((f.2.2.2.2.1.getD i2 ([], ())).1.getD b (0, (0, ([], ())))).2.2.1.length ≤ 10)) d b = true then K1 i2 f else K0 false) → ∃ q, R20_Few_l9 q i2 b f K0 K1 := by
  intro d
  induction d with
  | zero =>
    intro b hb h
    refine ⟨1, ?_⟩
    simp only [R20_Few_l9, br_dec, br_and, Int.toNat_natCast]
    rw [if_pos (by omega), if_pos (by omega), if_neg (by omega)]
    simpa [allF] using h
  | succ d ih =>
    intro b hb h
    rw [allF] at h
    by_cases hp : ((f.2.2.2.2.1.getD i2 ([], ())).1.getD b (0, (0, ([], ())))).2.2.1.length ≤ 10
    · rw [decide_eq_true hp, Bool.true_and] at h
      obtain ⟨q, hq⟩ := ih (b + 1) (by omega) h
      refine ⟨q + 1, ?_⟩
      simp only [R20_Few_l9, br_dec, br_and, Int.toNat_natCast]
      rw [if_pos (by omega), if_pos (by omega), if_pos (by omega), if_pos (by omega), if_pos (by omega), if_pos (by omega), if_pos (by omega), if_neg (by omega), i64_succ _ (by omega)]
      exact hq
    · rw [decide_eq_false hp, Bool.false_and, if_neg (by simp)] at h
      refine ⟨1, ?_⟩
      simp only [R20_Few_l9, br_dec, br_and, Int.toNat_natCast]
      rw [if_pos (by omega), if_pos (by omega), if_pos (by omega), if_pos (by omega), if_pos (by omega), if_pos (by omega), if_pos (by omega), if_pos (by omega)]
      exact h
theorem few_l4 (f : FrameT) (h4 : f.2.2.2.2.1.length ≤ 4) (K0 : Bool → Prop) (K1 : Prop) : ∀ d i : Nat, i + d = f.2.2.2.2.1.length →
    (if allF (fun i => fewC (f.2.2.2.2.1.getD i ([], ()))) d i = true then K1 else K0 false) → ∃ q, R20_Few_l4 q i f K0 K1 := by
  intro d
  induction d with
  | zero =>
    intro i hi h
    refine ⟨1, ?_⟩
    simp only [R20_Few_l4, br_dec]
    rw [if_neg (by omega)]
    simpa [allF] using h
  | succ d ih =>
    intro i hi h
    rw [allF] at h
    by_cases hp : fewC (f.2.2.2.2.1.getD i ([], ())) = true
    · rw [hp, Bool.true_and] at h
      obtain ⟨q, hq⟩ := ih (i + 1) (by omega) h
      refine ⟨q + 1, ?_⟩
      unfold fewC at hp
      rw [Bool.and_eq_true, decide_eq_true_eq] at hp
      simp only [R20_Few_l4, br_dec, br_and, Int.toNat_natCast]
      rw [if_pos (by omega), if_pos (by omega), if_pos (by omega), if_neg (by omega)]
      refine few_l9 i f (by omega) hp.1 K0 _ (f.2.2.2.2.1.getD i ([], ())).1.length 0 (by omega) ?_
      rw [if_pos hp.2, i64_succ _ (by omega)]
      exact hq
    · have hp : fewC (f.2.2.2.2.1.getD i ([], ())) = false := by simpa using hp
      rw [hp, Bool.false_and, if_neg (by simp)] at h
      refine ⟨1, ?_⟩
      simp only [R20_Few_l4, br_dec, br_and, Int.toNat_natCast]
      rw [if_pos (by omega), if_pos (by omega), if_pos (by omega)]
      by_cases hl : (f.2.2.2.2.1.getD i ([], ())).1.length ≤ 15
      · rw [if_neg (by omega)]
        refine few_l9 i f (by omega) hl K0 _ (f.2.2.2.2.1.getD i ([], ())).1.length 0 (by omega) ?_
        unfold fewC at hp
        rw [decide_eq_true hl, Bool.true_and] at hp
        rw [hp, if_neg (by simp)]; exact h
      · rw [if_pos (by omega)]; exact h
theorem fewF_spec (f : FrameT) (K : Bool → Prop) (h : K (fewF f)) : R20_Few f K := by
  rw [R20_Few_def, br_dec]
  unfold fewF at h
  by_cases h4 : f.2.2.2.2.1.length ≤ 4
  · rw [decide_eq_true h4, Bool.true_and] at h
    rw [if_neg (by omega)]
    refine few_l4 f h4 K _ f.2.2.2.2.1.length 0 (by omega) ?_
    split
    · rename_i e; rw [e] at h; exact h
    · rename_i e; rw [Bool.eq_false_iff.2 e] at h; exact h
  · rw [decide_eq_false h4, Bool.false_and] at h
    rw [if_pos (by omega)]; exact h
def fewP (l : List UnitT) : Bool := decide (l.length ≤ 10) && allF (fun k => fewF (l.getD k (((false, (false, (false, (0, ([], ()))))), (0, (0, ()))) : UnitT)).1) l.length 0
theorem few_l7 (most : Int) (i2 : Nat) (f : FileT) (hi : i2 < f.2.1.length) (h10 : (f.2.1.getD i2 []).length ≤ 10) (K0 : Bool → Prop) (K1 : Int → Int → FileT → Prop) : ∀ d k : Nat, k + d = (f.2.1.getD i2 []).length →
    (if allF (fun k => fewF ((f.2.1.getD i2 []).getD k (((false, (false, (false, (0, ([], ()))))), (0, (0, ()))) : UnitT)).1) d k = true then K1 most i2 f else K0 false) → ∃ q, R28_Few_l7 q most i2 k f K0 K1 := by
  intro d
  induction d with
  | zero =>
    intro b hb h
    refine ⟨1, ?_⟩
    simp only [R28_Few_l7, br_dec, br_and, Int.toNat_natCast]
    rw [if_pos (by omega), if_pos (by omega), if_neg (by omega)]
    simpa [allF] using h
  | succ d ih =>
    intro b hb h
    rw [allF] at h
    by_cases hp : fewF ((f.2.1.getD i2 []).getD b (((false, (false, (false, (0, ([], ()))))), (0, (0, ()))) : UnitT)).1 = true
    · rw [hp, Bool.true_and] at h
      obtain ⟨q, hq⟩ := ih (b + 1) (by omega) h
      refine ⟨q + 1, ?_⟩
      simp only [R28_Few_l7, br_dec, br_and, Int.toNat_natCast]
      rw [if_pos (by omega), if_pos (by omega), if_pos (by omega), if_pos (by omega), if_pos (by omega), if_pos (by omega), if_pos (by omega)]
      refine fewF_spec _ _ ?_
      rw [hp, br_not, br_true, i64_succ _ (by omega)]
      exact hq
    · have hp : fewF ((f.2.1.getD i2 []).getD b (((false, (false, (false, (0, ([], ()))))), (0, (0, ()))) : UnitT)).1 = false := by simpa using hp
      rw [hp, Bool.false_and, if_neg (by simp)] at h
      refine ⟨1, ?_⟩
      simp only [R28_Few_l7, br_dec, br_and, Int.toNat_natCast]
      rw [if_pos (by omega), if_pos (by omega), if_pos (by omega), if_pos (by omega), if_pos (by omega), if_pos (by omega), if_pos (by omega)]
      refine fewF_spec _ _ ?_
      rw [hp, br_not, br_false]
      exact h
theorem few_l2 (f : FileT) (K0 : Bool → Prop) (K1 : Int → FileT → Prop) : ∀ d i : Nat, i + d = min f.2.1.length 6 →
    (if allF (fun i => fewP (f.2.1.getD i [])) d i = true then K1 6 f else K0 false) → ∃ q, R28_Few_l2 q 6 i f K0 K1 := by
  intro d
  induction d with
  | zero =>
    intro i hi h
    refine ⟨1, ?_⟩
    simp only [R28_Few_l2, br_dec]
    have h : K1 6 f := by simpa [allF] using h
    by_cases hl : (i : Int) < (f.2.1.length : Int)
    · rw [if_pos hl, if_neg (by omega)]; exact h
    · rw [if_neg hl]; exact h
  | succ d ih =>
    intro i hi h
    rw [allF] at h
    by_cases hp : fewP (f.2.1.getD i []) = true
    · rw [hp, Bool.true_and] at h
      obtain ⟨q, hq⟩ := ih (i + 1) (by omega) h
      refine ⟨q + 1, ?_⟩
      unfold fewP at hp
      rw [Bool.and_eq_true, decide_eq_true_eq] at hp
      simp only [R28_Few_l2, br_dec, br_and, Int.toNat_natCast]
      rw [if_pos (by omega), if_pos (by omega), if_pos (by omega), if_pos (by omega), if_neg (by omega)]
      refine few_l7 6 i f (by omega) hp.1 K0 _ (f.2.1.getD i []).length 0 (by omega) ?_
      rw [if_pos hp.2, i64_succ _ (by omega)]
      exact hq
    · have hp : fewP (f.2.1.getD i []) = false := by simpa using hp
      rw [hp, Bool.false_and, if_neg (by simp)] at h
      refine ⟨1, ?_⟩
      simp only [R28_Few_l2, br_dec, br_and, Int.toNat_natCast]
      rw [if_pos (by omega), if_pos (by omega), if_pos (by omega), if_pos (by omega)]
      by_cases hl : (f.2.1.getD i []).length ≤ 10
      · rw [if_neg (by omega)]
        refine few_l7 6 i f (by omega) hl K0 _ (f.2.1.getD i []).length 0 (by omega) ?_
        unfold fewP at hp
        rw [decide_eq_true hl, Bool.true_and] at hp
        rw [hp, if_neg (by simp)]; exact h
      · rw [if_pos (by omega)]; exact h
def fewB (f : FileT) : Bool := allF (fun i => fewP (f.2.1.getD i [])) (min f.2.1.length 6) 0 && decide (f.2.1.length ≤ 6)
theorem few_spec (f : FileT) (K : Bool → Prop) (h : K (fewB f)) : R28_Few f 6 K := by
  rw [R28_Few_def]
  unfold fewB at h
  refine few_l2 f K _ (min f.2.1.length 6) 0 (by omega) ?_
  split
  · rename_i e
    rw [e, Bool.true_and] at h
    exact dec_iff K h (by omega)
  · rename_i e; rw [Bool.eq_false_iff.2 e, Bool.false_and] at h; exact h
theorem few_of {f : FileT} (h : fewB f = true) : few f.2.1 := by
  unfold fewB at h
  rw [Bool.and_eq_true, decide_eq_true_eq] at h
  refine ⟨h.2, fun i => ?_⟩
  by_cases hi : i < f.2.1.length
  · have := allF_spec _ _ h.1 i (by omega) (by omega)
    unfold fewP at this
    rw [Bool.and_eq_true, decide_eq_true_eq] at this
    exact this.1
  · rw [List.getD, List.getElem?_eq_none (by omega)]; simp
def pre (p : List (List UnitT)) : Nat → Int
  | 0 => 0
  | i + 1 => pre p i + pgS (p.getD i [])
def stF (a : Int) (p : List (List UnitT)) (i : Nat) : Int := if i = 0 then 0 else pre p i - a
theorem pre_b {p : List (List UnitT)} (hf : few p) : ∀ i, 0 ≤ pre p i ∧ pre p i ≤ 640 * i
  | 0 => by simp [pre]
  | i + 1 => by
    have := pre_b hf i
    have := pg10 hf i
    simp only [pre]; omega
theorem pre_lgS (p : List (List UnitT)) : ∀ i, i ≤ p.length → pre p i + lgS (p.drop i) = lgS p
  | 0, _ => by simp [pre]
  | i + 1, h => by
    have ih := pre_lgS p i (by omega)
    rw [drop_cons [] (by omega)] at ih
    simp only [pre, lgS] at ih ⊢
    omega
theorem starts_l4 (a : Int) (ha : 0 ≤ a ∧ a ≤ 128) (p : List (List UnitT)) (hf : few p) (K : List Int → Prop) (h : K (tab p.length (stF a p))) : ∀ d i : Nat, i + d = p.length →
    ∃ q, account_Starts_l4 q (pre p i - a) p p.length i (tab i (stF a p)) K := by
  have h6 := hf.1
  intro d
  induction d with
  | zero =>
    intro i hi
    refine ⟨1, ?_⟩
    have hi : i = p.length := by omega
    subst hi
    simp only [account_Starts_l4, br_dec]
    rw [if_neg (by omega)]; exact h
  | succ d ih =>
    intro i hi
    obtain ⟨q, hq⟩ := ih (i + 1) (by omega)
    refine ⟨q + 1, ?_⟩
    have hb := pre_b hf i
    have hp := pg10 hf i
    have h10 := hf.2 i
    have hs := tab_snoc i (stF a p)
    simp only [account_Starts_l4, account_Starts_j9, br_dec, br_and, Int.toNat_natCast, tab_length, List.length_cons, List.length_nil]
    rw [if_pos (by omega), if_pos (by omega), if_pos (by omega)]
    have e : pre p (i + 1) - a = iadd .i64 (pre p i - a) (pgS (p.getD i [])) := by
      rw [iadd64 (by omega)]; simp only [pre]; omega
    rw [e] at hq
    by_cases h0 : i = 0
    · rw [if_pos (by omega), if_pos (by omega)]
      refine page_spec _ (by omega) _ ?_
      rw [show [(0 : Int)] = [stF a p i] by unfold stF; rw [if_pos h0], hs, i64_succ _ (by omega)]
      exact hq
    · rw [if_neg (by omega), if_pos (by omega)]
      refine page_spec _ (by omega) _ ?_
      rw [show [pre p i - a] = [stF a p i] by unfold stF; rw [if_neg h0], hs, i64_succ _ (by omega)]
      exact hq
theorem starts_spec (f : FileT) (hf : few f.2.1) (ha : 0 ≤ f.1.2.2.2.1 ∧ f.1.2.2.2.1 ≤ 128) (K : List Int → Prop) (h : K (tab f.2.1.length (stF f.1.2.2.2.1 f.2.1))) : account_Starts f K := by
  rw [account_Starts_def, isub64 (by omega)]
  exact starts_l4 _ ha f.2.1 hf K h f.2.1.length 0 (by omega)

theorem few_nil : few ([] : List (List UnitT)) := ⟨by decide, fun i => by simp⟩
theorem awake_spec (K : Bool → Prop) (h : K true) : L28_awake K := by
  rw [L28_awake_def]
  refine unit_spec _ _ ?_
  rw [show unitB ((false, (false, (false, (0, ([], ()))))), (60, (4, ()))) = true by decide, br_true]
  refine keeps_spec _ _ ?_
  rw [br_dec, if_pos (by decide)]
  refine keeps_spec _ _ ?_
  rw [br_dec, if_pos (by decide)]
  refine unit_spec _ _ ?_
  rw [show unitB ((false, (false, (false, (0, ([], ()))))), (60, (5, ()))) = false by decide, br_not, br_false]
  refine afit_spec _ few_nil _ ?_
  rw [show fileB ((1, (1, (0, (0, (0, (0, ())))))), ([], ())) = true by decide +kernel, br_true]
  refine afit_spec _ few_nil _ ?_
  rw [show fileB ((0, (0, (0, (0, (0, (0, ())))))), ([], ())) = false by decide +kernel]
  exact h
theorem goes_l14 (at_ : Int) (i : Nat) (f : FileT) (hf : few f.2.1) (hi : i < f.2.1.length) (m : List Int) (K0 : Bool → Prop) (K1 : Int → Int → FileT → List Int → Prop) (h : K1 at_ i f m) : ∀ d k : Nat, k + d = (f.2.1.getD i []).length →
    ∃ q, L28_AccountGoes_l14 q at_ i k f m K0 K1 := by
  have h10 := hf.2 i
  intro d
  induction d with
  | zero =>
    intro k hk
    refine ⟨1, ?_⟩
    simp only [L28_AccountGoes_l14, br_dec, br_and, Int.toNat_natCast]
    rw [if_pos (by omega), if_pos (by omega), if_neg (by omega)]; exact h
  | succ d ih =>
    intro k hk
    obtain ⟨q, hq⟩ := ih (k + 1) (by omega)
    refine ⟨q + 1, ?_⟩
    simp only [L28_AccountGoes_l14, br_dec, br_and, Int.toNat_natCast]
    rw [if_pos (by omega), if_pos (by omega), if_pos (by omega), if_pos (by omega), if_pos (by omega), if_pos (by omega), if_pos (by omega)]
    refine keeps_spec _ _ ?_
    have := keepV_b ((f.2.1.getD i []).getD k (((false, (false, (false, (0, ([], ()))))), (0, (0, ()))) : UnitT))
    rw [if_neg (by omega), if_neg (by omega), i64_succ _ (by omega)]
    exact hq
theorem goes_l8 (f : FileT) (hf : few f.2.1) (g : Nat → Int) (h0 : g 0 = 0) (hm : ∀ i, i < f.2.1.length → 0 ≤ g i ∧ g i ≤ f.1.2.2.2.2.2.1) (hs : ∀ i, i + 1 < f.2.1.length → g i ≤ g (i + 1)) (K0 : Bool → Prop) (K1 : Prop) (h : K1) : ∀ d i : Nat, i + d = f.2.1.length →
    ∀ at_ : Int, (i < f.2.1.length → at_ ≤ g i) → ∃ q, L28_AccountGoes_l8 q at_ i f (tab f.2.1.length g) K0 K1 := by
  have h6 := hf.1
  intro d
  induction d with
  | zero =>
    intro i hi at_ _
    refine ⟨1, ?_⟩
    simp only [L28_AccountGoes_l8, br_dec, tab_length]
    rw [if_neg (by omega)]; exact h
  | succ d ih =>
    intro i hi at_ hat
    obtain ⟨q, hq⟩ := ih (i + 1) (by omega) (g i) (fun hh => hs i hh)
    refine ⟨q + 1, ?_⟩
    have h1 := hat (by omega)
    have h2 := hm i (by omega)
    have e : (tab f.2.1.length g).getD i 0 = g i := tab_get _ _ _ (by omega)
    have j12 : L28_AccountGoes_j12 i f (tab f.2.1.length g) K0 (fun at_4 i5 m13 m14 => L28_AccountGoes_l8 q at_4 (iadd .i64 i5 1) m13 m14 K0 K1) := by
      unfold L28_AccountGoes_j12
      simp only [br_dec, br_and, Int.toNat_natCast, tab_length, e]
      rw [if_pos (by omega), if_pos (by omega), if_pos (by omega)]
      refine goes_l14 (g i) i f hf (by omega) _ K0 _ ?_ (f.2.1.getD i []).length 0 (by omega)
      rw [i64_succ _ (by omega)]; exact hq
    simp only [L28_AccountGoes_l8, br_dec, br_and, br_not, Int.toNat_natCast, tab_length, e]
    rw [if_pos (by omega), if_pos (by omega), if_pos (by omega), if_pos (by omega), if_neg (by omega), if_pos (by omega), if_pos (by omega), if_pos (by omega), if_neg (by omega)]
    by_cases hz : i = 0
    · subst hz
      rw [if_pos (by omega), if_pos (by omega), if_pos (by omega), if_pos (by omega), if_pos h0]
      exact j12
    · rw [if_neg (by omega)]
      exact j12
theorem goes_j3 (f : FileT) (hf : few f.2.1) (hb : fileB f = true) (K : Bool → Prop) (h : K true) : L28_AccountGoes_j3 f K := by
  have hk := awake_spec K h
  have hb0 := hb
  unfold fileB at hb
  rw [Bool.and_eq_true, Bool.and_eq_true, Bool.and_eq_true, decide_eq_true_eq] at hb
  obtain ⟨hh, _, he, hlen⟩ := hb
  obtain ⟨hb1, hb2, a1, b1⟩ := head_bnd hh
  have c1 := hb1; have c2 := hb2
  unfold bnd at c1 c2
  unfold L28_AccountGoes_j3
  refine starts_spec f hf (by omega) _ ?_
  rw [tab_length, br_not, br_dec, if_pos rfl]
  refine length_spec f hf hb1 hb2 _ ?_
  rw [br_not, br_dec, if_pos hlen.symm]
  refine afit_spec f hf _ ?_
  rw [hb0, br_not, br_true]
  have hl := lgS_b f.2.1 hf.2
  have prm : ∀ i j, i ≤ j → pre f.2.1 i ≤ pre f.2.1 j := by
    intro i j hij
    obtain ⟨d, rfl⟩ : ∃ d, j = i + d := ⟨j - i, by omega⟩
    clear hij
    induction d with
    | zero => exact Int.le_refl _
    | succ d ih =>
      have := pg10 hf (i + d)
      rw [← Nat.add_assoc]
      simp only [pre]
      omega
  have full := pre_lgS f.2.1 f.2.1.length (by omega)
  rw [List.drop_length] at full
  simp only [lgS] at full
  refine goes_l8 f hf (stF f.1.2.2.2.1 f.2.1) rfl ?_ ?_ K _ hk f.2.1.length 0 (by omega) 0 (fun _ => Int.le_refl _)
  · intro i hi
    unfold endB at he
    rw [if_neg (by omega)] at he
    unfold stF
    by_cases h1 : f.2.1.length = 1
    · rw [if_pos h1, decide_eq_true_eq] at he
      have p1 : pre f.2.1 1 = pgS (f.2.1.getD 0 []) := by simp [pre]
      rw [h1] at full
      rw [if_pos (by omega)]
      omega
    · rw [if_neg h1, decide_eq_true_eq] at he
      have p1 : pre f.2.1 1 = pgS (f.2.1.getD 0 []) := by simp [pre]
      have pn : pre f.2.1 f.2.1.length = pre f.2.1 (f.2.1.length - 1) + pgS (f.2.1.getD (f.2.1.length - 1) []) := by
        conv => lhs; rw [show f.2.1.length = (f.2.1.length - 1) + 1 by omega]
        rfl
      have p0 := prm 1 (f.2.1.length - 1) (by omega)
      split
      · omega
      · have q1 := prm 1 i (by omega)
        have q2 := prm i (f.2.1.length - 1) (by omega)
        omega
  · intro i hi
    unfold endB at he
    rw [if_neg (by omega), if_neg (by omega), decide_eq_true_eq] at he
    have p1 : pre f.2.1 1 = pgS (f.2.1.getD 0 []) := by simp [pre]
    have := prm i (i + 1) (by omega)
    have := prm 1 (i + 1) (by omega)
    unfold stF
    rw [if_neg (show ¬ i + 1 = 0 by omega)]
    split <;> omega
theorem goes (f : FileT) (_ : Rng (.cons (.cons (.int .i64) (.cons (.int .i64) (.cons (.int .i64) (.cons (.int .i64) (.cons (.int .i64) (.cons (.int .i64) .nil)))))) (.cons (.sl (.sl (.cons (.cons .bool (.cons .bool (.cons .bool (.cons (.int .i64) (.cons (.sl (.cons (.sl (.cons (.int .i64) (.cons (.int .i64) (.cons (.sl (.int .i64)) .nil)))) .nil)) .nil))))) (.cons (.int .i64) (.cons (.int .i64) .nil))))) .nil)) f) (K : Bool → Prop) (h : K true) : L28_AccountGoes f K := by
  have hk := awake_spec K h
  rw [L28_AccountGoes_def]
  refine few_spec f _ ?_
  rw [br_not]
  refine br_of (fun hw => ?_) (fun _ => ?_)
  · have hf := few_of hw
    refine rafit_spec f hf _ ?_
    unfold L28_AccountGoes_j2
    rw [br_not]
    refine br_of (fun hb => ?_) (fun _ => hk)
    exact goes_j3 f hf hb K h
  · unfold L28_AccountGoes_j2
    rw [br_true]; exact hk

end
end Go.Eng.A
