import Derived.Test.YtjfnkbbcnllfiaaEngV
import Derived.Test.YtjfnkbbcnllfiaaEngU
import Derived.Test.YtjfnkbbcnllfiaaTransientStillP
namespace Go.Eng.A
open Go Go.Eng
noncomputable section
theorem drop_cons {α : Type} (d : α) {l : List α} {i : Nat} (h : i < l.length) : l.drop i = l.getD i d :: l.drop (i + 1) := by
  rw [List.drop_eq_getElem_cons h]; simp [List.getD, List.getElem?_eq_getElem h]

def inR (x : Int) : Bool := decide (-32768 ≤ x ∧ x ≤ 32767)
theorem sat_eq (x : Int) : (imin (imax x (-32768)) 32767 = x) ↔ inR x = true := by
  unfold imin imax inR
  rw [decide_eq_true_eq]
  split <;> split <;> omega

theorem right_l2 (s2 v2 : List Int) (K0 : Bool → Prop) (K1 : List Int → Prop) (hl : v2.length ≤ 1000000) : ∀ (n i : Nat), i + n = v2.length →
    (if (v2.drop i).all inR = true then K1 s2 else K0 false) → ∃ q, transient_right_l2 q s2 v2 v2.length i K0 K1 := by
  intro n
  induction n with
  | zero =>
    intro i hi h
    refine ⟨1, ?_⟩
    rw [List.drop_eq_nil_of_le (by omega)] at h
    simp only [transient_right_l2, br_dec]
    rw [if_neg (by omega)]
    simpa using h
  | succ n ih =>
    intro i hi h
    rw [drop_cons 0 (by omega), List.all_cons] at h
    by_cases hx : inR (v2.getD i 0) = true
    · obtain ⟨q, hq⟩ := ih (i + 1) (by omega) (by rw [hx, Bool.true_and] at h; exact h)
      refine ⟨q + 1, ?_⟩
      simp only [transient_right_l2, num_Sat, br_dec, br_and, br_not, Int.toNat_natCast, sat_eq, hx, if_true]
      rw [if_pos (by omega), if_pos (by omega), if_pos (by omega), iadd64 (by omega)]
      exact hq
    · refine ⟨1, ?_⟩
      simp only [transient_right_l2, num_Sat, br_dec, br_and, br_not, Int.toNat_natCast, sat_eq, hx]
      rw [if_pos (by omega), if_pos (by omega), if_pos (by omega)]
      rw [Bool.eq_false_iff.2 hx, Bool.false_and] at h; exact h

def rightB (s : List Int) : Bool := s.all inR && decide (s.length = 72)
theorem right_spec (s : List Int) (K0 : Bool → Prop) (hl : s.length ≤ 1000000) (h : K0 (rightB s)) : transient_right s K0 := by
  refine right_l2 s s K0 _ hl s.length 0 (by omega) ?_
  rw [List.drop_zero]
  unfold rightB at h
  split
  · rename_i hs
    rw [hs, Bool.true_and] at h
    have e : decide (((s.length : Nat) : Int) = 72) = decide (s.length = 72) := by apply decide_eq_decide.2; omega
    rw [e]; exact h
  · rename_i hs
    rw [Bool.eq_false_iff.2 hs, Bool.false_and] at h
    exact h

theorem within_l2 (l : List Int) (K0 : Bool → Prop) (K1 : Prop) (hl : l.length ≤ 1000000) : ∀ (n i : Nat), i + n = l.length →
    (if (l.drop i).all inR = true then K1 else K0 false) → ∃ q, R01_Within_l2 q l (-32768) 32767 i K0 K1 := by
  intro n
  induction n with
  | zero =>
    intro i hi h
    refine ⟨1, ?_⟩
    rw [List.drop_eq_nil_of_le (by omega)] at h
    simp only [R01_Within_l2, br_dec]
    rw [if_neg (by omega)]
    simpa using h
  | succ n ih =>
    intro i hi h
    rw [drop_cons 0 (by omega), List.all_cons] at h
    by_cases hx : inR (l.getD i 0) = true
    · obtain ⟨q, hq⟩ := ih (i + 1) (by omega) (by rw [hx, Bool.true_and] at h; exact h)
      refine ⟨q + 1, ?_⟩
      unfold inR at hx
      rw [decide_eq_true_eq] at hx
      simp only [R01_Within_l2, br_dec, br_and, Int.toNat_natCast]
      rw [if_pos (by omega), if_pos (by omega), if_pos (by omega), if_neg (by omega), if_pos (by omega), if_pos (by omega), if_neg (by omega), iadd64 (by omega)]
      exact hq
    · refine ⟨1, ?_⟩
      have h : K0 false := by rw [Bool.eq_false_iff.2 hx, Bool.false_and] at h; exact h
      unfold inR at hx
      rw [decide_eq_true_eq] at hx
      simp only [R01_Within_l2, br_dec, br_and, Int.toNat_natCast]
      rw [if_pos (by omega), if_pos (by omega), if_pos (by omega)]
      split
      · exact h
      · rw [if_pos (by omega), if_pos (by omega), if_pos (by omega)]
        exact h

theorem rright_spec (s : List Int) (K0 : Bool → Prop) (hl : s.length ≤ 1000000) (h : K0 (rightB s)) : R23_Right s K0 := by
  unfold R23_Right
  rw [br_dec]
  unfold rightB at h
  split
  · rename_i h72
    rw [show decide (s.length = 72) = true by rw [decide_eq_true_eq]; omega, Bool.and_true] at h
    refine within_l2 s K0 _ hl s.length 0 (by omega) ?_
    rw [List.drop_zero]
    split
    · rename_i hs; rw [hs] at h; exact h
    · rename_i hs; rw [Bool.eq_false_iff.2 hs] at h; exact h
  · rename_i h72
    rw [show decide (s.length = 72) = false by rw [decide_eq_false_iff_not]; omega, Bool.and_false] at h
    exact h

/-- The squares of a piece, summed up. -/
def sq8 (f : Nat → Int) (b : Nat) : Nat → Int
  | 0 => 0
  | n + 1 => iadd .i64 (sq8 f b n) (imul .i64 (f (4 + 8 * b + n)) (f (4 + 8 * b + n)))
def loudL (f : Nat → Int) : List Int := [sq8 f 0 8, sq8 f 1 8, sq8 f 2 8, sq8 f 3 8, sq8 f 4 8, sq8 f 5 8, sq8 f 6 8, sq8 f 7 8]
def loud (s : List Int) : List Int := loudL fun i => s.getD i 0

set_option maxRecDepth 100000 in
theorem loud_tab (f : Nat → Int) (K : List Int → Prop) : transient_Loud_l5 65 (List.take 64 (List.drop 4 (tab 72 f))) 64 0 (List.replicate 8 0) K = K (loudL f) := by kernel_rfl
theorem loud_ltab (f : Nat → Int) (m : List Int) (K : List Int → Int → Int → List Int → Prop) :
    R23_Loud_l9 9 (tab 72 f) 0 0 0 m K = K (tab 72 f) 0 (sq8 f 0 8) m ∧ R23_Loud_l9 9 (tab 72 f) 1 0 0 m K = K (tab 72 f) 1 (sq8 f 1 8) m ∧
    R23_Loud_l9 9 (tab 72 f) 2 0 0 m K = K (tab 72 f) 2 (sq8 f 2 8) m ∧ R23_Loud_l9 9 (tab 72 f) 3 0 0 m K = K (tab 72 f) 3 (sq8 f 3 8) m ∧
    R23_Loud_l9 9 (tab 72 f) 4 0 0 m K = K (tab 72 f) 4 (sq8 f 4 8) m ∧ R23_Loud_l9 9 (tab 72 f) 5 0 0 m K = K (tab 72 f) 5 (sq8 f 5 8) m ∧
    R23_Loud_l9 9 (tab 72 f) 6 0 0 m K = K (tab 72 f) 6 (sq8 f 6 8) m ∧ R23_Loud_l9 9 (tab 72 f) 7 0 0 m K = K (tab 72 f) 7 (sq8 f 7 8) m :=
  ⟨by kernel_rfl, by kernel_rfl, by kernel_rfl, by kernel_rfl, by kernel_rfl, by kernel_rfl, by kernel_rfl, by kernel_rfl⟩

theorem loud_r5 (f : Nat → Int) (K : List Int → Prop) (h : K (loudL f)) : ∃ q, R23_Loud_l5 q (tab 72 f) 0 [] K := by
  obtain ⟨h0, h1, h2, h3, h4, h5, h6, h7⟩ := loud_ltab f [] fun _ _ _ _ => True
  refine ⟨9, ⟨9, ?_⟩⟩
  rw [(loud_ltab f _ _).1]
  refine ⟨9, ?_⟩
  show R23_Loud_l9 9 (tab 72 f) 1 0 0 _ _
  rw [(loud_ltab f _ _).2.1]
  refine ⟨9, ?_⟩
  show R23_Loud_l9 9 (tab 72 f) 2 0 0 _ _
  rw [(loud_ltab f _ _).2.2.1]
  refine ⟨9, ?_⟩
  show R23_Loud_l9 9 (tab 72 f) 3 0 0 _ _
  rw [(loud_ltab f _ _).2.2.2.1]
  refine ⟨9, ?_⟩
  show R23_Loud_l9 9 (tab 72 f) 4 0 0 _ _
  rw [(loud_ltab f _ _).2.2.2.2.1]
  refine ⟨9, ?_⟩
  show R23_Loud_l9 9 (tab 72 f) 5 0 0 _ _
  rw [(loud_ltab f _ _).2.2.2.2.2.1]
  refine ⟨9, ?_⟩
  show R23_Loud_l9 9 (tab 72 f) 6 0 0 _ _
  rw [(loud_ltab f _ _).2.2.2.2.2.2.1]
  refine ⟨9, ?_⟩
  show R23_Loud_l9 9 (tab 72 f) 7 0 0 _ _
  rw [(loud_ltab f _ _).2.2.2.2.2.2.2]
  exact h

theorem loud_spec (s : List Int) (K0 : Prop) (K1 : List Int → Prop) (hl : s.length ≤ 1000000) (h : if rightB s = true then K1 (loud s) else K0) : transient_Loud s K0 K1 := by
  refine right_spec s _ hl ?_
  rw [br_not, br_if]
  split
  · rename_i hr
    rw [if_pos hr] at h
    have h72 : s.length = 72 := by unfold rightB at hr; simp at hr; exact hr.2
    rw [br_dec, if_pos (by omega)]
    refine ⟨65, ?_⟩
    have e := eq_tab 0 h72
    have e2 : ((List.length (List.take 64 (List.drop 4 s)) : Nat) : Int) = 64 := by simp [h72]
    rw [e2]
    have := loud_tab (fun i => s.getD i 0) K1
    rw [← e] at this
    rw [this]
    exact h
  · rename_i hr
    rw [if_neg hr] at h; exact h
theorem rloud_spec (s : List Int) (K0 : Prop) (K1 : List Int → Prop) (hl : s.length ≤ 1000000) (h : if rightB s = true then K1 (loud s) else K0) : R23_Loud s K0 K1 := by
  refine rright_spec s _ hl ?_
  rw [br_not, br_if]
  split
  · rename_i hr
    rw [if_pos hr] at h
    have h72 : s.length = 72 := by unfold rightB at hr; simp at hr; exact hr.2
    have e := eq_tab 0 h72
    have := loud_r5 (fun i => s.getD i 0) K1 h
    rw [← e] at this
    exact this
  · rename_i hr
    rw [if_neg hr] at h; exact h

/-- The first piece that is much louder than those ahead of it, or 0. -/
def beg (m : List Int) : Nat → Nat → Int → Int
  | 0, _, _ => 0
  | n + 1, i, a => if 0 < i ∧ iadd .i64 (imul .i64 16 a) 4194304 < imul .i64 i (m.getD i 0) then i else beg m n (i + 1) (iadd .i64 a (m.getD i 0))
theorem beg_nonneg (m : List Int) : ∀ (n i : Nat) (a : Int), 0 ≤ beg m n i a
  | 0, _, _ => Int.le_refl _
  | n + 1, i, a => by
    unfold beg
    split
    · omega
    · exact beg_nonneg m n _ _

theorem begins_l3 (m : List Int) (K0 : Int → Prop) (hl : m.length ≤ 1000000) : ∀ (n i : Nat) (a : Int), i + n = m.length → K0 (beg m n i a) → ∃ q, transient_Begins_l3 q 0 a m.length i m K0 := by
  intro n
  induction n with
  | zero =>
    intro i a hi h
    refine ⟨1, ?_⟩
    simp only [transient_Begins_l3, br_dec]
    rw [if_neg (by omega)]
    exact h
  | succ n ih =>
    intro i a hi h
    unfold beg at h
    split at h
    · rename_i hc
      refine ⟨1, ?_⟩
      simp only [transient_Begins_l3, transient_Begins_j6, br_dec, br_and, Int.toNat_natCast]
      rw [if_pos (by omega), if_pos (by omega), if_pos (by omega), if_pos (by omega), if_pos (by omega), if_pos hc.2]
      exact h
    · rename_i hc
      obtain ⟨q, hq⟩ := ih (i + 1) _ (by omega) h
      refine ⟨q + 1, ?_⟩
      simp only [transient_Begins_l3, transient_Begins_j6, br_dec, br_and, Int.toNat_natCast, br_false]
      rw [if_pos (by omega), if_pos (by omega), if_pos (by omega), if_pos (by omega), iadd64 (a := (i : Int)) (by omega)]
      split
      · rw [if_neg (fun h => hc ⟨by omega, h⟩)]
        exact hq
      · exact hq

theorem rbegins_l4 (m : List Int) (K0 : Int → Bool → Prop) (K1 : Prop) (hl : m.length ≤ 1000000) : ∀ (n i : Nat) (a : Int), i + n = m.length →
    (if 0 < beg m n i a then K0 (beg m n i a) true else K1) → ∃ q, R23_Begins_l4 q a i m K0 K1 := by
  intro n
  induction n with
  | zero =>
    intro i a hi h
    refine ⟨1, ?_⟩
    simp only [R23_Begins_l4, br_dec]
    rw [if_neg (by omega)]
    simpa [beg] using h
  | succ n ih =>
    intro i a hi h
    by_cases hc : 0 < i ∧ iadd .i64 (imul .i64 16 a) 4194304 < imul .i64 i (m.getD i 0)
    · have e : beg m (n + 1) i a = i := by unfold beg; rw [if_pos hc]
      rw [e, if_pos (by omega)] at h
      refine ⟨1, ?_⟩
      simp only [R23_Begins_l4, R23_Begins_j7, br_dec, br_and, Int.toNat_natCast]
      rw [if_pos (by omega), if_pos (by omega), if_pos (by omega), if_pos (by omega), if_pos (by omega), if_pos hc.2]
      exact h
    · have e : beg m (n + 1) i a = beg m n (i + 1) (iadd .i64 a (m.getD i 0)) := by rw [beg, if_neg hc]
      rw [e] at h
      obtain ⟨q, hq⟩ := ih (i + 1) _ (by omega) h
      refine ⟨q + 1, ?_⟩
      simp only [R23_Begins_l4, R23_Begins_j7, R23_Begins_j8, br_dec, br_and, Int.toNat_natCast, br_false]
      rw [if_pos (by omega), iadd64 (a := (i : Int)) (by omega)]
      split
      · rw [if_pos (by omega), if_pos (by omega), if_pos (by omega), if_neg (fun h => hc ⟨by omega, h⟩), if_pos (by omega), if_pos (by omega), if_pos (by omega)]
        exact hq
      · rw [if_pos (by omega), if_pos (by omega), if_pos (by omega)]
        exact hq

def begins (s : List Int) : Int := if rightB s = true then beg (loud s) 8 0 0 else 0
theorem begins_spec (s : List Int) (K : Int → Bool → Prop) (hl : s.length ≤ 1000000) (h : K (begins s) (decide (0 < begins s))) : transient_Begins s K := by
  refine loud_spec s _ _ hl ?_
  unfold begins at h
  split
  · rename_i hr
    rw [if_pos hr] at h
    exact begins_l3 (loud s) _ (show (8 : Nat) ≤ _ by decide) 8 0 0 rfl h
  · rename_i hr
    rw [if_neg hr] at h
    exact begins_l3 [] _ (by decide) 0 0 0 rfl h
theorem rbegins_spec (s : List Int) (K : Int → Bool → Prop) (hl : s.length ≤ 1000000) (h : K (begins s) (decide (0 < begins s))) : R23_Begins s K := by
  refine rloud_spec s _ _ hl ?_
  unfold begins at h
  split
  · rename_i hr
    rw [if_pos hr] at h
    refine rbegins_l4 (loud s) _ _ (show (8 : Nat) ≤ _ by decide) 8 0 0 rfl ?_
    have := beg_nonneg (loud s) 8 0 0
    split
    · rename_i h0; rw [decide_eq_true h0] at h; exact h
    · rename_i h0
      rw [decide_eq_false h0, show beg (loud s) 8 0 0 = 0 by omega] at h; exact h
  · rename_i hr
    rw [if_neg hr] at h
    exact rbegins_l4 [] _ _ (by decide) 0 0 0 rfl h

theorem same_l4 (a : List Int) (K0 : Bool → Prop) (K1 : Prop) (hl : a.length ≤ 1000000) (h : K1) : ∀ (n i : Nat), i + n = a.length → ∃ q, R01_Same_l4 q a a i K0 K1 := by
  intro n
  induction n with
  | zero =>
    intro i hi
    refine ⟨1, ?_⟩
    simp only [R01_Same_l4, br_dec]
    rw [if_neg (by omega)]
    exact h
  | succ n ih =>
    intro i hi
    obtain ⟨q, hq⟩ := ih (i + 1) (by omega)
    refine ⟨q + 1, ?_⟩
    simp only [R01_Same_l4, br_dec, br_and, br_not, if_true]
    rw [if_pos (by omega), if_pos (by omega), if_pos (by omega), iadd64 (by omega), if_pos (by omega), if_pos (by omega)]
    exact hq
theorem same_self (a : List Int) (K0 : Bool → Prop) (hl : a.length ≤ 1000000) (h : K0 true) : R01_Same a a K0 := by
  unfold R01_Same
  rw [br_not, br_dec, if_pos rfl]
  exact same_l4 a _ _ hl h a.length 0 (by omega)

set_option maxRecDepth 100000 in
theorem awake_l3 (K : List Int → Prop) : L23_awake_l3 37 36 (List.replicate 72 0) K = K (List.replicate 36 0 ++ List.replicate 36 5000) := by kernel_rfl

theorem awake_spec (K : Bool → Prop) (h : K true) : L23_awake K := by
  refine ⟨37, ?_⟩
  rw [awake_l3]
  have hr : rightB (List.replicate 36 0 ++ List.replicate 36 5000) = true := by decide +kernel
  have hb : begins (List.replicate 36 0 ++ List.replicate 36 5000) = 4 := by decide +kernel
  have hd : (loud (List.replicate 36 0 ++ List.replicate 36 5000)).getD 7 0 = 200000000 := by decide +kernel
  refine begins_spec _ _ (by decide) ?_
  refine loud_spec _ _ _ (by decide) ?_
  rw [if_pos hr, hb]
  have hlen : (loud (List.replicate 36 0 ++ List.replicate 36 5000)).length = 8 := rfl
  simp only [L23_awake_j8, br_dec, hlen, hd]
  rw [if_pos (by decide), if_pos (by decide), if_pos (by decide), if_pos (by decide), if_pos (by decide), if_pos trivial]
  refine loud_spec _ _ _ (by decide) ?_
  rw [if_neg (by decide)]
  exact h
theorem tab_length {α : Type} (n : Nat) (f : Nat → α) : (tab n f).length = n := by simp [tab]
theorem tab_get (n : Nat) (f : Nat → Int) {i : Nat} (h : i < n) : (tab n f).getD i 0 = f i := by
  simp [tab, List.getD, List.getElem?_map, List.getElem?_range h]
theorem tab_set {α : Type} (n : Nat) (f : Nat → α) (i : Nat) (a : α) : (tab n f).set i a = tab n fun j => if j = i then a else f j := by
  apply List.ext_getElem (by simp [tab])
  intro j h1 h2
  simp only [tab, List.length_set, List.length_map, List.length_range] at h1
  simp only [tab, List.getElem_set, List.getElem_map, List.getElem_range]
  by_cases e : i = j
  · rw [if_pos e, if_pos e.symm]
  · rw [if_neg e, if_neg (Ne.symm e)]
theorem tab_snoc {α : Type} (n : Nat) (f : Nat → α) : tab n f ++ [f n] = tab (n + 1) f := by simp [tab, List.range_succ]
theorem tab_congr {α : Type} {n : Nat} {f g : Nat → α} (h : ∀ j, j < n → f j = g j) : tab n f = tab n g := by
  unfold tab
  apply List.map_congr_left
  intro j hj; exact h j (List.mem_range.1 hj)
theorem tab_const {α : Type} (n : Nat) (a : α) : List.replicate n a = tab n fun _ => a := by
  apply List.ext_getElem (by simp [tab])
  intro j h1 h2
  simp [tab]
theorem tab_zero {α : Type} (f : Nat → α) : tab 0 f = [] := rfl

theorem rng16 {n : Int} (h : (Lit.int .i16 n).wf = true) : -32768 ≤ n ∧ n ≤ 32767 := by
  simpa [Lit.wf, IntKind.min, IntKind.max, IntKind.signed, IntKind.bits] using h
theorem rng8 {n : Int} (h : (Lit.int .u8 n).wf = true) : 0 ≤ n ∧ n ≤ 255 := by
  simpa [Lit.wf, IntKind.min, IntKind.max, IntKind.signed, IntKind.bits] using h
theorem wrap64 {n : Int} (h : -9223372036854775808 ≤ n ∧ n ≤ 9223372036854775807) : Go.IntKind.wrap .i64 n = n := Go.IntWalk.i64_in _ h
theorem imax_eq' (a b : Int) : imax a b = max a b := by unfold imax; omega
theorem imin_eq' (a b : Int) : imin a b = min a b := by unfold imin; omega

def sud (x : Int) (p : Nat) (j : Nat) : Int := if j = p then max 2049 x else 0
def lft (s : List Int) (j : Nat) : Int := max (-32767) (s.getD j 0)

theorem still_l5 (x : Int) (k : Int) (p : Nat) (s : List Int) (hx : -32768 ≤ x ∧ x ≤ 32767) (hp : ((p : Nat) : Int) = max 12 (min 67 k)) (hs : s.length = 72) (hr : ∀ j, j < 72 → -32768 ≤ s.getD j 0 ∧ s.getD j 0 ≤ 32767)
    (K0 : List Int → List Int → List Int → List Int → Prop) (h : K0 (tab 72 fun _ => x) (tab 72 (sud x p)) (tab 72 (lft s)) (tab 72 fun j => 0 - lft s j)) :
    ∀ (n i : Nat), i + n = 72 → ∃ q, L23_TransientStill_l5 q x k i s (tab 72 fun j => if j < i then x else 0) (tab 72 fun j => if j < i then sud x p j else 0) (tab i (lft s)) (tab i fun j => 0 - lft s j) K0 := by
  intro n
  induction n with
  | zero =>
    intro i hi
    refine ⟨1, ?_⟩
    have hi : i = 72 := by omega
    subst hi
    simp only [L23_TransientStill_l5, br_dec]
    rw [if_neg (by omega), tab_congr (g := fun _ => x) fun j hj => if_pos hj, tab_congr (g := sud x p) fun j hj => if_pos hj]
    exact h
  | succ n ih =>
    intro i hi
    obtain ⟨q, hq⟩ := ih (i + 1) (by omega)
    refine ⟨q + 1, ?_⟩
    have hsi := hr i (by omega)
    have e0 : iadd .i64 (i : Int) 1 = ((i + 1 : Nat) : Int) := by rw [iadd64 (by omega)]; omega
    have e1 : imax (-32767) (Go.IntKind.wrap .i64 (s.getD i 0)) = lft s i := by rw [imax_eq', wrap64 (by omega)]; rfl
    have e2 : isub .i64 0 (lft s i) = 0 - lft s i := isub64 (by unfold lft; omega)
    have e3 : imax 12 (imin 67 k) = (p : Int) := by rw [imax_eq', imin_eq', hp]
    have e4 : imax 2049 (Go.IntKind.wrap .i64 x) = max 2049 x := by rw [imax_eq', wrap64 (by omega)]
    have m4 : (tab 72 fun j => if j < i then x else 0).set i x = tab 72 fun j => if j < i + 1 then x else 0 := by
      rw [tab_set]
      refine tab_congr fun j hj => ?_
      by_cases e : j = i
      · rw [if_pos e, if_pos (by omega)]
      · rw [if_neg e]
        by_cases h2 : j < i
        · rw [if_pos h2, if_pos (by omega)]
        · rw [if_neg h2, if_neg (by omega)]
    have m5 : i = p → (tab 72 fun j => if j < i then sud x p j else 0).set i (max 2049 x) = tab 72 fun j => if j < i + 1 then sud x p j else 0 := by
      intro hip
      rw [tab_set]
      refine tab_congr fun j hj => ?_
      by_cases e : j = i
      · rw [if_pos e, if_pos (by omega)]; unfold sud; rw [if_pos (by omega)]
      · rw [if_neg e]
        by_cases h2 : j < i
        · rw [if_pos h2, if_pos (by omega)]
        · rw [if_neg h2, if_neg (by omega)]
    have m5' : i ≠ p → (tab 72 fun j => if j < i then sud x p j else 0) = tab 72 fun j => if j < i + 1 then sud x p j else 0 := by
      intro hip
      refine tab_congr fun j hj => ?_
      by_cases h2 : j < i
      · rw [if_pos h2, if_pos (by omega)]
      · rw [if_neg h2]
        by_cases e : j = i
        · rw [if_pos (by omega)]; unfold sud; rw [if_neg (by omega)]
        · rw [if_neg (by omega)]
    have fin : ∀ m, m = (tab 72 fun j => if j < i + 1 then sud x p j else 0) → L23_TransientStill_j10 x k i s (tab 72 fun j => if j < i + 1 then x else 0) m (tab i (lft s)) (tab i fun j => 0 - lft s j)
        (fun x7 k6 i6 m34 m35 m36 m37 m38 => L23_TransientStill_l5 q x7 k6 (iadd .i64 i6 1) m34 m35 m36 m37 m38 K0) := by
      intro m hm
      subst hm
      simp only [L23_TransientStill_j10, br_dec, br_and, Int.toNat_natCast, e1, e2, tab_length, List.length_cons, List.length_nil]
      rw [if_pos (by omega), if_pos (by omega), if_pos (by omega), if_pos (by omega), if_pos (by omega), if_pos (by omega), if_pos (by omega), if_pos (by omega), e0, tab_snoc, tab_snoc i fun j => 0 - lft s j]
      exact hq
    simp only [L23_TransientStill_l5, br_dec, br_and, Int.toNat_natCast, tab_length, wrap64 (n := x) (by omega), m4]
    rw [if_pos (by omega), if_pos (by omega), if_pos (by omega), if_pos (by omega)]
    split
    · by_cases hip : i = p
      · rw [decide_eq_true (by rw [e3]; omega)]
        simp only [L23_TransientStill_j9, br_true, br_and, br_dec, Int.toNat_natCast, tab_length, e4]
        rw [if_pos (by omega), if_pos (by omega), if_pos (by omega)]
        exact fin _ (m5 hip)
      · rw [decide_eq_false (by rw [e3]; omega)]
        simp only [L23_TransientStill_j9, br_false]
        exact fin _ (m5' hip)
    · simp only [L23_TransientStill_j9, br_false]
      exact fin _ (m5' (by omega))

theorem sq_bound {a : Int} (h : -32768 ≤ a ∧ a ≤ 32767) : 0 ≤ a * a ∧ a * a ≤ 1073741824 := by
  have h1 : (a * a).natAbs ≤ 32768 * 32768 := by
    rw [Int.natAbs_mul]
    exact Nat.mul_le_mul (by omega) (by omega)
  have h2 : 0 ≤ a * a := by
    rcases Int.le_total 0 a with h | h
    · exact Int.mul_nonneg h h
    · exact Int.mul_nonneg_of_nonpos_of_nonpos h h
  omega
/-- The squares summed up, without bounds. -/
def sqs (f : Nat → Int) (b : Nat) : Nat → Int
  | 0 => 0
  | n + 1 => sqs f b n + f (4 + 8 * b + n) * f (4 + 8 * b + n)
theorem sq8_sqs (f : Nat → Int) (b : Nat) (hf : ∀ j, -32768 ≤ f j ∧ f j ≤ 32767) : ∀ n, n ≤ 8 → sq8 f b n = sqs f b n ∧ 0 ≤ sqs f b n ∧ sqs f b n ≤ n * 1073741824
  | 0, _ => ⟨rfl, Int.le_refl _, Int.le_refl _⟩
  | n + 1, hn => by
    obtain ⟨h1, h2, h3⟩ := sq8_sqs f b hf n (by omega)
    have h4 := sq_bound (hf (4 + 8 * b + n))
    refine ⟨?_, ?_, ?_⟩
    · simp only [sq8, sqs]
      rw [h1, imul64 (by omega), iadd64 (by omega)]
    · simp only [sqs]; omega
    · simp only [sqs]; omega
theorem loud_get (f : Nat → Int) : ∀ b, b < 8 → (loudL f).getD b 0 = sq8 f b 8 := by
  intro b hb
  match b, hb with
  | 0, _ => rfl
  | 1, _ => rfl
  | 2, _ => rfl
  | 3, _ => rfl
  | 4, _ => rfl
  | 5, _ => rfl
  | 6, _ => rfl
  | 7, _ => rfl
theorem sq8_congr {f g : Nat → Int} (b : Nat) (hb : b < 8) (h : ∀ j, j < 72 → f j * f j = g j * g j) : ∀ n, n ≤ 8 → sq8 f b n = sq8 g b n
  | 0, _ => rfl
  | n + 1, hn => by
    simp only [sq8]
    rw [sq8_congr b hb h n (by omega)]
    unfold imul
    rw [h _ (by omega)]
theorem loudL_congr {f g : Nat → Int} (h : ∀ j, j < 72 → f j * f j = g j * g j) : loudL f = loudL g := by
  unfold loudL
  rw [sq8_congr 0 (by omega) h 8 (by omega), sq8_congr 1 (by omega) h 8 (by omega), sq8_congr 2 (by omega) h 8 (by omega), sq8_congr 3 (by omega) h 8 (by omega),
    sq8_congr 4 (by omega) h 8 (by omega), sq8_congr 5 (by omega) h 8 (by omega), sq8_congr 6 (by omega) h 8 (by omega), sq8_congr 7 (by omega) h 8 (by omega)]
theorem loud_tab' (f : Nat → Int) : loud (tab 72 f) = loudL f := by
  unfold loud
  exact loudL_congr fun j hj => by rw [tab_get 72 f hj]
theorem right_tab (f : Nat → Int) (hf : ∀ j, j < 72 → -32768 ≤ f j ∧ f j ≤ 32767) : rightB (tab 72 f) = true := by
  unfold rightB
  rw [tab_length, decide_eq_true rfl, Bool.and_true, List.all_eq_true]
  intro x hx
  unfold tab at hx
  obtain ⟨j, hj, rfl⟩ := List.mem_map.1 hx
  have := hf j (List.mem_range.1 hj)
  unfold inR
  exact decide_eq_true this

/-- All pieces alike: nothing begins. -/
theorem beg_same (m : List Int) (c : Int) (hc : 0 ≤ c ∧ c ≤ 8589934592) (hm : ∀ b, b < 8 → m.getD b 0 = c) : ∀ (n i : Nat), i + n = 8 → beg m n i (i * c) = 0
  | 0, _, _ => rfl
  | n + 1, i, hi => by
    unfold beg
    have h1 := hm i (by omega)
    have hic : 0 ≤ (i : Int) * c := Int.mul_nonneg (by omega) hc.1
    have hic2 : (i : Int) * c ≤ 8 * 8589934592 := Int.mul_le_mul (by omega) hc.2 hc.1 (by omega)
    rw [h1, imul64 (by omega), imul64 (by omega), iadd64 (by omega), if_neg (by omega), iadd64 (by omega)]
    have := beg_same m c hc hm n (i + 1) (by omega)
    rw [show (((i + 1 : Nat) : Int)) * c = i * c + c by rw [Int.natCast_add, Int.add_mul]; omega] at this
    exact this
/-- Silence, and then something. -/
theorem beg_first (m : List Int) (q : Nat) (hq : 1 ≤ q ∧ q < 8) (h0 : ∀ b, b < q → m.getD b 0 = 0) (h1 : 4194304 < m.getD q 0 ∧ m.getD q 0 ≤ 8589934592) : ∀ (d n i : Nat), i + n = 8 → i + d = q → beg m n i 0 = q
  | 0, 0, i, hi, hd => by omega
  | 0, n + 1, i, hi, hd => by
    have : i = q := by omega
    subst this
    unfold beg
    have hic : (m.getD i 0) ≤ (i : Int) * m.getD i 0 := by
      have := Int.mul_le_mul_of_nonneg_right (show (1 : Int) ≤ i by omega) (show 0 ≤ m.getD i 0 by omega)
      omega
    have hic2 : (i : Int) * m.getD i 0 ≤ 8 * 8589934592 := Int.mul_le_mul (by omega) h1.2 (by omega) (by omega)
    rw [imul64 (by omega), imul64 (by omega), iadd64 (by omega), if_pos (by omega)]
  | d + 1, 0, i, hi, hd => by omega
  | d + 1, n + 1, i, hi, hd => by
    unfold beg
    rw [h0 i (by omega), imul64 (by omega), imul64 (by omega), iadd64 (by omega), if_neg (by omega), iadd64 (by omega)]
    exact beg_first m q hq h0 h1 d n (i + 1) (by omega) (by omega)

theorem sud_sqs (x : Int) (p b : Nat) : ∀ n, sqs (sud x p) b n = if 4 + 8 * b ≤ p ∧ p < 4 + 8 * b + n then max 2049 x * max 2049 x else 0
  | 0 => by rw [if_neg (by omega)]; rfl
  | n + 1 => by
    simp only [sqs]
    rw [sud_sqs x p b n]
    by_cases e : 4 + 8 * b + n = p
    · rw [if_neg (by omega), if_pos (by omega)]; unfold sud; rw [if_pos e]; omega
    · have : sud x p (4 + 8 * b + n) = 0 := by unfold sud; rw [if_neg e]
      rw [this]
      by_cases h : 4 + 8 * b ≤ p ∧ p < 4 + 8 * b + n
      · rw [if_pos h, if_pos (by omega)]; omega
      · rw [if_neg h, if_neg (by omega)]; rfl

theorem still (x a : Int) (s : List Int) (hx : Rng (.int .i16) x) (ha : Rng (.int .u8) a) (hs : Rng (.arr 72 (.int .i16)) s) (K : Bool → Prop) (h : K true) : L23_TransientStill x a s K := by
  have haw := awake_spec K h
  have hx := rng16 hx
  have ha := rng8 ha
  obtain ⟨hsl, hsr⟩ := hs
  have hsr : ∀ j, j < 72 → -32768 ≤ s.getD j 0 ∧ s.getD j 0 ≤ 32767 := fun j hj => by
    have hj' : j < s.length := by omega
    refine rng16 (hsr _ ?_)
    simp [List.getD, List.getElem?_eq_getElem hj']
  unfold L23_TransientStill
  have ek : iadd .i64 8 (irem .i64 (Go.IntKind.wrap .i64 a) 64) = 8 + a % 64 := by
    rw [wrap64 (by omega)]
    show iadd .i64 8 (a.tmod 64) = _
    rw [Int.tmod_eq_emod_of_nonneg (by omega), iadd64 (by omega)]
  rw [ek]
  obtain ⟨p, hp⟩ : ∃ p : Nat, (p : Int) = max 12 (min 67 (8 + a % 64)) := ⟨(max 12 (min 67 (8 + a % 64))).toNat, by omega⟩
  have hl : ∀ j, j < 72 → -32767 ≤ lft s j ∧ lft s j ≤ 32767 := fun j hj => by have := hsr j hj; unfold lft; omega
  have hsud : ∀ j, -32768 ≤ sud x p j ∧ sud x p j ≤ 32767 := fun j => by unfold sud; split <;> omega
  -- what does not change
  have b1 : begins (tab 72 fun _ => x) = 0 := by
    unfold begins
    rw [if_pos (right_tab _ fun _ _ => hx), loud_tab']
    have hc := sq8_sqs (fun _ => x) 0 (fun _ => hx) 8 (by omega)
    have := beg_same (loudL fun _ => x) (sq8 (fun _ => x) 0 8) (by rw [hc.1]; omega) (fun b hb => by
      rw [loud_get _ b hb]
      have : ∀ n, sq8 (fun _ => x) b n = sq8 (fun _ => x) 0 n := fun n => by
        induction n with
        | zero => rfl
        | succ n ih => simp only [sq8, ih]
      exact this 8) 8 0 (by omega)
    rw [show ((0 : Nat) : Int) * sq8 (fun _ => x) 0 8 = 0 by simp] at this
    exact this
  -- what begins
  have b2 : 0 < begins (tab 72 (sud x p)) := by
    unfold begins
    rw [if_pos (right_tab _ fun j _ => hsud j), loud_tab']
    obtain ⟨q, hq⟩ : ∃ q, q = (p - 4) / 8 := ⟨_, rfl⟩
    have hq1 : 1 ≤ q ∧ q < 8 := by omega
    have hv : 4198401 ≤ max 2049 x * max 2049 x := by
      have := Int.mul_le_mul (show (2049 : Int) ≤ max 2049 x by omega) (show (2049 : Int) ≤ max 2049 x by omega) (by omega) (show (0 : Int) ≤ max 2049 x by omega)
      omega
    have hv2 := sq_bound (a := max 2049 x) (by omega)
    have := beg_first (loudL (sud x p)) q hq1 (fun b hb => by
      rw [loud_get _ b (by omega), (sq8_sqs _ b hsud 8 (by omega)).1, sud_sqs, if_neg (by omega)]) (by
      rw [loud_get _ q (by omega), (sq8_sqs _ q hsud 8 (by omega)).1, sud_sqs, if_pos (by omega)]; omega) q 8 0 (by omega) (by omega)
    rw [this]; omega
  -- the opposite
  have b3 : begins (tab 72 (lft s)) = begins (tab 72 fun j => 0 - lft s j) := by
    unfold begins
    rw [if_pos (right_tab _ fun j hj => by have := hl j hj; omega), if_pos (right_tab _ fun j hj => by have := hl j hj; omega), loud_tab', loud_tab']
    rw [loudL_congr (g := fun j => 0 - lft s j) fun j _ => by simp only [Int.zero_sub, Int.neg_mul_neg]]
  have hloop := still_l5 x (8 + a % 64) p s hx hp hsl hsr
    (fun (m44 : (List Int)) (m45 : (List Int)) (m46 : (List Int)) (m47 : (List Int)) => transient_Begins m44 fun r1 r2 => transient_Begins m45 fun r3 r4 => transient_Begins m46 fun r5 r6 => transient_Begins m47 fun r7 r8 =>
      Br (!r2) (Br r4 (Br (decide (r5 = r7)) (Br (r6 == r8) (L23_awake K) (K false)) (K false)) (K false)) (K false)) (by
      refine begins_spec _ _ (by rw [tab_length]; decide) (begins_spec _ _ (by rw [tab_length]; decide) (begins_spec _ _ (by rw [tab_length]; decide) (begins_spec _ _ (by rw [tab_length]; decide) ?_)))
      rw [b1, b3, decide_eq_true b2]
      simp only [br_not, br_true, br_dec, if_true, beq_self_eq_true]
      rw [if_neg (by omega)]
      exact haw) 72 0 (by omega)
  have z1 : (tab 72 fun j => if j < 0 then x else 0) = List.replicate 72 0 := by rw [tab_const]; exact tab_congr fun j hj => if_neg (by omega)
  have z2 : (tab 72 fun j => if j < 0 then sud x p j else 0) = List.replicate 72 0 := by rw [tab_const]; exact tab_congr fun j hj => if_neg (by omega)
  rw [z1, z2, tab_zero, tab_zero] at hloop
  exact hloop

end
end Go.Eng.A
