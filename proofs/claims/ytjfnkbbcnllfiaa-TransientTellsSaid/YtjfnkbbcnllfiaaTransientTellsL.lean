import Derived.Test.YtjfnkbbcnllfiaaEngV
import Derived.Test.YtjfnkbbcnllfiaaEngU
import Derived.Test.YtjfnkbbcnllfiaaTransientTellsP
namespace Go.Eng.A
open Go Go.Eng
noncomputable section

theorem drop_cons {α : Type} (d : α) {l : List α} {i : Nat} (h : i < l.length) : l.drop i = l.getD i d :: l.drop (i + 1) := by
  rw [List.drop_eq_getElem_cons h]; simp [List.getD, List.getElem?_eq_getElem h]

def inR (x : Int) : Bool := decide (-32768 ≤ x ∧ x ≤ 32767)
theorem sat_eq (x : Int) : (imin (imax x (-32768)) 32767 = x) ↔ inR x = true := by
  unfold imin imax inR
  rw [decide_eq_true_eq]
  split <;> split <;> omega

theorem right_l2 (s2 v2 : List Int) (K0 : Bool → Prop) (K1 : List Int → Prop) (hl : v2.length ≤ 1000000) : ∀ (n i : Nat), i + n = v2.length →
    (if (v2.drop i).all inR = true then K1 s2 else K0 false) → ∃ q, transient_right_l2 q s2 v2 v2.length i K0 K1 := by
  intro n
  induction n with
  | zero =>
    intro i hi h
    refine ⟨1, ?_⟩
    rw [List.drop_eq_nil_of_le (by omega)] at h
    simp only [transient_right_l2, br_dec]
    rw [if_neg (by omega)]
    simpa using h
  | succ n ih =>
    intro i hi h
    rw [drop_cons 0 (by omega), List.all_cons] at h
    by_cases hx : inR (v2.getD i 0) = true
    · obtain ⟨q, hq⟩ := ih (i + 1) (by omega) (by rw [hx, Bool.true_and] at h; exact h)
      refine ⟨q + 1, ?_⟩
      simp only [transient_right_l2, num_Sat, br_dec, br_and, br_not, Int.toNat_natCast, sat_eq, hx, if_true]
      rw [if_pos (by omega), if_pos (by omega), if_pos (by omega), iadd64 (by omega)]
      exact hq
    · refine ⟨1, ?_⟩
      simp only [transient_right_l2, num_Sat, br_dec, br_and, br_not, Int.toNat_natCast, sat_eq, hx]
      rw [if_pos (by omega), if_pos (by omega), if_pos (by omega)]
      rw [Bool.eq_false_iff.2 hx, Bool.false_and] at h; exact h

def rightB (s : List Int) : Bool := s.all inR && decide (s.length = 72)
theorem right_spec (s : List Int) (K0 : Bool → Prop) (hl : s.length ≤ 1000000) (h : K0 (rightB s)) : transient_right s K0 := by
  refine right_l2 s s K0 _ hl s.length 0 (by omega) ?_
  rw [List.drop_zero]
  unfold rightB at h
  split
  · rename_i hs
    rw [hs, Bool.true_and] at h
    have e : decide (((s.length : Nat) : Int) = 72) = decide (s.length = 72) := by apply decide_eq_decide.2; omega
    rw [e]; exact h
  · rename_i hs
    rw [Bool.eq_false_iff.2 hs, Bool.false_and] at h
    exact h

theorem within_l2 (l : List Int) (K0 : Bool → Prop) (K1 : Prop) (hl : l.length ≤ 1000000) : ∀ (n i : Nat), i + n = l.length →
    (if (l.drop i).all inR = true then K1 else K0 false) → ∃ q, R01_Within_l2 q l (-32768) 32767 i K0 K1 := by
  intro n
  induction n with
  | zero =>
    intro i hi h
    refine ⟨1, ?_⟩
    rw [List.drop_eq_nil_of_le (by omega)] at h
    simp only [R01_Within_l2, br_dec]
    rw [if_neg (by omega)]
    simpa using h
  | succ n ih =>
    intro i hi h
    rw [drop_cons 0 (by omega), List.all_cons] at h
    by_cases hx : inR (l.getD i 0) = true
    · obtain ⟨q, hq⟩ := ih (i + 1) (by omega) (by rw [hx, Bool.true_and] at h; exact h)
      refine ⟨q + 1, ?_⟩
      unfold inR at hx
      rw [decide_eq_true_eq] at hx
      simp only [R01_Within_l2, br_dec, br_and, Int.toNat_natCast]
      rw [if_pos (by omega), if_pos (by omega), if_pos (by omega), if_neg (by omega), if_pos (by omega), if_pos (by omega), if_neg (by omega), iadd64 (by omega)]
      exact hq
    · refine ⟨1, ?_⟩
      have h : K0 false := by rw [Bool.eq_false_iff.2 hx, Bool.false_and] at h; exact h
      unfold inR at hx
      rw [decide_eq_true_eq] at hx
      simp only [R01_Within_l2, br_dec, br_and, Int.toNat_natCast]
      rw [if_pos (by omega), if_pos (by omega), if_pos (by omega)]
      split
      · exact h
      · rw [if_pos (by omega), if_pos (by omega), if_pos (by omega)]
        exact h

theorem rright_spec (s : List Int) (K0 : Bool → Prop) (hl : s.length ≤ 1000000) (h : K0 (rightB s)) : R23_Right s K0 := by
  unfold R23_Right
  rw [br_dec]
  unfold rightB at h
  split
  · rename_i h72
    rw [show decide (s.length = 72) = true by rw [decide_eq_true_eq]; omega, Bool.and_true] at h
    refine within_l2 s K0 _ hl s.length 0 (by omega) ?_
    rw [List.drop_zero]
    split
    · rename_i hs; rw [hs] at h; exact h
    · rename_i hs; rw [Bool.eq_false_iff.2 hs] at h; exact h
  · rename_i h72
    rw [show decide (s.length = 72) = false by rw [decide_eq_false_iff_not]; omega, Bool.and_false] at h
    exact h

/-- The squares of a piece, summed up. -/
def sq8 (f : Nat → Int) (b : Nat) : Nat → Int
  | 0 => 0
  | n + 1 => iadd .i64 (sq8 f b n) (imul .i64 (f (4 + 8 * b + n)) (f (4 + 8 * b + n)))
def loudL (f : Nat → Int) : List Int := [sq8 f 0 8, sq8 f 1 8, sq8 f 2 8, sq8 f 3 8, sq8 f 4 8, sq8 f 5 8, sq8 f 6 8, sq8 f 7 8]
def loud (s : List Int) : List Int := loudL fun i => s.getD i 0

set_option maxRecDepth 100000 in
theorem loud_tab (f : Nat → Int) (K : List Int → Prop) : transient_Loud_l5 65 (List.take 64 (List.drop 4 (tab 72 f))) 64 0 (List.replicate 8 0) K = K (loudL f) := by kernel_rfl
theorem loud_ltab (f : Nat → Int) (m : List Int) (K : List Int → Int → Int → List Int → Prop) :
    R23_Loud_l9 9 (tab 72 f) 0 0 0 m K = K (tab 72 f) 0 (sq8 f 0 8) m ∧ R23_Loud_l9 9 (tab 72 f) 1 0 0 m K = K (tab 72 f) 1 (sq8 f 1 8) m ∧
    R23_Loud_l9 9 (tab 72 f) 2 0 0 m K = K (tab 72 f) 2 (sq8 f 2 8) m ∧ R23_Loud_l9 9 (tab 72 f) 3 0 0 m K = K (tab 72 f) 3 (sq8 f 3 8) m ∧
    R23_Loud_l9 9 (tab 72 f) 4 0 0 m K = K (tab 72 f) 4 (sq8 f 4 8) m ∧ R23_Loud_l9 9 (tab 72 f) 5 0 0 m K = K (tab 72 f) 5 (sq8 f 5 8) m ∧
    R23_Loud_l9 9 (tab 72 f) 6 0 0 m K = K (tab 72 f) 6 (sq8 f 6 8) m ∧ R23_Loud_l9 9 (tab 72 f) 7 0 0 m K = K (tab 72 f) 7 (sq8 f 7 8) m :=
  ⟨by kernel_rfl, by kernel_rfl, by kernel_rfl, by kernel_rfl, by kernel_rfl, by kernel_rfl, by kernel_rfl, by kernel_rfl⟩

theorem loud_r5 (f : Nat → Int) (K : List Int → Prop) (h : K (loudL f)) : ∃ q, R23_Loud_l5 q (tab 72 f) 0 [] K := by
  obtain ⟨h0, h1, h2, h3, h4, h5, h6, h7⟩ := loud_ltab f [] fun _ _ _ _ => True
  refine ⟨9, ⟨9, ?_⟩⟩
  rw [(loud_ltab f _ _).1]
  refine ⟨9, ?_⟩
  show R23_Loud_l9 9 (tab 72 f) 1 0 0 _ _
  rw [(loud_ltab f _ _).2.1]
  refine ⟨9, ?_⟩
  show R23_Loud_l9 9 (tab 72 f) 2 0 0 _ _
  rw [(loud_ltab f _ _).2.2.1]
  refine ⟨9, ?_⟩
  show R23_Loud_l9 9 (tab 72 f) 3 0 0 _ _
  rw [(loud_ltab f _ _).2.2.2.1]
  refine ⟨9, ?_⟩
  show R23_Loud_l9 9 (tab 72 f) 4 0 0 _ _
  rw [(loud_ltab f _ _).2.2.2.2.1]
  refine ⟨9, ?_⟩
  show R23_Loud_l9 9 (tab 72 f) 5 0 0 _ _
  rw [(loud_ltab f _ _).2.2.2.2.2.1]
  refine ⟨9, ?_⟩
  show R23_Loud_l9 9 (tab 72 f) 6 0 0 _ _
  rw [(loud_ltab f _ _).2.2.2.2.2.2.1]
  refine ⟨9, ?_⟩
  show R23_Loud_l9 9 (tab 72 f) 7 0 0 _ _
  rw [(loud_ltab f _ _).2.2.2.2.2.2.2]
  exact h

theorem loud_spec (s : List Int) (K0 : Prop) (K1 : List Int → Prop) (hl : s.length ≤ 1000000) (h : if rightB s = true then K1 (loud s) else K0) : transient_Loud s K0 K1 := by
  refine right_spec s _ hl ?_
  rw [br_not, br_if]
  split
  · rename_i hr
    rw [if_pos hr] at h
    have h72 : s.length = 72 := by unfold rightB at hr; simp at hr; exact hr.2
    rw [br_dec, if_pos (by omega)]
    refine ⟨65, ?_⟩
    have e := eq_tab 0 h72
    have e2 : ((List.length (List.take 64 (List.drop 4 s)) : Nat) : Int) = 64 := by simp [h72]
    rw [e2]
    have := loud_tab (fun i => s.getD i 0) K1
    rw [← e] at this
    rw [this]
    exact h
  · rename_i hr
    rw [if_neg hr] at h; exact h
theorem rloud_spec (s : List Int) (K0 : Prop) (K1 : List Int → Prop) (hl : s.length ≤ 1000000) (h : if rightB s = true then K1 (loud s) else K0) : R23_Loud s K0 K1 := by
  refine rright_spec s _ hl ?_
  rw [br_not, br_if]
  split
  · rename_i hr
    rw [if_pos hr] at h
    have h72 : s.length = 72 := by unfold rightB at hr; simp at hr; exact hr.2
    have e := eq_tab 0 h72
    have := loud_r5 (fun i => s.getD i 0) K1 h
    rw [← e] at this
    exact this
  · rename_i hr
    rw [if_neg hr] at h; exact h

/-- The first piece that is much louder than those ahead of it, or 0. -/
def beg (m : List Int) : Nat → Nat → Int → Int
  | 0, _, _ => 0
  | n + 1, i, a => if 0 < i ∧ iadd .i64 (imul .i64 16 a) 4194304 < imul .i64 i (m.getD i 0) then i else beg m n (i + 1) (iadd .i64 a (m.getD i 0))
theorem beg_nonneg (m : List Int) : ∀ (n i : Nat) (a : Int), 0 ≤ beg m n i a
  | 0, _, _ => Int.le_refl _
  | n + 1, i, a => by
    unfold beg
    split
    · omega
    · exact beg_nonneg m n _ _

theorem begins_l3 (m : List Int) (K0 : Int → Prop) (hl : m.length ≤ 1000000) : ∀ (n i : Nat) (a : Int), i + n = m.length → K0 (beg m n i a) → ∃ q, transient_Begins_l3 q 0 a m.length i m K0 := by
  intro n
  induction n with
  | zero =>
    intro i a hi h
    refine ⟨1, ?_⟩
    simp only [transient_Begins_l3, br_dec]
    rw [if_neg (by omega)]
    exact h
  | succ n ih =>
    intro i a hi h
    unfold beg at h
    split at h
    · rename_i hc
      refine ⟨1, ?_⟩
      simp only [transient_Begins_l3, transient_Begins_j6, br_dec, br_and, Int.toNat_natCast]
      rw [if_pos (by omega), if_pos (by omega), if_pos (by omega), if_pos (by omega), if_pos (by omega), if_pos hc.2]
      exact h
    · rename_i hc
      obtain ⟨q, hq⟩ := ih (i + 1) _ (by omega) h
      refine ⟨q + 1, ?_⟩
      simp only [transient_Begins_l3, transient_Begins_j6, br_dec, br_and, Int.toNat_natCast, br_false]
      rw [if_pos (by omega), if_pos (by omega), if_pos (by omega), if_pos (by omega), iadd64 (a := (i : Int)) (by omega)]
      split
      · rw [if_neg (fun h => hc ⟨by omega, h⟩)]
        exact hq
      · exact hq

theorem rbegins_l4 (m : List Int) (K0 : Int → Bool → Prop) (K1 : Prop) (hl : m.length ≤ 1000000) : ∀ (n i : Nat) (a : Int), i + n = m.length →
    (if 0 < beg m n i a then K0 (beg m n i a) true else K1) → ∃ q, R23_Begins_l4 q a i m K0 K1 := by
  intro n
  induction n with
  | zero =>
    intro i a hi h
    refine ⟨1, ?_⟩
    simp only [R23_Begins_l4, br_dec]
    rw [if_neg (by omega)]
    simpa [beg] using h
  | succ n ih =>
    intro i a hi h
    by_cases hc : 0 < i ∧ iadd .i64 (imul .i64 16 a) 4194304 < imul .i64 i (m.getD i 0)
    · have e : beg m (n + 1) i a = i := by unfold beg; rw [if_pos hc]
      rw [e, if_pos (by omega)] at h
      refine ⟨1, ?_⟩
      simp only [R23_Begins_l4, R23_Begins_j7, br_dec, br_and, Int.toNat_natCast]
      rw [if_pos (by omega), if_pos (by omega), if_pos (by omega), if_pos (by omega), if_pos (by omega), if_pos hc.2]
      exact h
    · have e : beg m (n + 1) i a = beg m n (i + 1) (iadd .i64 a (m.getD i 0)) := by rw [beg, if_neg hc]
      rw [e] at h
      obtain ⟨q, hq⟩ := ih (i + 1) _ (by omega) h
      refine ⟨q + 1, ?_⟩
      simp only [R23_Begins_l4, R23_Begins_j7, R23_Begins_j8, br_dec, br_and, Int.toNat_natCast, br_false]
      rw [if_pos (by omega), iadd64 (a := (i : Int)) (by omega)]
      split
      · rw [if_pos (by omega), if_pos (by omega), if_pos (by omega), if_neg (fun h => hc ⟨by omega, h⟩), if_pos (by omega), if_pos (by omega), if_pos (by omega)]
        exact hq
      · rw [if_pos (by omega), if_pos (by omega), if_pos (by omega)]
        exact hq

def begins (s : List Int) : Int := if rightB s = true then beg (loud s) 8 0 0 else 0
theorem begins_spec (s : List Int) (K : Int → Bool → Prop) (hl : s.length ≤ 1000000) (h : K (begins s) (decide (0 < begins s))) : transient_Begins s K := by
  refine loud_spec s _ _ hl ?_
  unfold begins at h
  split
  · rename_i hr
    rw [if_pos hr] at h
    exact begins_l3 (loud s) _ (show (8 : Nat) ≤ _ by decide) 8 0 0 rfl h
  · rename_i hr
    rw [if_neg hr] at h
    exact begins_l3 [] _ (by decide) 0 0 0 rfl h
theorem rbegins_spec (s : List Int) (K : Int → Bool → Prop) (hl : s.length ≤ 1000000) (h : K (begins s) (decide (0 < begins s))) : R23_Begins s K := by
  refine rloud_spec s _ _ hl ?_
  unfold begins at h
  split
  · rename_i hr
    rw [if_pos hr] at h
    refine rbegins_l4 (loud s) _ _ (show (8 : Nat) ≤ _ by decide) 8 0 0 rfl ?_
    have := beg_nonneg (loud s) 8 0 0
    split
    · rename_i h0; rw [decide_eq_true h0] at h; exact h
    · rename_i h0
      rw [decide_eq_false h0, show beg (loud s) 8 0 0 = 0 by omega] at h; exact h
  · rename_i hr
    rw [if_neg hr] at h
    exact rbegins_l4 [] _ _ (by decide) 0 0 0 rfl h

theorem same_l4 (a : List Int) (K0 : Bool → Prop) (K1 : Prop) (hl : a.length ≤ 1000000) (h : K1) : ∀ (n i : Nat), i + n = a.length → ∃ q, R01_Same_l4 q a a i K0 K1 := by
  intro n
  induction n with
  | zero =>
    intro i hi
    refine ⟨1, ?_⟩
    simp only [R01_Same_l4, br_dec]
    rw [if_neg (by omega)]
    exact h
  | succ n ih =>
    intro i hi
    obtain ⟨q, hq⟩ := ih (i + 1) (by omega)
    refine ⟨q + 1, ?_⟩
    simp only [R01_Same_l4, br_dec, br_and, br_not, if_true]
    rw [if_pos (by omega), if_pos (by omega), if_pos (by omega), iadd64 (by omega), if_pos (by omega), if_pos (by omega)]
    exact hq
theorem same_self (a : List Int) (K0 : Bool → Prop) (hl : a.length ≤ 1000000) (h : K0 true) : R01_Same a a K0 := by
  unfold R01_Same
  rw [br_not, br_dec, if_pos rfl]
  exact same_l4 a _ _ hl h a.length 0 (by omega)

set_option maxRecDepth 100000 in
theorem awake_l3 (K : List Int → Prop) : L23_awake_l3 37 36 (List.replicate 72 0) K = K (List.replicate 36 0 ++ List.replicate 36 5000) := by kernel_rfl

theorem awake_spec (K : Bool → Prop) (h : K true) : L23_awake K := by
  refine ⟨37, ?_⟩
  rw [awake_l3]
  have hr : rightB (List.replicate 36 0 ++ List.replicate 36 5000) = true := by decide +kernel
  have hb : begins (List.replicate 36 0 ++ List.replicate 36 5000) = 4 := by decide +kernel
  have hd : (loud (List.replicate 36 0 ++ List.replicate 36 5000)).getD 7 0 = 200000000 := by decide +kernel
  refine begins_spec _ _ (by decide) ?_
  refine loud_spec _ _ _ (by decide) ?_
  rw [if_pos hr, hb]
  have hlen : (loud (List.replicate 36 0 ++ List.replicate 36 5000)).length = 8 := rfl
  simp only [L23_awake_j8, br_dec, hlen, hd]
  rw [if_pos (by decide), if_pos (by decide), if_pos (by decide), if_pos (by decide), if_pos (by decide), if_pos trivial]
  refine loud_spec _ _ _ (by decide) ?_
  rw [if_neg (by decide)]
  exact h

theorem tells (s : List Int) (_ : Rng (.sl (.int .i64)) s) (K : Bool → Prop) (h : K true) : L23_TransientTells s K := by
  have ha := awake_spec K h
  unfold L23_TransientTells
  rw [br_dec]
  split
  · exact ha
  have hl : s.length ≤ 1000000 := by omega
  refine begins_spec s _ hl (rbegins_spec s _ hl (loud_spec s _ _ hl ?_))
  split
  · rename_i hr
    refine rloud_spec s _ _ hl ?_
    rw [if_pos hr]
    refine same_self _ _ (by show (8 : Nat) ≤ _; decide) ?_
    simp only [br_true, br_dec, if_true, beq_self_eq_true]
    exact ha
  · rename_i hr
    refine rloud_spec s _ _ hl ?_
    rw [if_neg hr]
    refine same_self _ _ (by decide) ?_
    simp only [br_true, br_dec, if_true, beq_self_eq_true]
    exact ha

end
end Go.Eng.A
