import Derived.Test.YtjfnkbbcnllfiabEngV
import Derived.Test.YtjfnkbbcnllfiabEngU
import Derived.Test.YtjfnkbbcnllfiabEnergyBackP
set_option linter.unusedSimpArgs false
set_option linter.unusedVariables false
set_option maxHeartbeats 2000000
namespace Go.Eng.A
open Go Go.Eng
noncomputable section
theorem drop_cons {α : Type} (d : α) {l : List α} {i : Nat} (h : i < l.length) : l.drop i = l.getD i d :: l.drop (i + 1) := by
  rw [List.drop_eq_getElem_cons h]; simp [List.getD, List.getElem?_eq_getElem h]
theorem getD_of_drop {l : List Int} {i : Nat} {x : Int} {r : List Int} (h : l.drop i = x :: r) : l.getD i 0 = x ∧ i < l.length ∧ l.drop (i + 1) = r := by
  have hi : i < l.length := by
    apply Classical.byContradiction
    intro hn
    rw [List.drop_eq_nil_of_le (by omega)] at h
    cases h
  rw [drop_cons 0 hi] at h
  injection h with h1 h2
  exact ⟨h1, hi, h2⟩
theorem tab_length {α : Type} (n : Nat) (f : Nat → α) : (tab n f).length = n := by simp [tab]
theorem tab_get {α : Type} (n : Nat) (f : Nat → α) (d : α) {i : Nat} (h : i < n) : (tab n f).getD i d = f i := by
  simp [tab, List.getD, List.getElem?_map, List.getElem?_range h]
theorem tab_set {α : Type} (n : Nat) (f : Nat → α) (i : Nat) (a : α) : (tab n f).set i a = tab n fun j => if j = i then a else f j := by
  apply List.ext_getElem (by simp [tab])
  intro j h1 h2
  simp only [tab, List.length_set, List.length_map, List.length_range] at h1
  simp only [tab, List.getElem_set, List.getElem_map, List.getElem_range]
  by_cases e : i = j
  · rw [if_pos e, if_pos e.symm]
  · rw [if_neg e, if_neg (Ne.symm e)]
theorem tab_snoc {α : Type} (n : Nat) (f : Nat → α) : tab n f ++ [f n] = tab (n + 1) f := by simp [tab, List.range_succ]
theorem tab_congr {α : Type} {n : Nat} {f g : Nat → α} (h : ∀ j, j < n → f j = g j) : tab n f = tab n g := by
  unfold tab
  apply List.map_congr_left
  intro j hj; exact h j (List.mem_range.1 hj)
theorem tab_const {α : Type} (n : Nat) (a : α) : List.replicate n a = tab n fun _ => a := by
  apply List.ext_getElem (by simp [tab])
  intro j h1 h2
  simp [tab]
theorem tab_zero {α : Type} (f : Nat → α) : tab 0 f = [] := rfl
/-- A list that is filled place by place. -/
def fillT {α : Type} (n i : Nat) (d : α) (f : Nat → α) : List α := tab n fun j => if j < i then f j else d
theorem fillT_length {α : Type} (n i : Nat) (d : α) (f : Nat → α) : (fillT n i d f).length = n := tab_length _ _
theorem fillT_zero {α : Type} (n : Nat) (d : α) (f : Nat → α) : fillT n 0 d f = List.replicate n d := by
  rw [tab_const]; exact tab_congr fun j _ => if_neg (by omega)
theorem fillT_set {α : Type} (n i : Nat) (d : α) (f : Nat → α) : (fillT n i d f).set i (f i) = fillT n (i + 1) d f := by
  unfold fillT
  rw [tab_set]
  refine tab_congr fun j _ => ?_
  by_cases e : j = i
  · rw [if_pos e, if_pos (by omega), e]
  · rw [if_neg e]
    by_cases h : j < i
    · rw [if_pos h, if_pos (by omega)]
    · rw [if_neg h, if_neg (by omega)]
theorem fillT_full {α : Type} (n : Nat) (d : α) (f : Nat → α) : fillT n n d f = tab n f := tab_congr fun _ hj => if_pos hj
theorem wrap64 {n : Int} (h : -9223372036854775808 ≤ n ∧ n ≤ 9223372036854775807) : Go.IntKind.wrap .i64 n = n := Go.IntWalk.i64_in _ h
theorem imax_eq' (a b : Int) : imax a b = max a b := by unfold imax; omega
theorem imin_eq' (a b : Int) : imin a b = min a b := by unfold imin; omega
theorem rng16 {n : Int} (h : (Lit.int .i16 n).wf = true) : -32768 ≤ n ∧ n ≤ 32767 := by
  simpa [Lit.wf, IntKind.min, IntKind.max, IntKind.signed, IntKind.bits] using h
theorem rng8 {n : Int} (h : (Lit.int .u8 n).wf = true) : 0 ≤ n ∧ n ≤ 255 := by
  simpa [Lit.wf, IntKind.min, IntKind.max, IntKind.signed, IntKind.bits] using h
theorem i64_succ (i : Nat) (h : i < 1000000000) : iadd .i64 (i : Int) 1 = ((i + 1 : Nat) : Int) := by rw [iadd64 (by omega)]; omega
theorem all_getD {p : Int → Bool} {l : List Int} (h : l.all p = true) {i : Nat} (hi : i < l.length) : p (l.getD i 0) = true := by
  rw [List.all_eq_true] at h
  refine h _ ?_
  simp [List.getD, List.getElem?_eq_getElem hi]
theorem getD_mem {l : List Int} {i : Nat} (hi : i < l.length) : l.getD i 0 ∈ l := by simp [List.getD, List.getElem?_eq_getElem hi]
theorem same_l4 (a b : List Int) (K0 : Bool → Prop) (K1 : Prop) (hl : a.length ≤ 1000000) (hab : a.length = b.length) : ∀ (n i : Nat), i + n = a.length →
    (if a.drop i = b.drop i then K1 else K0 false) → ∃ q, R01_Same_l4 q a b i K0 K1 := by
  intro n
  induction n with
  | zero =>
    intro i hi h
    refine ⟨1, ?_⟩
    rw [List.drop_eq_nil_of_le (by omega), List.drop_eq_nil_of_le (by omega)] at h
    simp only [R01_Same_l4, br_dec]
    rw [if_neg (by omega)]
    simpa using h
  | succ n ih =>
    intro i hi h
    rw [drop_cons 0 (l := a) (by omega), drop_cons 0 (l := b) (by omega)] at h
    by_cases hx : a.getD i 0 = b.getD i 0
    · obtain ⟨q, hq⟩ := ih (i + 1) (by omega) (by rw [hx] at h; simpa only [List.cons.injEq, true_and] using h)
      refine ⟨q + 1, ?_⟩
      simp only [R01_Same_l4, br_dec, br_and, br_not, Int.toNat_natCast]
      rw [if_pos (by omega), if_pos (by omega), if_pos (by omega), if_pos (by omega), if_pos (by omega), if_pos hx, iadd64 (by omega)]
      exact hq
    · refine ⟨1, ?_⟩
      simp only [R01_Same_l4, br_dec, br_and, br_not, Int.toNat_natCast]
      rw [if_pos (by omega), if_pos (by omega), if_pos (by omega), if_pos (by omega), if_pos (by omega), if_neg hx]
      rw [if_neg (fun e => hx (by injection e))] at h
      exact h
theorem same_spec (a b : List Int) (K0 : Bool → Prop) (hl : a.length ≤ 1000000) (h : K0 (decide (a = b))) : R01_Same a b K0 := by
  rw [R01_Same_def]
  rw [br_not, br_dec]
  split
  · rename_i hab
    refine same_l4 a b _ _ hl (by omega) a.length 0 (by omega) ?_
    rw [List.drop_zero, List.drop_zero]
    split
    · rename_i e; rw [decide_eq_true e] at h; exact h
    · rename_i e; rw [decide_eq_false e] at h; exact h
  · rename_i hab
    rw [decide_eq_false (fun e => hab (by rw [e]))] at h
    exact h
theorem same_self (a : List Int) (K0 : Bool → Prop) (hl : a.length ≤ 1000000) (h : K0 true) : R01_Same a a K0 :=
  same_spec a a K0 hl (by rw [decide_eq_true rfl]; exact h)
def inB (low high x : Int) : Bool := decide (low ≤ x ∧ x ≤ high)
theorem within_l2 (l : List Int) (low high : Int) (K0 : Bool → Prop) (K1 : Prop) (hl : l.length ≤ 1000000) : ∀ (n i : Nat), i + n = l.length →
    (if (l.drop i).all (inB low high) = true then K1 else K0 false) → ∃ q, R01_Within_l2 q l low high i K0 K1 := by
  intro n
  induction n with
  | zero =>
    intro i hi h
    refine ⟨1, ?_⟩
    rw [List.drop_eq_nil_of_le (by omega)] at h
    simp only [R01_Within_l2, br_dec]
    rw [if_neg (by omega)]
    simpa using h
  | succ n ih =>
    intro i hi h
    rw [drop_cons 0 (by omega), List.all_cons] at h
    by_cases hx : inB low high (l.getD i 0) = true
    · obtain ⟨q, hq⟩ := ih (i + 1) (by omega) (by rw [hx, Bool.true_and] at h; exact h)
      refine ⟨q + 1, ?_⟩
      unfold inB at hx
      rw [decide_eq_true_eq] at hx
      simp only [R01_Within_l2, br_dec, br_and, Int.toNat_natCast]
      rw [if_pos (by omega), if_pos (by omega), if_pos (by omega), if_neg (by omega), if_pos (by omega), if_pos (by omega), if_neg (by omega), iadd64 (by omega)]
      exact hq
    · refine ⟨1, ?_⟩
      have h : K0 false := by rw [Bool.eq_false_iff.2 hx, Bool.false_and] at h; exact h
      unfold inB at hx
      rw [decide_eq_true_eq] at hx
      simp only [R01_Within_l2, br_dec, br_and, Int.toNat_natCast]
      rw [if_pos (by omega), if_pos (by omega), if_pos (by omega)]
      split
      · exact h
      · rw [if_pos (by omega), if_pos (by omega), if_pos (by omega)]
        exact h
theorem within_spec (l : List Int) (low high : Int) (K0 : Bool → Prop) (hl : l.length ≤ 1000000) (h : K0 (l.all (inB low high))) : R01_Within l low high K0 := by
  rw [R01_Within_def]
  refine within_l2 l low high K0 _ hl l.length 0 (by omega) ?_
  rw [List.drop_zero]
  split
  · rename_i e; rw [e] at h; exact h
  · rename_i e; rw [Bool.eq_false_iff.2 e] at h; exact h
theorem eright_l2 (c v : List Int) (K0 : Bool → Prop) (K1 : List Int → Prop) (hl : v.length ≤ 1000000) : ∀ (n i : Nat), i + n = v.length →
    (if (v.drop i).all (inB 0 23) = true then K1 c else K0 false) → ∃ q, energy_Right_l2 q c v v.length i K0 K1 := by
  intro n
  induction n with
  | zero =>
    intro i hi h
    refine ⟨1, ?_⟩
    rw [List.drop_eq_nil_of_le (by omega)] at h
    simp only [energy_Right_l2, br_dec]
    rw [if_neg (by omega)]
    simpa using h
  | succ n ih =>
    intro i hi h
    rw [drop_cons 0 (by omega), List.all_cons] at h
    by_cases hx : inB 0 23 (v.getD i 0) = true
    · obtain ⟨q, hq⟩ := ih (i + 1) (by omega) (by rw [hx, Bool.true_and] at h; exact h)
      refine ⟨q + 1, ?_⟩
      unfold inB at hx
      rw [decide_eq_true_eq] at hx
      simp only [energy_Right_l2, br_dec, br_and, Int.toNat_natCast]
      rw [if_pos (by omega), if_pos (by omega), if_pos (by omega), if_neg (by omega), if_neg (by omega), iadd64 (by omega)]
      exact hq
    · refine ⟨1, ?_⟩
      have h : K0 false := by rw [Bool.eq_false_iff.2 hx, Bool.false_and] at h; exact h
      unfold inB at hx
      rw [decide_eq_true_eq] at hx
      simp only [energy_Right_l2, br_dec, br_and, Int.toNat_natCast]
      rw [if_pos (by omega), if_pos (by omega), if_pos (by omega)]
      split
      · exact h
      · rw [if_pos (by omega)]
        exact h
def rowB (c : List Int) : Bool := c.all (inB 0 23) && decide (c.length = 13)
theorem eright_spec (c : List Int) (K0 : Bool → Prop) (hl : c.length ≤ 1000000) (h : K0 (rowB c)) : energy_Right c K0 := by
  rw [energy_Right_def]
  refine eright_l2 c c K0 _ hl c.length 0 (by omega) ?_
  rw [List.drop_zero]
  unfold rowB at h
  split
  · rename_i hs
    rw [hs, Bool.true_and] at h
    have e : decide (((c.length : Nat) : Int) = 13) = decide (c.length = 13) := by apply decide_eq_decide.2; omega
    rw [e]; exact h
  · rename_i hs
    rw [Bool.eq_false_iff.2 hs, Bool.false_and] at h
    exact h
def okP (intra : Bool) (p : List Int) : Bool := intra || rowB p
/-- What is expected of a band. -/
def exq (intra : Bool) (p : List Int) (b : Nat) (last : Int) : Int :=
  if intra = true then (if b = 0 then 8 else last) else (3 * p.getD b 0 + (if b = 0 then p.getD 0 0 else last)) / 4
def lastOf (c : List Int) (b : Nat) : Int := if b = 0 then 0 else c.getD (b - 1) 0
theorem rowB_spec {c : List Int} (h : rowB c = true) : c.length = 13 ∧ ∀ i, i < 13 → 0 ≤ c.getD i 0 ∧ c.getD i 0 ≤ 23 := by
  unfold rowB at h
  simp only [Bool.and_eq_true, decide_eq_true_eq] at h
  refine ⟨h.2, fun i hi => ?_⟩
  have := all_getD h.1 (i := i) (by omega)
  unfold inB at this; exact of_decide_eq_true this
theorem exq_bound {intra : Bool} {p : List Int} {b : Nat} {last : Int} (hp : okP intra p = true) (hb : b < 13) (hl : 0 ≤ last ∧ last ≤ 23) : 0 ≤ exq intra p b last ∧ exq intra p b last ≤ 23 := by
  unfold exq
  cases intra with
  | true => simp only [if_true]; split <;> omega
  | false =>
    obtain ⟨_, hr⟩ := rowB_spec (c := p) hp
    have h1 := hr b hb; have h2 := hr 0 (by omega)
    simp only [Bool.false_eq_true, if_false]
    split <;> omega
theorem lastOf_bound {c : List Int} {b : Nat} (hc : rowB c = true) (hb : b ≤ 13) : 0 ≤ lastOf c b ∧ lastOf c b ≤ 23 := by
  unfold lastOf
  split
  · omega
  · exact (rowB_spec hc).2 (b - 1) (by omega)
theorem exp1 {p : List Int} {b : Nat} {last : Int} {K0 : Int → Prop} (h : K0 (exq true p b last)) : energy_expects_1 b last K0 := by
  rw [energy_expects_1_def]
  unfold exq at h
  simp only [if_true] at h
  rw [br_dec]
  split
  · rw [if_pos (by omega)] at h; exact h
  · rw [if_neg (by omega)] at h; exact h
theorem exp2 {p : List Int} {b : Nat} {last : Int} {K0 : Int → Prop} (hp : rowB p = true) (hb : b < 13) (hl : 0 ≤ last ∧ last ≤ 23) (h : K0 (exq false p b last)) : energy_expects_2 b last p K0 := by
  obtain ⟨h13, hr⟩ := rowB_spec hp
  have h1 := hr b hb; have h2 := hr 0 (by omega)
  rw [energy_expects_2_def]; unfold energy_expects_2_j3
  unfold exq at h
  simp only [Bool.false_eq_true, if_false] at h
  simp only [br_dec, br_and, Int.toNat_natCast]
  split
  · rw [if_pos (by omega)] at h
    rw [if_pos (by omega), if_pos (by omega), if_pos (by omega), imul64 (by omega), iadd64 (by omega), iquo64n (by omega) (by omega)]; exact h
  · rw [if_neg (by omega)] at h
    rw [if_pos (by omega), if_pos (by omega), imul64 (by omega), iadd64 (by omega), iquo64n (by omega) (by omega)]; exact h
def dlF (intra : Bool) (p c : List Int) (b : Nat) : Int := c.getD b 0 - exq intra p b (lastOf c b)
def dl (intra : Bool) (p c : List Int) : List Int := tab 13 (dlF intra p c)
theorem deltas_l7 {p c : List Int} (hc : rowB c = true) (K0 : List Int → Prop) (h : K0 (dl true p c)) : ∀ (n i : Nat), i + n = 13 → ∃ q, energy_Deltas_l7 q (lastOf c i) c c.length i (fillT 13 i 0 (dlF true p c)) K0 := by
  obtain ⟨h13, hr⟩ := rowB_spec hc
  intro n
  induction n with
  | zero =>
    intro i hi
    refine ⟨1, ?_⟩
    have hi : i = 13 := by omega
    subst hi
    simp only [energy_Deltas_l7, br_dec]
    rw [if_neg (by omega), fillT_full]; exact h
  | succ n ih =>
    intro i hi
    obtain ⟨q, hq⟩ := ih (i + 1) (by omega)
    refine ⟨q + 1, ?_⟩
    have h1 := hr i (by omega)
    have h2 := lastOf_bound (b := i) hc (by omega)
    have h3 := exq_bound (p := p) (intra := true) (b := i) rfl (by omega) h2
    simp only [energy_Deltas_l7, br_dec, br_and, Int.toNat_natCast, fillT_length]
    rw [if_pos (by omega), if_pos (by omega), if_pos (by omega)]
    refine exp1 (p := p) ?_
    rw [if_pos (by omega), if_pos (by omega), if_pos (by omega), isub64 (by omega), i64_succ _ (by omega)]
    rw [show c.getD i 0 - exq true p i (lastOf c i) = dlF true p c i from rfl, fillT_set]
    have : lastOf c (i + 1) = c.getD i 0 := by unfold lastOf; rw [if_neg (by omega)]; rfl
    rw [this] at hq
    exact hq
theorem deltas_l7a {p c : List Int} (hp : rowB p = true) (hc : rowB c = true) (K0 : List Int → Prop) (h : K0 (dl false p c)) : ∀ (n i : Nat), i + n = 13 → ∃ q, energy_Deltas_l7a q (lastOf c i) c c.length i p (fillT 13 i 0 (dlF false p c)) K0 := by
  obtain ⟨h13, hr⟩ := rowB_spec hc
  intro n
  induction n with
  | zero =>
    intro i hi
    refine ⟨1, ?_⟩
    have hi : i = 13 := by omega
    subst hi
    simp only [energy_Deltas_l7a, br_dec]
    rw [if_neg (by omega), fillT_full]; exact h
  | succ n ih =>
    intro i hi
    obtain ⟨q, hq⟩ := ih (i + 1) (by omega)
    refine ⟨q + 1, ?_⟩
    have h1 := hr i (by omega)
    have h2 := lastOf_bound (b := i) hc (by omega)
    have h3 := exq_bound (p := p) (intra := false) (b := i) hp (by omega) h2
    simp only [energy_Deltas_l7a, br_dec, br_and, Int.toNat_natCast, fillT_length]
    rw [if_pos (by omega), if_pos (by omega), if_pos (by omega)]
    refine exp2 hp (by omega) h2 ?_
    rw [if_pos (by omega), if_pos (by omega), if_pos (by omega), isub64 (by omega), i64_succ _ (by omega)]
    rw [show c.getD i 0 - exq false p i (lastOf c i) = dlF false p c i from rfl, fillT_set]
    have : lastOf c (i + 1) = c.getD i 0 := by unfold lastOf; rw [if_neg (by omega)]; rfl
    rw [this] at hq
    exact hq
theorem deltas_j3 {intra : Bool} {p c : List Int} (hp : okP intra p = true) (hc : rowB c = true) (K0 : List Int → Prop) (h : K0 (dl intra p c)) : energy_Deltas_j3 intra p c K0 := by
  obtain ⟨h13, _⟩ := rowB_spec hc
  have e0 : lastOf c 0 = 0 := rfl
  unfold energy_Deltas_j3; rw [energy_expects_def]
  cases intra with
  | true =>
    have := deltas_l7 (p := p) hc K0 h 13 0 (by omega)
    rw [e0, fillT_zero] at this
    simp only [br_true, br_and, br_dec]
    rw [if_pos (by omega), if_pos (by omega), if_pos (by omega), Int.toNat_natCast]
    rw [h13] at this ⊢
    exact this
  | false =>
    have := deltas_l7a hp hc K0 h 13 0 (by omega)
    rw [e0, fillT_zero] at this
    simp only [br_false, br_and, br_dec]
    rw [if_pos (by omega), if_pos (by omega), if_pos (by omega), Int.toNat_natCast]
    rw [h13] at this ⊢
    exact this
theorem deltas_spec (intra : Bool) (p c : List Int) (K0 : Prop) (K1 : List Int → Prop) (hp : p.length ≤ 1000000) (hc : c.length ≤ 1000000) (h : if rowB c = true ∧ okP intra p = true then K1 (dl intra p c) else K0) : energy_Deltas intra p c K0 K1 := by
  rw [energy_Deltas_def]
  refine eright_spec c _ hc ?_
  rw [br_not]
  refine br_of (fun hr => ?_) (fun hr => ?_)
  · rw [br_not]
    refine br_of (fun hi => ?_) (fun hi => ?_)
    · have ho : okP intra p = true := by unfold okP; rw [hi]; rfl
      rw [if_pos ⟨hr, ho⟩] at h
      exact deltas_j3 ho hr K1 h
    · refine eright_spec p _ hp ?_
      rw [br_not]
      have he : okP intra p = rowB p := by unfold okP; rw [hi]; rfl
      refine br_of (fun hq => ?_) (fun hq => ?_)
      · rw [if_pos ⟨hr, by rw [he]; exact hq⟩] at h
        exact deltas_j3 (by rw [he]; exact hq) hr K1 h
      · rw [if_neg (by rw [he, hq]; simp)] at h; exact h
  · rw [if_neg (by rw [hr]; simp)] at h; exact h
def rowR (intra : Bool) (p d : List Int) : Nat → Nat → Int → Option (List Int)
  | 0, _, _ => some []
  | n + 1, b, last =>
    if exq intra p b last + d.getD b 0 < 0 ∨ 23 < exq intra p b last + d.getD b 0 then none else (rowR intra p d n (b + 1) (exq intra p b last + d.getD b 0)).map ((exq intra p b last + d.getD b 0) :: ·)
def row (intra : Bool) (p d : List Int) : Option (List Int) := if d.length = 13 ∧ d.all (inB (-67) 67) = true ∧ okP intra p = true then rowR intra p d 13 0 0 else none
theorem set_mid (pre : List Int) (n : Nat) (v : Int) : (pre ++ List.replicate (n + 1) 0).set pre.length v = (pre ++ [v]) ++ List.replicate n 0 := by
  induction pre with
  | nil => simp [List.replicate_succ]
  | cons a pre ih => simp only [List.cons_append, List.length_cons, List.set_cons_succ, ih]
def rowM (o : Option (List Int)) (A : Prop) (B : List Int → Prop) : Prop := match o with | none => A | some r => B r
theorem rowM_map {o : Option (List Int)} {v : Int} {A : Prop} {B : List Int → Prop} : rowM (o.map (v :: ·)) A B = rowM o A (fun r => B (v :: r)) := by cases o <;> rfl
theorem row_l7 {p d : List Int} (h13 : d.length = 13) (K0 : Bool → Prop) (K1 : List Int → Prop) : ∀ (n i : Nat) (last : Int) (pre : List Int), i + n = 13 → pre.length = i → 0 ≤ last ∧ last ≤ 23 →
    rowM (if (d.drop i).all (inB (-67) 67) = true then rowR true p d n i last else none) (K0 false) (fun r => K1 (pre ++ r)) → ∃ q, energy_Row_l7 q last d d.length i (pre ++ List.replicate n 0) K0 K1 := by
  intro n
  induction n with
  | zero =>
    intro i last pre hi hpre hl h
    refine ⟨1, ?_⟩
    rw [List.drop_eq_nil_of_le (by omega)] at h
    simp only [energy_Row_l7, br_dec]
    rw [if_neg (by omega)]
    simpa [rowM, rowR] using h
  | succ n ih =>
    intro i last pre hi hpre hl h
    rw [drop_cons 0 (by omega), List.all_cons] at h
    have hll : (pre ++ List.replicate (n + 1) (0 : Int)).length = 13 := by simp; omega
    by_cases hx : inB (-67) 67 (d.getD i 0) = true
    · rw [hx, Bool.true_and] at h
      unfold inB at hx
      rw [decide_eq_true_eq] at hx
      have hb := exq_bound (p := p) (intra := true) (b := i) rfl (by omega) hl
      by_cases hv : exq true p i last + d.getD i 0 < 0 ∨ 23 < exq true p i last + d.getD i 0
      · have h : K0 false := by
          simp only [rowR, if_pos hv] at h
          split at h <;> exact h
        refine ⟨1, ?_⟩
        simp only [energy_Row_l7, energy_Row_j10, energy_Row_j11, energy_Row_j14, br_dec, br_and, br_true, Int.toNat_natCast]
        rw [if_pos (by omega), if_pos (by omega), if_pos (by omega), if_neg (by omega), if_neg (by omega)]
        refine exp1 (p := p) ?_
        rw [if_pos (by omega), if_pos (by omega), if_pos (by omega)]
        simp only [show iadd .i64 (exq true p i last) (d.getD i 0) = exq true p i last + d.getD i 0 from iadd64 (by omega)]
        split
        · exact h
        · rw [if_pos (by omega)]; exact h
      · obtain ⟨q, hq⟩ := ih (i + 1) (exq true p i last + d.getD i 0) (pre ++ [exq true p i last + d.getD i 0]) (by omega) (by simp; omega) (by omega) (by
          simp only [rowR, if_neg hv] at h
          split
          · rename_i ha
            rw [if_pos ha, rowM_map] at h
            simpa using h
          · rename_i ha
            rw [if_neg ha] at h; exact h)
        refine ⟨q + 1, ?_⟩
        simp only [energy_Row_l7, energy_Row_j10, energy_Row_j11, energy_Row_j14, br_dec, br_and, br_true, Int.toNat_natCast]
        rw [if_pos (by omega), if_pos (by omega), if_pos (by omega), if_neg (by omega), if_neg (by omega)]
        refine exp1 (p := p) ?_
        have hs := set_mid pre n (exq true p i last + d.getD i 0)
        rw [hpre] at hs
        rw [if_pos (by omega), if_pos (by omega), if_pos (by omega)]
        simp only [show iadd .i64 (exq true p i last) (d.getD i 0) = exq true p i last + d.getD i 0 from iadd64 (by omega)]
        rw [if_neg (by omega), if_neg (by omega), hs, i64_succ _ (by omega)]
        exact hq
    · have h : K0 false := by
        rw [Bool.eq_false_iff.2 hx, Bool.false_and, if_neg (by simp)] at h; exact h
      refine ⟨1, ?_⟩
      unfold inB at hx
      rw [decide_eq_true_eq] at hx
      simp only [energy_Row_l7, energy_Row_j10, br_dec, br_and, br_true, Int.toNat_natCast]
      rw [if_pos (by omega), if_pos (by omega), if_pos (by omega)]
      split
      · exact h
      · rw [if_pos (by omega)]; exact h
theorem row_l7a {p d : List Int} (hp : rowB p = true) (h13 : d.length = 13) (K0 : Bool → Prop) (K1 : List Int → Prop) : ∀ (n i : Nat) (last : Int) (pre : List Int), i + n = 13 → pre.length = i → 0 ≤ last ∧ last ≤ 23 →
    rowM (if (d.drop i).all (inB (-67) 67) = true then rowR false p d n i last else none) (K0 false) (fun r => K1 (pre ++ r)) → ∃ q, energy_Row_l7a q last d d.length i p (pre ++ List.replicate n 0) K0 K1 := by
  intro n
  induction n with
  | zero =>
    intro i last pre hi hpre hl h
    refine ⟨1, ?_⟩
    rw [List.drop_eq_nil_of_le (by omega)] at h
    simp only [energy_Row_l7a, br_dec]
    rw [if_neg (by omega)]
    simpa [rowM, rowR] using h
  | succ n ih =>
    intro i last pre hi hpre hl h
    rw [drop_cons 0 (by omega), List.all_cons] at h
    have hll : (pre ++ List.replicate (n + 1) (0 : Int)).length = 13 := by simp; omega
    by_cases hx : inB (-67) 67 (d.getD i 0) = true
    · rw [hx, Bool.true_and] at h
      unfold inB at hx
      rw [decide_eq_true_eq] at hx
      have hb := exq_bound (p := p) (intra := false) (b := i) hp (by omega) hl
      by_cases hv : exq false p i last + d.getD i 0 < 0 ∨ 23 < exq false p i last + d.getD i 0
      · have h : K0 false := by
          simp only [rowR, if_pos hv] at h
          split at h <;> exact h
        refine ⟨1, ?_⟩
        simp only [energy_Row_l7a, energy_Row_j10a, energy_Row_j11a, energy_Row_j14a, br_dec, br_and, br_true, Int.toNat_natCast]
        rw [if_pos (by omega), if_pos (by omega), if_pos (by omega), if_neg (by omega), if_neg (by omega)]
        refine exp2 hp (by omega) hl ?_
        rw [if_pos (by omega), if_pos (by omega), if_pos (by omega)]
        simp only [show iadd .i64 (exq false p i last) (d.getD i 0) = exq false p i last + d.getD i 0 from iadd64 (by omega)]
        split
        · exact h
        · rw [if_pos (by omega)]; exact h
      · obtain ⟨q, hq⟩ := ih (i + 1) (exq false p i last + d.getD i 0) (pre ++ [exq false p i last + d.getD i 0]) (by omega) (by simp; omega) (by omega) (by
          simp only [rowR, if_neg hv] at h
          split
          · rename_i ha
            rw [if_pos ha, rowM_map] at h
            simpa using h
          · rename_i ha
            rw [if_neg ha] at h; exact h)
        refine ⟨q + 1, ?_⟩
        simp only [energy_Row_l7a, energy_Row_j10a, energy_Row_j11a, energy_Row_j14a, br_dec, br_and, br_true, Int.toNat_natCast]
        rw [if_pos (by omega), if_pos (by omega), if_pos (by omega), if_neg (by omega), if_neg (by omega)]
        refine exp2 hp (by omega) hl ?_
        have hs := set_mid pre n (exq false p i last + d.getD i 0)
        rw [hpre] at hs
        rw [if_pos (by omega), if_pos (by omega), if_pos (by omega)]
        simp only [show iadd .i64 (exq false p i last) (d.getD i 0) = exq false p i last + d.getD i 0 from iadd64 (by omega)]
        rw [if_neg (by omega), if_neg (by omega), hs, i64_succ _ (by omega)]
        exact hq
    · have h : K0 false := by
        rw [Bool.eq_false_iff.2 hx, Bool.false_and, if_neg (by simp)] at h; exact h
      refine ⟨1, ?_⟩
      unfold inB at hx
      rw [decide_eq_true_eq] at hx
      simp only [energy_Row_l7a, energy_Row_j10a, br_dec, br_and, br_true, Int.toNat_natCast]
      rw [if_pos (by omega), if_pos (by omega), if_pos (by omega)]
      split
      · exact h
      · rw [if_pos (by omega)]; exact h
theorem row_j3 {intra : Bool} {p d : List Int} (hp : okP intra p = true) (h13 : d.length = 13) (K1 : Bool → List Int → Prop)
    (h : rowM (if d.all (inB (-67) 67) = true then rowR intra p d 13 0 0 else none) (K1 false []) (fun r => K1 true r)) : energy_Row_j3 intra p d K1 := by
  unfold energy_Row_j3; rw [energy_expects_def]
  cases intra with
  | true =>
    have := row_l7 (p := p) h13 (fun b => K1 b []) (fun m => K1 true m) 13 0 0 [] (by omega) rfl (by omega) (by simpa using h)
    simp only [br_true, br_and, br_dec]
    rw [if_pos (by omega), if_pos (by omega), if_pos (by omega), Int.toNat_natCast]
    rw [h13] at this ⊢
    exact this
  | false =>
    have := row_l7a hp h13 (fun b => K1 b []) (fun m => K1 true m) 13 0 0 [] (by omega) rfl (by omega) (by simpa using h)
    simp only [br_false, br_and, br_dec]
    rw [if_pos (by omega), if_pos (by omega), if_pos (by omega), Int.toNat_natCast]
    rw [h13] at this ⊢
    exact this
theorem row_spec (intra : Bool) (p d : List Int) (K0 : Bool → Prop) (K1 : Bool → List Int → Prop) (hp : p.length ≤ 1000000) (h : rowM (row intra p d) (K0 false ∧ K1 false []) (fun r => K1 true r)) : energy_Row intra p d K0 K1 := by
  rw [energy_Row_def]; unfold energy_Row_j2
  unfold row at h
  have fin : d.length = 13 → okP intra p = true → rowM (if d.all (inB (-67) 67) = true then rowR intra p d 13 0 0 else none) (K1 false []) (fun r => K1 true r) := by
    intro h1 h2
    by_cases ha : d.all (inB (-67) 67) = true
    · rw [if_pos ⟨h1, ha, h2⟩] at h
      rw [if_pos ha]
      cases hr : rowR intra p d 13 0 0 with
      | none => rw [hr] at h; exact h.2
      | some r => rw [hr] at h; exact h
    · rw [if_neg (fun hh => ha hh.2.1)] at h
      rw [if_neg ha]; exact h.2
  rw [br_not, br_dec]
  split
  · rename_i h13
    rw [br_not]
    refine br_of (fun hi => ?_) (fun hi => ?_)
    · have ho : okP intra p = true := by unfold okP; rw [hi]; rfl
      exact row_j3 ho (by omega) K1 (fin (by omega) ho)
    · have he : okP intra p = rowB p := by unfold okP; rw [hi]; rfl
      refine eright_spec p _ hp ?_
      rw [br_not]
      refine br_of (fun hq => ?_) (fun hq => ?_)
      · exact row_j3 (by rw [he]; exact hq) (by omega) K1 (fin (by omega) (by rw [he]; exact hq))
      · rw [if_neg (by rw [he, hq]; simp)] at h; exact h.1
  · rw [if_neg (by omega)] at h; exact h.1
set_option maxRecDepth 10000 in
theorem awake_l3 (K : List Int → Prop) : L14_awake_l3 14 0 [] K = K (List.replicate 13 8) := by kernel_rfl
theorem awake_spec (K : Bool → Prop) (h : K true) : L14_awake K := by
  rw [L14_awake_def]
  refine ⟨14, ?_⟩
  rw [awake_l3]
  refine deltas_spec _ _ _ _ _ (by decide) (by decide) ?_
  rw [if_pos (by decide +kernel), show dl true [] (List.replicate 13 8) = List.replicate 13 0 by decide +kernel]
  unfold L14_awake_j7
  refine row_spec _ _ _ _ _ (by decide) ?_
  rw [show row true [] (List.replicate 13 8) = none by decide +kernel]
  have fin : L14_awake_j8 false (List.replicate 13 8) (List.replicate 13 0) K := by
    unfold L14_awake_j8
    rw [br_dec, if_pos (by decide)]
    refine within_spec _ _ _ _ (by decide) ?_
    rw [show (List.replicate 13 (0 : Int)).all (inB 0 0) = true by decide +kernel, br_true, br_not, br_false]
    refine eright_spec _ _ (by decide) ?_
    rw [show rowB (List.replicate 13 8) = true by decide +kernel, br_true]
    refine eright_spec _ _ (by decide) ?_
    exact h
  exact ⟨fin, fin⟩
def m24 (p : List Int) (i : Nat) : Int := p.getD i 0 % 24
theorem rem24 {x : Int} (h : 0 ≤ x ∧ x ≤ 255) : irem .i64 (IntKind.wrap .i64 x) 24 = x % 24 := by
  rw [wrap64 (by omega)]
  show x.tmod 24 = _
  rw [Int.tmod_eq_emod_of_nonneg (by omega)]
theorem eb_l3 (intra : Bool) (p c : List Int) (hp : p.length = 13) (hc : c.length = 13) (rp : ∀ i, i < 13 → 0 ≤ p.getD i 0 ∧ p.getD i 0 ≤ 255) (rc : ∀ i, i < 13 → 0 ≤ c.getD i 0 ∧ c.getD i 0 ≤ 255)
    (K0 : Bool → List Int → List Int → Prop) (h : K0 intra (tab 13 (m24 p)) (tab 13 (m24 c))) : ∀ n i : Nat, i + n = 13 → ∃ q, L14_EnergyBack_l3 q intra i p c (tab i (m24 p)) (tab i (m24 c)) K0 := by
  intro n
  induction n with
  | zero =>
    intro i hi
    refine ⟨1, ?_⟩
    have hi : i = 13 := by omega
    subst hi
    simp only [L14_EnergyBack_l3, br_dec]
    rw [if_neg (by omega)]; exact h
  | succ n ih =>
    intro i hi
    obtain ⟨q, hq⟩ := ih (i + 1) (by omega)
    refine ⟨q + 1, ?_⟩
    simp only [L14_EnergyBack_l3, br_dec, br_and, Int.toNat_natCast, tab_length, List.length_cons, List.length_nil]
    rw [if_pos (by omega), if_pos (by omega), if_pos (by omega), if_pos (by omega), if_pos (by omega), if_pos (by omega), if_pos (by omega), if_pos (by omega), if_pos (by omega), rem24 (rp i (by omega)), rem24 (rc i (by omega)), i64_succ _ (by omega)]
    rw [show p.getD i 0 % 24 = m24 p i from rfl, show c.getD i 0 % 24 = m24 c i from rfl, tab_snoc, tab_snoc]
    exact hq
theorem all_of {l : List Int} {n : Nat} {lo hi : Int} (hl : l.length = n) (h : ∀ i, i < n → lo ≤ l.getD i 0 ∧ l.getD i 0 ≤ hi) : l.all (inB lo hi) = true := by
  rw [List.all_eq_true]
  intro x hx
  obtain ⟨i, hi', rfl⟩ := List.getElem_of_mem hx
  have := h i (by omega)
  simp only [List.getD, List.getElem?_eq_getElem hi', Option.getD_some] at this
  unfold inB; exact decide_eq_true this
theorem rowB_m24 (p : List Int) : rowB (tab 13 (m24 p)) = true := by
  unfold rowB
  rw [all_of (tab_length 13 _) (fun i hi => by rw [tab_get _ _ _ hi]; unfold m24; omega), tab_length]; rfl
theorem dl_bound {intra : Bool} {p c : List Int} (hp : okP intra p = true) (hc : rowB c = true) {i : Nat} (hi : i < 13) : -23 ≤ (dl intra p c).getD i 0 ∧ (dl intra p c).getD i 0 ≤ 23 := by
  have h1 := (rowB_spec hc).2 i hi
  have h2 := lastOf_bound (b := i) hc (by omega)
  have h3 := exq_bound (p := p) (intra := intra) (b := i) hp hi h2
  unfold dl
  rw [tab_get _ _ _ hi]
  unfold dlF
  omega
theorem rowR_back {intra : Bool} {p c : List Int} (hc : rowB c = true) : ∀ n b : Nat, b + n = 13 → rowR intra p (dl intra p c) n b (lastOf c b) = some (c.drop b) := by
  obtain ⟨h13, hr⟩ := rowB_spec hc
  intro n
  induction n with
  | zero => intro b hb; rw [List.drop_eq_nil_of_le (by omega)]; rfl
  | succ n ih =>
    intro b hb
    have e : exq intra p b (lastOf c b) + (dl intra p c).getD b 0 = c.getD b 0 := by
      unfold dl
      rw [tab_get _ _ _ (by omega)]
      unfold dlF
      omega
    have h1 := hr b (by omega)
    unfold rowR
    rw [e, if_neg (by omega)]
    have := ih (b + 1) (by omega)
    rw [show lastOf c (b + 1) = c.getD b 0 by unfold lastOf; rw [if_neg (by omega)]; rfl] at this
    rw [this, drop_cons 0 (by omega : b < c.length)]
    rfl
theorem row_back {intra : Bool} {p c : List Int} (hp : okP intra p = true) (hc : rowB c = true) : row intra p (dl intra p c) = some c := by
  unfold row
  have hl : (dl intra p c).length = 13 := by unfold dl; rw [tab_length]
  rw [if_pos ⟨hl, all_of hl (fun i hi => by have := dl_bound (p := p) hp hc hi; omega), hp⟩]
  have := rowR_back (intra := intra) (p := p) hc 13 0 (by omega)
  rw [List.drop_zero] at this
  exact this
theorem eb_j8 (intra : Bool) (p c : List Int) (hp : rowB p = true) (hc : rowB c = true) (K : Bool → Prop) (h : K true) : L14_EnergyBack_j8 intra p c (dl intra p c) K := by
  have ha := awake_spec K h
  have hop : ∀ i, okP i p = true := fun i => by unfold okP; rw [hp, Bool.or_true]
  have lp : p.length = 13 := (rowB_spec hp).1
  have lc : c.length = 13 := (rowB_spec hc).1
  have ld : (dl intra p c).length = 13 := by unfold dl; rw [tab_length]
  unfold L14_EnergyBack_j8
  refine row_spec _ _ _ _ _ (by omega) ?_
  rw [row_back (hop _) hc]
  show L14_EnergyBack_j9 true p c (dl intra p c) c K
  unfold L14_EnergyBack_j9
  refine deltas_spec _ _ _ _ _ (by decide) (by omega) ?_
  rw [if_pos ⟨hc, rfl⟩]
  refine row_spec _ _ _ _ _ (by decide) ?_
  rw [row_back rfl hc]
  show L14_EnergyBack_j10 true true p c (dl intra p c) c c K
  unfold L14_EnergyBack_j10
  rw [br_dec, if_pos (by omega)]
  refine within_spec _ _ _ _ (by omega) ?_
  rw [all_of ld (fun i hi => dl_bound (hop _) hc hi), br_true, br_true]
  refine same_self _ _ (by omega) ?_
  rw [br_true, br_true]
  refine same_self _ _ (by omega) ?_
  rw [br_true]
  refine deltas_spec _ _ _ _ _ (by omega) (by omega) ?_
  rw [if_pos ⟨hc, hop _⟩]
  refine deltas_spec _ _ _ _ _ (by decide) (by omega) ?_
  rw [if_pos ⟨hc, rfl⟩]
  refine same_self (dl true p c) _ (by unfold dl; rw [tab_length]; decide) ?_
  rw [br_true]; exact ha
theorem back (intra : Bool) (p c : List Int) (_ : Rng .bool intra) (rp : Rng (.arr 13 (.int .u8)) p) (rc : Rng (.arr 13 (.int .u8)) c) (K : Bool → Prop) (h : K true) : L14_EnergyBack intra p c K := by
  have rr : ∀ l : List Int, Rng (.arr 13 (.int .u8)) l → l.length = 13 ∧ ∀ i, i < 13 → 0 ≤ l.getD i 0 ∧ l.getD i 0 ≤ 255 := by
    intro l hl
    obtain ⟨h1, h2⟩ := hl
    refine ⟨h1, fun i hi => ?_⟩
    simp only [List.getD, List.getElem?_eq_getElem (show i < l.length by omega), Option.getD_some]
    exact rng8 (h2 _ (List.getElem_mem _))
  obtain ⟨l1, b1⟩ := rr p rp
  obtain ⟨l2, b2⟩ := rr c rc
  rw [L14_EnergyBack_def]
  refine eb_l3 intra p c l1 l2 b1 b2 _ ?_ 13 0 rfl
  refine deltas_spec _ _ _ _ _ (by rw [tab_length]; decide) (by rw [tab_length]; decide) ?_
  have hp : okP intra (tab 13 (m24 p)) = true := by unfold okP; rw [rowB_m24, Bool.or_true]
  rw [if_pos ⟨rowB_m24 c, hp⟩]
  exact eb_j8 intra _ _ (rowB_m24 p) (rowB_m24 c) K h

end
end Go.Eng.A
