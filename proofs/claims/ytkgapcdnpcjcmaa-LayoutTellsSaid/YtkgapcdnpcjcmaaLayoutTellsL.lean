import Derived.Test.YtkgapcdnpcjcmaaEngV
import Derived.Test.YtkgapcdnpcjcmaaEngU
import Derived.Test.YtkgapcdnpcjcmaaLayoutTellsP
set_option linter.unusedSimpArgs false
set_option linter.unusedVariables false
set_option maxHeartbeats 2000000
namespace Go.Eng.A
open Go Go.Eng
set_option maxRecDepth 100000
noncomputable section
theorem drop_cons {α : Type} (d : α) {l : List α} {i : Nat} (h : i < l.length) : l.drop i = l.getD i d :: l.drop (i + 1) := by
  rw [List.drop_eq_getElem_cons h]; simp [List.getD, List.getElem?_eq_getElem h]
theorem getD_of_drop {l : List Int} {i : Nat} {x : Int} {r : List Int} (h : l.drop i = x :: r) : l.getD i 0 = x ∧ i < l.length ∧ l.drop (i + 1) = r := by
  have hi : i < l.length := by
    apply Classical.byContradiction
    intro hn
    rw [List.drop_eq_nil_of_le (by omega)] at h
    cases h
  rw [drop_cons 0 hi] at h
  injection h with h1 h2
  exact ⟨h1, hi, h2⟩
theorem tab_length {α : Type} (n : Nat) (f : Nat → α) : (tab n f).length = n := by simp [tab]
theorem tab_get {α : Type} (n : Nat) (f : Nat → α) (d : α) {i : Nat} (h : i < n) : (tab n f).getD i d = f i := by
  simp [tab, List.getD, List.getElem?_map, List.getElem?_range h]
theorem tab_set {α : Type} (n : Nat) (f : Nat → α) (i : Nat) (a : α) : (tab n f).set i a = tab n fun j => if j = i then a else f j := by
  apply List.ext_getElem (by simp [tab])
  intro j h1 h2
  simp only [tab, List.length_set, List.length_map, List.length_range] at h1
  simp only [tab, List.getElem_set, List.getElem_map, List.getElem_range]
  by_cases e : i = j
  · rw [if_pos e, if_pos e.symm]
  · rw [if_neg e, if_neg (Ne.symm e)]
theorem tab_snoc {α : Type} (n : Nat) (f : Nat → α) : tab n f ++ [f n] = tab (n + 1) f := by simp [tab, List.range_succ]
theorem tab_congr {α : Type} {n : Nat} {f g : Nat → α} (h : ∀ j, j < n → f j = g j) : tab n f = tab n g := by
  unfold tab
  apply List.map_congr_left
  intro j hj; exact h j (List.mem_range.1 hj)
theorem tab_const {α : Type} (n : Nat) (a : α) : List.replicate n a = tab n fun _ => a := by
  apply List.ext_getElem (by simp [tab])
  intro j h1 h2
  simp [tab]
theorem tab_zero {α : Type} (f : Nat → α) : tab 0 f = [] := rfl
/-- A list that is filled place by place. -/
def fillT {α : Type} (n i : Nat) (d : α) (f : Nat → α) : List α := tab n fun j => if j < i then f j else d
theorem fillT_length {α : Type} (n i : Nat) (d : α) (f : Nat → α) : (fillT n i d f).length = n := tab_length _ _
theorem fillT_zero {α : Type} (n : Nat) (d : α) (f : Nat → α) : fillT n 0 d f = List.replicate n d := by
  rw [tab_const]; exact tab_congr fun j _ => if_neg (by omega)
theorem fillT_set {α : Type} (n i : Nat) (d : α) (f : Nat → α) : (fillT n i d f).set i (f i) = fillT n (i + 1) d f := by
  unfold fillT
  rw [tab_set]
  refine tab_congr fun j _ => ?_
  by_cases e : j = i
  · rw [if_pos e, if_pos (by omega), e]
  · rw [if_neg e]
    by_cases h : j < i
    · rw [if_pos h, if_pos (by omega)]
    · rw [if_neg h, if_neg (by omega)]
theorem fillT_full {α : Type} (n : Nat) (d : α) (f : Nat → α) : fillT n n d f = tab n f := tab_congr fun _ hj => if_pos hj
theorem wrap64 {n : Int} (h : -9223372036854775808 ≤ n ∧ n ≤ 9223372036854775807) : Go.IntKind.wrap .i64 n = n := Go.IntWalk.i64_in _ h
theorem imax_eq' (a b : Int) : imax a b = max a b := by unfold imax; omega
theorem imin_eq' (a b : Int) : imin a b = min a b := by unfold imin; omega
theorem rng16 {n : Int} (h : (Lit.int .i16 n).wf = true) : -32768 ≤ n ∧ n ≤ 32767 := by
  simpa [Lit.wf, IntKind.min, IntKind.max, IntKind.signed, IntKind.bits] using h
theorem rng8 {n : Int} (h : (Lit.int .u8 n).wf = true) : 0 ≤ n ∧ n ≤ 255 := by
  simpa [Lit.wf, IntKind.min, IntKind.max, IntKind.signed, IntKind.bits] using h
theorem i64_succ (i : Nat) (h : i < 1000000000) : iadd .i64 (i : Int) 1 = ((i + 1 : Nat) : Int) := by rw [iadd64 (by omega)]; omega
theorem all_getD {p : Int → Bool} {l : List Int} (h : l.all p = true) {i : Nat} (hi : i < l.length) : p (l.getD i 0) = true := by
  rw [List.all_eq_true] at h
  refine h _ ?_
  simp [List.getD, List.getElem?_eq_getElem hi]
theorem getD_mem {l : List Int} {i : Nat} (hi : i < l.length) : l.getD i 0 ∈ l := by simp [List.getD, List.getElem?_eq_getElem hi]
theorem same_l4 (a b : List Int) (K0 : Bool → Prop) (K1 : Prop) (hl : a.length ≤ 1000000) (hab : a.length = b.length) : ∀ (n i : Nat), i + n = a.length →
    (if a.drop i = b.drop i then K1 else K0 false) → ∃ q, R01_Same_l4 q a b i K0 K1 := by
  intro n
  induction n with
  | zero =>
    intro i hi h
    refine ⟨1, ?_⟩
    rw [List.drop_eq_nil_of_le (by omega), List.drop_eq_nil_of_le (by omega)] at h
    simp only [R01_Same_l4, br_dec]
    rw [if_neg (by omega)]
    simpa using h
  | succ n ih =>
    intro i hi h
    rw [drop_cons 0 (l := a) (by omega), drop_cons 0 (l := b) (by omega)] at h
    by_cases hx : a.getD i 0 = b.getD i 0
    · obtain ⟨q, hq⟩ := ih (i + 1) (by omega) (by rw [hx] at h; simpa only [List.cons.injEq, true_and] using h)
      refine ⟨q + 1, ?_⟩
      simp only [R01_Same_l4, br_dec, br_and, br_not, Int.toNat_natCast]
      rw [if_pos (by omega), if_pos (by omega), if_pos (by omega), if_pos (by omega), if_pos (by omega), if_pos hx, iadd64 (by omega)]
      exact hq
    · refine ⟨1, ?_⟩
      simp only [R01_Same_l4, br_dec, br_and, br_not, Int.toNat_natCast]
      rw [if_pos (by omega), if_pos (by omega), if_pos (by omega), if_pos (by omega), if_pos (by omega), if_neg hx]
      rw [if_neg (fun e => hx (by injection e))] at h
      exact h
theorem same_spec (a b : List Int) (K0 : Bool → Prop) (hl : a.length ≤ 1000000) (h : K0 (decide (a = b))) : R01_Same a b K0 := by
  rw [R01_Same_def]
  rw [br_not, br_dec]
  split
  · rename_i hab
    refine same_l4 a b _ _ hl (by omega) a.length 0 (by omega) ?_
    rw [List.drop_zero, List.drop_zero]
    split
    · rename_i e; rw [decide_eq_true e] at h; exact h
    · rename_i e; rw [decide_eq_false e] at h; exact h
  · rename_i hab
    rw [decide_eq_false (fun e => hab (by rw [e]))] at h
    exact h
theorem same_self (a : List Int) (K0 : Bool → Prop) (hl : a.length ≤ 1000000) (h : K0 true) : R01_Same a a K0 :=
  same_spec a a K0 hl (by rw [decide_eq_true rfl]; exact h)
def wL : List Int := [2, 2, 2, 2, 4, 4, 4, 4, 8, 8, 8, 8, 8]
def wN (i : Nat) : Nat := [2, 2, 2, 2, 4, 4, 4, 4, 8, 8, 8, 8, 8].getD i 0
def sN (i : Nat) : Nat := [0, 2, 4, 6, 8, 12, 16, 20, 24, 32, 40, 48, 56, 64].getD i 0
def widthV (b : Int) : Int := if 0 ≤ b ∧ b < 13 then (wN b.toNat : Int) else 0
def startV (b : Int) : Int := if 0 ≤ b ∧ b < 13 then (sN b.toNat : Int) else 0
def ofR (k : Int) (i : Nat) : Nat → Int
  | 0 => -1
  | n + 1 => if (sN i : Int) ≤ k ∧ k < sN i + wN i then (i : Int) else ofR k (i + 1) n
def ofV (k : Int) : Int := ofR k 0 13
def cutV (x : List Int) : List (List Int) := tab 13 fun i => (x.drop (sN i)).take (wN i)
def joinB (l : List (List Int)) : Bool := decide (l.length = 13) && (List.range 13).all fun i => decide ((l.getD i []).length = wN i)

theorem sN_succ : ∀ i, i < 13 → sN (i + 1) = sN i + wN i := by decide
theorem wN_at : ∀ i, i < 13 → wL.getD i 0 = (wN i : Int) := by decide
theorem wN_bd : ∀ i, i < 13 → 2 ≤ wN i ∧ wN i ≤ 8 := by decide
theorem sN_bd : ∀ i, i < 14 → sN i ≤ 64 := by decide
theorem of_at : ∀ p : Nat, p < 64 → 0 ≤ ofV (p : Int) ∧ ofV (p : Int) ≤ 12 ∧ startV (ofV (p : Int)) ≤ p ∧ (p : Int) < startV (ofV (p : Int)) + widthV (ofV (p : Int)) := by decide
theorem wl_length : wL.length = 13 := rfl

theorem width_spec (b : Int) (K0 : Int → Prop) (h : K0 (widthV b)) : layout_Width b K0 := by
  rw [layout_Width_def]
  unfold widthV at h
  simp only [br_dec, br_and, layout_widths_def]
  by_cases h1 : b < 0
  · rw [if_pos h1]; rw [if_neg (by omega)] at h; exact h
  · rw [if_neg h1]
    by_cases h2 : 13 ≤ b
    · rw [if_pos h2]; rw [if_neg (by omega)] at h; exact h
    · rw [if_neg h2]
      rw [if_pos (by omega)] at h
      rw [if_pos (by omega), if_pos (by omega), if_pos (by show b.toNat < 13; omega)]
      have : wL.getD b.toNat 0 = (wN b.toNat : Int) := wN_at _ (by omega)
      show K0 (wL.getD b.toNat 0)
      rw [this]; exact h

/-! ### Ranges over the bands -/
def Pb (S : Type) (rd : (Int × Int × Unit) → S → (Bool → S → Prop) → Prop) (K0 : S → Prop) (i : Nat) (s : S) : Prop := ∃ q, It_layout_bands_1_l2 S rd q (sN i : Int) wL (i : Int) s K0 K0
section
variable {S : Type} {rd : (Int × Int × Unit) → S → (Bool → S → Prop) → Prop} {K0 : S → Prop}
theorem pb_all {s : S} (h : Pb S rd K0 0 s) : It_layout_bands_1 S rd s K0 := by
  rw [It_layout_bands_1_def, layout_widths_def]
  exact h
theorem pb_end {s : S} (h : K0 s) : Pb S rd K0 13 s := ⟨1, by simp only [It_layout_bands_1_l2, br_dec]; rw [if_neg (by omega)]; exact h⟩
theorem pb_go {i : Nat} (hi : i < 13) {s : S} (s' : S) (hrd : ∀ Kb : Bool → S → Prop, Kb true s' → rd ((sN i : Int), (wN i : Int), ()) s Kb) (h : Pb S rd K0 (i + 1) s') : Pb S rd K0 i s := by
  obtain ⟨q, hq⟩ := h
  refine ⟨q + 1, ?_⟩
  have h1 := wN_at i hi
  have h2 := sN_succ i hi
  have h3 := sN_bd i (by omega)
  have h4 := wN_bd i hi
  simp only [It_layout_bands_1_l2, br_dec, br_and, Int.toNat_natCast, h1]
  rw [if_pos (by omega), if_pos (by omega), if_pos (by omega)]
  refine hrd _ ?_
  show It_layout_bands_1_l2 S rd q _ _ _ _ K0 K0
  rw [iadd64 (by omega), i64_succ i (by omega), show ((sN i : Int) + (wN i : Int)) = (sN (i + 1) : Int) by omega]
  exact hq
theorem pb_stop {i : Nat} (hi : i < 13) {s : S} (g : S) (hrd : ∀ Kb : Bool → S → Prop, Kb false g → rd ((sN i : Int), (wN i : Int), ()) s Kb) (h : K0 g) : Pb S rd K0 i s := by
  refine ⟨1, ?_⟩
  have h1 := wN_at i hi
  simp only [It_layout_bands_1_l2, br_dec, br_and, Int.toNat_natCast, h1]
  rw [if_pos (by omega), if_pos (by omega), if_pos (by omega)]
  exact hrd _ h
end

abbrev S1 := Rs (Unit × (Int × Int × Unit)) (Sum (Unit × (Int × Unit)) Empty)
theorem isub_min : isub .i64 (-9223372036854775808) 1 = 9223372036854775807 := by decide
/-- What b is behind i rounds, where it is none that a band has. -/
theorem start_far {rd : (Int × Int × Unit) → S1 → (Bool → S1 → Prop) → Prop} {K0 : S1 → Prop} (hrd : rd = fun x s Kb => s.on fun (v : Unit × (Int × Int × Unit)) => layout_Start_r2b x.1 x.2.1 v.2.1 v.2.2.1 (fun (y0 : Int) (y1 : Int) => Kb true (.go ((()), (y0, y1, ())))) (fun (y0 : Int) => Kb false (.jp (.inl ((()), (y0, ()))))))
    (hK : ∀ c, K0 (.go ((), (c, 0, ())))) : ∀ (n i : Nat) (c : Int), i + n = 13 → ((-9223372036854775808 ≤ c ∧ c ≤ -1) ∨ (13 - (i : Int) ≤ c ∧ c ≤ 9223372036854775807)) → Pb S1 rd K0 i (.go ((), (c, 0, ()))) := by
  intro n
  subst hrd
  induction n with
  | zero =>
    intro i c hi _
    have : i = 13 := by omega
    subst this
    exact pb_end (hK c)
  | succ n ih =>
    intro i c hi hc
    refine pb_go (by omega) (.go ((), (isub .i64 c 1, 0, ()))) (fun Kb hKb => ?_) (ih (i + 1) _ (by omega) ?_)
    · simp only [Rs.on, layout_Start_r2b, br_dec]
      rw [if_neg]
      · exact hKb
      · by_cases hm : c = -9223372036854775808
        · subst hm; rw [isub_min]; omega
        · rw [isub64 (by omega)]; omega
    · by_cases hm : c = -9223372036854775808
      · subst hm; rw [isub_min]; omega
      · rw [isub64 (by omega)]; omega
theorem start_near {rd : (Int × Int × Unit) → S1 → (Bool → S1 → Prop) → Prop} {K0 : S1 → Prop} (hrd : rd = fun x s Kb => s.on fun (v : Unit × (Int × Int × Unit)) => layout_Start_r2b x.1 x.2.1 v.2.1 v.2.2.1 (fun (y0 : Int) (y1 : Int) => Kb true (.go ((()), (y0, y1, ())))) (fun (y0 : Int) => Kb false (.jp (.inl ((()), (y0, ()))))))
    (b : Nat) (hb : b < 13) (hK : K0 (.jp (.inl ((), ((sN b : Int), ()))))) : ∀ n i, i + n = b → Pb S1 rd K0 i (.go ((), ((n : Int), 0, ()))) := by
  intro n
  subst hrd
  induction n with
  | zero =>
    intro i hi
    have : i = b := by omega
    subst this
    refine pb_stop hb _ (fun Kb hKb => ?_) hK
    simp only [Rs.on, layout_Start_r2b, br_dec]
    rw [if_pos (by decide)]
    exact hKb
  | succ n ih =>
    intro i hi
    refine pb_go (by omega) (.go ((), ((n : Int), 0, ()))) (fun Kb hKb => ?_) (ih (i + 1) (by omega))
    simp only [Rs.on, layout_Start_r2b, br_dec]
    rw [isub64 (by omega), if_neg (by omega), show ((n + 1 : Nat) : Int) - 1 = (n : Int) by omega]
    exact hKb
theorem start_spec (b : Int) (hb : -9223372036854775808 ≤ b ∧ b ≤ 9223372036854775807) (K0 : Int → Prop) (h : K0 (startV b)) : layout_Start b K0 := by
  rw [layout_Start_def, layout_bands_def]
  unfold layout_Start_r2
  unfold startV at h
  by_cases hc : 0 ≤ b ∧ b < 13
  · rw [if_pos hc] at h
    refine pb_all ?_
    have := start_near (K0 := fun s => s.fin (fun (v : Unit × (Int × Int × Unit)) => (fun (m3 : Int) (m4 : Int) => K0 0) v.2.1 v.2.2.1) (jon (fun (v : Unit × (Int × Unit)) => K0 v.2.1) (fun _ => False))) rfl b.toNat (by omega) h b.toNat 0 (by omega)
    rw [Int.toNat_of_nonneg hc.1] at this
    exact this
  · rw [if_neg hc] at h
    exact pb_all (start_far rfl (fun c => h) 13 0 b rfl (by omega))

abbrev S2 := Rs (Unit × (Int × Int × Int × Unit)) (Sum (Unit × (Int × Unit)) Empty)
theorem of_pb {rd : (Int × Int × Unit) → S2 → (Bool → S2 → Prop) → Prop} {K0 : S2 → Prop} (hrd : rd = fun x s Kb => s.on fun (v : Unit × (Int × Int × Int × Unit)) => layout_Of_r3b x.1 x.2.1 v.2.1 v.2.2.1 v.2.2.2.1 (fun (y0 : Int) (y1 : Int) (y2 : Int) => Kb true (.go ((()), (y0, y1, y2, ())))) (fun (y0 : Int) => Kb false (.jp (.inl ((()), (y0, ()))))))
    (k : Int) (K : Int → Prop) (hK : ∀ c, K (-1) → K0 (.go ((), (k, 0, c, ())))) (hJ : ∀ c, K c → K0 (.jp (.inl ((), (c, ()))))) : ∀ n i, i + n = 13 → K (ofR k i n) → Pb S2 rd K0 i (.go ((), (k, 0, (i : Int), ()))) := by
  intro n
  subst hrd
  induction n with
  | zero =>
    intro i hi h
    have : i = 13 := by omega
    subst this
    exact pb_end (hK _ h)
  | succ n ih =>
    intro i hi h
    have h3 := sN_bd i (by omega)
    have h4 := wN_bd i (by omega)
    unfold ofR at h
    by_cases hc : (sN i : Int) ≤ k ∧ k < sN i + wN i
    · rw [if_pos hc] at h
      refine pb_stop (by omega) _ (fun Kb hKb => ?_) (hJ _ h)
      simp only [Rs.on, layout_Of_r3b, layout_Of_j6, br_dec]
      rw [if_pos (by omega), iadd64 (by omega), if_pos (by omega)]
      exact hKb
    · rw [if_neg hc] at h
      refine pb_go (by omega) (.go ((), (k, 0, ((i + 1 : Nat) : Int), ()))) (fun Kb hKb => ?_) (ih (i + 1) (by omega) h)
      simp only [Rs.on, layout_Of_r3b, layout_Of_j6, br_dec, i64_succ i (show i < 1000000000 by omega)]
      split
      · rw [iadd64 (by omega), if_neg (by omega)]; exact hKb
      · exact hKb
theorem of_spec (k : Int) (K0 : Int → Prop) (h : K0 (ofV k)) : layout_Of k K0 := by
  rw [layout_Of_def, layout_bands_def]
  unfold layout_Of_r3
  exact pb_all (of_pb rfl k K0 (fun _ h => h) (fun _ h => h) 13 0 rfl h)

theorem clone_spec (s : List Int) (h0 : 0 < s.length) (hl : s.length ≤ 1000000) (K0 : List Int → Prop) (h : K0 s) : slices_Clone___int_int_ s K0 := by
  rw [slices_Clone___int_int__def]
  simp only [br_dec, List.replicate_zero, List.nil_append, List.length_nil]
  rw [if_pos h0, if_pos (by omega)]
  exact h
abbrev S3 := Rs (Unit × (List Int × List (List Int) × Unit)) Empty
theorem cut_pb {rd : (Int × Int × Unit) → S3 → (Bool → S3 → Prop) → Prop} {K0 : S3 → Prop} (hrd : rd = fun x s Kb => s.on fun (v : Unit × (List Int × List (List Int) × Unit)) => layout_Cut_r5b x.1 x.2.1 v.2.1 v.2.2.1 (fun (y0 : List Int) (y1 : List (List Int)) => Kb true (.go ((()), (y0, y1, ())))))
    (x : List Int) (hx : x.length = 64) (h : K0 (.go ((), (x, cutV x, ())))) : ∀ n i, i + n = 13 → Pb S3 rd K0 i (.go ((), (x, tab i fun i => (x.drop (sN i)).take (wN i), ()))) := by
  intro n
  subst hrd
  induction n with
  | zero =>
    intro i hi
    have : i = 13 := by omega
    subst this
    exact pb_end h
  | succ n ih =>
    intro i hi
    have h3 := sN_bd (i + 1) (by omega)
    have h4 := wN_bd i (by omega)
    have h5 := sN_succ i (by omega)
    refine pb_go (by omega) _ (fun Kb hKb => ?_) (ih (i + 1) (by omega))
    simp only [Rs.on, layout_Cut_r5b, br_dec, br_and]
    have e : iadd .i64 (sN i : Int) (wN i : Int) = ((sN i + wN i : Nat) : Int) := by rw [iadd64 (by omega)]; omega
    rw [e, Int.toNat_natCast, Int.toNat_natCast, if_pos (by omega), if_pos (by omega), if_pos (by omega), if_pos (by omega), show sN i + wN i - sN i = wN i by omega]
    have hl : ((x.drop (sN i)).take (wN i)).length = wN i := by simp; omega
    refine clone_spec _ (by omega) (by omega) _ ?_
    rw [if_pos (by rw [tab_length]; simp; omega), tab_snoc i (fun i => (x.drop (sN i)).take (wN i))]
    exact hKb
theorem cut_spec (x : List Int) (K0 : Prop) (K1 : List (List Int) → Prop) (h : if x.length = 64 then K1 (cutV x) else K0) : layout_Cut x K0 K1 := by
  rw [layout_Cut_def]
  simp only [br_not, br_dec]
  split at h
  · rename_i hx
    rw [if_pos (by omega), layout_bands_def]
    unfold layout_Cut_r5
    exact pb_all (cut_pb rfl x hx h 13 0 rfl)
  · rename_i hx
    rw [if_neg (by omega)]
    exact h

/-! ### Lists joined -/
def fl (l : List (List Int)) (i : Nat) : List Int := (l.take i).flatten
theorem fl_succ {l : List (List Int)} {i : Nat} (hi : i < l.length) : fl l (i + 1) = fl l i ++ l.getD i [] := by
  unfold fl
  rw [List.take_add_one, List.flatten_append]
  simp [List.getD, List.getElem?_eq_getElem hi]
theorem fl_all (l : List (List Int)) : fl l l.length = l.flatten := by simp [fl]
theorem concat_l3 (l : List (List Int)) (hl : l.length ≤ 1000) (hb : ∀ i, i < l.length → (l.getD i []).length ≤ 1000) (K0 : List (List Int) → Int → Prop) (h : ∀ n : Nat, n ≤ 1000000 → K0 l n) : ∀ n i (z : Nat), i + n = l.length → z ≤ i * 1000 →
    ∃ q, slices_Concat___int_int__l3 q l (z : Int) l (l.length : Int) (i : Int) K0 := by
  intro n
  induction n with
  | zero =>
    intro i z hi hz
    refine ⟨1, ?_⟩
    simp only [slices_Concat___int_int__l3, br_dec]
    rw [if_neg (by omega)]
    exact h z (by omega)
  | succ n ih =>
    intro i z hi hz
    have hb' := hb i (by omega)
    obtain ⟨q, hq⟩ := ih (i + 1) (z + (l.getD i []).length) (by omega) (by omega)
    refine ⟨q + 1, ?_⟩
    have e : iadd .i64 (z : Int) ((l.getD i []).length : Int) = ((z + (l.getD i []).length : Nat) : Int) := by rw [iadd64 (by omega)]; omega
    simp only [slices_Concat___int_int__l3, br_dec, br_and, Int.toNat_natCast, e, i64_succ i (show i < 1000000000 by omega)]
    rw [if_pos (by omega), if_pos (by omega), if_pos (by omega), if_neg (by omega)]
    exact hq
theorem concat_l11 (l : List (List Int)) (hl : l.length ≤ 1000) (hb : ∀ i, i < l.length → (l.getD i []).length ≤ 1000) (K0 : List Int → Prop) (h : K0 l.flatten) : ∀ n i, i + n = l.length → (fl l i).length ≤ i * 1000 →
    ∃ q, slices_Concat___int_int__l11 q l (l.length : Int) (i : Int) (fl l i) K0 := by
  intro n
  induction n with
  | zero =>
    intro i hi hz
    refine ⟨1, ?_⟩
    simp only [slices_Concat___int_int__l11, br_dec]
    rw [if_neg (by omega), show i = l.length by omega, fl_all]
    exact h
  | succ n ih =>
    intro i hi hz
    have hb' := hb i (by omega)
    have hs := fl_succ (l := l) (i := i) (by omega)
    obtain ⟨q, hq⟩ := ih (i + 1) (by omega) (by rw [hs, List.length_append]; omega)
    refine ⟨q + 1, ?_⟩
    simp only [slices_Concat___int_int__l11, br_dec, br_and, Int.toNat_natCast, i64_succ i (show i < 1000000000 by omega)]
    rw [if_pos (by omega), if_pos (by omega), if_pos (by omega), if_pos (by omega), ← hs]
    exact hq
theorem concat_spec (l : List (List Int)) (hl : l.length ≤ 1000) (hb : ∀ i, i < l.length → (l.getD i []).length ≤ 1000) (K0 : List Int → Prop) (h : K0 l.flatten) : slices_Concat___int_int_ l K0 := by
  rw [slices_Concat___int_int__def]
  have j10 : slices_Concat___int_int__j10 l [] K0 := by
    unfold slices_Concat___int_int__j10
    exact concat_l11 l hl hb K0 h l.length 0 (by omega) (by simp [fl])
  refine concat_l3 l hl hb _ (fun n hn => ?_) l.length 0 0 (by omega) (by omega)
  rw [slices_Grow___int_int___nil0_def]
  have e : isub .i64 (n : Int) (isub .i64 0 0) = (n : Int) := by rw [isub64 (a := 0) (by omega), isub64 (by omega)]; omega
  simp only [br_dec, br_and, e]
  rw [if_neg (by omega)]
  split
  · rw [if_pos (by omega)]; exact j10
  · exact j10
theorem join_l4 (l : List (List Int)) (hl : l.length = 13) (K0 : Prop) (K1 : List (List Int) → Prop) : ∀ n i, i + n = 13 → (if (List.range' i n).all (fun i => decide ((l.getD i []).length = wN i)) = true then K1 l else K0) →
    ∃ q, layout_Join_l4 q l l (l.length : Int) (i : Int) K0 K1 := by
  intro n
  induction n with
  | zero =>
    intro i hi h
    refine ⟨1, ?_⟩
    simp only [layout_Join_l4, br_dec]
    rw [if_neg (by omega)]
    simpa using h
  | succ n ih =>
    intro i hi h
    rw [List.range'_succ, List.all_cons] at h
    have hw : widthV (i : Int) = (wN i : Int) := by unfold widthV; rw [if_pos (by omega), Int.toNat_natCast]
    by_cases hx : (l.getD i []).length = wN i
    · rw [decide_eq_true hx, Bool.true_and] at h
      obtain ⟨q, hq⟩ := ih (i + 1) (by omega) h
      refine ⟨q + 1, ?_⟩
      simp only [layout_Join_l4, br_dec, br_and, br_not, Int.toNat_natCast, i64_succ i (show i < 1000000000 by omega)]
      rw [if_pos (by omega), if_pos (by omega), if_pos (by omega)]
      refine width_spec _ _ ?_
      rw [hw, if_pos (by omega)]
      exact hq
    · rw [decide_eq_false hx, Bool.false_and] at h
      refine ⟨1, ?_⟩
      simp only [layout_Join_l4, br_dec, br_and, br_not, Int.toNat_natCast]
      rw [if_pos (by omega), if_pos (by omega), if_pos (by omega)]
      refine width_spec _ _ ?_
      rw [hw, if_neg (by omega)]
      simpa using h
theorem joinB_at {l : List (List Int)} (h : joinB l = true) : l.length = 13 ∧ ∀ i, i < 13 → (l.getD i []).length = wN i := by
  simp only [joinB, Bool.and_eq_true, decide_eq_true_eq, List.all_eq_true, List.mem_range] at h
  exact h
theorem join_spec (l : List (List Int)) (K0 : Prop) (K1 : List Int → Prop) (h : if joinB l = true then K1 l.flatten else K0) : layout_Join l K0 K1 := by
  rw [layout_Join_def]
  simp only [br_not, br_dec]
  by_cases hl : l.length = 13
  · rw [if_pos (by omega)]
    refine join_l4 l hl K0 _ 13 0 rfl ?_
    rw [← List.range_eq_range']
    by_cases hj : joinB l = true
    · rw [if_pos hj] at h
      have h2 := hj
      simp only [joinB, Bool.and_eq_true] at h2
      rw [if_pos h2.2]
      exact concat_spec l (by omega) (fun i hi => by have := (joinB_at hj).2 i (by omega); have := wN_bd i (by omega); omega) K1 h
    · rw [if_neg hj] at h
      have : ¬ (List.range 13).all (fun i => decide ((l.getD i []).length = wN i)) = true := fun hh => hj (by simp only [joinB, hh, Bool.and_true]; exact decide_eq_true hl)
      rw [if_neg this]
      exact h
  · rw [if_neg (by omega)]
    have : ¬ joinB l = true := fun hh => hl (joinB_at hh).1
    rw [if_neg this] at h
    exact h
theorem fl_cut (x : List Int) : ∀ i, i ≤ 13 → fl (cutV x) i = x.take (sN i)
  | 0, _ => by simp [fl, sN]
  | i + 1, hi => by
    have hl : (cutV x).length = 13 := tab_length _ _
    rw [fl_succ (by omega), fl_cut x i (by omega), sN_succ i (by omega), List.take_add]
    congr 1
    exact tab_get _ _ _ (by omega)
theorem cut_join (x : List Int) (hx : x.length = 64) : joinB (cutV x) = true ∧ (cutV x).flatten = x := by
  have hl : (cutV x).length = 13 := tab_length _ _
  constructor
  · simp only [joinB, hl, decide_true, Bool.true_and, List.all_eq_true, List.mem_range, decide_eq_true_eq]
    intro i hi
    have e : (cutV x).getD i [] = (x.drop (sN i)).take (wN i) := tab_get _ _ _ hi
    have h1 := sN_succ i hi
    have h2 := sN_bd (i + 1) (by omega)
    rw [e]; simp; omega
  · have := fl_all (cutV x)
    rw [hl, fl_cut x 13 (by omega)] at this
    rw [← this]
    exact List.take_of_length_le (by rw [hx]; decide)

theorem awake_spec (K : Bool → Prop) (h : K true) : L13_awake K := by
  rw [L13_awake_def]
  refine width_spec _ _ ?_
  rw [br_dec, if_pos (by decide)]
  refine start_spec _ (by omega) _ ?_
  rw [br_dec, if_pos (by decide)]
  refine of_spec _ _ ?_
  rw [br_dec, if_pos (by decide)]
  refine of_spec _ _ ?_
  rw [br_dec, if_pos (by decide)]
  refine cut_spec _ _ _ ?_
  rw [if_pos (by simp)]
  exact h
theorem rwidth_spec (b : Int) (K0 : Int → Prop) (h : K0 (widthV b)) : R13_Width b K0 := by
  rw [R13_Width_def]
  unfold widthV at h
  simp only [R13_Width_j2, br_dec, br_true]
  by_cases h1 : b < 0
  · rw [if_pos h1]; rw [if_neg (by omega)] at h; exact h
  · rw [if_neg h1]
    by_cases h2 : 12 < b
    · rw [if_pos h2]; rw [if_neg (by omega)] at h; exact h
    · rw [if_neg h2]
      rw [if_pos (by omega)] at h
      have hw : ∀ i, i < 13 → wN i = if i < 4 then 2 else if i < 8 then 4 else 8 := by decide
      rw [hw _ (by omega)] at h
      split
      · rw [if_pos (by omega)] at h; exact h
      · rw [if_neg (by omega)] at h
        split
        · rw [if_pos (by omega)] at h; exact h
        · rw [if_neg (by omega)] at h; exact h
theorem rstart_l3 (b : Nat) (hb : b < 13) (K0 : Int → Prop) (h : K0 (sN b : Int)) : ∀ n i, i + n = b → ∃ q, R13_Start_l3 q (b : Int) (sN i : Int) (i : Int) K0 := by
  intro n
  induction n with
  | zero =>
    intro i hi
    refine ⟨1, ?_⟩
    have : i = b := by omega
    subst this
    simp only [R13_Start_l3, br_dec]
    rw [if_neg (by omega)]
    exact h
  | succ n ih =>
    intro i hi
    obtain ⟨q, hq⟩ := ih (i + 1) (by omega)
    refine ⟨q + 1, ?_⟩
    have hw : widthV (i : Int) = (wN i : Int) := by unfold widthV; rw [if_pos (by omega), Int.toNat_natCast]
    have h1 := sN_succ i (by omega)
    have h2 := sN_bd (i + 1) (by omega)
    simp only [R13_Start_l3, br_dec]
    rw [if_pos (by omega), if_pos (by omega)]
    refine rwidth_spec _ _ ?_
    rw [hw, iadd64 (by omega), i64_succ i (by omega), show ((sN i : Int) + (wN i : Int)) = (sN (i + 1) : Int) by omega]
    exact hq
theorem rstart_spec (b : Int) (K0 : Int → Prop) (h : K0 (startV b)) : R13_Start b K0 := by
  rw [R13_Start_def]
  unfold startV at h
  by_cases hc : 0 ≤ b ∧ b < 13
  · rw [if_pos hc] at h
    have := rstart_l3 b.toNat (by omega) K0 h b.toNat 0 (by omega)
    rw [Int.toNat_of_nonneg hc.1] at this
    exact this
  · rw [if_neg hc] at h
    refine ⟨1, ?_⟩
    simp only [R13_Start_l3, br_dec]
    by_cases h0 : 0 < b
    · rw [if_pos h0, if_neg (by omega)]; exact h
    · rw [if_neg h0]; exact h
theorem sw {i : Nat} (hi : i < 13) : startV (i : Int) = (sN i : Int) ∧ widthV (i : Int) = (wN i : Int) := by
  constructor
  · unfold startV; rw [if_pos (by omega), Int.toNat_natCast]
  · unfold widthV; rw [if_pos (by omega), Int.toNat_natCast]
theorem rof_l2 (k : Int) (K : Int → Prop) : ∀ n i, i + n = 13 → K (ofR k i n) → ∃ q, R13_Of_l2 q k (i : Int) K (K (-1)) := by
  intro n
  induction n with
  | zero =>
    intro i hi h
    refine ⟨1, ?_⟩
    simp only [R13_Of_l2, br_dec]
    rw [if_neg (by omega)]
    exact h
  | succ n ih =>
    intro i hi h
    have h3 := sN_bd i (by omega)
    have h4 := wN_bd i (by omega)
    obtain ⟨e1, e2⟩ := sw (i := i) (by omega)
    unfold ofR at h
    by_cases hc : (sN i : Int) ≤ k ∧ k < sN i + wN i
    · rw [if_pos hc] at h
      refine ⟨1, ?_⟩
      simp only [R13_Of_l2, br_dec]
      rw [if_pos (by omega)]
      refine rstart_spec _ _ ?_
      rw [e1, if_pos (by omega)]
      refine rstart_spec _ _ (rwidth_spec _ _ ?_)
      simp only [R13_Of_j5, br_dec, e1, e2]
      rw [iadd64 (by omega), if_pos (by omega)]
      exact h
    · rw [if_neg hc] at h
      obtain ⟨q, hq⟩ := ih (i + 1) (by omega) h
      refine ⟨q + 1, ?_⟩
      simp only [R13_Of_l2, br_dec]
      rw [if_pos (by omega)]
      refine rstart_spec _ _ ?_
      rw [e1]
      by_cases hs : (sN i : Int) ≤ k
      · rw [if_pos hs]
        refine rstart_spec _ _ (rwidth_spec _ _ ?_)
        simp only [R13_Of_j5, br_dec, e1, e2, i64_succ i (show i < 1000000000 by omega)]
        rw [iadd64 (by omega), if_neg (by omega)]
        exact hq
      · rw [if_neg hs]
        simp only [R13_Of_j5, br_false, i64_succ i (show i < 1000000000 by omega)]
        exact hq
theorem rof_spec (k : Int) (K0 : Int → Prop) (h : K0 (ofV k)) : R13_Of k K0 := by
  rw [R13_Of_def]
  exact rof_l2 k K0 13 0 rfl h
theorem rcut_l5 (x : List Int) (hx : x.length = 64) (K0 : List (List Int) → Prop) (h : K0 (cutV x)) : ∀ n i : Nat, i + n = 13 → ∃ q, R13_Cut_l5 q x (i : Int) (tab i fun i => (x.drop (sN i)).take (wN i)) K0 := by
  intro n
  induction n with
  | zero =>
    intro i hi
    refine ⟨1, ?_⟩
    have : i = 13 := by omega
    subst this
    simp only [R13_Cut_l5, br_dec]
    rw [if_neg (by omega)]
    exact h
  | succ n ih =>
    intro i hi
    obtain ⟨q, hq⟩ := ih (i + 1) (by omega)
    refine ⟨q + 1, ?_⟩
    have h3 := sN_bd (i + 1) (by omega)
    have h4 := wN_bd i (by omega)
    have h5 := sN_succ i (by omega)
    obtain ⟨e1, e2⟩ := sw (i := i) (by omega)
    have e : iadd .i64 (sN i : Int) (wN i : Int) = ((sN i + wN i : Nat) : Int) := by rw [iadd64 (by omega)]; omega
    simp only [R13_Cut_l5, br_dec, br_and]
    rw [if_pos (by omega)]
    refine rstart_spec _ _ (rstart_spec _ _ (rwidth_spec _ _ ?_))
    rw [e1, e2, e, Int.toNat_natCast, Int.toNat_natCast, if_pos (by omega), if_pos (by omega), if_pos (by omega), if_pos (by omega), show sN i + wN i - sN i = wN i by omega]
    rw [if_pos (by rw [tab_length]; simp; omega), tab_snoc i (fun i => (x.drop (sN i)).take (wN i)), i64_succ i (by omega)]
    exact hq
theorem rcut_spec (x : List Int) (K0 : Prop) (K1 : List (List Int) → Prop) (h : if x.length = 64 then K1 (cutV x) else K0) : R13_Cut x K0 K1 := by
  rw [R13_Cut_def]
  simp only [br_not, br_dec]
  split at h
  · rename_i hx
    rw [if_pos (by omega)]
    exact rcut_l5 x hx K1 h 13 0 rfl
  · rename_i hx
    rw [if_neg (by omega)]
    exact h
theorem rjoin_l5 (l : List (List Int)) (hl : l.length = 13) (K0 : Prop) (K1 : List Int → Prop) : ∀ n i, i + n = 13 → (fl l i).length ≤ i * 8 → (if (List.range' i n).all (fun i => decide ((l.getD i []).length = wN i)) = true then K1 l.flatten else K0) →
    ∃ q, R13_Join_l5 q l (i : Int) (fl l i) K0 K1 := by
  intro n
  induction n with
  | zero =>
    intro i hi hz h
    refine ⟨1, ?_⟩
    simp only [R13_Join_l5, br_dec]
    rw [if_neg (by omega), show i = l.length by omega, fl_all]
    simpa using h
  | succ n ih =>
    intro i hi hz h
    rw [List.range'_succ, List.all_cons] at h
    obtain ⟨_, hw⟩ := sw (i := i) (by omega)
    by_cases hx : (l.getD i []).length = wN i
    · rw [decide_eq_true hx, Bool.true_and] at h
      have hb := wN_bd i (by omega)
      have hs := fl_succ (l := l) (i := i) (by omega)
      obtain ⟨q, hq⟩ := ih (i + 1) (by omega) (by rw [hs, List.length_append]; omega) h
      refine ⟨q + 1, ?_⟩
      simp only [R13_Join_l5, br_dec, br_and, br_not, Int.toNat_natCast, i64_succ i (show i < 1000000000 by omega)]
      rw [if_pos (by omega), if_pos (by omega), if_pos (by omega)]
      refine rwidth_spec _ _ ?_
      rw [hw, if_pos (by omega), if_pos (by omega), if_pos (by omega), if_pos (by omega), ← hs]
      exact hq
    · rw [decide_eq_false hx, Bool.false_and] at h
      refine ⟨1, ?_⟩
      simp only [R13_Join_l5, br_dec, br_and, br_not, Int.toNat_natCast]
      rw [if_pos (by omega), if_pos (by omega), if_pos (by omega)]
      refine rwidth_spec _ _ ?_
      rw [hw, if_neg (by omega)]
      simpa using h
theorem rjoin_spec (l : List (List Int)) (K0 : Prop) (K1 : List Int → Prop) (h : if joinB l = true then K1 l.flatten else K0) : R13_Join l K0 K1 := by
  rw [R13_Join_def]
  simp only [br_not, br_dec]
  by_cases hl : l.length = 13
  · rw [if_pos (by omega)]
    refine rjoin_l5 l hl K0 _ 13 0 rfl (by simp [fl]) ?_
    rw [← List.range_eq_range']
    by_cases hj : joinB l = true
    · rw [if_pos hj] at h
      have h2 := hj
      simp only [joinB, Bool.and_eq_true] at h2
      rw [if_pos h2.2]
      exact h
    · rw [if_neg hj] at h
      have : ¬ (List.range 13).all (fun i => decide ((l.getD i []).length = wN i)) = true := fun hh => hj (by simp only [joinB, hh, Bool.and_true]; exact decide_eq_true hl)
      rw [if_neg this]
      exact h
  · rw [if_neg (by omega)]
    have : ¬ joinB l = true := fun hh => hl (joinB_at hh).1
    rw [if_neg this] at h
    exact h
theorem sameAll_l4 (a : List (List Int)) (hl : a.length ≤ 1000) (hb : ∀ i, i < a.length → (a.getD i []).length ≤ 1000) (K0 : Bool → Prop) (K1 : Prop) (h : K1) : ∀ n i, i + n = a.length → ∃ q, R01_SameAll_l4 q a a (i : Int) K0 K1 := by
  intro n
  induction n with
  | zero =>
    intro i hi
    refine ⟨1, ?_⟩
    simp only [R01_SameAll_l4, br_dec]
    rw [if_neg (by omega)]
    exact h
  | succ n ih =>
    intro i hi
    obtain ⟨q, hq⟩ := ih (i + 1) (by omega)
    refine ⟨q + 1, ?_⟩
    have hb' := hb i (by omega)
    simp only [R01_SameAll_l4, br_dec, br_and, br_not, Int.toNat_natCast, i64_succ i (show i < 1000000000 by omega)]
    rw [if_pos (by omega), if_pos (by omega), if_pos (by omega), if_pos (by omega), if_pos (by omega)]
    exact same_self _ _ (by omega) hq
theorem sameAll_self (a : List (List Int)) (hl : a.length ≤ 1000) (hb : ∀ i, i < a.length → (a.getD i []).length ≤ 1000) (K0 : Bool → Prop) (h : K0 true) : R01_SameAll a a K0 := by
  rw [R01_SameAll_def, br_not, br_dec, if_pos rfl]
  exact sameAll_l4 a hl hb K0 _ h a.length 0 (by omega)
theorem tells_l4 (b : Int) (x : List Int) (l : List (List Int)) (hl : l.length ≤ 15) (K0 : Bool → Prop) (K1 : Int → List Int → List (List Int) → Prop) (ha : L13_awake K0) (h : (∀ i, i < l.length → (l.getD i []).length ≤ 10) → K1 b x l) : ∀ n i, i + n = l.length → (∀ j, j < i → (l.getD j []).length ≤ 10) →
    ∃ q, L13_LayoutTells_l4 q b x l (i : Int) K0 K1 := by
  intro n
  induction n with
  | zero =>
    intro i hi hb
    refine ⟨1, ?_⟩
    simp only [L13_LayoutTells_l4, br_dec]
    rw [if_neg (by omega)]
    exact h fun j hj => hb j (by omega)
  | succ n ih =>
    intro i hi hb
    by_cases hx : (l.getD i []).length ≤ 10
    · obtain ⟨q, hq⟩ := ih (i + 1) (by omega) (fun j hj => by
        by_cases e : j = i
        · subst e; exact hx
        · exact hb j (by omega))
      refine ⟨q + 1, ?_⟩
      simp only [L13_LayoutTells_l4, br_dec, br_and, Int.toNat_natCast, i64_succ i (show i < 1000000000 by omega)]
      rw [if_pos (by omega), if_pos (by omega), if_pos (by omega), if_neg (by omega)]
      exact hq
    · refine ⟨1, ?_⟩
      simp only [L13_LayoutTells_l4, br_dec, br_and, Int.toNat_natCast]
      rw [if_pos (by omega), if_pos (by omega), if_pos (by omega), if_pos (by omega)]
      exact ha
theorem tells (b : Int) (x : List Int) (l : List (List Int)) (hb : Rng (.int .i64) b) (_ : Rng (.sl (.int .i64)) x) (_ : Rng (.sl (.sl (.int .i64))) l) (K : Bool → Prop) (h : K true) : L13_LayoutTells b x l K := by
  have ha := awake_spec K h
  have hb' := rng64 hb
  rw [L13_LayoutTells_def]
  simp only [L13_LayoutTells_j2, br_dec, br_true]
  split
  · exact ha
  rename_i hx
  split
  · exact ha
  rename_i hl
  unfold L13_LayoutTells_j3
  refine tells_l4 b x l (by omega) K _ ha (fun hlb => ?_) l.length 0 (by omega) (fun j hj => by omega)
  refine width_spec _ _ (rwidth_spec _ _ ?_)
  rw [br_dec, if_pos rfl]
  refine start_spec _ hb' _ (rstart_spec _ _ ?_)
  rw [br_dec, if_pos rfl]
  refine of_spec _ _ (rof_spec _ _ ?_)
  rw [br_dec, if_pos rfl]
  have join2 : ∀ (r : List Int), r.length ≤ 1000000 → R01_Same r r fun (r10 : Bool) => Br r10 (L13_awake K) (K false) := fun r hr => same_self _ _ hr ha
  have hfl : joinB l = true → l.flatten.length ≤ 1000000 := fun hj => by
    obtain ⟨h1, h2⟩ := joinB_at hj
    have : ∀ i, i ≤ 13 → (fl l i).length ≤ i * 8 := by
      intro i
      induction i with
      | zero => intro _; simp [fl]
      | succ i ih =>
        intro hi
        rw [fl_succ (by omega), List.length_append, h2 i (by omega)]
        have := ih (by omega)
        have := wN_bd i (by omega)
        omega
    have h3 := this 13 (by omega)
    rw [← h1, fl_all] at h3
    omega
  refine cut_spec _ _ _ ?_
  by_cases h64 : x.length = 64
  · rw [if_pos h64]
    refine rcut_spec _ _ _ ?_
    rw [if_pos h64]
    have hcl : (cutV x).length = 13 := tab_length _ _
    refine sameAll_self _ (by omega) (fun i hi => by
      have := (joinB_at (cut_join x h64).1).2 i (by omega)
      have := wN_bd i (by omega)
      omega) _ ?_
    refine br_t rfl (join_spec _ _ _ ?_)
    by_cases hj : joinB l = true
    · rw [if_pos hj]
      refine rjoin_spec _ _ _ ?_
      rw [if_pos hj]
      exact join2 _ (hfl hj)
    · rw [if_neg hj]
      refine rjoin_spec _ _ _ ?_
      rw [if_neg hj]
      exact join2 _ (by decide)
  · rw [if_neg h64]
    refine rcut_spec _ _ _ ?_
    rw [if_neg h64]
    refine sameAll_self _ (by decide) (fun i hi => by simp at hi) _ ?_
    refine br_t rfl (join_spec _ _ _ ?_)
    by_cases hj : joinB l = true
    · rw [if_pos hj]
      refine rjoin_spec _ _ _ ?_
      rw [if_pos hj]
      exact join2 _ (hfl hj)
    · rw [if_neg hj]
      refine rjoin_spec _ _ _ ?_
      rw [if_neg hj]
      exact join2 _ (by decide)
end
end Go.Eng.A
