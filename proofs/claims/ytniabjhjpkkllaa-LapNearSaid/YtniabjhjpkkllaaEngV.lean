/- Plain lemmas for the pure functions. -/
import Derived.Test.YtniabjhjpkkllaaEngA
import Derived.IntWalk
import Derived.KernelRfl
namespace Go.Eng
open Go Go.IntWalk

theorem br_true {A B : Prop} : Br true A B = A := rfl
theorem br_false {A B : Prop} : Br false A B = B := rfl
theorem br_dec {p : Prop} [Decidable p] {A B : Prop} : Br (decide p) A B = if p then A else B := by
  by_cases h : p <;> simp [h, Br]
theorem br_not {b : Bool} {A B : Prop} : Br (!b) A B = Br b B A := by cases b <;> rfl
theorem br_and {a b : Bool} {A : Prop} : Br (a && b) A False = Br a (Br b A False) False := by cases a <;> rfl
theorem br_if {b : Bool} {A B : Prop} : Br b A B = if b = true then A else B := by cases b <;> rfl
theorem br_of {b : Bool} {A B : Prop} (h1 : b = true → A) (h2 : b = false → B) : Br b A B := by cases b <;> simp_all [Br]
theorem br_t {b : Bool} {A B : Prop} (h : b = true) (h1 : A) : Br b A B := by subst h; exact h1
theorem br_f {b : Bool} {A B : Prop} (h : b = false) (h1 : B) : Br b A B := by subst h; exact h1
theorem br_same {b : Bool} {A : Prop} : Br b A A = A := by cases b <;> rfl

theorem iadd64 {a b : Int} (h : -9223372036854775808 ≤ a + b ∧ a + b ≤ 9223372036854775807) : iadd .i64 a b = a + b := i64_in _ h
theorem isub64 {a b : Int} (h : -9223372036854775808 ≤ a - b ∧ a - b ≤ 9223372036854775807) : isub .i64 a b = a - b := i64_in _ h
theorem imul64 {a b : Int} (h : -9223372036854775808 ≤ a * b ∧ a * b ≤ 9223372036854775807) : imul .i64 a b = a * b := i64_in _ h

theorem tdiv_range {a b : Int} (hb : 1 ≤ b) (ha : -9223372036854775808 ≤ a ∧ a ≤ 9223372036854775807) : -9223372036854775808 ≤ a.tdiv b ∧ a.tdiv b ≤ 9223372036854775807 := by
  have h1 : (a.tdiv b).natAbs ≤ a.natAbs := by rw [Int.natAbs_tdiv]; exact Nat.div_le_self _ _
  by_cases h : a = -9223372036854775808
  · subst h
    have : ((-9223372036854775808 : Int).tdiv b) ≤ 0 := by
      have := Int.tdiv_nonneg (a := 9223372036854775808) (b := b) (by omega) (by omega)
      have e : (-9223372036854775808 : Int).tdiv b = -((9223372036854775808 : Int).tdiv b) := Int.neg_tdiv ..
      omega
    omega
  · omega
theorem iquo64 {a b : Int} (hb : 1 ≤ b) (ha : -9223372036854775808 ≤ a ∧ a ≤ 9223372036854775807) : iquo .i64 a b = a.tdiv b := i64_in _ (tdiv_range hb ha)
theorem iquo64n {a b : Int} (hb : 1 ≤ b) (ha : 0 ≤ a ∧ a ≤ 9223372036854775807) : iquo .i64 a b = a / b := by
  rw [iquo64 hb (by omega), Int.tdiv_eq_ediv_of_nonneg ha.1]
theorem ishl64 {a : Int} {n : Nat} (hn : n < 64) (h : -9223372036854775808 ≤ a * 2 ^ n ∧ a * 2 ^ n ≤ 9223372036854775807) : ishl .i64 a n = a * 2 ^ n := by
  unfold ishl
  have : min (n : Int).toNat IntKind.i64.bits = n := by simp [IntKind.bits]; omega
  rw [this]; exact i64_in _ h
theorem ishr64 {a : Int} {n : Nat} (hn : n < 64) : ishr .i64 a n = a / 2 ^ n := by
  unfold ishr
  have : min (n : Int).toNat IntKind.i64.bits = n := by simp [IntKind.bits]; omega
  rw [this]
  exact Int.fdiv_eq_ediv_of_nonneg _ (Int.pow_nonneg (by omega))

theorem rng64 {n : Int} (h : (Lit.int .i64 n).wf = true) : -9223372036854775808 ≤ n ∧ n ≤ 9223372036854775807 := by
  simpa [Lit.wf, IntKind.min, IntKind.max, IntKind.signed, IntKind.bits] using h

/-- A list of a known length, its elements one by one. -/
def tab {α : Type} (n : Nat) (f : Nat → α) : List α := (List.range n).map f
theorem eq_tab {α : Type} (d : α) {n : Nat} {s : List α} (h : s.length = n) : s = tab n fun i => s.getD i d := by
  subst h
  apply List.ext_getElem?
  intro i
  unfold tab
  by_cases hi : i < s.length
  · rw [List.getElem?_map, List.getElem?_range hi, List.getElem?_eq_getElem hi]
    simp [List.getD, List.getElem?_eq_getElem hi]
  · rw [List.getElem?_eq_none (by omega), List.getElem?_eq_none (by simp; omega)]

end Go.Eng
