/- The functions that SideBack reaches, as plain ones: printed by program. -/
import Derived.Test.YtjfnkbbcnllfiabEngA
set_option linter.unusedVariables false
set_option maxRecDepth 100000
namespace Go.Eng.A
open Go Go.Eng

/- loop of splicer/splicerref01.Within, region 2 -/
def R01_Within_l2 : Nat → (List Int) → Int → Int → Int → (Bool → Prop) → (Prop) → Prop
  | 0, _, _, _, _, _, _ => False
  | k + 1, l2, low2, high2, i1, K0, K1 => Br (decide (i1 < (l2.length : Int)))
      (Br ((decide ((0 : Int) ≤ i1)) && (decide (i1 < (((List.length l2) : Nat) : Int))))
        (Br (decide ((List.getD l2 (Int.toNat i1) 0) < low2))
          (K0 false)
          (Br ((decide ((0 : Int) ≤ i1)) && (decide (i1 < (((List.length l2) : Nat) : Int))))
            (Br (decide (high2 < (List.getD l2 (Int.toNat i1) 0)))
              (K0 false)
              (R01_Within_l2 k l2 low2 high2 (iadd .i64 i1 1) K0 K1))
            (False)))
        (False))
      (K1)

/- splicer/splicerref01.Within (12) -/
def R01_Within_u (l1 : (List Int)) (low1 : Int) (high1 : Int) (K0 : (Bool → Prop)) : Prop :=
  ∃ q, R01_Within_l2 q l1 low1 high1 0 K0
    (K0 true)

noncomputable def R01_Within : (List Int) → Int → Int → (Bool → Prop) → Prop := Classical.choose (⟨R01_Within_u, rfl⟩ : ∃ q, q = R01_Within_u)

theorem R01_Within_def (l1 : (List Int)) (low1 : Int) (high1 : Int) (K0 : (Bool → Prop)) : R01_Within l1 low1 high1 K0 =
  (∃ q, R01_Within_l2 q l1 low1 high1 0 K0
    (K0 true)) := by
  have e : R01_Within = R01_Within_u := Classical.choose_spec (⟨R01_Within_u, rfl⟩ : ∃ q, q = R01_Within_u)
  show R01_Within l1 low1 high1 K0 = R01_Within_u l1 low1 high1 K0
  rw [e]

/- loop of splicer/side.right, region 5 -/
def side_right_l5 : Nat → (List Int) → (List Int) → Int → Int → (List Int) → Int → Int → (List (List Int)) → (Bool → Prop) → ((List Int) → (List Int) → Int → Int → (List (List Int)) → Prop) → Prop
  | 0, _, _, _, _, _, _, _, _, _, _ => False
  | k + 1, a3, b3, v7, v8, v9, v10, v11, m3, K0, K1 => Br (decide (v11 < v10))
      (Br ((decide ((0 : Int) ≤ v11)) && (decide (v11 < (((List.length v9) : Nat) : Int))))
        (let v13 : Int := (List.getD v9 (Int.toNat v11) 0)
        Br (decide (v13 < (-33554432 : Int)))
          (K0 false)
          (Br (decide ((33554432 : Int) < v13))
            (K0 false)
            (side_right_l5 k a3 b3 v7 v8 v9 v10 (iadd .i64 v11 1) m3 K0 K1)))
        (False))
      (K1 a3 b3 v7 v8 m3)

/- loop of splicer/side.right, region 2 -/
def side_right_l2 : Nat → (List Int) → (List Int) → Int → Int → (List (List Int)) → (Bool → Prop) → ((List Int) → (List Int) → Prop) → Prop
  | 0, _, _, _, _, _, _, _ => False
  | k + 1, a2, b2, v2, v3, m2, K0, K1 => Br (decide (v3 < v2))
      (Br ((decide ((0 : Int) ≤ v3)) && (decide (v3 < (((List.length m2) : Nat) : Int))))
        (Br (decide ((Int.toNat v3) < (List.length m2)))
          (let v5 : (List Int) := (List.getD m2 (Int.toNat v3) [])
          ∃ q, side_right_l5 q a2 b2 v2 v3 v5 (v5.length : Int) 0 m2 K0
            (fun (a4 : (List Int)) (b4 : (List Int)) (v18 : Int) (v19 : Int) (m4 : (List (List Int))) =>
            side_right_l2 k a4 b4 v18 (iadd .i64 v19 1) m4 K0 K1))
          (False))
        (False))
      (K1 a2 b2)

/- splicer/side.right (47) -/
def side_right_u (a1 : (List Int)) (b1 : (List Int)) (K0 : (Bool → Prop)) : Prop :=
  let m1 : (List (List Int)) := [a1, b1]
  ∃ q, side_right_l2 q a1 b1 (m1.length : Int) 0 m1 K0
    (fun (a5 : (List Int)) (b5 : (List Int)) =>
    Br (decide ((a5.length : Int) = (b5.length : Int)))
      (K0 (decide ((a5.length : Int) ≤ (64 : Int))))
      (K0 false))

noncomputable def side_right : (List Int) → (List Int) → (Bool → Prop) → Prop := Classical.choose (⟨side_right_u, rfl⟩ : ∃ q, q = side_right_u)

theorem side_right_def (a1 : (List Int)) (b1 : (List Int)) (K0 : (Bool → Prop)) : side_right a1 b1 K0 =
  (let m1 : (List (List Int)) := [a1, b1]
  ∃ q, side_right_l2 q a1 b1 (m1.length : Int) 0 m1 K0
    (fun (a5 : (List Int)) (b5 : (List Int)) =>
    Br (decide ((a5.length : Int) = (b5.length : Int)))
      (K0 (decide ((a5.length : Int) ≤ (64 : Int))))
      (K0 false))) := by
  have e : side_right = side_right_u := Classical.choose_spec (⟨side_right_u, rfl⟩ : ∃ q, q = side_right_u)
  show side_right a1 b1 K0 = side_right_u a1 b1 K0
  rw [e]

/- splicer/side.Merge$1 (35) -/
def side_Merge_1_u (x1 : Int) (y1 : Int) (K0 : (Int → Int → Prop)) : Prop :=
  K0 (iadd .i64 x1 y1) (isub .i64 x1 y1)

noncomputable def side_Merge_1 : Int → Int → (Int → Int → Prop) → Prop := Classical.choose (⟨side_Merge_1_u, rfl⟩ : ∃ q, q = side_Merge_1_u)

theorem side_Merge_1_def (x1 : Int) (y1 : Int) (K0 : (Int → Int → Prop)) : side_Merge_1 x1 y1 K0 =
  (K0 (iadd .i64 x1 y1) (isub .i64 x1 y1)) := by
  have e : side_Merge_1 = side_Merge_1_u := Classical.choose_spec (⟨side_Merge_1_u, rfl⟩ : ∃ q, q = side_Merge_1_u)
  show side_Merge_1 x1 y1 K0 = side_Merge_1_u x1 y1 K0
  rw [e]

/- loop of splicer/side.both, region 5 -/
def side_both__side_Merge_1_l5 : Nat → (List Int) → (List Int) → Int → Int → (List Int) → (List Int) → ((List Int) → (List Int) → Prop) → Prop
  | 0, _, _, _, _, _, _, _ => False
  | k + 1, b2, v5, v6, v7, m3, m4, K0 => Br (decide (v7 < v6))
      (Br ((decide ((0 : Int) ≤ v7)) && (decide (v7 < (((List.length v5) : Nat) : Int))))
        (Br ((decide ((0 : Int) ≤ v7)) && (decide (v7 < (((List.length b2) : Nat) : Int))))
          (side_Merge_1 (List.getD v5 (Int.toNat v7) 0) (List.getD b2 (Int.toNat v7) 0)
            (fun (r2 : Int) (r3 : Int) =>
            Br ((decide ((0 : Int) ≤ v7)) && (decide (v7 < (((List.length m3) : Nat) : Int))))
              (Br (decide ((Int.toNat v7) < (List.length m3)))
                (Br ((decide ((0 : Int) ≤ v7)) && (decide (v7 < (((List.length m4) : Nat) : Int))))
                  (Br (decide ((Int.toNat v7) < (List.length m4)))
                    (side_both__side_Merge_1_l5 k b2 v5 v6 (iadd .i64 v7 1) (List.set m3 (Int.toNat v7) r2) (List.set m4 (Int.toNat v7) r3) K0)
                    (False))
                  (False))
                (False))
              (False)))
          (False))
        (False))
      (K0 m3 m4)

/- splicer/side.both (34) -/
def side_both__side_Merge_1_u (a1 : (List Int)) (b1 : (List Int)) (K0 : (Prop)) (K1 : ((List Int) → (List Int) → Prop)) : Prop :=
  side_right a1 b1
    (fun (r1 : Bool) =>
    Br (!r1)
      (K0)
      (Br (((decide ((0 : Int) ≤ (a1.length : Int))) && (decide ((a1.length : Int) ≤ (a1.length : Int)))) && (decide (((a1.length : Int) * (8 : Int)) ≤ (140737488355328 : Int))))
        (Br (((decide ((0 : Int) ≤ (a1.length : Int))) && (decide ((a1.length : Int) ≤ (a1.length : Int)))) && (decide (((a1.length : Int) * (8 : Int)) ≤ (140737488355328 : Int))))
          (∃ q, side_both__side_Merge_1_l5 q b1 a1 (a1.length : Int) 0 (List.replicate (Int.toNat (a1.length : Int)) 0) (List.replicate (Int.toNat (a1.length : Int)) 0) K1)
          (False))
        (False)))

noncomputable def side_both__side_Merge_1 : (List Int) → (List Int) → (Prop) → ((List Int) → (List Int) → Prop) → Prop := Classical.choose (⟨side_both__side_Merge_1_u, rfl⟩ : ∃ q, q = side_both__side_Merge_1_u)

theorem side_both__side_Merge_1_def (a1 : (List Int)) (b1 : (List Int)) (K0 : (Prop)) (K1 : ((List Int) → (List Int) → Prop)) : side_both__side_Merge_1 a1 b1 K0 K1 =
  (side_right a1 b1
    (fun (r1 : Bool) =>
    Br (!r1)
      (K0)
      (Br (((decide ((0 : Int) ≤ (a1.length : Int))) && (decide ((a1.length : Int) ≤ (a1.length : Int)))) && (decide (((a1.length : Int) * (8 : Int)) ≤ (140737488355328 : Int))))
        (Br (((decide ((0 : Int) ≤ (a1.length : Int))) && (decide ((a1.length : Int) ≤ (a1.length : Int)))) && (decide (((a1.length : Int) * (8 : Int)) ≤ (140737488355328 : Int))))
          (∃ q, side_both__side_Merge_1_l5 q b1 a1 (a1.length : Int) 0 (List.replicate (Int.toNat (a1.length : Int)) 0) (List.replicate (Int.toNat (a1.length : Int)) 0) K1)
          (False))
        (False)))) := by
  have e : side_both__side_Merge_1 = side_both__side_Merge_1_u := Classical.choose_spec (⟨side_both__side_Merge_1_u, rfl⟩ : ∃ q, q = side_both__side_Merge_1_u)
  show side_both__side_Merge_1 a1 b1 K0 K1 = side_both__side_Merge_1_u a1 b1 K0 K1
  rw [e]

/- splicer/side.Merge (16) -/
def side_Merge_u (m1 : (List Int)) (s1 : (List Int)) (K0 : (Prop)) (K1 : ((List Int) → (List Int) → Prop)) : Prop :=
  side_both__side_Merge_1 m1 s1 K0 K1

noncomputable def side_Merge : (List Int) → (List Int) → (Prop) → ((List Int) → (List Int) → Prop) → Prop := Classical.choose (⟨side_Merge_u, rfl⟩ : ∃ q, q = side_Merge_u)

theorem side_Merge_def (m1 : (List Int)) (s1 : (List Int)) (K0 : (Prop)) (K1 : ((List Int) → (List Int) → Prop)) : side_Merge m1 s1 K0 K1 =
  (side_both__side_Merge_1 m1 s1 K0 K1) := by
  have e : side_Merge = side_Merge_u := Classical.choose_spec (⟨side_Merge_u, rfl⟩ : ∃ q, q = side_Merge_u)
  show side_Merge m1 s1 K0 K1 = side_Merge_u m1 s1 K0 K1
  rw [e]

/- loop of splicer/num.within, region 2 -/
def num_within_l2 : Nat → Int → (List Int) → Int → Int → (Bool → Prop) → (Prop) → Prop
  | 0, _, _, _, _, _, _ => False
  | k + 1, most2, v2, v3, v4, K0, K1 => Br (decide (v4 < v3))
      (Br ((decide ((0 : Int) ≤ v4)) && (decide (v4 < (((List.length v2) : Nat) : Int))))
        (let v6 : Int := (List.getD v2 (Int.toNat v4) 0)
        Br (decide (v6 < (isub .i64 0 most2)))
          (K0 false)
          (Br (decide (most2 < v6))
            (K0 false)
            (num_within_l2 k most2 v2 v3 (iadd .i64 v4 1) K0 K1)))
        (False))
      (K1)

/- splicer/num.within (48) -/
def num_within_u (most1 : Int) (l1 : (List Int)) (K0 : (Bool → Prop)) : Prop :=
  ∃ q, num_within_l2 q most1 l1 (l1.length : Int) 0 K0
    (K0 true)

noncomputable def num_within : Int → (List Int) → (Bool → Prop) → Prop := Classical.choose (⟨num_within_u, rfl⟩ : ∃ q, q = num_within_u)

theorem num_within_def (most1 : Int) (l1 : (List Int)) (K0 : (Bool → Prop)) : num_within most1 l1 K0 =
  (∃ q, num_within_l2 q most1 l1 (l1.length : Int) 0 K0
    (K0 true)) := by
  have e : num_within = num_within_u := Classical.choose_spec (⟨num_within_u, rfl⟩ : ∃ q, q = num_within_u)
  show num_within most1 l1 K0 = num_within_u most1 l1 K0
  rw [e]

/- join of splicer/num.Shr, region 2 -/
def num_Shr_j2 (x2 : Int) (n2 : Int) (v4 : Bool) (K0 : (Int → Prop)) (K1 : (Int → Int → Prop)) : Prop :=
  Br v4
    (K0 0)
    (Br (decide (n2 = (0 : Int)))
      (K0 x2)
      (K1 x2 n2))

/- join of splicer/num.Shr, region 5 -/
def num_Shr_j5 (x6 : Int) (n6 : Int) (K0 : (Int → Prop)) : Prop :=
  let v9 : Int := (isub .i64 n6 1)
  Br (decide (v9 < (0 : Int)))
    (False)
    (Br (decide (n6 < (0 : Int)))
      (False)
      (K0 (ishr .i64 (iadd .i64 x6 (ishl .i64 1 v9)) n6)))

/- splicer/num.Shr (38) -/
def num_Shr_u (x1 : Int) (n1 : Int) (K0 : (Int → Prop)) : Prop :=
  Br (decide (n1 < (0 : Int)))
    (num_Shr_j2 x1 n1 true K0
      (fun (x3 : Int) (n3 : Int) =>
      num_Shr_j5 x3 n3 K0))
    (Br (decide ((60 : Int) < n1))
      (num_Shr_j2 x1 n1 true K0
        (fun (x4 : Int) (n4 : Int) =>
        num_Shr_j5 x4 n4 K0))
      (num_within 2305843009213693952 [x1]
        (fun (r1 : Bool) =>
        num_Shr_j2 x1 n1 (!r1) K0
          (fun (x5 : Int) (n5 : Int) =>
          num_Shr_j5 x5 n5 K0))))

noncomputable def num_Shr : Int → Int → (Int → Prop) → Prop := Classical.choose (⟨num_Shr_u, rfl⟩ : ∃ q, q = num_Shr_u)

theorem num_Shr_def (x1 : Int) (n1 : Int) (K0 : (Int → Prop)) : num_Shr x1 n1 K0 =
  (Br (decide (n1 < (0 : Int)))
    (num_Shr_j2 x1 n1 true K0
      (fun (x3 : Int) (n3 : Int) =>
      num_Shr_j5 x3 n3 K0))
    (Br (decide ((60 : Int) < n1))
      (num_Shr_j2 x1 n1 true K0
        (fun (x4 : Int) (n4 : Int) =>
        num_Shr_j5 x4 n4 K0))
      (num_within 2305843009213693952 [x1]
        (fun (r1 : Bool) =>
        num_Shr_j2 x1 n1 (!r1) K0
          (fun (x5 : Int) (n5 : Int) =>
          num_Shr_j5 x5 n5 K0))))) := by
  have e : num_Shr = num_Shr_u := Classical.choose_spec (⟨num_Shr_u, rfl⟩ : ∃ q, q = num_Shr_u)
  show num_Shr x1 n1 K0 = num_Shr_u x1 n1 K0
  rw [e]

/- splicer/side.Split$1 (37) -/
def side_Split_1_u (x1 : Int) (y1 : Int) (K0 : (Int → Int → Prop)) : Prop :=
  num_Shr (iadd .i64 x1 y1) 1
    (fun (r1 : Int) =>
    num_Shr (isub .i64 x1 y1) 1
      (fun (r2 : Int) =>
      K0 r1 r2))

noncomputable def side_Split_1 : Int → Int → (Int → Int → Prop) → Prop := Classical.choose (⟨side_Split_1_u, rfl⟩ : ∃ q, q = side_Split_1_u)

theorem side_Split_1_def (x1 : Int) (y1 : Int) (K0 : (Int → Int → Prop)) : side_Split_1 x1 y1 K0 =
  (num_Shr (iadd .i64 x1 y1) 1
    (fun (r1 : Int) =>
    num_Shr (isub .i64 x1 y1) 1
      (fun (r2 : Int) =>
      K0 r1 r2))) := by
  have e : side_Split_1 = side_Split_1_u := Classical.choose_spec (⟨side_Split_1_u, rfl⟩ : ∃ q, q = side_Split_1_u)
  show side_Split_1 x1 y1 K0 = side_Split_1_u x1 y1 K0
  rw [e]

/- loop of splicer/side.both, region 5 -/
def side_both__side_Split_1_l5 : Nat → (List Int) → (List Int) → Int → Int → (List Int) → (List Int) → ((List Int) → (List Int) → Prop) → Prop
  | 0, _, _, _, _, _, _, _ => False
  | k + 1, b2, v5, v6, v7, m3, m4, K0 => Br (decide (v7 < v6))
      (Br ((decide ((0 : Int) ≤ v7)) && (decide (v7 < (((List.length v5) : Nat) : Int))))
        (Br ((decide ((0 : Int) ≤ v7)) && (decide (v7 < (((List.length b2) : Nat) : Int))))
          (side_Split_1 (List.getD v5 (Int.toNat v7) 0) (List.getD b2 (Int.toNat v7) 0)
            (fun (r2 : Int) (r3 : Int) =>
            Br ((decide ((0 : Int) ≤ v7)) && (decide (v7 < (((List.length m3) : Nat) : Int))))
              (Br (decide ((Int.toNat v7) < (List.length m3)))
                (Br ((decide ((0 : Int) ≤ v7)) && (decide (v7 < (((List.length m4) : Nat) : Int))))
                  (Br (decide ((Int.toNat v7) < (List.length m4)))
                    (side_both__side_Split_1_l5 k b2 v5 v6 (iadd .i64 v7 1) (List.set m3 (Int.toNat v7) r2) (List.set m4 (Int.toNat v7) r3) K0)
                    (False))
                  (False))
                (False))
              (False)))
          (False))
        (False))
      (K0 m3 m4)

/- splicer/side.both (34) -/
def side_both__side_Split_1_u (a1 : (List Int)) (b1 : (List Int)) (K0 : (Prop)) (K1 : ((List Int) → (List Int) → Prop)) : Prop :=
  side_right a1 b1
    (fun (r1 : Bool) =>
    Br (!r1)
      (K0)
      (Br (((decide ((0 : Int) ≤ (a1.length : Int))) && (decide ((a1.length : Int) ≤ (a1.length : Int)))) && (decide (((a1.length : Int) * (8 : Int)) ≤ (140737488355328 : Int))))
        (Br (((decide ((0 : Int) ≤ (a1.length : Int))) && (decide ((a1.length : Int) ≤ (a1.length : Int)))) && (decide (((a1.length : Int) * (8 : Int)) ≤ (140737488355328 : Int))))
          (∃ q, side_both__side_Split_1_l5 q b1 a1 (a1.length : Int) 0 (List.replicate (Int.toNat (a1.length : Int)) 0) (List.replicate (Int.toNat (a1.length : Int)) 0) K1)
          (False))
        (False)))

noncomputable def side_both__side_Split_1 : (List Int) → (List Int) → (Prop) → ((List Int) → (List Int) → Prop) → Prop := Classical.choose (⟨side_both__side_Split_1_u, rfl⟩ : ∃ q, q = side_both__side_Split_1_u)

theorem side_both__side_Split_1_def (a1 : (List Int)) (b1 : (List Int)) (K0 : (Prop)) (K1 : ((List Int) → (List Int) → Prop)) : side_both__side_Split_1 a1 b1 K0 K1 =
  (side_right a1 b1
    (fun (r1 : Bool) =>
    Br (!r1)
      (K0)
      (Br (((decide ((0 : Int) ≤ (a1.length : Int))) && (decide ((a1.length : Int) ≤ (a1.length : Int)))) && (decide (((a1.length : Int) * (8 : Int)) ≤ (140737488355328 : Int))))
        (Br (((decide ((0 : Int) ≤ (a1.length : Int))) && (decide ((a1.length : Int) ≤ (a1.length : Int)))) && (decide (((a1.length : Int) * (8 : Int)) ≤ (140737488355328 : Int))))
          (∃ q, side_both__side_Split_1_l5 q b1 a1 (a1.length : Int) 0 (List.replicate (Int.toNat (a1.length : Int)) 0) (List.replicate (Int.toNat (a1.length : Int)) 0) K1)
          (False))
        (False)))) := by
  have e : side_both__side_Split_1 = side_both__side_Split_1_u := Classical.choose_spec (⟨side_both__side_Split_1_u, rfl⟩ : ∃ q, q = side_both__side_Split_1_u)
  show side_both__side_Split_1 a1 b1 K0 K1 = side_both__side_Split_1_u a1 b1 K0 K1
  rw [e]

/- splicer/side.Split (18) -/
def side_Split_u (l1 : (List Int)) (r1 : (List Int)) (K0 : (Prop)) (K1 : ((List Int) → (List Int) → Prop)) : Prop :=
  side_both__side_Split_1 l1 r1 K0 K1

noncomputable def side_Split : (List Int) → (List Int) → (Prop) → ((List Int) → (List Int) → Prop) → Prop := Classical.choose (⟨side_Split_u, rfl⟩ : ∃ q, q = side_Split_u)

theorem side_Split_def (l1 : (List Int)) (r1 : (List Int)) (K0 : (Prop)) (K1 : ((List Int) → (List Int) → Prop)) : side_Split l1 r1 K0 K1 =
  (side_both__side_Split_1 l1 r1 K0 K1) := by
  have e : side_Split = side_Split_u := Classical.choose_spec (⟨side_Split_u, rfl⟩ : ∃ q, q = side_Split_u)
  show side_Split l1 r1 K0 K1 = side_Split_u l1 r1 K0 K1
  rw [e]

/- loop of splicer/splicerref01.Same, region 4 -/
def R01_Same_l4 : Nat → (List Int) → (List Int) → Int → (Bool → Prop) → (Prop) → Prop
  | 0, _, _, _, _, _ => False
  | k + 1, a2, b2, i1, K0, K1 => Br (decide (i1 < (a2.length : Int)))
      (Br ((decide ((0 : Int) ≤ i1)) && (decide (i1 < (((List.length a2) : Nat) : Int))))
        (Br ((decide ((0 : Int) ≤ i1)) && (decide (i1 < (((List.length b2) : Nat) : Int))))
          (Br (!(decide ((List.getD a2 (Int.toNat i1) 0) = (List.getD b2 (Int.toNat i1) 0))))
            (K0 false)
            (R01_Same_l4 k a2 b2 (iadd .i64 i1 1) K0 K1))
          (False))
        (False))
      (K1)

/- splicer/splicerref01.Same (13) -/
def R01_Same_u (a1 : (List Int)) (b1 : (List Int)) (K0 : (Bool → Prop)) : Prop :=
  Br (!(decide ((a1.length : Int) = (b1.length : Int))))
    (K0 false)
    (∃ q, R01_Same_l4 q a1 b1 0 K0
      (K0 true))

noncomputable def R01_Same : (List Int) → (List Int) → (Bool → Prop) → Prop := Classical.choose (⟨R01_Same_u, rfl⟩ : ∃ q, q = R01_Same_u)

theorem R01_Same_def (a1 : (List Int)) (b1 : (List Int)) (K0 : (Bool → Prop)) : R01_Same a1 b1 K0 =
  (Br (!(decide ((a1.length : Int) = (b1.length : Int))))
    (K0 false)
    (∃ q, R01_Same_l4 q a1 b1 0 K0
      (K0 true))) := by
  have e : R01_Same = R01_Same_u := Classical.choose_spec (⟨R01_Same_u, rfl⟩ : ∃ q, q = R01_Same_u)
  show R01_Same a1 b1 K0 = R01_Same_u a1 b1 K0
  rw [e]

/- splicer/num.Abs (40) -/
def num_Abs_u (x1 : Int) (K0 : (Int → Prop)) : Prop :=
  num_within 4611686018427387904 [x1]
    (fun (r1 : Bool) =>
    Br (!r1)
      (K0 0)
      (Br (decide (x1 < (0 : Int)))
        (K0 (isub .i64 0 x1))
        (K0 x1)))

noncomputable def num_Abs : Int → (Int → Prop) → Prop := Classical.choose (⟨num_Abs_u, rfl⟩ : ∃ q, q = num_Abs_u)

theorem num_Abs_def (x1 : Int) (K0 : (Int → Prop)) : num_Abs x1 K0 =
  (num_within 4611686018427387904 [x1]
    (fun (r1 : Bool) =>
    Br (!r1)
      (K0 0)
      (Br (decide (x1 < (0 : Int)))
        (K0 (isub .i64 0 x1))
        (K0 x1)))) := by
  have e : num_Abs = num_Abs_u := Classical.choose_spec (⟨num_Abs_u, rfl⟩ : ∃ q, q = num_Abs_u)
  show num_Abs x1 K0 = num_Abs_u x1 K0
  rw [e]

/- loop of splicer/side.Better, region 4 -/
def side_Better_l4 : Nat → (List Int) → (List Int) → Int → Int → Int → Int → (List Int) → (List Int) → (Int → Int → Prop) → Prop
  | 0, _, _, _, _, _, _, _, _, _ => False
  | k + 1, l3, r5, less2, more2, v2, v3, m3, m4, K0 => Br (decide (v3 < v2))
      (Br ((decide ((0 : Int) ≤ v3)) && (decide (v3 < (((List.length m3) : Nat) : Int))))
        (Br (decide ((Int.toNat v3) < (List.length m3)))
          (num_Abs (List.getD m3 (Int.toNat v3) 0)
            (fun (r6 : Int) =>
            Br ((decide ((0 : Int) ≤ v3)) && (decide (v3 < (((List.length m4) : Nat) : Int))))
              (Br (decide ((Int.toNat v3) < (List.length m4)))
                (num_Abs (List.getD m4 (Int.toNat v3) 0)
                  (fun (r7 : Int) =>
                  Br ((decide ((0 : Int) ≤ v3)) && (decide (v3 < (((List.length l3) : Nat) : Int))))
                    (num_Abs (List.getD l3 (Int.toNat v3) 0)
                      (fun (r8 : Int) =>
                      Br ((decide ((0 : Int) ≤ v3)) && (decide (v3 < (((List.length r5) : Nat) : Int))))
                        (num_Abs (List.getD r5 (Int.toNat v3) 0)
                          (fun (r9 : Int) =>
                          side_Better_l4 k l3 r5 (iadd .i64 less2 (iadd .i64 r6 r7)) (iadd .i64 more2 (iadd .i64 r8 r9)) v2 (iadd .i64 v3 1) m3 m4 K0))
                        (False)))
                    (False)))
                (False))
              (False)))
          (False))
        (False))
      (K0 less2 more2)

/- join of splicer/side.Better, region 3 -/
def side_Better_j3 (l2 : (List Int)) (r4 : (List Int)) (less1 : Int) (more1 : Int) (m1 : (List Int)) (m2 : (List Int)) (K0 : (Bool → Prop)) : Prop :=
  ∃ q, side_Better_l4 q l2 r4 less1 more1 (m1.length : Int) 0 m1 m2
    (fun (less3 : Int) (more3 : Int) =>
    K0 (decide ((imul .i64 4 less3) < (imul .i64 3 more3))))

/- splicer/side.Better (20) -/
def side_Better_u (l1 : (List Int)) (r1 : (List Int)) (K0 : (Bool → Prop)) : Prop :=
  side_Split l1 r1
    (side_Better_j3 l1 r1 0 0 [] [] K0)
    (fun (r2 : (List Int)) (r3 : (List Int)) =>
    side_Better_j3 l1 r1 0 0 r2 r3 K0)

noncomputable def side_Better : (List Int) → (List Int) → (Bool → Prop) → Prop := Classical.choose (⟨side_Better_u, rfl⟩ : ∃ q, q = side_Better_u)

theorem side_Better_def (l1 : (List Int)) (r1 : (List Int)) (K0 : (Bool → Prop)) : side_Better l1 r1 K0 =
  (side_Split l1 r1
    (side_Better_j3 l1 r1 0 0 [] [] K0)
    (fun (r2 : (List Int)) (r3 : (List Int)) =>
    side_Better_j3 l1 r1 0 0 r2 r3 K0)) := by
  have e : side_Better = side_Better_u := Classical.choose_spec (⟨side_Better_u, rfl⟩ : ∃ q, q = side_Better_u)
  show side_Better l1 r1 K0 = side_Better_u l1 r1 K0
  rw [e]

/- join of splicer/splicerlaw19.awake, region 3 -/
def L19_awake_j3 (m7 : (List Int)) (m8 : (List Int)) (m9 : (List Int)) (m10 : (List Int)) (K0 : (Bool → Prop)) : Prop :=
  R01_Same m7 [7]
    (fun (r5 : Bool) =>
    Br r5
      (R01_Same m8 [3]
        (fun (r6 : Bool) =>
        Br r6
          (R01_Same m9 [5]
            (fun (r7 : Bool) =>
            Br r7
              (R01_Same m10 [2]
                (fun (r8 : Bool) =>
                Br r8
                  (side_Better [8] [8]
                    (fun (r9 : Bool) =>
                    Br r9
                      (side_Better [8] [0]
                        (fun (r10 : Bool) =>
                        K0 (!r10)))
                      (K0 false)))
                  (K0 false)))
              (K0 false)))
          (K0 false)))
      (K0 false))

/- join of splicer/splicerlaw19.awake, region 2 -/
def L19_awake_j2 (m3 : (List Int)) (m4 : (List Int)) (K0 : (Bool → Prop)) : Prop :=
  side_Split [7] [3]
    (L19_awake_j3 m3 m4 [] [] K0)
    (fun (r3 : (List Int)) (r4 : (List Int)) =>
    L19_awake_j3 m3 m4 r3 r4 K0)

/- splicer/splicerlaw19.awake (15) -/
def L19_awake_u  (K0 : (Bool → Prop)) : Prop :=
  side_Merge [5] [2]
    (L19_awake_j2 [] [] K0)
    (fun (r1 : (List Int)) (r2 : (List Int)) =>
    L19_awake_j2 r1 r2 K0)

noncomputable def L19_awake : (Bool → Prop) → Prop := Classical.choose (⟨L19_awake_u, rfl⟩ : ∃ q, q = L19_awake_u)

theorem L19_awake_def  (K0 : (Bool → Prop)) : L19_awake K0 =
  (side_Merge [5] [2]
    (L19_awake_j2 [] [] K0)
    (fun (r1 : (List Int)) (r2 : (List Int)) =>
    L19_awake_j2 r1 r2 K0)) := by
  have e : L19_awake = L19_awake_u := Classical.choose_spec (⟨L19_awake_u, rfl⟩ : ∃ q, q = L19_awake_u)
  show L19_awake K0 = L19_awake_u K0
  rw [e]

/- splicer/splicerref01.Abs (22) -/
def R01_Abs_u (x1 : Int) (K0 : (Int → Prop)) : Prop :=
  Br (decide (x1 < (-4611686018427387904 : Int)))
    (K0 0)
    (Br (decide ((4611686018427387904 : Int) < x1))
      (K0 0)
      (K0 (imax x1 (isub .i64 0 x1))))

noncomputable def R01_Abs : Int → (Int → Prop) → Prop := Classical.choose (⟨R01_Abs_u, rfl⟩ : ∃ q, q = R01_Abs_u)

theorem R01_Abs_def (x1 : Int) (K0 : (Int → Prop)) : R01_Abs x1 K0 =
  (Br (decide (x1 < (-4611686018427387904 : Int)))
    (K0 0)
    (Br (decide ((4611686018427387904 : Int) < x1))
      (K0 0)
      (K0 (imax x1 (isub .i64 0 x1))))) := by
  have e : R01_Abs = R01_Abs_u := Classical.choose_spec (⟨R01_Abs_u, rfl⟩ : ∃ q, q = R01_Abs_u)
  show R01_Abs x1 K0 = R01_Abs_u x1 K0
  rw [e]

/- join of splicer/splicerlaw19.SideBack, region 2 -/
def L19_SideBack_j2 (a2 : (List Int)) (b2 : (List Int)) (v8 : Bool) (K0 : (Bool → Prop)) (K1 : ((List Int) → (List Int) → Prop)) : Prop :=
  Br v8
    (L19_awake K0)
    (K1 a2 b2)

/- loop of splicer/splicerlaw19.SideBack, region 10 -/
def L19_SideBack_l10 : Nat → (List Int) → (List Int) → Int → (List Int) → (List Int) → (Bool → Prop) → (Prop) → Prop
  | 0, _, _, _, _, _, _, _ => False
  | k + 1, a12, b12, i1, m13, m14, K0, K1 => Br (decide (i1 < (a12.length : Int)))
      (Br ((decide ((0 : Int) ≤ i1)) && (decide (i1 < (((List.length m13) : Nat) : Int))))
        (Br (decide ((Int.toNat i1) < (List.length m13)))
          (Br ((decide ((0 : Int) ≤ i1)) && (decide (i1 < (((List.length a12) : Nat) : Int))))
            (R01_Abs (isub .i64 (List.getD m13 (Int.toNat i1) 0) (List.getD a12 (Int.toNat i1) 0))
              (fun (r14 : Int) =>
              Br (decide ((1 : Int) < r14))
                (K0 false)
                (Br ((decide ((0 : Int) ≤ i1)) && (decide (i1 < (((List.length m14) : Nat) : Int))))
                  (Br (decide ((Int.toNat i1) < (List.length m14)))
                    (Br ((decide ((0 : Int) ≤ i1)) && (decide (i1 < (((List.length b12) : Nat) : Int))))
                      (R01_Abs (isub .i64 (List.getD m14 (Int.toNat i1) 0) (List.getD b12 (Int.toNat i1) 0))
                        (fun (r15 : Int) =>
                        Br (decide ((1 : Int) < r15))
                          (K0 false)
                          (L19_SideBack_l10 k a12 b12 (iadd .i64 i1 1) m13 m14 K0 K1)))
                      (False))
                    (False))
                  (False))))
            (False))
          (False))
        (False))
      (K1)

/- join of splicer/splicerlaw19.SideBack, region 7 -/
def L19_SideBack_j7 (a11 : (List Int)) (b11 : (List Int)) (m9 : (List Int)) (m10 : (List Int)) (m11 : (List Int)) (m12 : (List Int)) (K0 : (Bool → Prop)) : Prop :=
  R01_Same m9 a11
    (fun (r12 : Bool) =>
    Br (!r12)
      (K0 false)
      (R01_Same m10 b11
        (fun (r13 : Bool) =>
        Br (!r13)
          (K0 false)
          (Br (!(decide ((m11.length : Int) = (a11.length : Int))))
            (K0 false)
            (Br (!(decide ((m12.length : Int) = (a11.length : Int))))
              (K0 false)
              (∃ q, L19_SideBack_l10 q a11 b11 0 m11 m12 K0
                (L19_awake K0)))))))

/- join of splicer/splicerlaw19.SideBack, region 6 -/
def L19_SideBack_j6 (a10 : (List Int)) (b10 : (List Int)) (m5 : (List Int)) (m6 : (List Int)) (m7 : (List Int)) (m8 : (List Int)) (K0 : (Bool → Prop)) : Prop :=
  side_Merge m7 m8
    (L19_SideBack_j7 a10 b10 m5 m6 [] [] K0)
    (fun (r10 : (List Int)) (r11 : (List Int)) =>
    L19_SideBack_j7 a10 b10 m5 m6 r10 r11 K0)

/- join of splicer/splicerlaw19.SideBack, region 5 -/
def L19_SideBack_j5 (a9 : (List Int)) (b9 : (List Int)) (m3 : (List Int)) (m4 : (List Int)) (K0 : (Bool → Prop)) : Prop :=
  side_Split a9 b9
    (L19_SideBack_j6 a9 b9 m3 m4 [] [] K0)
    (fun (r8 : (List Int)) (r9 : (List Int)) =>
    L19_SideBack_j6 a9 b9 m3 m4 r8 r9 K0)

/- join of splicer/splicerlaw19.SideBack, region 4 -/
def L19_SideBack_j4 (a8 : (List Int)) (b8 : (List Int)) (m1 : (List Int)) (m2 : (List Int)) (K0 : (Bool → Prop)) : Prop :=
  side_Split m1 m2
    (L19_SideBack_j5 a8 b8 [] [] K0)
    (fun (r6 : (List Int)) (r7 : (List Int)) =>
    L19_SideBack_j5 a8 b8 r6 r7 K0)

/- join of splicer/splicerlaw19.SideBack, region 3 -/
def L19_SideBack_j3 (a7 : (List Int)) (b7 : (List Int)) (K0 : (Bool → Prop)) : Prop :=
  side_Merge a7 b7
    (L19_SideBack_j4 a7 b7 [] [] K0)
    (fun (r4 : (List Int)) (r5 : (List Int)) =>
    L19_SideBack_j4 a7 b7 r4 r5 K0)

/- splicer/splicerlaw19.SideBack (5) -/
def L19_SideBack_u (a1 : (List Int)) (b1 : (List Int)) (K0 : (Bool → Prop)) : Prop :=
  Br (!(decide ((a1.length : Int) = (b1.length : Int))))
    (L19_SideBack_j2 a1 b1 true K0
      (fun (a3 : (List Int)) (b3 : (List Int)) =>
      L19_SideBack_j3 a3 b3 K0))
    (Br (decide ((64 : Int) < (a1.length : Int)))
      (L19_SideBack_j2 a1 b1 true K0
        (fun (a4 : (List Int)) (b4 : (List Int)) =>
        L19_SideBack_j3 a4 b4 K0))
      (R01_Within a1 (-16777216) 16777216
        (fun (r1 : Bool) =>
        Br (!r1)
          (L19_SideBack_j2 a1 b1 true K0
            (fun (a5 : (List Int)) (b5 : (List Int)) =>
            L19_SideBack_j3 a5 b5 K0))
          (R01_Within b1 (-16777216) 16777216
            (fun (r2 : Bool) =>
            L19_SideBack_j2 a1 b1 (!r2) K0
              (fun (a6 : (List Int)) (b6 : (List Int)) =>
              L19_SideBack_j3 a6 b6 K0))))))

noncomputable def L19_SideBack : (List Int) → (List Int) → (Bool → Prop) → Prop := Classical.choose (⟨L19_SideBack_u, rfl⟩ : ∃ q, q = L19_SideBack_u)

theorem L19_SideBack_def (a1 : (List Int)) (b1 : (List Int)) (K0 : (Bool → Prop)) : L19_SideBack a1 b1 K0 =
  (Br (!(decide ((a1.length : Int) = (b1.length : Int))))
    (L19_SideBack_j2 a1 b1 true K0
      (fun (a3 : (List Int)) (b3 : (List Int)) =>
      L19_SideBack_j3 a3 b3 K0))
    (Br (decide ((64 : Int) < (a1.length : Int)))
      (L19_SideBack_j2 a1 b1 true K0
        (fun (a4 : (List Int)) (b4 : (List Int)) =>
        L19_SideBack_j3 a4 b4 K0))
      (R01_Within a1 (-16777216) 16777216
        (fun (r1 : Bool) =>
        Br (!r1)
          (L19_SideBack_j2 a1 b1 true K0
            (fun (a5 : (List Int)) (b5 : (List Int)) =>
            L19_SideBack_j3 a5 b5 K0))
          (R01_Within b1 (-16777216) 16777216
            (fun (r2 : Bool) =>
            L19_SideBack_j2 a1 b1 (!r2) K0
              (fun (a6 : (List Int)) (b6 : (List Int)) =>
              L19_SideBack_j3 a6 b6 K0))))))) := by
  have e : L19_SideBack = L19_SideBack_u := Classical.choose_spec (⟨L19_SideBack_u, rfl⟩ : ∃ q, q = L19_SideBack_u)
  show L19_SideBack a1 b1 K0 = L19_SideBack_u a1 b1 K0
  rw [e]

/- splicer/splicerref19.Right (36) -/
def R19_Right_u (a1 : (List Int)) (b1 : (List Int)) (K0 : (Bool → Prop)) : Prop :=
  Br (decide ((a1.length : Int) = (b1.length : Int)))
    (Br (decide ((a1.length : Int) ≤ (64 : Int)))
      (R01_Within a1 (-33554432) 33554432
        (fun (r1 : Bool) =>
        Br r1
          (R01_Within b1 (-33554432) 33554432 K0)
          (K0 false)))
      (K0 false))
    (K0 false)

noncomputable def R19_Right : (List Int) → (List Int) → (Bool → Prop) → Prop := Classical.choose (⟨R19_Right_u, rfl⟩ : ∃ q, q = R19_Right_u)

theorem R19_Right_def (a1 : (List Int)) (b1 : (List Int)) (K0 : (Bool → Prop)) : R19_Right a1 b1 K0 =
  (Br (decide ((a1.length : Int) = (b1.length : Int)))
    (Br (decide ((a1.length : Int) ≤ (64 : Int)))
      (R01_Within a1 (-33554432) 33554432
        (fun (r1 : Bool) =>
        Br r1
          (R01_Within b1 (-33554432) 33554432 K0)
          (K0 false)))
      (K0 false))
    (K0 false)) := by
  have e : R19_Right = R19_Right_u := Classical.choose_spec (⟨R19_Right_u, rfl⟩ : ∃ q, q = R19_Right_u)
  show R19_Right a1 b1 K0 = R19_Right_u a1 b1 K0
  rw [e]

/- loop of splicer/splicerref19.Merge, region 5 -/
def R19_Merge_l5 : Nat → (List Int) → (List Int) → Int → (List Int) → (List Int) → ((List Int) → (List Int) → Prop) → Prop
  | 0, _, _, _, _, _, _ => False
  | k + 1, m2, s2, i1, m3, m4, K0 => Br (decide (i1 < (m2.length : Int)))
      (Br ((decide ((0 : Int) ≤ i1)) && (decide (i1 < (((List.length m2) : Nat) : Int))))
        (Br ((decide ((0 : Int) ≤ i1)) && (decide (i1 < (((List.length s2) : Nat) : Int))))
          (let m5 : (List Int) := [(iadd .i64 (List.getD m2 (Int.toNat i1) 0) (List.getD s2 (Int.toNat i1) 0))]
          Br (decide ((((List.length m3) + (List.length m5)) * 8) ≤ 140737488355328))
            (Br ((decide ((0 : Int) ≤ i1)) && (decide (i1 < (((List.length m2) : Nat) : Int))))
              (Br ((decide ((0 : Int) ≤ i1)) && (decide (i1 < (((List.length s2) : Nat) : Int))))
                (let m7 : (List Int) := [(isub .i64 (List.getD m2 (Int.toNat i1) 0) (List.getD s2 (Int.toNat i1) 0))]
                Br (decide ((((List.length m4) + (List.length m7)) * 8) ≤ 140737488355328))
                  (R19_Merge_l5 k m2 s2 (iadd .i64 i1 1) (m3 ++ m5) (m4 ++ m7) K0)
                  (False))
                (False))
              (False))
            (False))
          (False))
        (False))
      (K0 m3 m4)

/- splicer/splicerref19.Merge (17) -/
def R19_Merge_u (m1 : (List Int)) (s1 : (List Int)) (K0 : (Prop)) (K1 : ((List Int) → (List Int) → Prop)) : Prop :=
  R19_Right m1 s1
    (fun (r1 : Bool) =>
    Br (!r1)
      (K0)
      (∃ q, R19_Merge_l5 q m1 s1 0 [] [] K1))

noncomputable def R19_Merge : (List Int) → (List Int) → (Prop) → ((List Int) → (List Int) → Prop) → Prop := Classical.choose (⟨R19_Merge_u, rfl⟩ : ∃ q, q = R19_Merge_u)

theorem R19_Merge_def (m1 : (List Int)) (s1 : (List Int)) (K0 : (Prop)) (K1 : ((List Int) → (List Int) → Prop)) : R19_Merge m1 s1 K0 K1 =
  (R19_Right m1 s1
    (fun (r1 : Bool) =>
    Br (!r1)
      (K0)
      (∃ q, R19_Merge_l5 q m1 s1 0 [] [] K1))) := by
  have e : R19_Merge = R19_Merge_u := Classical.choose_spec (⟨R19_Merge_u, rfl⟩ : ∃ q, q = R19_Merge_u)
  show R19_Merge m1 s1 K0 K1 = R19_Merge_u m1 s1 K0 K1
  rw [e]

/- splicer/splicerref01.Mod (43) -/
def R01_Mod_u (a1 : Int) (b1 : Int) (K0 : (Int → Int → Prop)) : Prop :=
  Br (decide (b1 < (1 : Int)))
    (K0 0 0)
    (Br (decide (b1 = (0 : Int)))
      (False)
      (let v2 : Int := (iquo .i64 a1 b1)
      Br (decide (b1 = (0 : Int)))
        (False)
        (let v3 : Int := (irem .i64 a1 b1)
        Br (decide (v3 < (0 : Int)))
          (K0 (isub .i64 v2 1) (iadd .i64 v3 b1))
          (K0 v2 v3))))

noncomputable def R01_Mod : Int → Int → (Int → Int → Prop) → Prop := Classical.choose (⟨R01_Mod_u, rfl⟩ : ∃ q, q = R01_Mod_u)

theorem R01_Mod_def (a1 : Int) (b1 : Int) (K0 : (Int → Int → Prop)) : R01_Mod a1 b1 K0 =
  (Br (decide (b1 < (1 : Int)))
    (K0 0 0)
    (Br (decide (b1 = (0 : Int)))
      (False)
      (let v2 : Int := (iquo .i64 a1 b1)
      Br (decide (b1 = (0 : Int)))
        (False)
        (let v3 : Int := (irem .i64 a1 b1)
        Br (decide (v3 < (0 : Int)))
          (K0 (isub .i64 v2 1) (iadd .i64 v3 b1))
          (K0 v2 v3))))) := by
  have e : R01_Mod = R01_Mod_u := Classical.choose_spec (⟨R01_Mod_u, rfl⟩ : ∃ q, q = R01_Mod_u)
  show R01_Mod a1 b1 K0 = R01_Mod_u a1 b1 K0
  rw [e]

/- splicer/splicerref01.Shr (39) -/
def R01_Shr_u (x1 : Int) (n1 : Int) (K0 : (Int → Prop)) : Prop :=
  Br (decide (x1 < (-2305843009213693952 : Int)))
    (K0 0)
    (Br (decide ((2305843009213693952 : Int) < x1))
      (K0 0)
      (Br (decide (n1 < (0 : Int)))
        (K0 0)
        (Br (decide ((60 : Int) < n1))
          (K0 0)
          (Br (decide (n1 < (0 : Int)))
            (False)
            (R01_Mod x1 (ishl .i64 1 n1)
              (fun (r1 : Int) (r2 : Int) =>
              Br (decide (n1 < (0 : Int)))
                (False)
                (Br (decide ((ishl .i64 1 n1) ≤ (imul .i64 2 r2)))
                  (K0 (iadd .i64 r1 1))
                  (K0 r1))))))))

noncomputable def R01_Shr : Int → Int → (Int → Prop) → Prop := Classical.choose (⟨R01_Shr_u, rfl⟩ : ∃ q, q = R01_Shr_u)

theorem R01_Shr_def (x1 : Int) (n1 : Int) (K0 : (Int → Prop)) : R01_Shr x1 n1 K0 =
  (Br (decide (x1 < (-2305843009213693952 : Int)))
    (K0 0)
    (Br (decide ((2305843009213693952 : Int) < x1))
      (K0 0)
      (Br (decide (n1 < (0 : Int)))
        (K0 0)
        (Br (decide ((60 : Int) < n1))
          (K0 0)
          (Br (decide (n1 < (0 : Int)))
            (False)
            (R01_Mod x1 (ishl .i64 1 n1)
              (fun (r1 : Int) (r2 : Int) =>
              Br (decide (n1 < (0 : Int)))
                (False)
                (Br (decide ((ishl .i64 1 n1) ≤ (imul .i64 2 r2)))
                  (K0 (iadd .i64 r1 1))
                  (K0 r1))))))))) := by
  have e : R01_Shr = R01_Shr_u := Classical.choose_spec (⟨R01_Shr_u, rfl⟩ : ∃ q, q = R01_Shr_u)
  show R01_Shr x1 n1 K0 = R01_Shr_u x1 n1 K0
  rw [e]

/- loop of splicer/splicerref19.Split, region 5 -/
def R19_Split_l5 : Nat → (List Int) → (List Int) → Int → (List Int) → (List Int) → ((List Int) → (List Int) → Prop) → Prop
  | 0, _, _, _, _, _, _ => False
  | k + 1, l2, r3, i1, m1, m2, K0 => Br (decide (i1 < (l2.length : Int)))
      (Br ((decide ((0 : Int) ≤ i1)) && (decide (i1 < (((List.length l2) : Nat) : Int))))
        (Br ((decide ((0 : Int) ≤ i1)) && (decide (i1 < (((List.length r3) : Nat) : Int))))
          (R01_Shr (iadd .i64 (List.getD l2 (Int.toNat i1) 0) (List.getD r3 (Int.toNat i1) 0)) 1
            (fun (r4 : Int) =>
            let m3 : (List Int) := [r4]
            Br (decide ((((List.length m1) + (List.length m3)) * 8) ≤ 140737488355328))
              (Br ((decide ((0 : Int) ≤ i1)) && (decide (i1 < (((List.length l2) : Nat) : Int))))
                (Br ((decide ((0 : Int) ≤ i1)) && (decide (i1 < (((List.length r3) : Nat) : Int))))
                  (R01_Shr (isub .i64 (List.getD l2 (Int.toNat i1) 0) (List.getD r3 (Int.toNat i1) 0)) 1
                    (fun (r5 : Int) =>
                    let m5 : (List Int) := [r5]
                    Br (decide ((((List.length m2) + (List.length m5)) * 8) ≤ 140737488355328))
                      (R19_Split_l5 k l2 r3 (iadd .i64 i1 1) (m1 ++ m3) (m2 ++ m5) K0)
                      (False)))
                  (False))
                (False))
              (False)))
          (False))
        (False))
      (K0 m1 m2)

/- splicer/splicerref19.Split (19) -/
def R19_Split_u (l1 : (List Int)) (r1 : (List Int)) (K0 : (Prop)) (K1 : ((List Int) → (List Int) → Prop)) : Prop :=
  R19_Right l1 r1
    (fun (r2 : Bool) =>
    Br (!r2)
      (K0)
      (∃ q, R19_Split_l5 q l1 r1 0 [] [] K1))

noncomputable def R19_Split : (List Int) → (List Int) → (Prop) → ((List Int) → (List Int) → Prop) → Prop := Classical.choose (⟨R19_Split_u, rfl⟩ : ∃ q, q = R19_Split_u)

theorem R19_Split_def (l1 : (List Int)) (r1 : (List Int)) (K0 : (Prop)) (K1 : ((List Int) → (List Int) → Prop)) : R19_Split l1 r1 K0 K1 =
  (R19_Right l1 r1
    (fun (r2 : Bool) =>
    Br (!r2)
      (K0)
      (∃ q, R19_Split_l5 q l1 r1 0 [] [] K1))) := by
  have e : R19_Split = R19_Split_u := Classical.choose_spec (⟨R19_Split_u, rfl⟩ : ∃ q, q = R19_Split_u)
  show R19_Split l1 r1 K0 K1 = R19_Split_u l1 r1 K0 K1
  rw [e]

/- loop of splicer/splicerref19.Far, region 3 -/
def R19_Far_l3 : Nat → (List Int) → Int → Int → (Int → Prop) → Prop
  | 0, _, _, _, _ => False
  | k + 1, x2, n1, i1, K0 => Br (decide (i1 < (x2.length : Int)))
      (Br ((decide ((0 : Int) ≤ i1)) && (decide (i1 < (((List.length x2) : Nat) : Int))))
        (R01_Abs (List.getD x2 (Int.toNat i1) 0)
          (fun (r1 : Int) =>
          R19_Far_l3 k x2 (iadd .i64 n1 r1) (iadd .i64 i1 1) K0))
        (False))
      (K0 n1)

/- splicer/splicerref19.Far (41) -/
def R19_Far_u (x1 : (List Int)) (K0 : (Int → Prop)) : Prop :=
  ∃ q, R19_Far_l3 q x1 0 0 K0

noncomputable def R19_Far : (List Int) → (Int → Prop) → Prop := Classical.choose (⟨R19_Far_u, rfl⟩ : ∃ q, q = R19_Far_u)

theorem R19_Far_def (x1 : (List Int)) (K0 : (Int → Prop)) : R19_Far x1 K0 =
  (∃ q, R19_Far_l3 q x1 0 0 K0) := by
  have e : R19_Far = R19_Far_u := Classical.choose_spec (⟨R19_Far_u, rfl⟩ : ∃ q, q = R19_Far_u)
  show R19_Far x1 K0 = R19_Far_u x1 K0
  rw [e]

/- join of splicer/splicerref19.Better, region 4 -/
def R19_Better_j4 (l2 : (List Int)) (r5 : (List Int)) (m1 : (List Int)) (m2 : (List Int)) (K0 : (Bool → Prop)) : Prop :=
  R19_Far m1
    (fun (r6 : Int) =>
    R19_Far m2
      (fun (r7 : Int) =>
      R19_Far l2
        (fun (r8 : Int) =>
        R19_Far r5
          (fun (r9 : Int) =>
          K0 (decide ((imul .i64 4 (iadd .i64 r6 r7)) < (imul .i64 3 (iadd .i64 r8 r9))))))))

/- splicer/splicerref19.Better (21) -/
def R19_Better_u (l1 : (List Int)) (r1 : (List Int)) (K0 : (Bool → Prop)) : Prop :=
  R19_Right l1 r1
    (fun (r2 : Bool) =>
    Br (!r2)
      (K0 false)
      (R19_Split l1 r1
        (R19_Better_j4 l1 r1 [] [] K0)
        (fun (r3 : (List Int)) (r4 : (List Int)) =>
        R19_Better_j4 l1 r1 r3 r4 K0)))

noncomputable def R19_Better : (List Int) → (List Int) → (Bool → Prop) → Prop := Classical.choose (⟨R19_Better_u, rfl⟩ : ∃ q, q = R19_Better_u)

theorem R19_Better_def (l1 : (List Int)) (r1 : (List Int)) (K0 : (Bool → Prop)) : R19_Better l1 r1 K0 =
  (R19_Right l1 r1
    (fun (r2 : Bool) =>
    Br (!r2)
      (K0 false)
      (R19_Split l1 r1
        (R19_Better_j4 l1 r1 [] [] K0)
        (fun (r3 : (List Int)) (r4 : (List Int)) =>
        R19_Better_j4 l1 r1 r3 r4 K0)))) := by
  have e : R19_Better = R19_Better_u := Classical.choose_spec (⟨R19_Better_u, rfl⟩ : ∃ q, q = R19_Better_u)
  show R19_Better l1 r1 K0 = R19_Better_u l1 r1 K0
  rw [e]

/- join of splicer/splicerlaw19.SideTells, region 2 -/
def L19_SideTells_j2 (a2 : (List Int)) (b2 : (List Int)) (v5 : Bool) (K0 : (Bool → Prop)) (K1 : ((List Int) → (List Int) → Prop)) : Prop :=
  Br v5
    (L19_awake K0)
    (K1 a2 b2)

/- join of splicer/splicerlaw19.SideTells, region 7 -/
def L19_SideTells_j7 (a9 : (List Int)) (b9 : (List Int)) (m13 : (List Int)) (m14 : (List Int)) (m15 : (List Int)) (m16 : (List Int)) (m17 : (List Int)) (m18 : (List Int)) (m19 : (List Int)) (m20 : (List Int)) (K0 : (Bool → Prop)) : Prop :=
  R01_Same m13 m15
    (fun (r10 : Bool) =>
    Br r10
      (R01_Same m14 m16
        (fun (r11 : Bool) =>
        Br r11
          (R01_Same m17 m19
            (fun (r12 : Bool) =>
            Br r12
              (R01_Same m18 m20
                (fun (r13 : Bool) =>
                Br r13
                  (side_Better a9 b9
                    (fun (r14 : Bool) =>
                    R19_Better a9 b9
                      (fun (r15 : Bool) =>
                      Br (r14 == r15)
                        (L19_awake K0)
                        (K0 false))))
                  (K0 false)))
              (K0 false)))
          (K0 false)))
      (K0 false))

/- join of splicer/splicerlaw19.SideTells, region 6 -/
def L19_SideTells_j6 (a8 : (List Int)) (b8 : (List Int)) (m7 : (List Int)) (m8 : (List Int)) (m9 : (List Int)) (m10 : (List Int)) (m11 : (List Int)) (m12 : (List Int)) (K0 : (Bool → Prop)) : Prop :=
  R19_Split a8 b8
    (L19_SideTells_j7 a8 b8 m7 m8 m9 m10 m11 m12 [] [] K0)
    (fun (r8 : (List Int)) (r9 : (List Int)) =>
    L19_SideTells_j7 a8 b8 m7 m8 m9 m10 m11 m12 r8 r9 K0)

/- join of splicer/splicerlaw19.SideTells, region 5 -/
def L19_SideTells_j5 (a7 : (List Int)) (b7 : (List Int)) (m3 : (List Int)) (m4 : (List Int)) (m5 : (List Int)) (m6 : (List Int)) (K0 : (Bool → Prop)) : Prop :=
  side_Split a7 b7
    (L19_SideTells_j6 a7 b7 m3 m4 m5 m6 [] [] K0)
    (fun (r6 : (List Int)) (r7 : (List Int)) =>
    L19_SideTells_j6 a7 b7 m3 m4 m5 m6 r6 r7 K0)

/- join of splicer/splicerlaw19.SideTells, region 4 -/
def L19_SideTells_j4 (a6 : (List Int)) (b6 : (List Int)) (m1 : (List Int)) (m2 : (List Int)) (K0 : (Bool → Prop)) : Prop :=
  R19_Merge a6 b6
    (L19_SideTells_j5 a6 b6 m1 m2 [] [] K0)
    (fun (r4 : (List Int)) (r5 : (List Int)) =>
    L19_SideTells_j5 a6 b6 m1 m2 r4 r5 K0)

/- join of splicer/splicerlaw19.SideTells, region 3 -/
def L19_SideTells_j3 (a5 : (List Int)) (b5 : (List Int)) (K0 : (Bool → Prop)) : Prop :=
  side_Merge a5 b5
    (L19_SideTells_j4 a5 b5 [] [] K0)
    (fun (r2 : (List Int)) (r3 : (List Int)) =>
    L19_SideTells_j4 a5 b5 r2 r3 K0)

/- splicer/splicerlaw19.SideTells (4) -/
def L19_SideTells_u (a1 : (List Int)) (b1 : (List Int)) (K0 : (Bool → Prop)) : Prop :=
  Br (decide ((70 : Int) < (a1.length : Int)))
    (L19_SideTells_j2 a1 b1 true K0
      (fun (a3 : (List Int)) (b3 : (List Int)) =>
      L19_SideTells_j3 a3 b3 K0))
    (L19_SideTells_j2 a1 b1 (decide ((70 : Int) < (b1.length : Int))) K0
      (fun (a4 : (List Int)) (b4 : (List Int)) =>
      L19_SideTells_j3 a4 b4 K0))

noncomputable def L19_SideTells : (List Int) → (List Int) → (Bool → Prop) → Prop := Classical.choose (⟨L19_SideTells_u, rfl⟩ : ∃ q, q = L19_SideTells_u)

theorem L19_SideTells_def (a1 : (List Int)) (b1 : (List Int)) (K0 : (Bool → Prop)) : L19_SideTells a1 b1 K0 =
  (Br (decide ((70 : Int) < (a1.length : Int)))
    (L19_SideTells_j2 a1 b1 true K0
      (fun (a3 : (List Int)) (b3 : (List Int)) =>
      L19_SideTells_j3 a3 b3 K0))
    (L19_SideTells_j2 a1 b1 (decide ((70 : Int) < (b1.length : Int))) K0
      (fun (a4 : (List Int)) (b4 : (List Int)) =>
      L19_SideTells_j3 a4 b4 K0))) := by
  have e : L19_SideTells = L19_SideTells_u := Classical.choose_spec (⟨L19_SideTells_u, rfl⟩ : ∃ q, q = L19_SideTells_u)
  show L19_SideTells a1 b1 K0 = L19_SideTells_u a1 b1 K0
  rw [e]

end Go.Eng.A
