/- The functions that WindowLeaves reaches, as plain ones: printed by program. -/
import Derived.Test.YtkgapcdnpcjcmaaEngA
set_option linter.unusedVariables false
set_option maxRecDepth 100000
namespace Go.Eng.A
open Go Go.Eng

/- loop of splicer/window.within, region 5 -/
def window_within_l5 : Nat → Int → (List Int) → Int → Int → (Bool → Prop) → (Prop) → Prop
  | 0, _, _, _, _, _, _ => False
  | k + 1, wide3, v6, v7, v8, K0, K1 => Br (decide (v8 < v7))
      (Br ((decide ((0 : Int) ≤ v8)) && (decide (v8 < (((List.length v6) : Nat) : Int))))
        (let v10 : Int := (List.getD v6 (Int.toNat v8) 0)
        Br (decide (v10 < (isub .i64 0 wide3)))
          (K0 false)
          (Br (decide (wide3 < v10))
            (K0 false)
            (window_within_l5 k wide3 v6 v7 (iadd .i64 v8 1) K0 K1)))
        (False))
      (K1)

/- join of splicer/window.within, region 4 -/
def window_within_j4 (l2 : (List Int)) (wide2 : Int) (K0 : (Bool → Prop)) : Prop :=
  ∃ q, window_within_l5 q wide2 l2 (l2.length : Int) 0 K0
    (K0 true)

/- splicer/window.within (43) -/
def window_within_u (l1 : (List Int)) (more1 : Int) (wide1 : Int) (K0 : (Bool → Prop)) : Prop :=
  let v2 : Int := (isub .i64 (l1.length : Int) more1)
  Br (!(decide (v2 = (64 : Int))))
    (Br (!(decide (v2 = (8 : Int))))
      (K0 false)
      (window_within_j4 l1 wide1 K0))
    (window_within_j4 l1 wide1 K0)

noncomputable def window_within : (List Int) → Int → Int → (Bool → Prop) → Prop := Classical.choose (⟨window_within_u, rfl⟩ : ∃ q, q = window_within_u)

theorem window_within_def (l1 : (List Int)) (more1 : Int) (wide1 : Int) (K0 : (Bool → Prop)) : window_within l1 more1 wide1 K0 =
  (let v2 : Int := (isub .i64 (l1.length : Int) more1)
  Br (!(decide (v2 = (64 : Int))))
    (Br (!(decide (v2 = (8 : Int))))
      (K0 false)
      (window_within_j4 l1 wide1 K0))
    (window_within_j4 l1 wide1 K0)) := by
  have e : window_within = window_within_u := Classical.choose_spec (⟨window_within_u, rfl⟩ : ∃ q, q = window_within_u)
  show window_within l1 more1 wide1 K0 = window_within_u l1 more1 wide1 K0
  rw [e]

/- splicer/window.Slope (42) -/
def window_Slope_u  (K0 : ((List Int) → Prop)) : Prop :=
  K0 [494, 4325, 11207, 19363, 26435, 30792, 32481, 32764]

noncomputable def window_Slope : ((List Int) → Prop) → Prop := Classical.choose (⟨window_Slope_u, rfl⟩ : ∃ q, q = window_Slope_u)

theorem window_Slope_def  (K0 : ((List Int) → Prop)) : window_Slope K0 =
  (K0 [494, 4325, 11207, 19363, 26435, 30792, 32481, 32764]) := by
  have e : window_Slope = window_Slope_u := Classical.choose_spec (⟨window_Slope_u, rfl⟩ : ∃ q, q = window_Slope_u)
  show window_Slope K0 = window_Slope_u K0
  rw [e]

/- loop of splicer/num.within, region 2 -/
def num_within_l2 : Nat → Int → (List Int) → Int → Int → (Bool → Prop) → (Prop) → Prop
  | 0, _, _, _, _, _, _ => False
  | k + 1, most2, v2, v3, v4, K0, K1 => Br (decide (v4 < v3))
      (Br ((decide ((0 : Int) ≤ v4)) && (decide (v4 < (((List.length v2) : Nat) : Int))))
        (let v6 : Int := (List.getD v2 (Int.toNat v4) 0)
        Br (decide (v6 < (isub .i64 0 most2)))
          (K0 false)
          (Br (decide (most2 < v6))
            (K0 false)
            (num_within_l2 k most2 v2 v3 (iadd .i64 v4 1) K0 K1)))
        (False))
      (K1)

/- splicer/num.within (58) -/
def num_within_u (most1 : Int) (l1 : (List Int)) (K0 : (Bool → Prop)) : Prop :=
  ∃ q, num_within_l2 q most1 l1 (l1.length : Int) 0 K0
    (K0 true)

noncomputable def num_within : Int → (List Int) → (Bool → Prop) → Prop := Classical.choose (⟨num_within_u, rfl⟩ : ∃ q, q = num_within_u)

theorem num_within_def (most1 : Int) (l1 : (List Int)) (K0 : (Bool → Prop)) : num_within most1 l1 K0 =
  (∃ q, num_within_l2 q most1 l1 (l1.length : Int) 0 K0
    (K0 true)) := by
  have e : num_within = num_within_u := Classical.choose_spec (⟨num_within_u, rfl⟩ : ∃ q, q = num_within_u)
  show num_within most1 l1 K0 = num_within_u most1 l1 K0
  rw [e]

/- join of splicer/num.Shr, region 2 -/
def num_Shr_j2 (x2 : Int) (n2 : Int) (v4 : Bool) (K0 : (Int → Prop)) (K1 : (Int → Int → Prop)) : Prop :=
  Br v4
    (K0 0)
    (Br (decide (n2 = (0 : Int)))
      (K0 x2)
      (K1 x2 n2))

/- join of splicer/num.Shr, region 5 -/
def num_Shr_j5 (x6 : Int) (n6 : Int) (K0 : (Int → Prop)) : Prop :=
  let v9 : Int := (isub .i64 n6 1)
  Br (decide (v9 < (0 : Int)))
    (False)
    (Br (decide (n6 < (0 : Int)))
      (False)
      (K0 (ishr .i64 (iadd .i64 x6 (ishl .i64 1 v9)) n6)))

/- splicer/num.Shr (46) -/
def num_Shr_u (x1 : Int) (n1 : Int) (K0 : (Int → Prop)) : Prop :=
  Br (decide (n1 < (0 : Int)))
    (num_Shr_j2 x1 n1 true K0
      (fun (x3 : Int) (n3 : Int) =>
      num_Shr_j5 x3 n3 K0))
    (Br (decide ((60 : Int) < n1))
      (num_Shr_j2 x1 n1 true K0
        (fun (x4 : Int) (n4 : Int) =>
        num_Shr_j5 x4 n4 K0))
      (num_within 2305843009213693952 [x1]
        (fun (r1 : Bool) =>
        num_Shr_j2 x1 n1 (!r1) K0
          (fun (x5 : Int) (n5 : Int) =>
          num_Shr_j5 x5 n5 K0))))

noncomputable def num_Shr : Int → Int → (Int → Prop) → Prop := Classical.choose (⟨num_Shr_u, rfl⟩ : ∃ q, q = num_Shr_u)

theorem num_Shr_def (x1 : Int) (n1 : Int) (K0 : (Int → Prop)) : num_Shr x1 n1 K0 =
  (Br (decide (n1 < (0 : Int)))
    (num_Shr_j2 x1 n1 true K0
      (fun (x3 : Int) (n3 : Int) =>
      num_Shr_j5 x3 n3 K0))
    (Br (decide ((60 : Int) < n1))
      (num_Shr_j2 x1 n1 true K0
        (fun (x4 : Int) (n4 : Int) =>
        num_Shr_j5 x4 n4 K0))
      (num_within 2305843009213693952 [x1]
        (fun (r1 : Bool) =>
        num_Shr_j2 x1 n1 (!r1) K0
          (fun (x5 : Int) (n5 : Int) =>
          num_Shr_j5 x5 n5 K0))))) := by
  have e : num_Shr = num_Shr_u := Classical.choose_spec (⟨num_Shr_u, rfl⟩ : ∃ q, q = num_Shr_u)
  show num_Shr x1 n1 K0 = num_Shr_u x1 n1 K0
  rw [e]

/- loop of splicer/window.Fold, region 8 -/
def window_Fold_l8 : Nat → (List Int) → Int → Int → (List Int) → (List Int) → ((List Int) → Prop) → Prop
  | 0, _, _, _, _, _, _ => False
  | k + 1, x2, n1, v6, m4, m5, K0 => Br (decide (v6 < (4 : Int)))
      (let v8 : Int := (iadd .i64 4 v6)
      Br ((decide ((0 : Int) ≤ v8)) && (decide (v8 < (8 : Int))))
        (Br (decide ((Int.toNat v8) < (List.length m5)))
          (let v9 : Int := (List.getD m5 (Int.toNat v8) 0)
          let v10 : Int := (isub .i64 3 v6)
          Br ((decide ((0 : Int) ≤ v10)) && (decide (v10 < (8 : Int))))
            (Br (decide ((Int.toNat v10) < (List.length m5)))
              (let v11 : Int := (List.getD m5 (Int.toNat v10) 0)
              let v12 : Int := (iadd .i64 4 v6)
              Br ((decide ((0 : Int) ≤ v12)) && (decide (v12 < (((List.length x2) : Nat) : Int))))
                (let v15 : Int := (isub .i64 3 v6)
                Br ((decide ((0 : Int) ≤ v15)) && (decide (v15 < (((List.length x2) : Nat) : Int))))
                  (num_Shr (iadd .i64 (imul .i64 v9 (List.getD x2 (Int.toNat v12) 0)) (imul .i64 v11 (List.getD x2 (Int.toNat v15) 0))) 15
                    (fun (r3 : Int) =>
                    Br ((decide ((0 : Int) ≤ v6)) && (decide (v6 < (((List.length m4) : Nat) : Int))))
                      (Br (decide ((Int.toNat v6) < (List.length m4)))
                        (let m6 : (List Int) := (List.set m4 (Int.toNat v6) r3)
                        let v20 : Int := (isub .i64 (isub .i64 n1 1) v6)
                        let v23 : Int := (isub .i64 (isub .i64 (iadd .i64 n1 4) 1) v6)
                        Br ((decide ((0 : Int) ≤ v23)) && (decide (v23 < (((List.length x2) : Nat) : Int))))
                          (let v27 : Int := (iadd .i64 (iadd .i64 n1 4) v6)
                          Br ((decide ((0 : Int) ≤ v27)) && (decide (v27 < (((List.length x2) : Nat) : Int))))
                            (num_Shr (isub .i64 (imul .i64 v9 (List.getD x2 (Int.toNat v23) 0)) (imul .i64 v11 (List.getD x2 (Int.toNat v27) 0))) 15
                              (fun (r4 : Int) =>
                              Br ((decide ((0 : Int) ≤ v20)) && (decide (v20 < (((List.length m6) : Nat) : Int))))
                                (Br (decide ((Int.toNat v20) < (List.length m6)))
                                  (window_Fold_l8 k x2 n1 (iadd .i64 v6 1) (List.set m6 (Int.toNat v20) r4) m5 K0)
                                  (False))
                                (False)))
                            (False))
                          (False))
                        (False))
                      (False)))
                  (False))
                (False))
              (False))
            (False))
          (False))
        (False))
      (K0 m4)

/- splicer/window.Fold (18) -/
def window_Fold_u (x1 : (List Int)) (K0 : (Prop)) (K1 : ((List Int) → Prop)) : Prop :=
  window_within x1 8 16777216
    (fun (r1 : Bool) =>
    Br (!r1)
      (K0)
      (let v3 : Int := (isub .i64 (x1.length : Int) 8)
      Br (((decide ((0 : Int) ≤ v3)) && (decide (v3 ≤ v3))) && (decide ((v3 * (8 : Int)) ≤ (140737488355328 : Int))))
        (let m1 : (List Int) := (List.replicate (Int.toNat v3) 0)
        Br (decide ((4 : Int) ≤ (((List.length x1) : Nat) : Int)))
          (let v4 : (List Int) := (List.take ((List.length x1) - 4) (List.drop 4 x1))
          window_Slope
            (fun (r2 : (List Int)) =>
            ∃ q, window_Fold_l8 q x1 v3 0 (splice m1 0 (List.take (List.length m1) v4)) r2 K1))
          (False))
        (False)))

noncomputable def window_Fold : (List Int) → (Prop) → ((List Int) → Prop) → Prop := Classical.choose (⟨window_Fold_u, rfl⟩ : ∃ q, q = window_Fold_u)

theorem window_Fold_def (x1 : (List Int)) (K0 : (Prop)) (K1 : ((List Int) → Prop)) : window_Fold x1 K0 K1 =
  (window_within x1 8 16777216
    (fun (r1 : Bool) =>
    Br (!r1)
      (K0)
      (let v3 : Int := (isub .i64 (x1.length : Int) 8)
      Br (((decide ((0 : Int) ≤ v3)) && (decide (v3 ≤ v3))) && (decide ((v3 * (8 : Int)) ≤ (140737488355328 : Int))))
        (let m1 : (List Int) := (List.replicate (Int.toNat v3) 0)
        Br (decide ((4 : Int) ≤ (((List.length x1) : Nat) : Int)))
          (let v4 : (List Int) := (List.take ((List.length x1) - 4) (List.drop 4 x1))
          window_Slope
            (fun (r2 : (List Int)) =>
            ∃ q, window_Fold_l8 q x1 v3 0 (splice m1 0 (List.take (List.length m1) v4)) r2 K1))
          (False))
        (False)))) := by
  have e : window_Fold = window_Fold_u := Classical.choose_spec (⟨window_Fold_u, rfl⟩ : ∃ q, q = window_Fold_u)
  show window_Fold x1 K0 K1 = window_Fold_u x1 K0 K1
  rw [e]

/- loop of splicer/splicerref01.Same, region 4 -/
def R01_Same_l4 : Nat → (List Int) → (List Int) → Int → (Bool → Prop) → (Prop) → Prop
  | 0, _, _, _, _, _ => False
  | k + 1, a2, b2, i1, K0, K1 => Br (decide (i1 < (a2.length : Int)))
      (Br ((decide ((0 : Int) ≤ i1)) && (decide (i1 < (((List.length a2) : Nat) : Int))))
        (Br ((decide ((0 : Int) ≤ i1)) && (decide (i1 < (((List.length b2) : Nat) : Int))))
          (Br (!(decide ((List.getD a2 (Int.toNat i1) 0) = (List.getD b2 (Int.toNat i1) 0))))
            (K0 false)
            (R01_Same_l4 k a2 b2 (iadd .i64 i1 1) K0 K1))
          (False))
        (False))
      (K1)

/- splicer/splicerref01.Same (29) -/
def R01_Same_u (a1 : (List Int)) (b1 : (List Int)) (K0 : (Bool → Prop)) : Prop :=
  Br (!(decide ((a1.length : Int) = (b1.length : Int))))
    (K0 false)
    (∃ q, R01_Same_l4 q a1 b1 0 K0
      (K0 true))

noncomputable def R01_Same : (List Int) → (List Int) → (Bool → Prop) → Prop := Classical.choose (⟨R01_Same_u, rfl⟩ : ∃ q, q = R01_Same_u)

theorem R01_Same_def (a1 : (List Int)) (b1 : (List Int)) (K0 : (Bool → Prop)) : R01_Same a1 b1 K0 =
  (Br (!(decide ((a1.length : Int) = (b1.length : Int))))
    (K0 false)
    (∃ q, R01_Same_l4 q a1 b1 0 K0
      (K0 true))) := by
  have e : R01_Same = R01_Same_u := Classical.choose_spec (⟨R01_Same_u, rfl⟩ : ∃ q, q = R01_Same_u)
  show R01_Same a1 b1 K0 = R01_Same_u a1 b1 K0
  rw [e]

/- join of splicer/splicerlaw11.awake, region 5 -/
def L11_awake_j5 (m5 : (List Int)) (m6 : (List Int)) (K0 : (Bool → Prop)) : Prop :=
  Br (decide ((m5.length : Int) = (8 : Int)))
    (R01_Same m5 (List.replicate 8 0)
      (fun (r3 : Bool) =>
      Br r3
        (Br (decide ((m6.length : Int) = (8 : Int)))
          (Br (decide ((4 : Int) < (((List.length m6) : Nat) : Int)))
            (Br (decide (4 < (List.length m6)))
              (Br (decide ((List.getD m6 4 0) = (32764 : Int)))
                (window_Slope
                  (fun (r4 : (List Int)) =>
                  K0 (decide ((List.getD r4 7 0) = (32764 : Int)))))
                (K0 false))
              (False))
            (False))
          (K0 false))
        (K0 false)))
    (K0 false)

/- join of splicer/splicerlaw11.awake, region 3 -/
def L11_awake_j3 (m2 : (List Int)) (m3 : (List Int)) (K0 : (Bool → Prop)) : Prop :=
  Br (decide ((8 : Int) < (((List.length m2) : Nat) : Int)))
    (Br (decide (8 < (List.length m2)))
      (window_Fold (List.set m2 8 32768)
        (L11_awake_j5 m3 [] K0)
        (fun (r2 : (List Int)) =>
        L11_awake_j5 m3 r2 K0))
      (False))
    (False)

/- splicer/splicerlaw11.awake (11) -/
def L11_awake_u  (K0 : (Bool → Prop)) : Prop :=
  let m1 : (List Int) := (List.replicate 16 0)
  window_Fold m1
    (L11_awake_j3 m1 [] K0)
    (fun (r1 : (List Int)) =>
    L11_awake_j3 m1 r1 K0)

noncomputable def L11_awake : (Bool → Prop) → Prop := Classical.choose (⟨L11_awake_u, rfl⟩ : ∃ q, q = L11_awake_u)

theorem L11_awake_def  (K0 : (Bool → Prop)) : L11_awake K0 =
  (let m1 : (List Int) := (List.replicate 16 0)
  window_Fold m1
    (L11_awake_j3 m1 [] K0)
    (fun (r1 : (List Int)) =>
    L11_awake_j3 m1 r1 K0)) := by
  have e : L11_awake = L11_awake_u := Classical.choose_spec (⟨L11_awake_u, rfl⟩ : ∃ q, q = L11_awake_u)
  show L11_awake K0 = L11_awake_u K0
  rw [e]

/- loop of splicer/window.Left, region 6 -/
def window_Left_l6 : Nat → (List Int) → Int → (List Int) → (List Int) → (List Int) → ((List Int) → (List Int) → Prop) → Prop
  | 0, _, _, _, _, _, _ => False
  | k + 1, u2, v2, m4, m5, m6, K0 => Br (decide (v2 < (4 : Int)))
      (let v4 : Int := (iadd .i64 4 v2)
      let v5 : Int := (iadd .i64 4 v2)
      Br ((decide ((0 : Int) ≤ v5)) && (decide (v5 < (8 : Int))))
        (Br (decide ((Int.toNat v5) < (List.length m6)))
          (Br ((decide ((0 : Int) ≤ v2)) && (decide (v2 < (((List.length u2) : Nat) : Int))))
            (Br ((decide ((0 : Int) ≤ v4)) && (decide (v4 < (8 : Int))))
              (Br (decide ((Int.toNat v4) < (List.length m5)))
                (let m7 : (List Int) := (List.set m5 (Int.toNat v4) (imul .i64 (List.getD m6 (Int.toNat v5) 0) (List.getD u2 (Int.toNat v2) 0)))
                let v9 : Int := (isub .i64 3 v2)
                let v10 : Int := (isub .i64 3 v2)
                Br ((decide ((0 : Int) ≤ v10)) && (decide (v10 < (8 : Int))))
                  (Br (decide ((Int.toNat v10) < (List.length m6)))
                    (Br ((decide ((0 : Int) ≤ v2)) && (decide (v2 < (((List.length u2) : Nat) : Int))))
                      (Br ((decide ((0 : Int) ≤ v9)) && (decide (v9 < (8 : Int))))
                        (Br (decide ((Int.toNat v9) < (List.length m7)))
                          (window_Left_l6 k u2 (iadd .i64 v2 1) m4 (List.set m7 (Int.toNat v9) (imul .i64 (List.getD m6 (Int.toNat v10) 0) (List.getD u2 (Int.toNat v2) 0))) m6 K0)
                          (False))
                        (False))
                      (False))
                    (False))
                  (False))
                (False))
              (False))
            (False))
          (False))
        (False))
      (K0 m4 m5)

/- splicer/window.Left (12) -/
def window_Left_u (u1 : (List Int)) (K0 : ((List Int) → Prop)) : Prop :=
  let m2 : (List Int) := (List.replicate 8 0)
  window_within u1 0 1073741824
    (fun (r1 : Bool) =>
    Br (!r1)
      (K0 m2)
      (window_Slope
        (fun (r2 : (List Int)) =>
        ∃ q, window_Left_l6 q u1 0 (List.replicate 8 0) m2 r2
          (fun (m9 : (List Int)) (m10 : (List Int)) =>
          K0 m10))))

noncomputable def window_Left : (List Int) → ((List Int) → Prop) → Prop := Classical.choose (⟨window_Left_u, rfl⟩ : ∃ q, q = window_Left_u)

theorem window_Left_def (u1 : (List Int)) (K0 : ((List Int) → Prop)) : window_Left u1 K0 =
  (let m2 : (List Int) := (List.replicate 8 0)
  window_within u1 0 1073741824
    (fun (r1 : Bool) =>
    Br (!r1)
      (K0 m2)
      (window_Slope
        (fun (r2 : (List Int)) =>
        ∃ q, window_Left_l6 q u1 0 (List.replicate 8 0) m2 r2
          (fun (m9 : (List Int)) (m10 : (List Int)) =>
          K0 m10))))) := by
  have e : window_Left = window_Left_u := Classical.choose_spec (⟨window_Left_u, rfl⟩ : ∃ q, q = window_Left_u)
  show window_Left u1 K0 = window_Left_u u1 K0
  rw [e]

/- loop of splicer/splicerref01.Within, region 2 -/
def R01_Within_l2 : Nat → (List Int) → Int → Int → Int → (Bool → Prop) → (Prop) → Prop
  | 0, _, _, _, _, _, _ => False
  | k + 1, l2, low2, high2, i1, K0, K1 => Br (decide (i1 < (l2.length : Int)))
      (Br ((decide ((0 : Int) ≤ i1)) && (decide (i1 < (((List.length l2) : Nat) : Int))))
        (Br (decide ((List.getD l2 (Int.toNat i1) 0) < low2))
          (K0 false)
          (Br ((decide ((0 : Int) ≤ i1)) && (decide (i1 < (((List.length l2) : Nat) : Int))))
            (Br (decide (high2 < (List.getD l2 (Int.toNat i1) 0)))
              (K0 false)
              (R01_Within_l2 k l2 low2 high2 (iadd .i64 i1 1) K0 K1))
            (False)))
        (False))
      (K1)

/- splicer/splicerref01.Within (57) -/
def R01_Within_u (l1 : (List Int)) (low1 : Int) (high1 : Int) (K0 : (Bool → Prop)) : Prop :=
  ∃ q, R01_Within_l2 q l1 low1 high1 0 K0
    (K0 true)

noncomputable def R01_Within : (List Int) → Int → Int → (Bool → Prop) → Prop := Classical.choose (⟨R01_Within_u, rfl⟩ : ∃ q, q = R01_Within_u)

theorem R01_Within_def (l1 : (List Int)) (low1 : Int) (high1 : Int) (K0 : (Bool → Prop)) : R01_Within l1 low1 high1 K0 =
  (∃ q, R01_Within_l2 q l1 low1 high1 0 K0
    (K0 true)) := by
  have e : R01_Within = R01_Within_u := Classical.choose_spec (⟨R01_Within_u, rfl⟩ : ∃ q, q = R01_Within_u)
  show R01_Within l1 low1 high1 K0 = R01_Within_u l1 low1 high1 K0
  rw [e]

/- splicer/splicerref11.Block (44) -/
def R11_Block_u (u1 : (List Int)) (K0 : (Bool → Prop)) : Prop :=
  Br (decide ((u1.length : Int) = (8 : Int)))
    (R01_Within u1 (-1073741824) 1073741824 K0)
    (Br (decide ((u1.length : Int) = (64 : Int)))
      (R01_Within u1 (-1073741824) 1073741824 K0)
      (K0 false))

noncomputable def R11_Block : (List Int) → (Bool → Prop) → Prop := Classical.choose (⟨R11_Block_u, rfl⟩ : ∃ q, q = R11_Block_u)

theorem R11_Block_def (u1 : (List Int)) (K0 : (Bool → Prop)) : R11_Block u1 K0 =
  (Br (decide ((u1.length : Int) = (8 : Int)))
    (R01_Within u1 (-1073741824) 1073741824 K0)
    (Br (decide ((u1.length : Int) = (64 : Int)))
      (R01_Within u1 (-1073741824) 1073741824 K0)
      (K0 false))) := by
  have e : R11_Block = R11_Block_u := Classical.choose_spec (⟨R11_Block_u, rfl⟩ : ∃ q, q = R11_Block_u)
  show R11_Block u1 K0 = R11_Block_u u1 K0
  rw [e]

/- splicer/splicerref11.W (45) -/
def R11_W_u  (K0 : ((List Int) → Prop)) : Prop :=
  K0 [494, 4325, 11207, 19363, 26435, 30792, 32481, 32764]

noncomputable def R11_W : ((List Int) → Prop) → Prop := Classical.choose (⟨R11_W_u, rfl⟩ : ∃ q, q = R11_W_u)

theorem R11_W_def  (K0 : ((List Int) → Prop)) : R11_W K0 =
  (K0 [494, 4325, 11207, 19363, 26435, 30792, 32481, 32764]) := by
  have e : R11_W = R11_W_u := Classical.choose_spec (⟨R11_W_u, rfl⟩ : ∃ q, q = R11_W_u)
  show R11_W K0 = R11_W_u K0
  rw [e]

/- join of splicer/splicerref11.Left, region 11 -/
def R11_Left_j11 (u3 : (List Int)) (j2 : Int) (i1 : Int) (m6 : (List Int)) (m7 : (List Int)) (m8 : (List Int)) (K0 : ((List Int) → Int → (List Int) → (List Int) → (List Int) → Prop)) : Prop :=
  Br ((decide ((0 : Int) ≤ j2)) && (decide (j2 < (((List.length m8) : Nat) : Int))))
    (Br (decide ((Int.toNat j2) < (List.length m8)))
      (Br ((decide ((0 : Int) ≤ i1)) && (decide (i1 < (((List.length u3) : Nat) : Int))))
        (Br ((decide ((0 : Int) ≤ j2)) && (decide (j2 < (8 : Int))))
          (Br (decide ((Int.toNat j2) < (List.length m7)))
            (K0 u3 j2 m6 (List.set m7 (Int.toNat j2) (imul .i64 (List.getD m8 (Int.toNat j2) 0) (List.getD u3 (Int.toNat i1) 0))) m8)
            (False))
          (False))
        (False))
      (False))
    (False)

/- loop of splicer/splicerref11.Left, region 6 -/
def R11_Left_l6 : Nat → (List Int) → Int → (List Int) → (List Int) → (List Int) → ((List Int) → (List Int) → Prop) → Prop
  | 0, _, _, _, _, _, _ => False
  | k + 1, u2, j1, m3, m4, m5, K0 => Br (decide (j1 < (8 : Int)))
      (Br (decide (j1 < (4 : Int)))
        (R11_Left_j11 u2 j1 (isub .i64 3 j1) m3 m4 m5
          (fun (u4 : (List Int)) (j3 : Int) (m10 : (List Int)) (m11 : (List Int)) (m12 : (List Int)) =>
          R11_Left_l6 k u4 (iadd .i64 j3 1) m10 m11 m12 K0))
        (R11_Left_j11 u2 j1 (isub .i64 j1 4) m3 m4 m5
          (fun (u5 : (List Int)) (j4 : Int) (m13 : (List Int)) (m14 : (List Int)) (m15 : (List Int)) =>
          R11_Left_l6 k u5 (iadd .i64 j4 1) m13 m14 m15 K0)))
      (K0 m3 m4)

/- splicer/splicerref11.Left (13) -/
def R11_Left_u (u1 : (List Int)) (K0 : ((List Int) → Prop)) : Prop :=
  let v1 : (List Int) := (List.replicate 8 0)
  R11_Block u1
    (fun (r1 : Bool) =>
    Br (!r1)
      (K0 v1)
      (R11_W
        (fun (r2 : (List Int)) =>
        ∃ q, R11_Left_l6 q u1 0 (List.replicate 8 0) v1 r2
          (fun (m16 : (List Int)) (m17 : (List Int)) =>
          K0 m17))))

noncomputable def R11_Left : (List Int) → ((List Int) → Prop) → Prop := Classical.choose (⟨R11_Left_u, rfl⟩ : ∃ q, q = R11_Left_u)

theorem R11_Left_def (u1 : (List Int)) (K0 : ((List Int) → Prop)) : R11_Left u1 K0 =
  (let v1 : (List Int) := (List.replicate 8 0)
  R11_Block u1
    (fun (r1 : Bool) =>
    Br (!r1)
      (K0 v1)
      (R11_W
        (fun (r2 : (List Int)) =>
        ∃ q, R11_Left_l6 q u1 0 (List.replicate 8 0) v1 r2
          (fun (m16 : (List Int)) (m17 : (List Int)) =>
          K0 m17))))) := by
  have e : R11_Left = R11_Left_u := Classical.choose_spec (⟨R11_Left_u, rfl⟩ : ∃ q, q = R11_Left_u)
  show R11_Left u1 K0 = R11_Left_u u1 K0
  rw [e]

/- loop of splicer/window.Right, region 6 -/
def window_Right_l6 : Nat → (List Int) → Int → (List Int) → (List Int) → (List Int) → ((List Int) → (List Int) → Prop) → Prop
  | 0, _, _, _, _, _, _ => False
  | k + 1, u2, v2, m4, m5, m6, K0 => Br (decide (v2 < (4 : Int)))
      (let v6 : Int := (isub .i64 (isub .i64 (u2.length : Int) 1) v2)
      Br ((decide ((0 : Int) ≤ v6)) && (decide (v6 < (((List.length u2) : Nat) : Int))))
        (let v7 : Int := (List.getD u2 (Int.toNat v6) 0)
        let v8 : Int := (isub .i64 3 v2)
        let v9 : Int := (iadd .i64 4 v2)
        Br ((decide ((0 : Int) ≤ v9)) && (decide (v9 < (8 : Int))))
          (Br (decide ((Int.toNat v9) < (List.length m6)))
            (Br ((decide ((0 : Int) ≤ v8)) && (decide (v8 < (8 : Int))))
              (Br (decide ((Int.toNat v8) < (List.length m5)))
                (let m7 : (List Int) := (List.set m5 (Int.toNat v8) (imul .i64 (List.getD m6 (Int.toNat v9) 0) v7))
                let v12 : Int := (iadd .i64 4 v2)
                let v13 : Int := (isub .i64 3 v2)
                Br ((decide ((0 : Int) ≤ v13)) && (decide (v13 < (8 : Int))))
                  (Br (decide ((Int.toNat v13) < (List.length m6)))
                    (Br ((decide ((0 : Int) ≤ v12)) && (decide (v12 < (8 : Int))))
                      (Br (decide ((Int.toNat v12) < (List.length m7)))
                        (window_Right_l6 k u2 (iadd .i64 v2 1) m4 (List.set m7 (Int.toNat v12) (imul .i64 (isub .i64 0 (List.getD m6 (Int.toNat v13) 0)) v7)) m6 K0)
                        (False))
                      (False))
                    (False))
                  (False))
                (False))
              (False))
            (False))
          (False))
        (False))
      (K0 m4 m5)

/- splicer/window.Right (14) -/
def window_Right_u (u1 : (List Int)) (K0 : ((List Int) → Prop)) : Prop :=
  let m2 : (List Int) := (List.replicate 8 0)
  window_within u1 0 1073741824
    (fun (r1 : Bool) =>
    Br (!r1)
      (K0 m2)
      (window_Slope
        (fun (r2 : (List Int)) =>
        ∃ q, window_Right_l6 q u1 0 (List.replicate 8 0) m2 r2
          (fun (m9 : (List Int)) (m10 : (List Int)) =>
          K0 m10))))

noncomputable def window_Right : (List Int) → ((List Int) → Prop) → Prop := Classical.choose (⟨window_Right_u, rfl⟩ : ∃ q, q = window_Right_u)

theorem window_Right_def (u1 : (List Int)) (K0 : ((List Int) → Prop)) : window_Right u1 K0 =
  (let m2 : (List Int) := (List.replicate 8 0)
  window_within u1 0 1073741824
    (fun (r1 : Bool) =>
    Br (!r1)
      (K0 m2)
      (window_Slope
        (fun (r2 : (List Int)) =>
        ∃ q, window_Right_l6 q u1 0 (List.replicate 8 0) m2 r2
          (fun (m9 : (List Int)) (m10 : (List Int)) =>
          K0 m10))))) := by
  have e : window_Right = window_Right_u := Classical.choose_spec (⟨window_Right_u, rfl⟩ : ∃ q, q = window_Right_u)
  show window_Right u1 K0 = window_Right_u u1 K0
  rw [e]

/- loop of splicer/splicerref11.Right, region 6 -/
def R11_Right_l6 : Nat → (List Int) → Int → (List Int) → (List Int) → (List Int) → ((List Int) → (List Int) → Prop) → Prop
  | 0, _, _, _, _, _, _ => False
  | k + 1, u2, j1, m3, m4, m5, K0 => Br (decide (j1 < (8 : Int)))
      (Br (decide (j1 < (4 : Int)))
        (let v5 : Int := (isub .i64 7 j1)
        Br ((decide ((0 : Int) ≤ v5)) && (decide (v5 < (((List.length m5) : Nat) : Int))))
          (Br (decide ((Int.toNat v5) < (List.length m5)))
            (let v9 : Int := (iadd .i64 (isub .i64 (u2.length : Int) 4) j1)
            Br ((decide ((0 : Int) ≤ v9)) && (decide (v9 < (((List.length u2) : Nat) : Int))))
              (Br ((decide ((0 : Int) ≤ j1)) && (decide (j1 < (8 : Int))))
                (Br (decide ((Int.toNat j1) < (List.length m4)))
                  (R11_Right_l6 k u2 (iadd .i64 j1 1) m3 (List.set m4 (Int.toNat j1) (imul .i64 (List.getD m5 (Int.toNat v5) 0) (List.getD u2 (Int.toNat v9) 0))) m5 K0)
                  (False))
                (False))
              (False))
            (False))
          (False))
        (let v12 : Int := (isub .i64 7 j1)
        Br ((decide ((0 : Int) ≤ v12)) && (decide (v12 < (((List.length m5) : Nat) : Int))))
          (Br (decide ((Int.toNat v12) < (List.length m5)))
            (let v17 : Int := (isub .i64 (iadd .i64 (u2.length : Int) 3) j1)
            Br ((decide ((0 : Int) ≤ v17)) && (decide (v17 < (((List.length u2) : Nat) : Int))))
              (Br ((decide ((0 : Int) ≤ j1)) && (decide (j1 < (8 : Int))))
                (Br (decide ((Int.toNat j1) < (List.length m4)))
                  (R11_Right_l6 k u2 (iadd .i64 j1 1) m3 (List.set m4 (Int.toNat j1) (imul .i64 (isub .i64 0 (List.getD m5 (Int.toNat v12) 0)) (List.getD u2 (Int.toNat v17) 0))) m5 K0)
                  (False))
                (False))
              (False))
            (False))
          (False)))
      (K0 m3 m4)

/- splicer/splicerref11.Right (15) -/
def R11_Right_u (u1 : (List Int)) (K0 : ((List Int) → Prop)) : Prop :=
  let v1 : (List Int) := (List.replicate 8 0)
  R11_Block u1
    (fun (r1 : Bool) =>
    Br (!r1)
      (K0 v1)
      (R11_W
        (fun (r2 : (List Int)) =>
        ∃ q, R11_Right_l6 q u1 0 (List.replicate 8 0) v1 r2
          (fun (m8 : (List Int)) (m9 : (List Int)) =>
          K0 m9))))

noncomputable def R11_Right : (List Int) → ((List Int) → Prop) → Prop := Classical.choose (⟨R11_Right_u, rfl⟩ : ∃ q, q = R11_Right_u)

theorem R11_Right_def (u1 : (List Int)) (K0 : ((List Int) → Prop)) : R11_Right u1 K0 =
  (let v1 : (List Int) := (List.replicate 8 0)
  R11_Block u1
    (fun (r1 : Bool) =>
    Br (!r1)
      (K0 v1)
      (R11_W
        (fun (r2 : (List Int)) =>
        ∃ q, R11_Right_l6 q u1 0 (List.replicate 8 0) v1 r2
          (fun (m8 : (List Int)) (m9 : (List Int)) =>
          K0 m9))))) := by
  have e : R11_Right = R11_Right_u := Classical.choose_spec (⟨R11_Right_u, rfl⟩ : ∃ q, q = R11_Right_u)
  show R11_Right u1 K0 = R11_Right_u u1 K0
  rw [e]

/- join of splicer/window.Meet, region 6 -/
def window_Meet_j6 (j1 : Int) (v11 : Int) (v12 : Bool) (m7 : (List Int)) (m8 : (List Int)) (m9 : (List Int)) (m10 : (List Int)) (K0 : (Int → (List Int) → (List Int) → (List Int) → (List Int) → Prop)) : Prop :=
  Br v12
    (Br ((decide ((0 : Int) ≤ j1)) && (decide (j1 < (8 : Int))))
      (Br (decide ((Int.toNat j1) < (List.length m7)))
        (Br ((decide ((0 : Int) ≤ j1)) && (decide (j1 < (8 : Int))))
          (Br (decide ((Int.toNat j1) < (List.length m8)))
            (num_Shr (iadd .i64 (List.getD m7 (Int.toNat j1) 0) (List.getD m8 (Int.toNat j1) 0)) 15
              (fun (r1 : Int) =>
              Br ((decide ((0 : Int) ≤ j1)) && (decide (j1 < (8 : Int))))
                (Br (decide ((Int.toNat j1) < (List.length m10)))
                  (K0 v11 m7 m8 m9 (List.set m10 (Int.toNat j1) r1))
                  (False))
                (False)))
            (False))
          (False))
        (False))
      (False))
    (K0 v11 m7 m8 m9 m10)

/- loop of splicer/window.Meet, region 3 -/
def window_Meet_l3 : Nat → Int → (List Int) → (List Int) → (List Int) → (List Int) → ((List Int) → (List Int) → Prop) → Prop
  | 0, _, _, _, _, _, _ => False
  | k + 1, v1, m3, m4, m5, m6, K0 => Br (decide (v1 < (8 : Int)))
      (Br ((decide ((0 : Int) ≤ v1)) && (decide (v1 < (8 : Int))))
        (Br (decide ((Int.toNat v1) < (List.length m3)))
          (Br ((decide ((0 : Int) ≤ v1)) && (decide (v1 < (8 : Int))))
            (Br (decide ((Int.toNat v1) < (List.length m4)))
              (Br (decide ((-70368744177664 : Int) ≤ (imin (List.getD m3 (Int.toNat v1) 0) (List.getD m4 (Int.toNat v1) 0))))
                (Br ((decide ((0 : Int) ≤ v1)) && (decide (v1 < (8 : Int))))
                  (Br (decide ((Int.toNat v1) < (List.length m3)))
                    (Br ((decide ((0 : Int) ≤ v1)) && (decide (v1 < (8 : Int))))
                      (Br (decide ((Int.toNat v1) < (List.length m4)))
                        (window_Meet_j6 v1 v1 (decide ((imax (List.getD m3 (Int.toNat v1) 0) (List.getD m4 (Int.toNat v1) 0)) ≤ (70368744177664 : Int))) m3 m4 m5 m6
                          (fun (v16 : Int) (m12 : (List Int)) (m13 : (List Int)) (m14 : (List Int)) (m15 : (List Int)) =>
                          window_Meet_l3 k (iadd .i64 v16 1) m12 m13 m14 m15 K0))
                        (False))
                      (False))
                    (False))
                  (False))
                (window_Meet_j6 v1 v1 false m3 m4 m5 m6
                  (fun (v17 : Int) (m16 : (List Int)) (m17 : (List Int)) (m18 : (List Int)) (m19 : (List Int)) =>
                  window_Meet_l3 k (iadd .i64 v17 1) m16 m17 m18 m19 K0)))
              (False))
            (False))
          (False))
        (False))
      (K0 m5 m6)

/- splicer/window.Meet (16) -/
def window_Meet_u (left1 : (List Int)) (right1 : (List Int)) (K0 : ((List Int) → Prop)) : Prop :=
  ∃ q, window_Meet_l3 q 0 left1 right1 (List.replicate 8 0) (List.replicate 8 0)
    (fun (m20 : (List Int)) (m21 : (List Int)) =>
    K0 m21)

noncomputable def window_Meet : (List Int) → (List Int) → ((List Int) → Prop) → Prop := Classical.choose (⟨window_Meet_u, rfl⟩ : ∃ q, q = window_Meet_u)

theorem window_Meet_def (left1 : (List Int)) (right1 : (List Int)) (K0 : ((List Int) → Prop)) : window_Meet left1 right1 K0 =
  (∃ q, window_Meet_l3 q 0 left1 right1 (List.replicate 8 0) (List.replicate 8 0)
    (fun (m20 : (List Int)) (m21 : (List Int)) =>
    K0 m21)) := by
  have e : window_Meet = window_Meet_u := Classical.choose_spec (⟨window_Meet_u, rfl⟩ : ∃ q, q = window_Meet_u)
  show window_Meet left1 right1 K0 = window_Meet_u left1 right1 K0
  rw [e]

/- splicer/splicerref01.Mod (59) -/
def R01_Mod_u (a1 : Int) (b1 : Int) (K0 : (Int → Int → Prop)) : Prop :=
  Br (decide (b1 < (1 : Int)))
    (K0 0 0)
    (Br (decide (b1 = (0 : Int)))
      (False)
      (let v2 : Int := (iquo .i64 a1 b1)
      Br (decide (b1 = (0 : Int)))
        (False)
        (let v3 : Int := (irem .i64 a1 b1)
        Br (decide (v3 < (0 : Int)))
          (K0 (isub .i64 v2 1) (iadd .i64 v3 b1))
          (K0 v2 v3))))

noncomputable def R01_Mod : Int → Int → (Int → Int → Prop) → Prop := Classical.choose (⟨R01_Mod_u, rfl⟩ : ∃ q, q = R01_Mod_u)

theorem R01_Mod_def (a1 : Int) (b1 : Int) (K0 : (Int → Int → Prop)) : R01_Mod a1 b1 K0 =
  (Br (decide (b1 < (1 : Int)))
    (K0 0 0)
    (Br (decide (b1 = (0 : Int)))
      (False)
      (let v2 : Int := (iquo .i64 a1 b1)
      Br (decide (b1 = (0 : Int)))
        (False)
        (let v3 : Int := (irem .i64 a1 b1)
        Br (decide (v3 < (0 : Int)))
          (K0 (isub .i64 v2 1) (iadd .i64 v3 b1))
          (K0 v2 v3))))) := by
  have e : R01_Mod = R01_Mod_u := Classical.choose_spec (⟨R01_Mod_u, rfl⟩ : ∃ q, q = R01_Mod_u)
  show R01_Mod a1 b1 K0 = R01_Mod_u a1 b1 K0
  rw [e]

/- splicer/splicerref01.Shr (47) -/
def R01_Shr_u (x1 : Int) (n1 : Int) (K0 : (Int → Prop)) : Prop :=
  Br (decide (x1 < (-2305843009213693952 : Int)))
    (K0 0)
    (Br (decide ((2305843009213693952 : Int) < x1))
      (K0 0)
      (Br (decide (n1 < (0 : Int)))
        (K0 0)
        (Br (decide ((60 : Int) < n1))
          (K0 0)
          (Br (decide (n1 < (0 : Int)))
            (False)
            (R01_Mod x1 (ishl .i64 1 n1)
              (fun (r1 : Int) (r2 : Int) =>
              Br (decide (n1 < (0 : Int)))
                (False)
                (Br (decide ((ishl .i64 1 n1) ≤ (imul .i64 2 r2)))
                  (K0 (iadd .i64 r1 1))
                  (K0 r1))))))))

noncomputable def R01_Shr : Int → Int → (Int → Prop) → Prop := Classical.choose (⟨R01_Shr_u, rfl⟩ : ∃ q, q = R01_Shr_u)

theorem R01_Shr_def (x1 : Int) (n1 : Int) (K0 : (Int → Prop)) : R01_Shr x1 n1 K0 =
  (Br (decide (x1 < (-2305843009213693952 : Int)))
    (K0 0)
    (Br (decide ((2305843009213693952 : Int) < x1))
      (K0 0)
      (Br (decide (n1 < (0 : Int)))
        (K0 0)
        (Br (decide ((60 : Int) < n1))
          (K0 0)
          (Br (decide (n1 < (0 : Int)))
            (False)
            (R01_Mod x1 (ishl .i64 1 n1)
              (fun (r1 : Int) (r2 : Int) =>
              Br (decide (n1 < (0 : Int)))
                (False)
                (Br (decide ((ishl .i64 1 n1) ≤ (imul .i64 2 r2)))
                  (K0 (iadd .i64 r1 1))
                  (K0 r1))))))))) := by
  have e : R01_Shr = R01_Shr_u := Classical.choose_spec (⟨R01_Shr_u, rfl⟩ : ∃ q, q = R01_Shr_u)
  show R01_Shr x1 n1 K0 = R01_Shr_u x1 n1 K0
  rw [e]

/- join of splicer/splicerref11.Meet, region 6 -/
def R11_Meet_j6 (j2 : Int) (v11 : Bool) (m7 : (List Int)) (m8 : (List Int)) (m9 : (List Int)) (m10 : (List Int)) (K0 : (Int → (List Int) → (List Int) → (List Int) → (List Int) → Prop)) : Prop :=
  Br v11
    (Br ((decide ((0 : Int) ≤ j2)) && (decide (j2 < (8 : Int))))
      (Br (decide ((Int.toNat j2) < (List.length m7)))
        (Br ((decide ((0 : Int) ≤ j2)) && (decide (j2 < (8 : Int))))
          (Br (decide ((Int.toNat j2) < (List.length m8)))
            (R01_Shr (iadd .i64 (List.getD m7 (Int.toNat j2) 0) (List.getD m8 (Int.toNat j2) 0)) 15
              (fun (r1 : Int) =>
              Br ((decide ((0 : Int) ≤ j2)) && (decide (j2 < (8 : Int))))
                (Br (decide ((Int.toNat j2) < (List.length m10)))
                  (K0 j2 m7 m8 m9 (List.set m10 (Int.toNat j2) r1))
                  (False))
                (False)))
            (False))
          (False))
        (False))
      (False))
    (K0 j2 m7 m8 m9 m10)

/- loop of splicer/splicerref11.Meet, region 3 -/
def R11_Meet_l3 : Nat → Int → (List Int) → (List Int) → (List Int) → (List Int) → ((List Int) → (List Int) → Prop) → Prop
  | 0, _, _, _, _, _, _ => False
  | k + 1, j1, m3, m4, m5, m6, K0 => Br (decide (j1 < (8 : Int)))
      (Br ((decide ((0 : Int) ≤ j1)) && (decide (j1 < (8 : Int))))
        (Br (decide ((Int.toNat j1) < (List.length m3)))
          (Br (decide ((-70368744177664 : Int) ≤ (List.getD m3 (Int.toNat j1) 0)))
            (Br ((decide ((0 : Int) ≤ j1)) && (decide (j1 < (8 : Int))))
              (Br (decide ((Int.toNat j1) < (List.length m3)))
                (Br (decide ((List.getD m3 (Int.toNat j1) 0) ≤ (70368744177664 : Int)))
                  (Br ((decide ((0 : Int) ≤ j1)) && (decide (j1 < (8 : Int))))
                    (Br (decide ((Int.toNat j1) < (List.length m4)))
                      (Br (decide ((-70368744177664 : Int) ≤ (List.getD m4 (Int.toNat j1) 0)))
                        (Br ((decide ((0 : Int) ≤ j1)) && (decide (j1 < (8 : Int))))
                          (Br (decide ((Int.toNat j1) < (List.length m4)))
                            (R11_Meet_j6 j1 (decide ((List.getD m4 (Int.toNat j1) 0) ≤ (70368744177664 : Int))) m3 m4 m5 m6
                              (fun (j3 : Int) (m12 : (List Int)) (m13 : (List Int)) (m14 : (List Int)) (m15 : (List Int)) =>
                              R11_Meet_l3 k (iadd .i64 j3 1) m12 m13 m14 m15 K0))
                            (False))
                          (False))
                        (R11_Meet_j6 j1 false m3 m4 m5 m6
                          (fun (j4 : Int) (m16 : (List Int)) (m17 : (List Int)) (m18 : (List Int)) (m19 : (List Int)) =>
                          R11_Meet_l3 k (iadd .i64 j4 1) m16 m17 m18 m19 K0)))
                      (False))
                    (False))
                  (R11_Meet_j6 j1 false m3 m4 m5 m6
                    (fun (j5 : Int) (m20 : (List Int)) (m21 : (List Int)) (m22 : (List Int)) (m23 : (List Int)) =>
                    R11_Meet_l3 k (iadd .i64 j5 1) m20 m21 m22 m23 K0)))
                (False))
              (False))
            (R11_Meet_j6 j1 false m3 m4 m5 m6
              (fun (j6 : Int) (m24 : (List Int)) (m25 : (List Int)) (m26 : (List Int)) (m27 : (List Int)) =>
              R11_Meet_l3 k (iadd .i64 j6 1) m24 m25 m26 m27 K0)))
          (False))
        (False))
      (K0 m5 m6)

/- splicer/splicerref11.Meet (17) -/
def R11_Meet_u (a1 : (List Int)) (b1 : (List Int)) (K0 : ((List Int) → Prop)) : Prop :=
  ∃ q, R11_Meet_l3 q 0 a1 b1 (List.replicate 8 0) (List.replicate 8 0)
    (fun (m28 : (List Int)) (m29 : (List Int)) =>
    K0 m29)

noncomputable def R11_Meet : (List Int) → (List Int) → ((List Int) → Prop) → Prop := Classical.choose (⟨R11_Meet_u, rfl⟩ : ∃ q, q = R11_Meet_u)

theorem R11_Meet_def (a1 : (List Int)) (b1 : (List Int)) (K0 : ((List Int) → Prop)) : R11_Meet a1 b1 K0 =
  (∃ q, R11_Meet_l3 q 0 a1 b1 (List.replicate 8 0) (List.replicate 8 0)
    (fun (m28 : (List Int)) (m29 : (List Int)) =>
    K0 m29)) := by
  have e : R11_Meet = R11_Meet_u := Classical.choose_spec (⟨R11_Meet_u, rfl⟩ : ∃ q, q = R11_Meet_u)
  show R11_Meet a1 b1 K0 = R11_Meet_u a1 b1 K0
  rw [e]

/- splicer/splicerlaw11.WindowLeaves (3) -/
def L11_WindowLeaves_u (u1 : (List Int)) (a1 : (List Int)) (b1 : (List Int)) (K0 : (Bool → Prop)) : Prop :=
  Br (decide ((70 : Int) < (u1.length : Int)))
    (L11_awake K0)
    (window_Left u1
      (fun (r2 : (List Int)) =>
      R11_Left u1
        (fun (r3 : (List Int)) =>
        Br (eqv ((.arr 8 (.int .i64))) r2 r3)
          (window_Right u1
            (fun (r4 : (List Int)) =>
            R11_Right u1
              (fun (r5 : (List Int)) =>
              Br (eqv ((.arr 8 (.int .i64))) r4 r5)
                (window_Meet a1 b1
                  (fun (r6 : (List Int)) =>
                  R11_Meet a1 b1
                    (fun (r7 : (List Int)) =>
                    Br (eqv ((.arr 8 (.int .i64))) r6 r7)
                      (L11_awake K0)
                      (K0 false))))
                (K0 false))))
          (K0 false))))

noncomputable def L11_WindowLeaves : (List Int) → (List Int) → (List Int) → (Bool → Prop) → Prop := Classical.choose (⟨L11_WindowLeaves_u, rfl⟩ : ∃ q, q = L11_WindowLeaves_u)

theorem L11_WindowLeaves_def (u1 : (List Int)) (a1 : (List Int)) (b1 : (List Int)) (K0 : (Bool → Prop)) : L11_WindowLeaves u1 a1 b1 K0 =
  (Br (decide ((70 : Int) < (u1.length : Int)))
    (L11_awake K0)
    (window_Left u1
      (fun (r2 : (List Int)) =>
      R11_Left u1
        (fun (r3 : (List Int)) =>
        Br (eqv ((.arr 8 (.int .i64))) r2 r3)
          (window_Right u1
            (fun (r4 : (List Int)) =>
            R11_Right u1
              (fun (r5 : (List Int)) =>
              Br (eqv ((.arr 8 (.int .i64))) r4 r5)
                (window_Meet a1 b1
                  (fun (r6 : (List Int)) =>
                  R11_Meet a1 b1
                    (fun (r7 : (List Int)) =>
                    Br (eqv ((.arr 8 (.int .i64))) r6 r7)
                      (L11_awake K0)
                      (K0 false))))
                (K0 false))))
          (K0 false))))) := by
  have e : L11_WindowLeaves = L11_WindowLeaves_u := Classical.choose_spec (⟨L11_WindowLeaves_u, rfl⟩ : ∃ q, q = L11_WindowLeaves_u)
  show L11_WindowLeaves u1 a1 b1 K0 = L11_WindowLeaves_u u1 a1 b1 K0
  rw [e]

end Go.Eng.A
