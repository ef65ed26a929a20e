/- The functions that WindowFolds reaches, as plain ones: printed by program. -/
import Derived.Test.YtjfnkbbcnllfiaaEngA
set_option linter.unusedVariables false
set_option maxRecDepth 100000
namespace Go.Eng.A
open Go Go.Eng

/- loop of splicer/window.within, region 5 -/
def window_within_l5 : Nat → Int → (List Int) → Int → Int → (Bool → Prop) → (Prop) → Prop
  | 0, _, _, _, _, _, _ => False
  | k + 1, wide3, v6, v7, v8, K0, K1 => Br (decide (v8 < v7))
      (Br ((decide ((0 : Int) ≤ v8)) && (decide (v8 < (((List.length v6) : Nat) : Int))))
        (let v10 : Int := (List.getD v6 (Int.toNat v8) 0)
        Br (decide (v10 < (isub .i64 0 wide3)))
          (K0 false)
          (Br (decide (wide3 < v10))
            (K0 false)
            (window_within_l5 k wide3 v6 v7 (iadd .i64 v8 1) K0 K1)))
        (False))
      (K1)

/- join of splicer/window.within, region 4 -/
def window_within_j4 (l2 : (List Int)) (wide2 : Int) (K0 : (Bool → Prop)) : Prop :=
  ∃ q, window_within_l5 q wide2 l2 (l2.length : Int) 0 K0
    (K0 true)

/- splicer/window.within (49) -/
def window_within (l1 : (List Int)) (more1 : Int) (wide1 : Int) (K0 : (Bool → Prop)) : Prop :=
  let v2 : Int := (isub .i64 (l1.length : Int) more1)
  Br (!(decide (v2 = (64 : Int))))
    (Br (!(decide (v2 = (8 : Int))))
      (K0 false)
      (window_within_j4 l1 wide1 K0))
    (window_within_j4 l1 wide1 K0)

/- splicer/window.Slope (30) -/
def window_Slope  (K0 : ((List Int) → Prop)) : Prop :=
  K0 [494, 4325, 11207, 19363, 26435, 30792, 32481, 32764]

/- loop of splicer/num.within, region 2 -/
def num_within_l2 : Nat → Int → (List Int) → Int → Int → (Bool → Prop) → (Prop) → Prop
  | 0, _, _, _, _, _, _ => False
  | k + 1, most2, v2, v3, v4, K0, K1 => Br (decide (v4 < v3))
      (Br ((decide ((0 : Int) ≤ v4)) && (decide (v4 < (((List.length v2) : Nat) : Int))))
        (let v6 : Int := (List.getD v2 (Int.toNat v4) 0)
        Br (decide (v6 < (isub .i64 0 most2)))
          (K0 false)
          (Br (decide (most2 < v6))
            (K0 false)
            (num_within_l2 k most2 v2 v3 (iadd .i64 v4 1) K0 K1)))
        (False))
      (K1)

/- splicer/num.within (57) -/
def num_within (most1 : Int) (l1 : (List Int)) (K0 : (Bool → Prop)) : Prop :=
  ∃ q, num_within_l2 q most1 l1 (l1.length : Int) 0 K0
    (K0 true)

/- join of splicer/num.Shr, region 2 -/
def num_Shr_j2 (x2 : Int) (n2 : Int) (v4 : Bool) (K0 : (Int → Prop)) (K1 : (Int → Int → Prop)) : Prop :=
  Br v4
    (K0 0)
    (Br (decide (n2 = (0 : Int)))
      (K0 x2)
      (K1 x2 n2))

/- join of splicer/num.Shr, region 5 -/
def num_Shr_j5 (x6 : Int) (n6 : Int) (K0 : (Int → Prop)) : Prop :=
  let v9 : Int := (isub .i64 n6 1)
  Br (decide (v9 < (0 : Int)))
    (False)
    (Br (decide (n6 < (0 : Int)))
      (False)
      (K0 (ishr .i64 (iadd .i64 x6 (ishl .i64 1 v9)) n6)))

/- splicer/num.Shr (50) -/
def num_Shr (x1 : Int) (n1 : Int) (K0 : (Int → Prop)) : Prop :=
  Br (decide (n1 < (0 : Int)))
    (num_Shr_j2 x1 n1 true K0
      (fun (x3 : Int) (n3 : Int) =>
      num_Shr_j5 x3 n3 K0))
    (Br (decide ((60 : Int) < n1))
      (num_Shr_j2 x1 n1 true K0
        (fun (x4 : Int) (n4 : Int) =>
        num_Shr_j5 x4 n4 K0))
      (num_within 2305843009213693952 [x1]
        (fun (r1 : Bool) =>
        num_Shr_j2 x1 n1 (!r1) K0
          (fun (x5 : Int) (n5 : Int) =>
          num_Shr_j5 x5 n5 K0))))

/- loop of splicer/window.Fold, region 8 -/
def window_Fold_l8 : Nat → (List Int) → Int → Int → (List Int) → (List Int) → ((List Int) → Prop) → Prop
  | 0, _, _, _, _, _, _ => False
  | k + 1, x2, n1, v6, m4, m5, K0 => Br (decide (v6 < (4 : Int)))
      (let v8 : Int := (iadd .i64 4 v6)
      Br ((decide ((0 : Int) ≤ v8)) && (decide (v8 < (8 : Int))))
        (Br (decide ((Int.toNat v8) < (List.length m5)))
          (let v9 : Int := (List.getD m5 (Int.toNat v8) 0)
          let v10 : Int := (isub .i64 3 v6)
          Br ((decide ((0 : Int) ≤ v10)) && (decide (v10 < (8 : Int))))
            (Br (decide ((Int.toNat v10) < (List.length m5)))
              (let v11 : Int := (List.getD m5 (Int.toNat v10) 0)
              let v12 : Int := (iadd .i64 4 v6)
              Br ((decide ((0 : Int) ≤ v12)) && (decide (v12 < (((List.length x2) : Nat) : Int))))
                (let v15 : Int := (isub .i64 3 v6)
                Br ((decide ((0 : Int) ≤ v15)) && (decide (v15 < (((List.length x2) : Nat) : Int))))
                  (num_Shr (iadd .i64 (imul .i64 v9 (List.getD x2 (Int.toNat v12) 0)) (imul .i64 v11 (List.getD x2 (Int.toNat v15) 0))) 15
                    (fun (r3 : Int) =>
                    Br ((decide ((0 : Int) ≤ v6)) && (decide (v6 < (((List.length m4) : Nat) : Int))))
                      (Br (decide ((Int.toNat v6) < (List.length m4)))
                        (let m6 : (List Int) := (List.set m4 (Int.toNat v6) r3)
                        let v20 : Int := (isub .i64 (isub .i64 n1 1) v6)
                        let v23 : Int := (isub .i64 (isub .i64 (iadd .i64 n1 4) 1) v6)
                        Br ((decide ((0 : Int) ≤ v23)) && (decide (v23 < (((List.length x2) : Nat) : Int))))
                          (let v27 : Int := (iadd .i64 (iadd .i64 n1 4) v6)
                          Br ((decide ((0 : Int) ≤ v27)) && (decide (v27 < (((List.length x2) : Nat) : Int))))
                            (num_Shr (isub .i64 (imul .i64 v9 (List.getD x2 (Int.toNat v23) 0)) (imul .i64 v11 (List.getD x2 (Int.toNat v27) 0))) 15
                              (fun (r4 : Int) =>
                              Br ((decide ((0 : Int) ≤ v20)) && (decide (v20 < (((List.length m6) : Nat) : Int))))
                                (Br (decide ((Int.toNat v20) < (List.length m6)))
                                  (window_Fold_l8 k x2 n1 (iadd .i64 v6 1) (List.set m6 (Int.toNat v20) r4) m5 K0)
                                  (False))
                                (False)))
                            (False))
                          (False))
                        (False))
                      (False)))
                  (False))
                (False))
              (False))
            (False))
          (False))
        (False))
      (K0 m4)

/- splicer/window.Fold (31) -/
def window_Fold (x1 : (List Int)) (K0 : (Prop)) (K1 : ((List Int) → Prop)) : Prop :=
  window_within x1 8 16777216
    (fun (r1 : Bool) =>
    Br (!r1)
      (K0)
      (let v3 : Int := (isub .i64 (x1.length : Int) 8)
      Br (((decide ((0 : Int) ≤ v3)) && (decide (v3 ≤ v3))) && (decide ((v3 * (8 : Int)) ≤ (140737488355328 : Int))))
        (let m1 : (List Int) := (List.replicate (Int.toNat v3) 0)
        Br (decide ((4 : Int) ≤ (((List.length x1) : Nat) : Int)))
          (let v4 : (List Int) := (List.take ((List.length x1) - 4) (List.drop 4 x1))
          window_Slope
            (fun (r2 : (List Int)) =>
            ∃ q, window_Fold_l8 q x1 v3 0 (splice m1 0 (List.take (List.length m1) v4)) r2 K1))
          (False))
        (False)))

/- loop of splicer/splicerref01.Same, region 4 -/
def R01_Same_l4 : Nat → (List Int) → (List Int) → Int → (Bool → Prop) → (Prop) → Prop
  | 0, _, _, _, _, _ => False
  | k + 1, a2, b2, i1, K0, K1 => Br (decide (i1 < (a2.length : Int)))
      (Br ((decide ((0 : Int) ≤ i1)) && (decide (i1 < (((List.length a2) : Nat) : Int))))
        (Br ((decide ((0 : Int) ≤ i1)) && (decide (i1 < (((List.length b2) : Nat) : Int))))
          (Br (!(decide ((List.getD a2 (Int.toNat i1) 0) = (List.getD b2 (Int.toNat i1) 0))))
            (K0 false)
            (R01_Same_l4 k a2 b2 (iadd .i64 i1 1) K0 K1))
          (False))
        (False))
      (K1)

/- splicer/splicerref01.Same (14) -/
def R01_Same (a1 : (List Int)) (b1 : (List Int)) (K0 : (Bool → Prop)) : Prop :=
  Br (!(decide ((a1.length : Int) = (b1.length : Int))))
    (K0 false)
    (∃ q, R01_Same_l4 q a1 b1 0 K0
      (K0 true))

/- join of splicer/splicerlaw11.awake, region 5 -/
def L11_awake_j5 (m5 : (List Int)) (m6 : (List Int)) (K0 : (Bool → Prop)) : Prop :=
  Br (decide ((m5.length : Int) = (8 : Int)))
    (R01_Same m5 (List.replicate 8 0)
      (fun (r3 : Bool) =>
      Br r3
        (Br (decide ((m6.length : Int) = (8 : Int)))
          (Br (decide ((4 : Int) < (((List.length m6) : Nat) : Int)))
            (Br (decide (4 < (List.length m6)))
              (Br (decide ((List.getD m6 4 0) = (32764 : Int)))
                (window_Slope
                  (fun (r4 : (List Int)) =>
                  K0 (decide ((List.getD r4 7 0) = (32764 : Int)))))
                (K0 false))
              (False))
            (False))
          (K0 false))
        (K0 false)))
    (K0 false)

/- join of splicer/splicerlaw11.awake, region 3 -/
def L11_awake_j3 (m2 : (List Int)) (m3 : (List Int)) (K0 : (Bool → Prop)) : Prop :=
  Br (decide ((8 : Int) < (((List.length m2) : Nat) : Int)))
    (Br (decide (8 < (List.length m2)))
      (window_Fold (List.set m2 8 32768)
        (L11_awake_j5 m3 [] K0)
        (fun (r2 : (List Int)) =>
        L11_awake_j5 m3 r2 K0))
      (False))
    (False)

/- splicer/splicerlaw11.awake (29) -/
def L11_awake  (K0 : (Bool → Prop)) : Prop :=
  let m1 : (List Int) := (List.replicate 16 0)
  window_Fold m1
    (L11_awake_j3 m1 [] K0)
    (fun (r1 : (List Int)) =>
    L11_awake_j3 m1 r1 K0)

/- loop of splicer/splicerref01.Within, region 2 -/
def R01_Within_l2 : Nat → (List Int) → Int → Int → Int → (Bool → Prop) → (Prop) → Prop
  | 0, _, _, _, _, _, _ => False
  | k + 1, l2, low2, high2, i1, K0, K1 => Br (decide (i1 < (l2.length : Int)))
      (Br ((decide ((0 : Int) ≤ i1)) && (decide (i1 < (((List.length l2) : Nat) : Int))))
        (Br (decide ((List.getD l2 (Int.toNat i1) 0) < low2))
          (K0 false)
          (Br ((decide ((0 : Int) ≤ i1)) && (decide (i1 < (((List.length l2) : Nat) : Int))))
            (Br (decide (high2 < (List.getD l2 (Int.toNat i1) 0)))
              (K0 false)
              (R01_Within_l2 k l2 low2 high2 (iadd .i64 i1 1) K0 K1))
            (False)))
        (False))
      (K1)

/- splicer/splicerref01.Within (51) -/
def R01_Within (l1 : (List Int)) (low1 : Int) (high1 : Int) (K0 : (Bool → Prop)) : Prop :=
  ∃ q, R01_Within_l2 q l1 low1 high1 0 K0
    (K0 true)

/- splicer/splicerref11.W (33) -/
def R11_W  (K0 : ((List Int) → Prop)) : Prop :=
  K0 [494, 4325, 11207, 19363, 26435, 30792, 32481, 32764]

/- splicer/splicerref01.Mod (58) -/
def R01_Mod (a1 : Int) (b1 : Int) (K0 : (Int → Int → Prop)) : Prop :=
  Br (decide (b1 < (1 : Int)))
    (K0 0 0)
    (Br (decide (b1 = (0 : Int)))
      (False)
      (let v2 : Int := (iquo .i64 a1 b1)
      Br (decide (b1 = (0 : Int)))
        (False)
        (let v3 : Int := (irem .i64 a1 b1)
        Br (decide (v3 < (0 : Int)))
          (K0 (isub .i64 v2 1) (iadd .i64 v3 b1))
          (K0 v2 v3))))

/- splicer/splicerref01.Shr (52) -/
def R01_Shr (x1 : Int) (n1 : Int) (K0 : (Int → Prop)) : Prop :=
  Br (decide (x1 < (-2305843009213693952 : Int)))
    (K0 0)
    (Br (decide ((2305843009213693952 : Int) < x1))
      (K0 0)
      (Br (decide (n1 < (0 : Int)))
        (K0 0)
        (Br (decide ((60 : Int) < n1))
          (K0 0)
          (Br (decide (n1 < (0 : Int)))
            (False)
            (R01_Mod x1 (ishl .i64 1 n1)
              (fun (r1 : Int) (r2 : Int) =>
              Br (decide (n1 < (0 : Int)))
                (False)
                (Br (decide ((ishl .i64 1 n1) ≤ (imul .i64 2 r2)))
                  (K0 (iadd .i64 r1 1))
                  (K0 r1))))))))

/- loop of splicer/splicerref11.Fold, region 7 -/
def R11_Fold_l7 : Nat → (List Int) → Int → Int → (List Int) → (List Int) → ((List Int) → Prop) → Prop
  | 0, _, _, _, _, _, _ => False
  | k + 1, x3, n2, k1, m1, m2, K0 => Br (decide (k1 < n2))
      (Br (decide (k1 < (4 : Int)))
        (let v9 : Int := (iadd .i64 4 k1)
        Br ((decide ((0 : Int) ≤ v9)) && (decide (v9 < (((List.length m1) : Nat) : Int))))
          (Br (decide ((Int.toNat v9) < (List.length m1)))
            (let v11 : Int := (iadd .i64 4 k1)
            Br ((decide ((0 : Int) ≤ v11)) && (decide (v11 < (((List.length x3) : Nat) : Int))))
              (let v14 : Int := (isub .i64 3 k1)
              Br ((decide ((0 : Int) ≤ v14)) && (decide (v14 < (((List.length m1) : Nat) : Int))))
                (Br (decide ((Int.toNat v14) < (List.length m1)))
                  (let v16 : Int := (isub .i64 3 k1)
                  Br ((decide ((0 : Int) ≤ v16)) && (decide (v16 < (((List.length x3) : Nat) : Int))))
                    (R01_Shr (iadd .i64 (imul .i64 (List.getD m1 (Int.toNat v9) 0) (List.getD x3 (Int.toNat v11) 0)) (imul .i64 (List.getD m1 (Int.toNat v14) 0) (List.getD x3 (Int.toNat v16) 0))) 15
                      (fun (r4 : Int) =>
                      let v20 : (List Int) := [r4]
                      Br (decide ((((List.length m2) + (List.length v20)) * 8) ≤ 140737488355328))
                        (R11_Fold_l7 k x3 n2 (iadd .i64 k1 1) m1 (m2 ++ v20) K0)
                        (False)))
                    (False))
                  (False))
                (False))
              (False))
            (False))
          (False))
        (Br (decide ((isub .i64 n2 4) ≤ k1))
          (let v24 : Int := (isub .i64 (isub .i64 n2 1) k1)
          let v25 : Int := (iadd .i64 4 v24)
          Br ((decide ((0 : Int) ≤ v25)) && (decide (v25 < (((List.length m1) : Nat) : Int))))
            (Br (decide ((Int.toNat v25) < (List.length m1)))
              (let v28 : Int := (isub .i64 (iadd .i64 n2 3) v24)
              Br ((decide ((0 : Int) ≤ v28)) && (decide (v28 < (((List.length x3) : Nat) : Int))))
                (let v31 : Int := (isub .i64 3 v24)
                Br ((decide ((0 : Int) ≤ v31)) && (decide (v31 < (((List.length m1) : Nat) : Int))))
                  (Br (decide ((Int.toNat v31) < (List.length m1)))
                    (let v34 : Int := (iadd .i64 (iadd .i64 n2 4) v24)
                    Br ((decide ((0 : Int) ≤ v34)) && (decide (v34 < (((List.length x3) : Nat) : Int))))
                      (R01_Shr (isub .i64 (imul .i64 (List.getD m1 (Int.toNat v25) 0) (List.getD x3 (Int.toNat v28) 0)) (imul .i64 (List.getD m1 (Int.toNat v31) 0) (List.getD x3 (Int.toNat v34) 0))) 15
                        (fun (r5 : Int) =>
                        let v38 : (List Int) := [r5]
                        Br (decide ((((List.length m2) + (List.length v38)) * 8) ≤ 140737488355328))
                          (R11_Fold_l7 k x3 n2 (iadd .i64 k1 1) m1 (m2 ++ v38) K0)
                          (False)))
                      (False))
                    (False))
                  (False))
                (False))
              (False))
            (False))
          (let v39 : Int := (iadd .i64 4 k1)
          Br ((decide ((0 : Int) ≤ v39)) && (decide (v39 < (((List.length x3) : Nat) : Int))))
            (let m5 : (List Int) := [(List.getD x3 (Int.toNat v39) 0)]
            Br (decide ((((List.length m2) + (List.length m5)) * 8) ≤ 140737488355328))
              (R11_Fold_l7 k x3 n2 (iadd .i64 k1 1) m1 (m2 ++ m5) K0)
              (False))
            (False))))
      (K0 m2)

/- join of splicer/splicerref11.Fold, region 4 -/
def R11_Fold_j4 (x2 : (List Int)) (n1 : Int) (K0 : ((List Int) → Prop)) : Prop :=
  R11_W
    (fun (r3 : (List Int)) =>
    ∃ q, R11_Fold_l7 q x2 n1 0 r3 [] K0)

/- splicer/splicerref11.Fold (32) -/
def R11_Fold (x1 : (List Int)) (K0 : (Prop)) (K1 : ((List Int) → Prop)) : Prop :=
  let v2 : Int := (isub .i64 (x1.length : Int) 8)
  Br (!(decide (v2 = (8 : Int))))
    (Br (!(decide (v2 = (64 : Int))))
      (K0)
      (R01_Within x1 (-16777216) 16777216
        (fun (r1 : Bool) =>
        Br (!r1)
          (K0)
          (R11_Fold_j4 x1 v2 K1))))
    (R01_Within x1 (-16777216) 16777216
      (fun (r2 : Bool) =>
      Br (!r2)
        (K0)
        (R11_Fold_j4 x1 v2 K1)))

/- splicer/splicerlaw11.WindowFolds (9) -/
def L11_WindowFolds (x1 : (List Int)) (K0 : (Bool → Prop)) : Prop :=
  Br (decide ((80 : Int) < (x1.length : Int)))
    (L11_awake K0)
    (window_Slope
      (fun (r2 : (List Int)) =>
      window_Fold x1
        (R11_Fold x1
          (R01_Same [] []
            (fun (r3 : Bool) =>
            Br r3
              (R11_W
                (fun (r4 : (List Int)) =>
                Br (decide (8 ≤ (List.length r2)))
                  (R01_Same (List.take 8 (List.drop 0 r2)) r4
                    (fun (r5 : Bool) =>
                    Br r5
                      (L11_awake K0)
                      (K0 false)))
                  (False)))
              (K0 false)))
          (fun (r7 : (List Int)) =>
          R01_Same [] r7
            (fun (r8 : Bool) =>
            Br r8
              (R11_W
                (fun (r9 : (List Int)) =>
                Br (decide (8 ≤ (List.length r2)))
                  (R01_Same (List.take 8 (List.drop 0 r2)) r9
                    (fun (r10 : Bool) =>
                    Br r10
                      (L11_awake K0)
                      (K0 false)))
                  (False)))
              (K0 false))))
        (fun (r12 : (List Int)) =>
        R11_Fold x1
          (R01_Same r12 []
            (fun (r13 : Bool) =>
            Br r13
              (R11_W
                (fun (r14 : (List Int)) =>
                Br (decide (8 ≤ (List.length r2)))
                  (R01_Same (List.take 8 (List.drop 0 r2)) r14
                    (fun (r15 : Bool) =>
                    Br r15
                      (L11_awake K0)
                      (K0 false)))
                  (False)))
              (K0 false)))
          (fun (r17 : (List Int)) =>
          R01_Same r12 r17
            (fun (r18 : Bool) =>
            Br r18
              (R11_W
                (fun (r19 : (List Int)) =>
                Br (decide (8 ≤ (List.length r2)))
                  (R01_Same (List.take 8 (List.drop 0 r2)) r19
                    (fun (r20 : Bool) =>
                    Br r20
                      (L11_awake K0)
                      (K0 false)))
                  (False)))
              (K0 false))))))

end Go.Eng.A
