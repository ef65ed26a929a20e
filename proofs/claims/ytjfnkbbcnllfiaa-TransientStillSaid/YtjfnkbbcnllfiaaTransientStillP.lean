/- The functions that TransientStill reaches, as plain ones: printed by program. -/
import Derived.Test.YtjfnkbbcnllfiaaEngA
set_option linter.unusedVariables false
set_option maxRecDepth 100000
namespace Go.Eng.A
open Go Go.Eng

/- splicer/num.Sat (55) -/
def num_Sat (x1 : Int) (K0 : (Int → Prop)) : Prop :=
  K0 (imin (imax x1 (-32768)) 32767)

/- loop of splicer/transient.right, region 2 -/
def transient_right_l2 : Nat → (List Int) → (List Int) → Int → Int → (Bool → Prop) → ((List Int) → Prop) → Prop
  | 0, _, _, _, _, _, _ => False
  | k + 1, s2, v2, v3, v4, K0, K1 => Br (decide (v4 < v3))
      (Br ((decide ((0 : Int) ≤ v4)) && (decide (v4 < (((List.length v2) : Nat) : Int))))
        (let v6 : Int := (List.getD v2 (Int.toNat v4) 0)
        num_Sat v6
          (fun (r1 : Int) =>
          Br (!(decide (r1 = v6)))
            (K0 false)
            (transient_right_l2 k s2 v2 v3 (iadd .i64 v4 1) K0 K1)))
        (False))
      (K1 s2)

/- splicer/transient.right (41) -/
def transient_right (s1 : (List Int)) (K0 : (Bool → Prop)) : Prop :=
  ∃ q, transient_right_l2 q s1 s1 (s1.length : Int) 0 K0
    (fun (s3 : (List Int)) =>
    K0 (decide ((s3.length : Int) = (72 : Int))))

/- loop of splicer/transient.Loud, region 5 -/
def transient_Loud_l5 : Nat → (List Int) → Int → Int → (List Int) → ((List Int) → Prop) → Prop
  | 0, _, _, _, _, _ => False
  | k + 1, v4, v5, v6, m2, K0 => Br (decide (v6 < v5))
      (Br ((decide ((0 : Int) ≤ v6)) && (decide (v6 < (((List.length v4) : Nat) : Int))))
        (let v8 : Int := (List.getD v4 (Int.toNat v6) 0)
        let v9 : Int := (iquo .i64 v6 8)
        Br ((decide ((0 : Int) ≤ v9)) && (decide (v9 < (((List.length m2) : Nat) : Int))))
          (Br (decide ((Int.toNat v9) < (List.length m2)))
            (Br ((decide ((0 : Int) ≤ v9)) && (decide (v9 < (((List.length m2) : Nat) : Int))))
              (Br (decide ((Int.toNat v9) < (List.length m2)))
                (transient_Loud_l5 k v4 v5 (iadd .i64 v6 1) (List.set m2 (Int.toNat v9) (iadd .i64 (List.getD m2 (Int.toNat v9) 0) (imul .i64 v8 v8))) K0)
                (False))
              (False))
            (False))
          (False))
        (False))
      (K0 m2)

/- splicer/transient.Loud (15) -/
def transient_Loud (s1 : (List Int)) (K0 : (Prop)) (K1 : ((List Int) → Prop)) : Prop :=
  transient_right s1
    (fun (r1 : Bool) =>
    Br (!r1)
      (K0)
      (Br (decide ((68 : Int) ≤ (((List.length s1) : Nat) : Int)))
        (let v2 : (List Int) := (List.take 64 (List.drop 4 s1))
        ∃ q, transient_Loud_l5 q v2 (v2.length : Int) 0 (List.replicate 8 0) K1)
        (False)))

/- join of splicer/transient.Begins, region 6 -/
def transient_Begins_j6 (first3 : Int) (ahead3 : Int) (b1 : Int) (n1 : Int) (v13 : Int) (v14 : Int) (v15 : Bool) (m3 : (List Int)) (K0 : (Int → Prop)) (K1 : (Int → Int → Int → Int → Int → (List Int) → Prop)) : Prop :=
  Br v15
    (K0 b1)
    (K1 first3 ahead3 n1 v13 v14 m3)

/- loop of splicer/transient.Begins, region 3 -/
def transient_Begins_l3 : Nat → Int → Int → Int → Int → (List Int) → (Int → Prop) → Prop
  | 0, _, _, _, _, _, _ => False
  | k + 1, first2, ahead2, v4, v5, m2, K0 => Br (decide (v5 < v4))
      (Br ((decide ((0 : Int) ≤ v5)) && (decide (v5 < (((List.length m2) : Nat) : Int))))
        (Br (decide ((Int.toNat v5) < (List.length m2)))
          (let v7 : Int := (List.getD m2 (Int.toNat v5) 0)
          Br (decide ((0 : Int) < v5))
            (transient_Begins_j6 first2 ahead2 v5 v7 v4 v5 (decide ((iadd .i64 (imul .i64 16 ahead2) 4194304) < (imul .i64 v5 v7))) m2 K0
              (fun (first5 : Int) (ahead4 : Int) (n2 : Int) (v16 : Int) (v17 : Int) (m4 : (List Int)) =>
              transient_Begins_l3 k first5 (iadd .i64 ahead4 n2) v16 (iadd .i64 v17 1) m4 K0))
            (transient_Begins_j6 first2 ahead2 v5 v7 v4 v5 false m2 K0
              (fun (first7 : Int) (ahead5 : Int) (n3 : Int) (v18 : Int) (v19 : Int) (m5 : (List Int)) =>
              transient_Begins_l3 k first7 (iadd .i64 ahead5 n3) v18 (iadd .i64 v19 1) m5 K0)))
          (False))
        (False))
      (K0 first2)

/- join of splicer/transient.Begins, region 3 -/
def transient_Begins_j3 (first1 : Int) (ahead1 : Int) (v2 : Int) (v3 : Int) (m1 : (List Int)) (K0 : (Int → Prop)) : Prop :=
  ∃ q, transient_Begins_l3 q first1 ahead1 v2 v3 m1 K0

/- join of splicer/transient.Begins, region 9 -/
def transient_Begins_j9 (first11 : Int) (K0 : (Int → Bool → Prop)) : Prop :=
  K0 first11 (decide ((0 : Int) < first11))

/- splicer/transient.Begins (12) -/
def transient_Begins (s1 : (List Int)) (K0 : (Int → Bool → Prop)) : Prop :=
  transient_Loud s1
    (transient_Begins_j3 0 0 0 0 []
      (fun (first9 : Int) =>
      transient_Begins_j9 first9 K0))
    (fun (r1 : (List Int)) =>
    transient_Begins_j3 0 0 (r1.length : Int) 0 r1
      (fun (first10 : Int) =>
      transient_Begins_j9 first10 K0))

/- loop of splicer/splicerlaw23.awake, region 3 -/
def L23_awake_l3 : Nat → Int → (List Int) → ((List Int) → Prop) → Prop
  | 0, _, _, _ => False
  | k + 1, i1, m2, K0 => Br (decide (i1 < (72 : Int)))
      (Br ((decide ((0 : Int) ≤ i1)) && (decide (i1 < (((List.length m2) : Nat) : Int))))
        (Br (decide ((Int.toNat i1) < (List.length m2)))
          (L23_awake_l3 k (iadd .i64 i1 1) (List.set m2 (Int.toNat i1) 5000) K0)
          (False))
        (False))
      (K0 m2)

/- join of splicer/splicerlaw23.awake, region 8 -/
def L23_awake_j8 (b1 : Int) (ok1 : Bool) (m5 : (List Int)) (K0 : (Bool → Prop)) : Prop :=
  Br ok1
    (Br (decide (b1 = (4 : Int)))
      (Br (decide ((m5.length : Int) = (8 : Int)))
        (Br (decide ((7 : Int) < (((List.length m5) : Nat) : Int)))
          (Br (decide (7 < (List.length m5)))
            (Br (decide ((List.getD m5 7 0) = (200000000 : Int)))
              (transient_Loud []
                (K0 true)
                (fun (r4 : (List Int)) =>
                K0 (decide ((r4.length : Int) = (0 : Int)))))
              (K0 false))
            (False))
          (False))
        (K0 false))
      (K0 false))
    (K0 false)

/- splicer/splicerlaw23.awake (11) -/
def L23_awake  (K0 : (Bool → Prop)) : Prop :=
  ∃ q, L23_awake_l3 q 36 (List.replicate 72 0)
    (fun (m4 : (List Int)) =>
    transient_Begins m4
      (fun (r1 : Int) (r2 : Bool) =>
      transient_Loud m4
        (L23_awake_j8 r1 r2 [] K0)
        (fun (r3 : (List Int)) =>
        L23_awake_j8 r1 r2 r3 K0)))

/- join of splicer/splicerlaw23.TransientStill, region 9 -/
def L23_TransientStill_j9 (x3 : Int) (k2 : Int) (i2 : Int) (v10 : Bool) (m9 : (List Int)) (m10 : (List Int)) (m11 : (List Int)) (m12 : (List Int)) (m13 : (List Int)) (K0 : (Int → Int → Int → (List Int) → (List Int) → (List Int) → (List Int) → (List Int) → Prop)) : Prop :=
  Br v10
    (Br ((decide ((0 : Int) ≤ i2)) && (decide (i2 < (((List.length m11) : Nat) : Int))))
      (Br (decide ((Int.toNat i2) < (List.length m11)))
        (K0 x3 k2 i2 m9 m10 (List.set m11 (Int.toNat i2) (imax 2049 (Go.IntKind.wrap .i64 x3))) m12 m13)
        (False))
      (False))
    (K0 x3 k2 i2 m9 m10 m11 m12 m13)

/- join of splicer/splicerlaw23.TransientStill, region 10 -/
def L23_TransientStill_j10 (x6 : Int) (k5 : Int) (i5 : Int) (m25 : (List Int)) (m26 : (List Int)) (m27 : (List Int)) (m28 : (List Int)) (m29 : (List Int)) (K0 : (Int → Int → Int → (List Int) → (List Int) → (List Int) → (List Int) → (List Int) → Prop)) : Prop :=
  Br ((decide ((0 : Int) ≤ i5)) && (decide (i5 < (72 : Int))))
    (Br (decide ((Int.toNat i5) < (List.length m25)))
      (let m30 : (List Int) := [(imax (-32767) (Go.IntKind.wrap .i64 (List.getD m25 (Int.toNat i5) 0)))]
      Br (decide ((((List.length m28) + (List.length m30)) * 8) ≤ 140737488355328))
        (Br ((decide ((0 : Int) ≤ i5)) && (decide (i5 < (72 : Int))))
          (Br (decide ((Int.toNat i5) < (List.length m25)))
            (let m32 : (List Int) := [(isub .i64 0 (imax (-32767) (Go.IntKind.wrap .i64 (List.getD m25 (Int.toNat i5) 0))))]
            Br (decide ((((List.length m29) + (List.length m32)) * 8) ≤ 140737488355328))
              (K0 x6 k5 i5 m25 m26 m27 (m28 ++ m30) (m29 ++ m32))
              (False))
            (False))
          (False))
        (False))
      (False))
    (False)

/- loop of splicer/splicerlaw23.TransientStill, region 5 -/
def L23_TransientStill_l5 : Nat → Int → Int → Int → (List Int) → (List Int) → (List Int) → (List Int) → (List Int) → ((List Int) → (List Int) → (List Int) → (List Int) → Prop) → Prop
  | 0, _, _, _, _, _, _, _, _, _ => False
  | k + 1, x2, k1, i1, m3, m4, m5, m6, m7, K0 => Br (decide (i1 < (72 : Int)))
      (Br ((decide ((0 : Int) ≤ i1)) && (decide (i1 < (((List.length m4) : Nat) : Int))))
        (Br (decide ((Int.toNat i1) < (List.length m4)))
          (let m8 : (List Int) := (List.set m4 (Int.toNat i1) (Go.IntKind.wrap .i64 x2))
          Br (decide ((12 : Int) ≤ i1))
            (L23_TransientStill_j9 x2 k1 i1 (decide (i1 = (imax 12 (imin 67 k1)))) m3 m8 m5 m6 m7
              (fun (x4 : Int) (k3 : Int) (i3 : Int) (m15 : (List Int)) (m16 : (List Int)) (m17 : (List Int)) (m18 : (List Int)) (m19 : (List Int)) =>
              L23_TransientStill_j10 x4 k3 i3 m15 m16 m17 m18 m19
                (fun (x7 : Int) (k6 : Int) (i6 : Int) (m34 : (List Int)) (m35 : (List Int)) (m36 : (List Int)) (m37 : (List Int)) (m38 : (List Int)) =>
                L23_TransientStill_l5 k x7 k6 (iadd .i64 i6 1) m34 m35 m36 m37 m38 K0)))
            (L23_TransientStill_j9 x2 k1 i1 false m3 m8 m5 m6 m7
              (fun (x5 : Int) (k4 : Int) (i4 : Int) (m20 : (List Int)) (m21 : (List Int)) (m22 : (List Int)) (m23 : (List Int)) (m24 : (List Int)) =>
              L23_TransientStill_j10 x5 k4 i4 m20 m21 m22 m23 m24
                (fun (x8 : Int) (k7 : Int) (i7 : Int) (m39 : (List Int)) (m40 : (List Int)) (m41 : (List Int)) (m42 : (List Int)) (m43 : (List Int)) =>
                L23_TransientStill_l5 k x8 k7 (iadd .i64 i7 1) m39 m40 m41 m42 m43 K0))))
          (False))
        (False))
      (K0 m4 m5 m6 m7)

/- splicer/splicerlaw23.TransientStill (4) -/
def L23_TransientStill (x1 : Int) (at_1 : Int) (s1 : (List Int)) (K0 : (Bool → Prop)) : Prop :=
  ∃ q, L23_TransientStill_l5 q x1 (iadd .i64 8 (irem .i64 (Go.IntKind.wrap .i64 at_1) 64)) 0 s1 (List.replicate 72 0) (List.replicate 72 0) [] []
    (fun (m44 : (List Int)) (m45 : (List Int)) (m46 : (List Int)) (m47 : (List Int)) =>
    transient_Begins m44
      (fun (r1 : Int) (r2 : Bool) =>
      transient_Begins m45
        (fun (r3 : Int) (r4 : Bool) =>
        transient_Begins m46
          (fun (r5 : Int) (r6 : Bool) =>
          transient_Begins m47
            (fun (r7 : Int) (r8 : Bool) =>
            Br (!r2)
              (Br r4
                (Br (decide (r5 = r7))
                  (Br (r6 == r8)
                    (L23_awake K0)
                    (K0 false))
                  (K0 false))
                (K0 false))
              (K0 false))))))

/- loop of splicer/splicerref01.Within, region 2 -/
def R01_Within_l2 : Nat → (List Int) → Int → Int → Int → (Bool → Prop) → (Prop) → Prop
  | 0, _, _, _, _, _, _ => False
  | k + 1, l2, low2, high2, i1, K0, K1 => Br (decide (i1 < (l2.length : Int)))
      (Br ((decide ((0 : Int) ≤ i1)) && (decide (i1 < (((List.length l2) : Nat) : Int))))
        (Br (decide ((List.getD l2 (Int.toNat i1) 0) < low2))
          (K0 false)
          (Br ((decide ((0 : Int) ≤ i1)) && (decide (i1 < (((List.length l2) : Nat) : Int))))
            (Br (decide (high2 < (List.getD l2 (Int.toNat i1) 0)))
              (K0 false)
              (R01_Within_l2 k l2 low2 high2 (iadd .i64 i1 1) K0 K1))
            (False)))
        (False))
      (K1)

/- splicer/splicerref01.Within (51) -/
def R01_Within (l1 : (List Int)) (low1 : Int) (high1 : Int) (K0 : (Bool → Prop)) : Prop :=
  ∃ q, R01_Within_l2 q l1 low1 high1 0 K0
    (K0 true)

/- splicer/splicerref23.Right (42) -/
def R23_Right (s1 : (List Int)) (K0 : (Bool → Prop)) : Prop :=
  Br (decide ((s1.length : Int) = (72 : Int)))
    (R01_Within s1 (-32768) 32767 K0)
    (K0 false)

/- loop of splicer/splicerref23.Loud, region 9 -/
def R23_Loud_l9 : Nat → (List Int) → Int → Int → Int → (List Int) → ((List Int) → Int → Int → (List Int) → Prop) → Prop
  | 0, _, _, _, _, _, _ => False
  | k + 1, s3, b2, n1, i1, m2, K0 => Br (decide (i1 < (8 : Int)))
      (let v6 : Int := (iadd .i64 (iadd .i64 4 (imul .i64 8 b2)) i1)
      Br ((decide ((0 : Int) ≤ v6)) && (decide (v6 < (((List.length s3) : Nat) : Int))))
        (let v7 : Int := (List.getD s3 (Int.toNat v6) 0)
        R23_Loud_l9 k s3 b2 (iadd .i64 n1 (imul .i64 v7 v7)) (iadd .i64 i1 1) m2 K0)
        (False))
      (K0 s3 b2 n1 m2)

/- loop of splicer/splicerref23.Loud, region 5 -/
def R23_Loud_l5 : Nat → (List Int) → Int → (List Int) → ((List Int) → Prop) → Prop
  | 0, _, _, _, _ => False
  | k + 1, s2, b1, m1, K0 => Br (decide (b1 < (8 : Int)))
      (∃ q, R23_Loud_l9 q s2 b1 0 0 m1
        (fun (s4 : (List Int)) (b3 : Int) (n2 : Int) (m3 : (List Int)) =>
        let m4 : (List Int) := [n2]
        Br (decide ((((List.length m3) + (List.length m4)) * 8) ≤ 140737488355328))
          (R23_Loud_l5 k s4 (iadd .i64 b3 1) (m3 ++ m4) K0)
          (False)))
      (K0 m1)

/- splicer/splicerref23.Loud (16) -/
def R23_Loud (s1 : (List Int)) (K0 : (Prop)) (K1 : ((List Int) → Prop)) : Prop :=
  R23_Right s1
    (fun (r1 : Bool) =>
    Br (!r1)
      (K0)
      (∃ q, R23_Loud_l5 q s1 0 [] K1))

/- join of splicer/splicerref23.Begins, region 7 -/
def R23_Begins_j7 (ahead2 : Int) (b2 : Int) (v9 : Bool) (m3 : (List Int)) (K0 : (Int → Bool → Prop)) (K1 : (Int → Int → (List Int) → Prop)) : Prop :=
  Br v9
    (K0 b2 true)
    (K1 ahead2 b2 m3)

/- join of splicer/splicerref23.Begins, region 8 -/
def R23_Begins_j8 (ahead5 : Int) (b5 : Int) (m6 : (List Int)) (K0 : (Int → Int → (List Int) → Prop)) : Prop :=
  Br ((decide ((0 : Int) ≤ b5)) && (decide (b5 < (((List.length m6) : Nat) : Int))))
    (Br (decide ((Int.toNat b5) < (List.length m6)))
      (K0 (iadd .i64 ahead5 (List.getD m6 (Int.toNat b5) 0)) b5 m6)
      (False))
    (False)

/- loop of splicer/splicerref23.Begins, region 4 -/
def R23_Begins_l4 : Nat → Int → Int → (List Int) → (Int → Bool → Prop) → (Prop) → Prop
  | 0, _, _, _, _, _ => False
  | k + 1, ahead1, b1, m2, K0, K1 => Br (decide (b1 < (m2.length : Int)))
      (Br (decide ((0 : Int) < b1))
        (Br ((decide ((0 : Int) ≤ b1)) && (decide (b1 < (((List.length m2) : Nat) : Int))))
          (Br (decide ((Int.toNat b1) < (List.length m2)))
            (R23_Begins_j7 ahead1 b1 (decide ((iadd .i64 (imul .i64 16 ahead1) 4194304) < (imul .i64 b1 (List.getD m2 (Int.toNat b1) 0)))) m2 K0
              (fun (ahead3 : Int) (b3 : Int) (m4 : (List Int)) =>
              R23_Begins_j8 ahead3 b3 m4
                (fun (ahead6 : Int) (b6 : Int) (m7 : (List Int)) =>
                R23_Begins_l4 k ahead6 (iadd .i64 b6 1) m7 K0 K1)))
            (False))
          (False))
        (R23_Begins_j7 ahead1 b1 false m2 K0
          (fun (ahead4 : Int) (b4 : Int) (m5 : (List Int)) =>
          R23_Begins_j8 ahead4 b4 m5
            (fun (ahead7 : Int) (b7 : Int) (m8 : (List Int)) =>
            R23_Begins_l4 k ahead7 (iadd .i64 b7 1) m8 K0 K1))))
      (K1)

/- join of splicer/splicerref23.Begins, region 2 -/
def R23_Begins_j2 (m1 : (List Int)) (K0 : (Int → Bool → Prop)) : Prop :=
  ∃ q, R23_Begins_l4 q 0 0 m1 K0
    (K0 0 false)

/- splicer/splicerref23.Begins (13) -/
def R23_Begins (s1 : (List Int)) (K0 : (Int → Bool → Prop)) : Prop :=
  R23_Loud s1
    (R23_Begins_j2 [] K0)
    (fun (r1 : (List Int)) =>
    R23_Begins_j2 r1 K0)

/- loop of splicer/splicerref01.Same, region 4 -/
def R01_Same_l4 : Nat → (List Int) → (List Int) → Int → (Bool → Prop) → (Prop) → Prop
  | 0, _, _, _, _, _ => False
  | k + 1, a2, b2, i1, K0, K1 => Br (decide (i1 < (a2.length : Int)))
      (Br ((decide ((0 : Int) ≤ i1)) && (decide (i1 < (((List.length a2) : Nat) : Int))))
        (Br ((decide ((0 : Int) ≤ i1)) && (decide (i1 < (((List.length b2) : Nat) : Int))))
          (Br (!(decide ((List.getD a2 (Int.toNat i1) 0) = (List.getD b2 (Int.toNat i1) 0))))
            (K0 false)
            (R01_Same_l4 k a2 b2 (iadd .i64 i1 1) K0 K1))
          (False))
        (False))
      (K1)

/- splicer/splicerref01.Same (14) -/
def R01_Same (a1 : (List Int)) (b1 : (List Int)) (K0 : (Bool → Prop)) : Prop :=
  Br (!(decide ((a1.length : Int) = (b1.length : Int))))
    (K0 false)
    (∃ q, R01_Same_l4 q a1 b1 0 K0
      (K0 true))

/- splicer/splicerlaw23.TransientTells (3) -/
def L23_TransientTells (s1 : (List Int)) (K0 : (Bool → Prop)) : Prop :=
  Br (decide ((80 : Int) < (s1.length : Int)))
    (L23_awake K0)
    (transient_Begins s1
      (fun (r2 : Int) (r3 : Bool) =>
      R23_Begins s1
        (fun (r4 : Int) (r5 : Bool) =>
        transient_Loud s1
          (R23_Loud s1
            (R01_Same [] []
              (fun (r6 : Bool) =>
              Br r6
                (Br (decide (r2 = r4))
                  (Br (r3 == r5)
                    (L23_awake K0)
                    (K0 false))
                  (K0 false))
                (K0 false)))
            (fun (r8 : (List Int)) =>
            R01_Same [] r8
              (fun (r9 : Bool) =>
              Br r9
                (Br (decide (r2 = r4))
                  (Br (r3 == r5)
                    (L23_awake K0)
                    (K0 false))
                  (K0 false))
                (K0 false))))
          (fun (r11 : (List Int)) =>
          R23_Loud s1
            (R01_Same r11 []
              (fun (r12 : Bool) =>
              Br r12
                (Br (decide (r2 = r4))
                  (Br (r3 == r5)
                    (L23_awake K0)
                    (K0 false))
                  (K0 false))
                (K0 false)))
            (fun (r14 : (List Int)) =>
            R01_Same r11 r14
              (fun (r15 : Bool) =>
              Br r15
                (Br (decide (r2 = r4))
                  (Br (r3 == r5)
                    (L23_awake K0)
                    (K0 false))
                  (K0 false))
                (K0 false)))))))

end Go.Eng.A
