/- The functions that AllocGrows reaches, as plain ones: printed by program. -/
import Derived.Test.YtjfnkbbcnllfiaaEngA
set_option linter.unusedVariables false
set_option maxRecDepth 100000
namespace Go.Eng.A
open Go Go.Eng

/- splicer/alloc.held[int] (45) -/
def alloc_held_int_ (x1 : Int) (low1 : Int) (high1 : Int) (K0 : (Int → Prop)) : Prop :=
  K0 (imax low1 (imin high1 x1))

/- splicer/alloc.good (44) -/
def alloc_good (q1 : Int) (K0 : (Bool → Prop)) : Prop :=
  alloc_held_int_ q1 0 10
    (fun (r1 : Int) =>
    K0 (decide (r1 = q1)))

/- splicer/alloc.times (46) -/
def alloc_times (w1 : Int) (K0 : (Int → Prop)) : Prop :=
  Br (decide (w1 = (2 : Int)))
    (K0 1)
    (Br (decide (w1 = (4 : Int)))
      (K0 2)
      (Br (decide (w1 = (8 : Int)))
        (K0 3)
        (K0 0)))

/- splicer/alloc.Band (25) -/
def alloc_Band (q1 : Int) (c1 : Int) (w1 : Int) (K0 : (Int → Prop)) : Prop :=
  alloc_good q1
    (fun (r1 : Bool) =>
    Br (!r1)
      (K0 0)
      (alloc_held_int_ c1 1 23
        (fun (r2 : Int) =>
        Br (!(decide (r2 = c1)))
          (K0 0)
          (alloc_times w1
            (fun (r3 : Int) =>
            alloc_held_int_ (isub .i64 (iadd .i64 c1 q1) 8) 0 8
              (fun (r4 : Int) =>
              K0 (imul .i64 r3 r4)))))))

/- loop of splicer/energy.Right, region 2 -/
def energy_Right_l2 : Nat → (List Int) → (List Int) → Int → Int → (Bool → Prop) → ((List Int) → Prop) → Prop
  | 0, _, _, _, _, _, _ => False
  | k + 1, c2, v2, v3, v4, K0, K1 => Br (decide (v4 < v3))
      (Br ((decide ((0 : Int) ≤ v4)) && (decide (v4 < (((List.length v2) : Nat) : Int))))
        (let v6 : Int := (List.getD v2 (Int.toNat v4) 0)
        Br (decide (v6 < (0 : Int)))
          (K0 false)
          (Br (decide ((23 : Int) < v6))
            (K0 false)
            (energy_Right_l2 k c2 v2 v3 (iadd .i64 v4 1) K0 K1)))
        (False))
      (K1 c2)

/- splicer/energy.Right (37) -/
def energy_Right (c1 : (List Int)) (K0 : (Bool → Prop)) : Prop :=
  ∃ q, energy_Right_l2 q c1 c1 (c1.length : Int) 0 K0
    (fun (c3 : (List Int)) =>
    K0 (decide ((c3.length : Int) = (13 : Int))))

/- splicer/layout.widths (56) -/
def layout_widths  (K0 : ((List Int) → Prop)) : Prop :=
  K0 [2, 2, 2, 2, 4, 4, 4, 4, 8, 8, 8, 8, 8]

/- splicer/layout.Width (47) -/
def layout_Width (b1 : Int) (K0 : (Int → Prop)) : Prop :=
  Br (decide (b1 < (0 : Int)))
    (K0 0)
    (Br (decide ((13 : Int) ≤ b1))
      (K0 0)
      (layout_widths
        (fun (r1 : (List Int)) =>
        Br ((decide ((0 : Int) ≤ b1)) && (decide (b1 < (13 : Int))))
          (Br (decide ((Int.toNat b1) < (List.length r1)))
            (K0 (List.getD r1 (Int.toNat b1) 0))
            (False))
          (False))))

/- loop of splicer/alloc.All, region 5 -/
def alloc_All_l5 : Nat → Int → (List Int) → Int → Int → (List Int) → ((List Int) → Prop) → Prop
  | 0, _, _, _, _, _, _ => False
  | k + 1, q2, v5, v6, v7, m2, K0 => Br (decide (v7 < v6))
      (Br ((decide ((0 : Int) ≤ v7)) && (decide (v7 < (((List.length v5) : Nat) : Int))))
        (layout_Width v7
          (fun (r3 : Int) =>
          alloc_Band q2 (List.getD v5 (Int.toNat v7) 0) r3
            (fun (r4 : Int) =>
            Br ((decide ((0 : Int) ≤ v7)) && (decide (v7 < (((List.length m2) : Nat) : Int))))
              (Br (decide ((Int.toNat v7) < (List.length m2)))
                (alloc_All_l5 k q2 v5 v6 (iadd .i64 v7 1) (List.set m2 (Int.toNat v7) r4) K0)
                (False))
              (False))))
        (False))
      (K0 m2)

/- splicer/alloc.All (27) -/
def alloc_All (q1 : Int) (row1 : (List Int)) (K0 : (Prop)) (K1 : ((List Int) → Prop)) : Prop :=
  alloc_good q1
    (fun (r1 : Bool) =>
    Br (!r1)
      (K0)
      (energy_Right row1
        (fun (r2 : Bool) =>
        Br (!r2)
          (K0)
          (Br (((decide ((0 : Int) ≤ (row1.length : Int))) && (decide ((row1.length : Int) ≤ (row1.length : Int)))) && (decide (((row1.length : Int) * (8 : Int)) ≤ (140737488355328 : Int))))
            (∃ q, alloc_All_l5 q q1 row1 (row1.length : Int) 0 (List.replicate (Int.toNat (row1.length : Int)) 0) K1)
            (False)))))

/- splicer/splicerlaw15.awake (24) -/
def L15_awake  (K0 : (Bool → Prop)) : Prop :=
  alloc_Band 5 8 4
    (fun (r1 : Int) =>
    Br (decide (r1 = (10 : Int)))
      (alloc_Band 5 0 4
        (fun (r2 : Int) =>
        Br (decide (r2 = (0 : Int)))
          (alloc_Band 10 23 8
            (fun (r3 : Int) =>
            Br (decide (r3 = (24 : Int)))
              (alloc_All 0 []
                (alloc_Band 11 8 4
                  (fun (r4 : Int) =>
                  K0 (decide (r4 = (0 : Int)))))
                (fun (r5 : (List Int)) =>
                Br (decide ((r5.length : Int) = (0 : Int)))
                  (alloc_Band 11 8 4
                    (fun (r6 : Int) =>
                    K0 (decide (r6 = (0 : Int)))))
                  (K0 false)))
              (K0 false)))
          (K0 false)))
      (K0 false))

/- join of splicer/splicerlaw15.AllocGrows, region 8 -/
def L15_AllocGrows_j8 (a1 : Int) (b1 : Int) (k1 : Int) (K0 : (Bool → Prop)) : Prop :=
  Br (decide (b1 = (0 : Int)))
    (L15_awake K0)
    (Br (decide ((iadd .i64 a1 b1) ≤ (8 : Int)))
      (L15_awake K0)
      (Br (decide ((0 : Int) < k1))
        (L15_awake K0)
        (K0 false)))

/- splicer/splicerlaw15.AllocGrows (8) -/
def L15_AllocGrows (q1 : Int) (c1 : Int) (w1 : Int) (K0 : (Bool → Prop)) : Prop :=
  let v2 : Int := (irem .i64 (Go.IntKind.wrap .i64 q1) 11)
  let v4 : Int := (irem .i64 (Go.IntKind.wrap .i64 c1) 24)
  let v6 : Int := (irem .i64 (Go.IntKind.wrap .i64 w1) 3)
  Br (decide (v6 < (0 : Int)))
    (False)
    (let v7 : Int := (ishl .i64 2 v6)
    alloc_Band v2 v4 v7
      (fun (r1 : Int) =>
      Br (decide (r1 < (0 : Int)))
        (K0 false)
        (Br (decide ((imul .i64 4 v7) < r1))
          (K0 false)
          (Br (decide ((24 : Int) < r1))
            (K0 false)
            (alloc_Band v2 0 v7
              (fun (r2 : Int) =>
              Br (!(decide (r2 = (0 : Int))))
                (K0 false)
                (Br (decide (v2 < (10 : Int)))
                  (alloc_Band (iadd .i64 v2 1) v4 v7
                    (fun (r3 : Int) =>
                    Br (decide (r3 < r1))
                      (K0 false)
                      (Br (decide (v4 < (23 : Int)))
                        (alloc_Band v2 (iadd .i64 v4 1) v7
                          (fun (r4 : Int) =>
                          Br (decide (r4 < r1))
                            (K0 false)
                            (L15_AllocGrows_j8 v2 v4 r1 K0)))
                        (L15_AllocGrows_j8 v2 v4 r1 K0))))
                  (Br (decide (v4 < (23 : Int)))
                    (alloc_Band v2 (iadd .i64 v4 1) v7
                      (fun (r5 : Int) =>
                      Br (decide (r5 < r1))
                        (K0 false)
                        (L15_AllocGrows_j8 v2 v4 r1 K0)))
                    (L15_AllocGrows_j8 v2 v4 r1 K0)))))))))

/- splicer/splicerref15.Band (26) -/
def R15_Band (q1 : Int) (c1 : Int) (w1 : Int) (K0 : (Int → Prop)) : Prop :=
  Br (decide (q1 < (0 : Int)))
    (K0 0)
    (Br (decide ((10 : Int) < q1))
      (K0 0)
      (Br (decide (c1 < (1 : Int)))
        (K0 0)
        (Br (decide ((23 : Int) < c1))
          (K0 0)
          (let v8 : Int := (imax 0 (imin 8 (isub .i64 (iadd .i64 c1 q1) 8)))
          Br (decide (w1 = (2 : Int)))
            (K0 v8)
            (Br (decide (w1 = (4 : Int)))
              (K0 (imul .i64 2 v8))
              (Br (decide (w1 = (8 : Int)))
                (K0 (imul .i64 3 v8))
                (K0 0)))))))

/- loop of splicer/splicerref01.Within, region 2 -/
def R01_Within_l2 : Nat → (List Int) → Int → Int → Int → (Bool → Prop) → (Prop) → Prop
  | 0, _, _, _, _, _, _ => False
  | k + 1, l2, low2, high2, i1, K0, K1 => Br (decide (i1 < (l2.length : Int)))
      (Br ((decide ((0 : Int) ≤ i1)) && (decide (i1 < (((List.length l2) : Nat) : Int))))
        (Br (decide ((List.getD l2 (Int.toNat i1) 0) < low2))
          (K0 false)
          (Br ((decide ((0 : Int) ≤ i1)) && (decide (i1 < (((List.length l2) : Nat) : Int))))
            (Br (decide (high2 < (List.getD l2 (Int.toNat i1) 0)))
              (K0 false)
              (R01_Within_l2 k l2 low2 high2 (iadd .i64 i1 1) K0 K1))
            (False)))
        (False))
      (K1)

/- splicer/splicerref01.Within (51) -/
def R01_Within (l1 : (List Int)) (low1 : Int) (high1 : Int) (K0 : (Bool → Prop)) : Prop :=
  ∃ q, R01_Within_l2 q l1 low1 high1 0 K0
    (K0 true)

/- splicer/splicerref14.Right (38) -/
def R14_Right (c1 : (List Int)) (K0 : (Bool → Prop)) : Prop :=
  Br (decide ((c1.length : Int) = (13 : Int)))
    (R01_Within c1 0 23 K0)
    (K0 false)

/- join of splicer/splicerref13.Width, region 2 -/
def R13_Width_j2 (b2 : Int) (v3 : Bool) (K0 : (Int → Prop)) (K1 : (Prop)) : Prop :=
  Br v3
    (K0 0)
    (Br (decide (b2 < (4 : Int)))
      (K0 2)
      (Br (decide (b2 < (8 : Int)))
        (K0 4)
        (K1)))

/- splicer/splicerref13.Width (48) -/
def R13_Width (b1 : Int) (K0 : (Int → Prop)) : Prop :=
  Br (decide (b1 < (0 : Int)))
    (R13_Width_j2 b1 true K0
      (K0 8))
    (R13_Width_j2 b1 (decide ((12 : Int) < b1)) K0
      (K0 8))

/- loop of splicer/splicerref15.All, region 5 -/
def R15_All_l5 : Nat → Int → (List Int) → Int → (List Int) → ((List Int) → Prop) → Prop
  | 0, _, _, _, _, _ => False
  | k + 1, q2, row2, b1, m1, K0 => Br (decide (b1 < (13 : Int)))
      (Br ((decide ((0 : Int) ≤ b1)) && (decide (b1 < (((List.length row2) : Nat) : Int))))
        (R13_Width b1
          (fun (r2 : Int) =>
          R15_Band q2 (List.getD row2 (Int.toNat b1) 0) r2
            (fun (r3 : Int) =>
            let v6 : (List Int) := [r3]
            Br (decide ((((List.length m1) + (List.length v6)) * 8) ≤ 140737488355328))
              (R15_All_l5 k q2 row2 (iadd .i64 b1 1) (m1 ++ v6) K0)
              (False))))
        (False))
      (K0 m1)

/- splicer/splicerref15.All (28) -/
def R15_All (q1 : Int) (row1 : (List Int)) (K0 : (Prop)) (K1 : ((List Int) → Prop)) : Prop :=
  Br (decide (q1 < (0 : Int)))
    (K0)
    (Br (decide ((10 : Int) < q1))
      (K0)
      (R14_Right row1
        (fun (r1 : Bool) =>
        Br (!r1)
          (K0)
          (∃ q, R15_All_l5 q q1 row1 0 [] K1))))

/- loop of splicer/splicerref01.Same, region 4 -/
def R01_Same_l4 : Nat → (List Int) → (List Int) → Int → (Bool → Prop) → (Prop) → Prop
  | 0, _, _, _, _, _ => False
  | k + 1, a2, b2, i1, K0, K1 => Br (decide (i1 < (a2.length : Int)))
      (Br ((decide ((0 : Int) ≤ i1)) && (decide (i1 < (((List.length a2) : Nat) : Int))))
        (Br ((decide ((0 : Int) ≤ i1)) && (decide (i1 < (((List.length b2) : Nat) : Int))))
          (Br (!(decide ((List.getD a2 (Int.toNat i1) 0) = (List.getD b2 (Int.toNat i1) 0))))
            (K0 false)
            (R01_Same_l4 k a2 b2 (iadd .i64 i1 1) K0 K1))
          (False))
        (False))
      (K1)

/- splicer/splicerref01.Same (14) -/
def R01_Same (a1 : (List Int)) (b1 : (List Int)) (K0 : (Bool → Prop)) : Prop :=
  Br (!(decide ((a1.length : Int) = (b1.length : Int))))
    (K0 false)
    (∃ q, R01_Same_l4 q a1 b1 0 K0
      (K0 true))

/- splicer/splicerlaw15.AllocTells (7) -/
def L15_AllocTells (q1 : Int) (c1 : Int) (w1 : Int) (row1 : (List Int)) (K0 : (Bool → Prop)) : Prop :=
  Br (decide ((16 : Int) < (row1.length : Int)))
    (L15_awake K0)
    (alloc_Band q1 c1 w1
      (fun (r2 : Int) =>
      R15_Band q1 c1 w1
        (fun (r3 : Int) =>
        Br (decide (r2 = r3))
          (alloc_All q1 row1
            (R15_All q1 row1
              (R01_Same [] []
                (fun (r4 : Bool) =>
                Br r4
                  (L15_awake K0)
                  (K0 false)))
              (fun (r6 : (List Int)) =>
              R01_Same [] r6
                (fun (r7 : Bool) =>
                Br r7
                  (L15_awake K0)
                  (K0 false))))
            (fun (r9 : (List Int)) =>
            R15_All q1 row1
              (R01_Same r9 []
                (fun (r10 : Bool) =>
                Br r10
                  (L15_awake K0)
                  (K0 false)))
              (fun (r12 : (List Int)) =>
              R01_Same r9 r12
                (fun (r13 : Bool) =>
                Br r13
                  (L15_awake K0)
                  (K0 false)))))
          (K0 false))))

end Go.Eng.A
