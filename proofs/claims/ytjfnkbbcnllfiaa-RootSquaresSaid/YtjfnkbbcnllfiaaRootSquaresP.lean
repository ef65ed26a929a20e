/- The functions that RootSquares reaches, as plain ones: printed by program. -/
import Derived.Test.YtjfnkbbcnllfiaaEngA
set_option linter.unusedVariables false
set_option maxRecDepth 100000
namespace Go.Eng.A
open Go Go.Eng

/- loop of splicer/root.Sqrt, region 5 -/
def root_Sqrt_l5 : Nat → Int → Int → Int → (Int → Prop) → Prop
  | 0, _, _, _, _ => False
  | k + 1, n2, r1, v3, K0 => Br (decide (v3 < (31 : Int)))
      (let v5 : Int := (isub .i64 30 v3)
      Br (decide (v5 < (0 : Int)))
        (False)
        (let v7 : Int := (ior .i64 r1 (ishl .i64 1 v5))
        Br (decide ((imul .i64 v7 v7) ≤ n2))
          (root_Sqrt_l5 k n2 v7 (iadd .i64 v3 1) K0)
          (root_Sqrt_l5 k n2 r1 (iadd .i64 v3 1) K0)))
      (K0 r1)

/- splicer/root.Sqrt (17) -/
def root_Sqrt (n1 : Int) (K0 : (Int → Prop)) : Prop :=
  Br (decide (n1 < (0 : Int)))
    (K0 0)
    (Br (decide ((1152921504606846976 : Int) < n1))
      (K0 0)
      (∃ q, root_Sqrt_l5 q n1 0 0 K0))

/- join of math/bits.Len64, region 10 -/
def bits_Len64_j10 (x4 : Int) (n3 : Int) (K0 : (Int → Prop)) : Prop :=
  let v9 : Int := (Go.IntKind.wrap .u8 x4)
  Br ((decide ((0 : Int) ≤ v9)) && (decide (v9 < (256 : Int))))
    (K0 (iadd .i64 n3 (Go.IntKind.wrap .i64 (byteAt (ByteArray.mk #[0, 1, 2, 2, 3, 3, 3, 3, 4, 4, 4, 4, 4, 4, 4, 4, 5, 5, 5, 5, 5, 5, 5, 5, 5, 5, 5, 5, 5, 5, 5, 5, 6, 6, 6, 6, 6, 6, 6, 6, 6, 6, 6, 6, 6, 6, 6, 6, 6, 6, 6, 6, 6, 6, 6, 6, 6, 6, 6, 6, 6, 6, 6, 6, 7, 7, 7, 7, 7, 7, 7, 7, 7, 7, 7, 7, 7, 7, 7, 7, 7, 7, 7, 7, 7, 7, 7, 7, 7, 7, 7, 7, 7, 7, 7, 7, 7, 7, 7, 7, 7, 7, 7, 7, 7, 7, 7, 7, 7, 7, 7, 7, 7, 7, 7, 7, 7, 7, 7, 7, 7, 7, 7, 7, 7, 7, 7, 7, 8, 8, 8, 8, 8, 8, 8, 8, 8, 8, 8, 8, 8, 8, 8, 8, 8, 8, 8, 8, 8, 8, 8, 8, 8, 8, 8, 8, 8, 8, 8, 8, 8, 8, 8, 8, 8, 8, 8, 8, 8, 8, 8, 8, 8, 8, 8, 8, 8, 8, 8, 8, 8, 8, 8, 8, 8, 8, 8, 8, 8, 8, 8, 8, 8, 8, 8, 8, 8, 8, 8, 8, 8, 8, 8, 8, 8, 8, 8, 8, 8, 8, 8, 8, 8, 8, 8, 8, 8, 8, 8, 8, 8, 8, 8, 8, 8, 8, 8, 8, 8, 8, 8, 8, 8, 8, 8, 8, 8, 8, 8, 8, 8, 8, 8, 8, 8, 8, 8, 8, 8, 8, 8, 8, 8, 8, 8, 8]) (Int.toNat v9)))))
    (False)

/- join of math/bits.Len64, region 7 -/
def bits_Len64_j7 (x3 : Int) (n2 : Int) (K0 : (Int → Prop)) : Prop :=
  Br (decide ((256 : Int) ≤ x3))
    (bits_Len64_j10 (ishr .u64 x3 8) (iadd .i64 n2 8) K0)
    (bits_Len64_j10 x3 n2 K0)

/- join of math/bits.Len64, region 4 -/
def bits_Len64_j4 (x2 : Int) (n1 : Int) (K0 : (Int → Prop)) : Prop :=
  Br (decide ((65536 : Int) ≤ x2))
    (bits_Len64_j7 (ishr .u64 x2 16) (iadd .i64 n1 16) K0)
    (bits_Len64_j7 x2 n1 K0)

/- math/bits.Len64 (43) -/
def bits_Len64 (x1 : Int) (K0 : (Int → Prop)) : Prop :=
  Br (decide ((4294967296 : Int) ≤ x1))
    (bits_Len64_j4 (ishr .u64 x1 32) 32 K0)
    (bits_Len64_j4 x1 0 K0)

/- splicer/root.Log (19) -/
def root_Log (n1 : Int) (K0 : (Int → Prop)) : Prop :=
  Br (decide (n1 < (1 : Int)))
    (K0 0)
    (bits_Len64 (Go.IntKind.wrap .u64 n1)
      (fun (r1 : Int) =>
      K0 (isub .i64 r1 1)))

/- join of splicer/root.Near, region 3 -/
def root_Near_j3 (r2 : Int) (v6 : Bool) (K0 : (Int → Prop)) (K1 : (Int → Prop)) : Prop :=
  Br v6
    (K0 r2)
    (K1 r2)

/- splicer/root.Near (21) -/
def root_Near (n1 : Int) (K0 : (Int → Prop)) : Prop :=
  root_Sqrt n1
    (fun (r1 : Int) =>
    Br (decide (n1 < (0 : Int)))
      (root_Near_j3 r1 true K0
        (fun (r3 : Int) =>
        K0 (iadd .i64 r3 1)))
      (Br (decide ((1152921504606846976 : Int) < n1))
        (root_Near_j3 r1 true K0
          (fun (r4 : Int) =>
          K0 (iadd .i64 r4 1)))
        (root_Near_j3 r1 (decide ((isub .i64 n1 (imul .i64 r1 r1)) ≤ r1)) K0
          (fun (r5 : Int) =>
          K0 (iadd .i64 r5 1)))))

/- splicer/splicerlaw06.awake (23) -/
def L06_awake  (K0 : (Bool → Prop)) : Prop :=
  root_Sqrt 24
    (fun (r1 : Int) =>
    Br (decide (r1 = (4 : Int)))
      (root_Log 9
        (fun (r2 : Int) =>
        Br (decide (r2 = (3 : Int)))
          (root_Near 21
            (fun (r3 : Int) =>
            Br (decide (r3 = (5 : Int)))
              (root_Sqrt (-1)
                (fun (r4 : Int) =>
                K0 (decide (r4 = (0 : Int)))))
              (K0 false)))
          (K0 false)))
      (K0 false))

/- join of splicer/splicerlaw06.RootSquares, region 2 -/
def L06_RootSquares_j2 (a2 : Int) (b2 : Int) (v5 : Bool) (K0 : (Bool → Prop)) (K1 : (Int → Int → Prop)) : Prop :=
  Br v5
    (L06_awake K0)
    (K1 a2 b2)

/- join of splicer/splicerlaw06.RootSquares, region 9 -/
def L06_RootSquares_j9 (a9 : Int) (r6 : Int) (K0 : (Bool → Prop)) : Prop :=
  root_Near a9
    (fun (r7 : Int) =>
    Br (decide (r6 ≤ r7))
      (Br (decide (r7 ≤ (iadd .i64 r6 1)))
        (root_Sqrt (imul .i64 r6 r6)
          (fun (r8 : Int) =>
          Br (decide (r8 = r6))
            (root_Near (imul .i64 r6 r6)
              (fun (r9 : Int) =>
              Br (decide (r9 = r6))
                (L06_awake K0)
                (K0 false)))
            (K0 false)))
        (K0 false))
      (K0 false))

/- join of splicer/splicerlaw06.RootSquares, region 6 -/
def L06_RootSquares_j6 (a8 : Int) (r4 : Int) (K0 : (Bool → Prop)) : Prop :=
  root_Log a8
    (fun (r5 : Int) =>
    Br (decide ((0 : Int) < a8))
      (Br (decide (r5 < (0 : Int)))
        (K0 false)
        (Br (decide ((60 : Int) < r5))
          (K0 false)
          (Br (decide (r5 < (0 : Int)))
            (False)
            (Br (!(decide ((ishr .i64 a8 r5) = (1 : Int))))
              (K0 false)
              (L06_RootSquares_j9 a8 r4 K0)))))
      (L06_RootSquares_j9 a8 r4 K0))

/- join of splicer/splicerlaw06.RootSquares, region 3 -/
def L06_RootSquares_j3 (a7 : Int) (b7 : Int) (K0 : (Bool → Prop)) : Prop :=
  root_Sqrt a7
    (fun (r2 : Int) =>
    root_Sqrt b7
      (fun (r3 : Int) =>
      Br (decide (r2 < (0 : Int)))
        (K0 false)
        (Br (decide ((1073741824 : Int) < r2))
          (K0 false)
          (Br (decide (a7 < (imul .i64 r2 r2)))
            (K0 false)
            (Br (decide ((imul .i64 (iadd .i64 r2 1) (iadd .i64 r2 1)) ≤ a7))
              (K0 false)
              (Br (decide (a7 ≤ b7))
                (Br (decide (r3 < r2))
                  (K0 false)
                  (L06_RootSquares_j6 a7 r2 K0))
                (L06_RootSquares_j6 a7 r2 K0)))))))

/- splicer/splicerlaw06.RootSquares (6) -/
def L06_RootSquares (a1 : Int) (b1 : Int) (K0 : (Bool → Prop)) : Prop :=
  Br (decide (a1 < (0 : Int)))
    (L06_RootSquares_j2 a1 b1 true K0
      (fun (a3 : Int) (b3 : Int) =>
      L06_RootSquares_j3 a3 b3 K0))
    (Br (decide ((1152921504606846976 : Int) < a1))
      (L06_RootSquares_j2 a1 b1 true K0
        (fun (a4 : Int) (b4 : Int) =>
        L06_RootSquares_j3 a4 b4 K0))
      (Br (decide (b1 < (0 : Int)))
        (L06_RootSquares_j2 a1 b1 true K0
          (fun (a5 : Int) (b5 : Int) =>
          L06_RootSquares_j3 a5 b5 K0))
        (L06_RootSquares_j2 a1 b1 (decide ((1152921504606846976 : Int) < b1)) K0
          (fun (a6 : Int) (b6 : Int) =>
          L06_RootSquares_j3 a6 b6 K0))))

/- loop of splicer/splicerref06.Sqrt, region 4 -/
def R06_Sqrt_l4 : Nat → Int → Int → Int → (Int → Prop) → Prop
  | 0, _, _, _, _ => False
  | k + 1, n2, low1, high1, K0 => Br (decide ((1 : Int) < (isub .i64 high1 low1)))
      (let v6 : Int := (iquo .i64 (iadd .i64 low1 high1) 2)
      Br (decide ((imul .i64 v6 v6) ≤ n2))
        (R06_Sqrt_l4 k n2 v6 high1 K0)
        (R06_Sqrt_l4 k n2 low1 v6 K0))
      (K0 low1)

/- splicer/splicerref06.Sqrt (18) -/
def R06_Sqrt (n1 : Int) (K0 : (Int → Prop)) : Prop :=
  Br (decide (n1 < (0 : Int)))
    (K0 0)
    (Br (decide ((1152921504606846976 : Int) < n1))
      (K0 0)
      (∃ q, R06_Sqrt_l4 q n1 0 1073741825 K0))

/- loop of splicer/splicerref06.Log, region 2 -/
def R06_Log_l2 : Nat → Int → Int → (Int → Prop) → Prop
  | 0, _, _, _ => False
  | k + 1, n2, k1, K0 => Br (decide ((1 : Int) < n2))
      (R06_Log_l2 k (iquo .i64 n2 2) (iadd .i64 k1 1) K0)
      (K0 k1)

/- splicer/splicerref06.Log (20) -/
def R06_Log (n1 : Int) (K0 : (Int → Prop)) : Prop :=
  ∃ q, R06_Log_l2 q n1 0 K0

/- splicer/splicerref06.Near (22) -/
def R06_Near (n1 : Int) (K0 : (Int → Prop)) : Prop :=
  Br (decide (n1 < (0 : Int)))
    (K0 0)
    (Br (decide ((1152921504606846976 : Int) < n1))
      (K0 0)
      (R06_Sqrt n1
        (fun (r1 : Int) =>
        Br (decide ((isub .i64 (imul .i64 (iadd .i64 r1 1) (iadd .i64 r1 1)) n1) < (isub .i64 n1 (imul .i64 r1 r1))))
          (K0 (iadd .i64 r1 1))
          (K0 r1))))

/- splicer/splicerlaw06.RootTells (5) -/
def L06_RootTells (n1 : Int) (K0 : (Bool → Prop)) : Prop :=
  root_Sqrt n1
    (fun (r1 : Int) =>
    R06_Sqrt n1
      (fun (r2 : Int) =>
      Br (decide (r1 = r2))
        (root_Log n1
          (fun (r3 : Int) =>
          R06_Log n1
            (fun (r4 : Int) =>
            Br (decide (r3 = r4))
              (root_Near n1
                (fun (r5 : Int) =>
                R06_Near n1
                  (fun (r6 : Int) =>
                  Br (decide (r5 = r6))
                    (L06_awake K0)
                    (K0 false))))
              (K0 false))))
        (K0 false)))

end Go.Eng.A
