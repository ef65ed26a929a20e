/- The functions that LayoutTells reaches, as plain ones: printed by program. -/
import Derived.Test.YtkgapcdnpcjcmaaEngA
set_option linter.unusedVariables false
set_option maxRecDepth 100000
namespace Go.Eng.A
open Go Go.Eng

/- splicer/layout.widths (48) -/
def layout_widths_u  (K0 : ((List Int) → Prop)) : Prop :=
  K0 [2, 2, 2, 2, 4, 4, 4, 4, 8, 8, 8, 8, 8]

noncomputable def layout_widths : ((List Int) → Prop) → Prop := Classical.choose (⟨layout_widths_u, rfl⟩ : ∃ q, q = layout_widths_u)

theorem layout_widths_def  (K0 : ((List Int) → Prop)) : layout_widths K0 =
  (K0 [2, 2, 2, 2, 4, 4, 4, 4, 8, 8, 8, 8, 8]) := by
  have e : layout_widths = layout_widths_u := Classical.choose_spec (⟨layout_widths_u, rfl⟩ : ∃ q, q = layout_widths_u)
  show layout_widths K0 = layout_widths_u K0
  rw [e]

/- splicer/layout.Width (20) -/
def layout_Width_u (b1 : Int) (K0 : (Int → Prop)) : Prop :=
  Br (decide (b1 < (0 : Int)))
    (K0 0)
    (Br (decide ((13 : Int) ≤ b1))
      (K0 0)
      (layout_widths
        (fun (r1 : (List Int)) =>
        Br ((decide ((0 : Int) ≤ b1)) && (decide (b1 < (13 : Int))))
          (Br (decide ((Int.toNat b1) < (List.length r1)))
            (K0 (List.getD r1 (Int.toNat b1) 0))
            (False))
          (False))))

noncomputable def layout_Width : Int → (Int → Prop) → Prop := Classical.choose (⟨layout_Width_u, rfl⟩ : ∃ q, q = layout_Width_u)

theorem layout_Width_def (b1 : Int) (K0 : (Int → Prop)) : layout_Width b1 K0 =
  (Br (decide (b1 < (0 : Int)))
    (K0 0)
    (Br (decide ((13 : Int) ≤ b1))
      (K0 0)
      (layout_widths
        (fun (r1 : (List Int)) =>
        Br ((decide ((0 : Int) ≤ b1)) && (decide (b1 < (13 : Int))))
          (Br (decide ((Int.toNat b1) < (List.length r1)))
            (K0 (List.getD r1 (Int.toNat b1) 0))
            (False))
          (False))))) := by
  have e : layout_Width = layout_Width_u := Classical.choose_spec (⟨layout_Width_u, rfl⟩ : ∃ q, q = layout_Width_u)
  show layout_Width b1 K0 = layout_Width_u b1 K0
  rw [e]

/- splicer/layout.bands (49) -/
def layout_bands_u  (K0 : (Prop)) : Prop :=
  K0

noncomputable def layout_bands : (Prop) → Prop := Classical.choose (⟨layout_bands_u, rfl⟩ : ∃ q, q = layout_bands_u)

theorem layout_bands_def  (K0 : (Prop)) : layout_bands K0 =
  (K0) := by
  have e : layout_bands = layout_bands_u := Classical.choose_spec (⟨layout_bands_u, rfl⟩ : ∃ q, q = layout_bands_u)
  show layout_bands K0 = layout_bands_u K0
  rw [e]

/- loop of splicer/layout.bands$1, region 2 -/
def It_layout_bands_1_l2 (S : Type) (rd : ((Int × Int × Unit) → S → (Bool → S → Prop) → Prop)) : Nat → Int → (List Int) → Int → S → (S → Prop) → (S → Prop) → Prop
  | 0, _, _, _, _, _, _ => False
  | k + 1, at_1, v1, v2, s1, K0, K1 => Br (decide (v2 < (13 : Int)))
      (Br ((decide ((0 : Int) ≤ v2)) && (decide (v2 < (13 : Int))))
        (let v4 : Int := (List.getD v1 (Int.toNat v2) 0)
        rd (at_1, v4, ()) s1 fun (b1 : Bool) (s2 : S) =>
        Br (!b1)
          (K0 s2)
          (It_layout_bands_1_l2 S rd k (iadd .i64 at_1 v4) v1 (iadd .i64 v2 1) s2 K0 K1))
        (False))
      (K1 s1)

/- splicer/layout.bands$1 (60) -/
def It_layout_bands_1_u  (S : Type) (rd : ((Int × Int × Unit) → S → (Bool → S → Prop) → Prop)) (s : S) (K0 : S → Prop) : Prop :=
  layout_widths
    (fun (r1 : (List Int)) =>
    ∃ q, It_layout_bands_1_l2 S rd q 0 r1 0 s K0 K0)

noncomputable def It_layout_bands_1 : (S : Type) → ((Int × Int × Unit) → S → (Bool → S → Prop) → Prop) → S → (S → Prop) → Prop := Classical.choose (⟨It_layout_bands_1_u, rfl⟩ : ∃ q, q = It_layout_bands_1_u)

theorem It_layout_bands_1_def  (S : Type) (rd : ((Int × Int × Unit) → S → (Bool → S → Prop) → Prop)) (s : S) (K0 : S → Prop) : It_layout_bands_1 S rd s K0 =
  (layout_widths
    (fun (r1 : (List Int)) =>
    ∃ q, It_layout_bands_1_l2 S rd q 0 r1 0 s K0 K0)) := by
  have e : It_layout_bands_1 = It_layout_bands_1_u := Classical.choose_spec (⟨It_layout_bands_1_u, rfl⟩ : ∃ q, q = It_layout_bands_1_u)
  show It_layout_bands_1 S rd s K0 = It_layout_bands_1_u S rd s K0
  rw [e]

/- range, region 2 -/
def layout_Start_r2b (x1 : Int) (x2 : Int) (m1 : Int) (m2 : Int) (K0 : (Int → Int → Prop)) (K1 : (Int → Prop)) : Prop :=
  let v1 : Int := (isub .i64 m1 1)
  Br (decide (v1 = (-1 : Int)))
    (K1 x1)
    (K0 v1 m2)
def layout_Start_r2 (m1 : Int) (m2 : Int) (K0 : (Int → Int → Prop)) (K1 : (Int → Prop)) : Prop :=
  It_layout_bands_1 (Rs ((Unit) × (Int × Int × Unit)) (Sum ((Unit) × (Int × Unit)) (Empty)))
    (fun x s Kb => s.on fun (v : (Unit) × (Int × Int × Unit)) => layout_Start_r2b x.1 x.2.1 v.2.1 v.2.2.1 (fun (y0 : Int) (y1 : Int) => Kb true (.go ((()), (y0, y1, ())))) (fun (y0 : Int) => Kb false (.jp (.inl ((()), (y0, ()))))))
    (.go ((()), (m1, m2, ())))
    (fun s => s.fin (fun (v : (Unit) × (Int × Int × Unit)) => K0 v.2.1 v.2.2.1) (jon (fun (v : (Unit) × (Int × Unit)) => K1 v.2.1) (fun _ => False)))

/- splicer/layout.Start (22) -/
def layout_Start_u (b1 : Int) (K0 : (Int → Prop)) : Prop :=
  layout_bands
    (layout_Start_r2 b1 0
      (fun (m3 : Int) (m4 : Int) =>
      K0 0) K0)

noncomputable def layout_Start : Int → (Int → Prop) → Prop := Classical.choose (⟨layout_Start_u, rfl⟩ : ∃ q, q = layout_Start_u)

theorem layout_Start_def (b1 : Int) (K0 : (Int → Prop)) : layout_Start b1 K0 =
  (layout_bands
    (layout_Start_r2 b1 0
      (fun (m3 : Int) (m4 : Int) =>
      K0 0) K0)) := by
  have e : layout_Start = layout_Start_u := Classical.choose_spec (⟨layout_Start_u, rfl⟩ : ∃ q, q = layout_Start_u)
  show layout_Start b1 K0 = layout_Start_u b1 K0
  rw [e]

/- join of splicer/layout.Of, region 6 -/
def layout_Of_j6 (v4 : Bool) (m4 : Int) (m5 : Int) (m6 : Int) (K0 : (Int → Prop)) (K1 : (Int → Int → Int → Prop)) : Prop :=
  Br v4
    (K0 m6)
    (K1 m4 m5 m6)

/- range, region 3 -/
def layout_Of_r3b (x1 : Int) (x2 : Int) (m1 : Int) (m2 : Int) (m3 : Int) (K0 : (Int → Int → Int → Prop)) (K1 : (Int → Prop)) : Prop :=
  Br (decide (x1 ≤ m1))
    (layout_Of_j6 (decide (m1 < (iadd .i64 x1 x2))) m1 m2 m3 K1
      (fun (m8 : Int) (m9 : Int) (m10 : Int) =>
      K0 m8 m9 (iadd .i64 m10 1)))
    (layout_Of_j6 false m1 m2 m3 K1
      (fun (m12 : Int) (m13 : Int) (m14 : Int) =>
      K0 m12 m13 (iadd .i64 m14 1)))
def layout_Of_r3 (m1 : Int) (m2 : Int) (m3 : Int) (K0 : (Int → Int → Int → Prop)) (K1 : (Int → Prop)) : Prop :=
  It_layout_bands_1 (Rs ((Unit) × (Int × Int × Int × Unit)) (Sum ((Unit) × (Int × Unit)) (Empty)))
    (fun x s Kb => s.on fun (v : (Unit) × (Int × Int × Int × Unit)) => layout_Of_r3b x.1 x.2.1 v.2.1 v.2.2.1 v.2.2.2.1 (fun (y0 : Int) (y1 : Int) (y2 : Int) => Kb true (.go ((()), (y0, y1, y2, ())))) (fun (y0 : Int) => Kb false (.jp (.inl ((()), (y0, ()))))))
    (.go ((()), (m1, m2, m3, ())))
    (fun s => s.fin (fun (v : (Unit) × (Int × Int × Int × Unit)) => K0 v.2.1 v.2.2.1 v.2.2.2.1) (jon (fun (v : (Unit) × (Int × Unit)) => K1 v.2.1) (fun _ => False)))

/- splicer/layout.Of (24) -/
def layout_Of_u (k1 : Int) (K0 : (Int → Prop)) : Prop :=
  layout_bands
    (layout_Of_r3 k1 0 0
      (fun (m15 : Int) (m16 : Int) (m17 : Int) =>
      K0 (-1)) K0)

noncomputable def layout_Of : Int → (Int → Prop) → Prop := Classical.choose (⟨layout_Of_u, rfl⟩ : ∃ q, q = layout_Of_u)

theorem layout_Of_def (k1 : Int) (K0 : (Int → Prop)) : layout_Of k1 K0 =
  (layout_bands
    (layout_Of_r3 k1 0 0
      (fun (m15 : Int) (m16 : Int) (m17 : Int) =>
      K0 (-1)) K0)) := by
  have e : layout_Of = layout_Of_u := Classical.choose_spec (⟨layout_Of_u, rfl⟩ : ∃ q, q = layout_Of_u)
  show layout_Of k1 K0 = layout_Of_u k1 K0
  rw [e]

/- slices.Clone[[]int,int] (50) -/
def slices_Clone___int_int__u (s1 : (List Int)) (K0 : ((List Int) → Prop)) : Prop :=
  Br (decide (0 < (List.length s1)))
    (let m1 : (List Int) := (List.replicate 0 0)
    Br (decide ((((List.length m1) + (List.length s1)) * 8) ≤ 140737488355328))
      (K0 (m1 ++ s1))
      (False))
    (False)

noncomputable def slices_Clone___int_int_ : (List Int) → ((List Int) → Prop) → Prop := Classical.choose (⟨slices_Clone___int_int__u, rfl⟩ : ∃ q, q = slices_Clone___int_int__u)

theorem slices_Clone___int_int__def (s1 : (List Int)) (K0 : ((List Int) → Prop)) : slices_Clone___int_int_ s1 K0 =
  (Br (decide (0 < (List.length s1)))
    (let m1 : (List Int) := (List.replicate 0 0)
    Br (decide ((((List.length m1) + (List.length s1)) * 8) ≤ 140737488355328))
      (K0 (m1 ++ s1))
      (False))
    (False)) := by
  have e : slices_Clone___int_int_ = slices_Clone___int_int__u := Classical.choose_spec (⟨slices_Clone___int_int__u, rfl⟩ : ∃ q, q = slices_Clone___int_int__u)
  show slices_Clone___int_int_ s1 K0 = slices_Clone___int_int__u s1 K0
  rw [e]

/- range, region 5 -/
def layout_Cut_r5b (x2 : Int) (x3 : Int) (m1 : (List Int)) (m2 : (List (List Int))) (K0 : ((List Int) → (List (List Int)) → Prop)) : Prop :=
  let v3 : Int := (iadd .i64 x2 x3)
  Br ((decide ((0 : Int) ≤ v3)) && (decide (v3 ≤ (((List.length m1) : Nat) : Int))))
    (Br ((decide ((0 : Int) ≤ x2)) && (decide (x2 ≤ (((Int.toNat v3) : Nat) : Int))))
      (slices_Clone___int_int_ (List.take ((Int.toNat v3) - (Int.toNat x2)) (List.drop (Int.toNat x2) m1))
        (fun (r1 : (List Int)) =>
        let m3 : (List (List Int)) := [r1]
        Br (decide ((((List.length m2) + (List.length m3)) * 24) ≤ 140737488355328))
          (K0 m1 (m2 ++ m3))
          (False)))
      (False))
    (False)
def layout_Cut_r5 (m1 : (List Int)) (m2 : (List (List Int))) (K0 : ((List Int) → (List (List Int)) → Prop)) : Prop :=
  It_layout_bands_1 (Rs ((Unit) × ((List Int) × (List (List Int)) × Unit)) (Empty))
    (fun x s Kb => s.on fun (v : (Unit) × ((List Int) × (List (List Int)) × Unit)) => layout_Cut_r5b x.1 x.2.1 v.2.1 v.2.2.1 (fun (y0 : (List Int)) (y1 : (List (List Int))) => Kb true (.go ((()), (y0, y1, ())))))
    (.go ((()), (m1, m2, ())))
    (fun s => s.fin (fun (v : (Unit) × ((List Int) × (List (List Int)) × Unit)) => K0 v.2.1 v.2.2.1) (fun _ => False))

/- splicer/layout.Cut (27) -/
def layout_Cut_u (x1 : (List Int)) (K0 : (Prop)) (K1 : ((List (List Int)) → Prop)) : Prop :=
  Br (!(decide ((x1.length : Int) = (64 : Int))))
    (K0)
    (layout_bands
      (layout_Cut_r5 x1 []
        (fun (m5 : (List Int)) (m6 : (List (List Int))) =>
        K1 m6)))

noncomputable def layout_Cut : (List Int) → (Prop) → ((List (List Int)) → Prop) → Prop := Classical.choose (⟨layout_Cut_u, rfl⟩ : ∃ q, q = layout_Cut_u)

theorem layout_Cut_def (x1 : (List Int)) (K0 : (Prop)) (K1 : ((List (List Int)) → Prop)) : layout_Cut x1 K0 K1 =
  (Br (!(decide ((x1.length : Int) = (64 : Int))))
    (K0)
    (layout_bands
      (layout_Cut_r5 x1 []
        (fun (m5 : (List Int)) (m6 : (List (List Int))) =>
        K1 m6)))) := by
  have e : layout_Cut = layout_Cut_u := Classical.choose_spec (⟨layout_Cut_u, rfl⟩ : ∃ q, q = layout_Cut_u)
  show layout_Cut x1 K0 K1 = layout_Cut_u x1 K0 K1
  rw [e]

/- splicer/splicerlaw13.awake (19) -/
def L13_awake_u  (K0 : (Bool → Prop)) : Prop :=
  layout_Width 4
    (fun (r1 : Int) =>
    Br (decide (r1 = (4 : Int)))
      (layout_Start 8
        (fun (r2 : Int) =>
        Br (decide (r2 = (24 : Int)))
          (layout_Of 63
            (fun (r3 : Int) =>
            Br (decide (r3 = (12 : Int)))
              (layout_Of 64
                (fun (r4 : Int) =>
                Br (decide (r4 = (-1 : Int)))
                  (layout_Cut (List.replicate 64 0)
                    (K0 false)
                    (fun (r5 : (List (List Int))) =>
                    K0 (decide ((r5.length : Int) = (13 : Int)))))
                  (K0 false)))
              (K0 false)))
          (K0 false)))
      (K0 false))

noncomputable def L13_awake : (Bool → Prop) → Prop := Classical.choose (⟨L13_awake_u, rfl⟩ : ∃ q, q = L13_awake_u)

theorem L13_awake_def  (K0 : (Bool → Prop)) : L13_awake K0 =
  (layout_Width 4
    (fun (r1 : Int) =>
    Br (decide (r1 = (4 : Int)))
      (layout_Start 8
        (fun (r2 : Int) =>
        Br (decide (r2 = (24 : Int)))
          (layout_Of 63
            (fun (r3 : Int) =>
            Br (decide (r3 = (12 : Int)))
              (layout_Of 64
                (fun (r4 : Int) =>
                Br (decide (r4 = (-1 : Int)))
                  (layout_Cut (List.replicate 64 0)
                    (K0 false)
                    (fun (r5 : (List (List Int))) =>
                    K0 (decide ((r5.length : Int) = (13 : Int)))))
                  (K0 false)))
              (K0 false)))
          (K0 false)))
      (K0 false))) := by
  have e : L13_awake = L13_awake_u := Classical.choose_spec (⟨L13_awake_u, rfl⟩ : ∃ q, q = L13_awake_u)
  show L13_awake K0 = L13_awake_u K0
  rw [e]

/- join of splicer/splicerref13.Width, region 2 -/
def R13_Width_j2 (b2 : Int) (v3 : Bool) (K0 : (Int → Prop)) (K1 : (Prop)) : Prop :=
  Br v3
    (K0 0)
    (Br (decide (b2 < (4 : Int)))
      (K0 2)
      (Br (decide (b2 < (8 : Int)))
        (K0 4)
        (K1)))

/- splicer/splicerref13.Width (21) -/
def R13_Width_u (b1 : Int) (K0 : (Int → Prop)) : Prop :=
  Br (decide (b1 < (0 : Int)))
    (R13_Width_j2 b1 true K0
      (K0 8))
    (R13_Width_j2 b1 (decide ((12 : Int) < b1)) K0
      (K0 8))

noncomputable def R13_Width : Int → (Int → Prop) → Prop := Classical.choose (⟨R13_Width_u, rfl⟩ : ∃ q, q = R13_Width_u)

theorem R13_Width_def (b1 : Int) (K0 : (Int → Prop)) : R13_Width b1 K0 =
  (Br (decide (b1 < (0 : Int)))
    (R13_Width_j2 b1 true K0
      (K0 8))
    (R13_Width_j2 b1 (decide ((12 : Int) < b1)) K0
      (K0 8))) := by
  have e : R13_Width = R13_Width_u := Classical.choose_spec (⟨R13_Width_u, rfl⟩ : ∃ q, q = R13_Width_u)
  show R13_Width b1 K0 = R13_Width_u b1 K0
  rw [e]

/- loop of splicer/splicerref13.Start, region 3 -/
def R13_Start_l3 : Nat → Int → Int → Int → (Int → Prop) → Prop
  | 0, _, _, _, _ => False
  | k + 1, b2, n1, i1, K0 => Br (decide (i1 < b2))
      (Br (decide (b2 ≤ (12 : Int)))
        (R13_Width i1
          (fun (r1 : Int) =>
          R13_Start_l3 k b2 (iadd .i64 n1 r1) (iadd .i64 i1 1) K0))
        (K0 n1))
      (K0 n1)

/- splicer/splicerref13.Start (23) -/
def R13_Start_u (b1 : Int) (K0 : (Int → Prop)) : Prop :=
  ∃ q, R13_Start_l3 q b1 0 0 K0

noncomputable def R13_Start : Int → (Int → Prop) → Prop := Classical.choose (⟨R13_Start_u, rfl⟩ : ∃ q, q = R13_Start_u)

theorem R13_Start_def (b1 : Int) (K0 : (Int → Prop)) : R13_Start b1 K0 =
  (∃ q, R13_Start_l3 q b1 0 0 K0) := by
  have e : R13_Start = R13_Start_u := Classical.choose_spec (⟨R13_Start_u, rfl⟩ : ∃ q, q = R13_Start_u)
  show R13_Start b1 K0 = R13_Start_u b1 K0
  rw [e]

/- join of splicer/splicerref13.Of, region 5 -/
def R13_Of_j5 (k3 : Int) (b2 : Int) (v5 : Bool) (K0 : (Int → Prop)) (K1 : (Int → Int → Prop)) : Prop :=
  Br v5
    (K0 b2)
    (K1 k3 b2)

/- loop of splicer/splicerref13.Of, region 2 -/
def R13_Of_l2 : Nat → Int → Int → (Int → Prop) → (Prop) → Prop
  | 0, _, _, _, _ => False
  | k + 1, k2, b1, K0, K1 => Br (decide (b1 < (13 : Int)))
      (R13_Start b1
        (fun (r1 : Int) =>
        Br (decide (r1 ≤ k2))
          (R13_Start b1
            (fun (r2 : Int) =>
            R13_Width b1
              (fun (r3 : Int) =>
              R13_Of_j5 k2 b1 (decide (k2 < (iadd .i64 r2 r3))) K0
                (fun (k4 : Int) (b3 : Int) =>
                R13_Of_l2 k k4 (iadd .i64 b3 1) K0 K1))))
          (R13_Of_j5 k2 b1 false K0
            (fun (k5 : Int) (b4 : Int) =>
            R13_Of_l2 k k5 (iadd .i64 b4 1) K0 K1))))
      (K1)

/- splicer/splicerref13.Of (25) -/
def R13_Of_u (k1 : Int) (K0 : (Int → Prop)) : Prop :=
  ∃ q, R13_Of_l2 q k1 0 K0
    (K0 (-1))

noncomputable def R13_Of : Int → (Int → Prop) → Prop := Classical.choose (⟨R13_Of_u, rfl⟩ : ∃ q, q = R13_Of_u)

theorem R13_Of_def (k1 : Int) (K0 : (Int → Prop)) : R13_Of k1 K0 =
  (∃ q, R13_Of_l2 q k1 0 K0
    (K0 (-1))) := by
  have e : R13_Of = R13_Of_u := Classical.choose_spec (⟨R13_Of_u, rfl⟩ : ∃ q, q = R13_Of_u)
  show R13_Of k1 K0 = R13_Of_u k1 K0
  rw [e]

/- loop of splicer/splicerref13.Cut, region 5 -/
def R13_Cut_l5 : Nat → (List Int) → Int → (List (List Int)) → ((List (List Int)) → Prop) → Prop
  | 0, _, _, _, _ => False
  | k + 1, x2, b1, m1, K0 => Br (decide (b1 < (13 : Int)))
      (R13_Start b1
        (fun (r1 : Int) =>
        R13_Start b1
          (fun (r2 : Int) =>
          R13_Width b1
            (fun (r3 : Int) =>
            let v4 : Int := (iadd .i64 r2 r3)
            Br ((decide ((0 : Int) ≤ v4)) && (decide (v4 ≤ (((List.length x2) : Nat) : Int))))
              (Br ((decide ((0 : Int) ≤ r1)) && (decide (r1 ≤ (((Int.toNat v4) : Nat) : Int))))
                (let m2 : (List (List Int)) := [(List.take ((Int.toNat v4) - (Int.toNat r1)) (List.drop (Int.toNat r1) x2))]
                Br (decide ((((List.length m1) + (List.length m2)) * 24) ≤ 140737488355328))
                  (R13_Cut_l5 k x2 (iadd .i64 b1 1) (m1 ++ m2) K0)
                  (False))
                (False))
              (False)))))
      (K0 m1)

/- splicer/splicerref13.Cut (28) -/
def R13_Cut_u (x1 : (List Int)) (K0 : (Prop)) (K1 : ((List (List Int)) → Prop)) : Prop :=
  Br (!(decide ((x1.length : Int) = (64 : Int))))
    (K0)
    (∃ q, R13_Cut_l5 q x1 0 [] K1)

noncomputable def R13_Cut : (List Int) → (Prop) → ((List (List Int)) → Prop) → Prop := Classical.choose (⟨R13_Cut_u, rfl⟩ : ∃ q, q = R13_Cut_u)

theorem R13_Cut_def (x1 : (List Int)) (K0 : (Prop)) (K1 : ((List (List Int)) → Prop)) : R13_Cut x1 K0 K1 =
  (Br (!(decide ((x1.length : Int) = (64 : Int))))
    (K0)
    (∃ q, R13_Cut_l5 q x1 0 [] K1)) := by
  have e : R13_Cut = R13_Cut_u := Classical.choose_spec (⟨R13_Cut_u, rfl⟩ : ∃ q, q = R13_Cut_u)
  show R13_Cut x1 K0 K1 = R13_Cut_u x1 K0 K1
  rw [e]

/- loop of splicer/splicerref01.Same, region 4 -/
def R01_Same_l4 : Nat → (List Int) → (List Int) → Int → (Bool → Prop) → (Prop) → Prop
  | 0, _, _, _, _, _ => False
  | k + 1, a2, b2, i1, K0, K1 => Br (decide (i1 < (a2.length : Int)))
      (Br ((decide ((0 : Int) ≤ i1)) && (decide (i1 < (((List.length a2) : Nat) : Int))))
        (Br ((decide ((0 : Int) ≤ i1)) && (decide (i1 < (((List.length b2) : Nat) : Int))))
          (Br (!(decide ((List.getD a2 (Int.toNat i1) 0) = (List.getD b2 (Int.toNat i1) 0))))
            (K0 false)
            (R01_Same_l4 k a2 b2 (iadd .i64 i1 1) K0 K1))
          (False))
        (False))
      (K1)

/- splicer/splicerref01.Same (29) -/
def R01_Same_u (a1 : (List Int)) (b1 : (List Int)) (K0 : (Bool → Prop)) : Prop :=
  Br (!(decide ((a1.length : Int) = (b1.length : Int))))
    (K0 false)
    (∃ q, R01_Same_l4 q a1 b1 0 K0
      (K0 true))

noncomputable def R01_Same : (List Int) → (List Int) → (Bool → Prop) → Prop := Classical.choose (⟨R01_Same_u, rfl⟩ : ∃ q, q = R01_Same_u)

theorem R01_Same_def (a1 : (List Int)) (b1 : (List Int)) (K0 : (Bool → Prop)) : R01_Same a1 b1 K0 =
  (Br (!(decide ((a1.length : Int) = (b1.length : Int))))
    (K0 false)
    (∃ q, R01_Same_l4 q a1 b1 0 K0
      (K0 true))) := by
  have e : R01_Same = R01_Same_u := Classical.choose_spec (⟨R01_Same_u, rfl⟩ : ∃ q, q = R01_Same_u)
  show R01_Same a1 b1 K0 = R01_Same_u a1 b1 K0
  rw [e]

/- loop of splicer/splicerref01.SameAll, region 4 -/
def R01_SameAll_l4 : Nat → (List (List Int)) → (List (List Int)) → Int → (Bool → Prop) → (Prop) → Prop
  | 0, _, _, _, _, _ => False
  | k + 1, a2, b2, i1, K0, K1 => Br (decide (i1 < (a2.length : Int)))
      (Br ((decide ((0 : Int) ≤ i1)) && (decide (i1 < (((List.length a2) : Nat) : Int))))
        (Br ((decide ((0 : Int) ≤ i1)) && (decide (i1 < (((List.length b2) : Nat) : Int))))
          (R01_Same (List.getD a2 (Int.toNat i1) []) (List.getD b2 (Int.toNat i1) [])
            (fun (r1 : Bool) =>
            Br (!r1)
              (K0 false)
              (R01_SameAll_l4 k a2 b2 (iadd .i64 i1 1) K0 K1)))
          (False))
        (False))
      (K1)

/- splicer/splicerref01.SameAll (26) -/
def R01_SameAll_u (a1 : (List (List Int))) (b1 : (List (List Int))) (K0 : (Bool → Prop)) : Prop :=
  Br (!(decide ((a1.length : Int) = (b1.length : Int))))
    (K0 false)
    (∃ q, R01_SameAll_l4 q a1 b1 0 K0
      (K0 true))

noncomputable def R01_SameAll : (List (List Int)) → (List (List Int)) → (Bool → Prop) → Prop := Classical.choose (⟨R01_SameAll_u, rfl⟩ : ∃ q, q = R01_SameAll_u)

theorem R01_SameAll_def (a1 : (List (List Int))) (b1 : (List (List Int))) (K0 : (Bool → Prop)) : R01_SameAll a1 b1 K0 =
  (Br (!(decide ((a1.length : Int) = (b1.length : Int))))
    (K0 false)
    (∃ q, R01_SameAll_l4 q a1 b1 0 K0
      (K0 true))) := by
  have e : R01_SameAll = R01_SameAll_u := Classical.choose_spec (⟨R01_SameAll_u, rfl⟩ : ∃ q, q = R01_SameAll_u)
  show R01_SameAll a1 b1 K0 = R01_SameAll_u a1 b1 K0
  rw [e]

/- slices.Grow[[]int,int] (61) -/
def slices_Grow___int_int___nil0_u (n1 : Int) (K0 : ((List Int) → Prop)) (K1 : (Prop)) : Prop :=
  Br (decide (n1 < (0 : Int)))
    (False)
    (let v3 : Int := (isub .i64 n1 (isub .i64 0 0))
    Br (decide ((0 : Int) < v3))
      (Br ((decide ((0 : Int) < v3)) && (decide ((v3 * (8 : Int)) ≤ (140737488355328 : Int))))
        (K0 [])
        (False))
      (K1))

noncomputable def slices_Grow___int_int___nil0 : Int → ((List Int) → Prop) → (Prop) → Prop := Classical.choose (⟨slices_Grow___int_int___nil0_u, rfl⟩ : ∃ q, q = slices_Grow___int_int___nil0_u)

theorem slices_Grow___int_int___nil0_def (n1 : Int) (K0 : ((List Int) → Prop)) (K1 : (Prop)) : slices_Grow___int_int___nil0 n1 K0 K1 =
  (Br (decide (n1 < (0 : Int)))
    (False)
    (let v3 : Int := (isub .i64 n1 (isub .i64 0 0))
    Br (decide ((0 : Int) < v3))
      (Br ((decide ((0 : Int) < v3)) && (decide ((v3 * (8 : Int)) ≤ (140737488355328 : Int))))
        (K0 [])
        (False))
      (K1))) := by
  have e : slices_Grow___int_int___nil0 = slices_Grow___int_int___nil0_u := Classical.choose_spec (⟨slices_Grow___int_int___nil0_u, rfl⟩ : ∃ q, q = slices_Grow___int_int___nil0_u)
  show slices_Grow___int_int___nil0 n1 K0 K1 = slices_Grow___int_int___nil0_u n1 K0 K1
  rw [e]

/- loop of slices.Concat[[]int,int], region 3 -/
def slices_Concat___int_int__l3 : Nat → (List (List Int)) → Int → (List (List Int)) → Int → Int → ((List (List Int)) → Int → Prop) → Prop
  | 0, _, _, _, _, _, _ => False
  | k + 1, slices2, size1, v2, v3, v4, K0 => Br (decide (v4 < v3))
      (Br ((decide ((0 : Int) ≤ v4)) && (decide (v4 < (((List.length v2) : Nat) : Int))))
        (let v8 : Int := (iadd .i64 size1 ((List.getD v2 (Int.toNat v4) []).length : Int))
        Br (decide (v8 < (0 : Int)))
          (False)
          (slices_Concat___int_int__l3 k slices2 v8 v2 v3 (iadd .i64 v4 1) K0))
        (False))
      (K0 slices2 size1)

/- loop of slices.Concat[[]int,int], region 11 -/
def slices_Concat___int_int__l11 : Nat → (List (List Int)) → Int → Int → (List Int) → ((List Int) → Prop) → Prop
  | 0, _, _, _, _, _ => False
  | k + 1, v12, v13, v14, m2, K0 => Br (decide (v14 < v13))
      (Br ((decide ((0 : Int) ≤ v14)) && (decide (v14 < (((List.length v12) : Nat) : Int))))
        (let v16 : (List Int) := (List.getD v12 (Int.toNat v14) [])
        Br (decide ((((List.length m2) + (List.length v16)) * 8) ≤ 140737488355328))
          (slices_Concat___int_int__l11 k v12 v13 (iadd .i64 v14 1) (m2 ++ v16) K0)
          (False))
        (False))
      (K0 m2)

/- join of slices.Concat[[]int,int], region 10 -/
def slices_Concat___int_int__j10 (slices4 : (List (List Int))) (m1 : (List Int)) (K0 : ((List Int) → Prop)) : Prop :=
  ∃ q, slices_Concat___int_int__l11 q slices4 (slices4.length : Int) 0 m1 K0

/- slices.Concat[[]int,int] (51) -/
def slices_Concat___int_int__u (slices1 : (List (List Int))) (K0 : ((List Int) → Prop)) : Prop :=
  ∃ q, slices_Concat___int_int__l3 q slices1 0 slices1 (slices1.length : Int) 0
    (fun (slices3 : (List (List Int))) (size2 : Int) =>
    slices_Grow___int_int___nil0 size2
      (fun (r1 : (List Int)) =>
      slices_Concat___int_int__j10 slices3 r1 K0)
      (slices_Concat___int_int__j10 slices3 [] K0))

noncomputable def slices_Concat___int_int_ : (List (List Int)) → ((List Int) → Prop) → Prop := Classical.choose (⟨slices_Concat___int_int__u, rfl⟩ : ∃ q, q = slices_Concat___int_int__u)

theorem slices_Concat___int_int__def (slices1 : (List (List Int))) (K0 : ((List Int) → Prop)) : slices_Concat___int_int_ slices1 K0 =
  (∃ q, slices_Concat___int_int__l3 q slices1 0 slices1 (slices1.length : Int) 0
    (fun (slices3 : (List (List Int))) (size2 : Int) =>
    slices_Grow___int_int___nil0 size2
      (fun (r1 : (List Int)) =>
      slices_Concat___int_int__j10 slices3 r1 K0)
      (slices_Concat___int_int__j10 slices3 [] K0))) := by
  have e : slices_Concat___int_int_ = slices_Concat___int_int__u := Classical.choose_spec (⟨slices_Concat___int_int__u, rfl⟩ : ∃ q, q = slices_Concat___int_int__u)
  show slices_Concat___int_int_ slices1 K0 = slices_Concat___int_int__u slices1 K0
  rw [e]

/- loop of splicer/layout.Join, region 4 -/
def layout_Join_l4 : Nat → (List (List Int)) → (List (List Int)) → Int → Int → (Prop) → ((List (List Int)) → Prop) → Prop
  | 0, _, _, _, _, _, _ => False
  | k + 1, l2, v4, v5, v6, K0, K1 => Br (decide (v6 < v5))
      (Br ((decide ((0 : Int) ≤ v6)) && (decide (v6 < (((List.length v4) : Nat) : Int))))
        (layout_Width v6
          (fun (r1 : Int) =>
          Br (!(decide (((List.getD v4 (Int.toNat v6) []).length : Int) = r1)))
            (K0)
            (layout_Join_l4 k l2 v4 v5 (iadd .i64 v6 1) K0 K1)))
        (False))
      (K1 l2)

/- splicer/layout.Join (30) -/
def layout_Join_u (l1 : (List (List Int))) (K0 : (Prop)) (K1 : ((List Int) → Prop)) : Prop :=
  Br (!(decide ((l1.length : Int) = (13 : Int))))
    (K0)
    (∃ q, layout_Join_l4 q l1 l1 (l1.length : Int) 0 K0
      (fun (l3 : (List (List Int))) =>
      slices_Concat___int_int_ l3 K1))

noncomputable def layout_Join : (List (List Int)) → (Prop) → ((List Int) → Prop) → Prop := Classical.choose (⟨layout_Join_u, rfl⟩ : ∃ q, q = layout_Join_u)

theorem layout_Join_def (l1 : (List (List Int))) (K0 : (Prop)) (K1 : ((List Int) → Prop)) : layout_Join l1 K0 K1 =
  (Br (!(decide ((l1.length : Int) = (13 : Int))))
    (K0)
    (∃ q, layout_Join_l4 q l1 l1 (l1.length : Int) 0 K0
      (fun (l3 : (List (List Int))) =>
      slices_Concat___int_int_ l3 K1))) := by
  have e : layout_Join = layout_Join_u := Classical.choose_spec (⟨layout_Join_u, rfl⟩ : ∃ q, q = layout_Join_u)
  show layout_Join l1 K0 K1 = layout_Join_u l1 K0 K1
  rw [e]

/- loop of splicer/splicerref13.Join, region 5 -/
def R13_Join_l5 : Nat → (List (List Int)) → Int → (List Int) → (Prop) → ((List Int) → Prop) → Prop
  | 0, _, _, _, _, _ => False
  | k + 1, l2, b1, m1, K0, K1 => Br (decide (b1 < (13 : Int)))
      (Br ((decide ((0 : Int) ≤ b1)) && (decide (b1 < (((List.length l2) : Nat) : Int))))
        (R13_Width b1
          (fun (r1 : Int) =>
          Br (!(decide (((List.getD l2 (Int.toNat b1) []).length : Int) = r1)))
            (K0)
            (Br ((decide ((0 : Int) ≤ b1)) && (decide (b1 < (((List.length l2) : Nat) : Int))))
              (let v7 : (List Int) := (List.getD l2 (Int.toNat b1) [])
              Br (decide ((((List.length m1) + (List.length v7)) * 8) ≤ 140737488355328))
                (R13_Join_l5 k l2 (iadd .i64 b1 1) (m1 ++ v7) K0 K1)
                (False))
              (False))))
        (False))
      (K1 m1)

/- splicer/splicerref13.Join (31) -/
def R13_Join_u (l1 : (List (List Int))) (K0 : (Prop)) (K1 : ((List Int) → Prop)) : Prop :=
  Br (!(decide ((l1.length : Int) = (13 : Int))))
    (K0)
    (∃ q, R13_Join_l5 q l1 0 [] K0 K1)

noncomputable def R13_Join : (List (List Int)) → (Prop) → ((List Int) → Prop) → Prop := Classical.choose (⟨R13_Join_u, rfl⟩ : ∃ q, q = R13_Join_u)

theorem R13_Join_def (l1 : (List (List Int))) (K0 : (Prop)) (K1 : ((List Int) → Prop)) : R13_Join l1 K0 K1 =
  (Br (!(decide ((l1.length : Int) = (13 : Int))))
    (K0)
    (∃ q, R13_Join_l5 q l1 0 [] K0 K1)) := by
  have e : R13_Join = R13_Join_u := Classical.choose_spec (⟨R13_Join_u, rfl⟩ : ∃ q, q = R13_Join_u)
  show R13_Join l1 K0 K1 = R13_Join_u l1 K0 K1
  rw [e]

/- join of splicer/splicerlaw13.LayoutTells, region 2 -/
def L13_LayoutTells_j2 (b2 : Int) (x2 : (List Int)) (l2 : (List (List Int))) (v5 : Bool) (K0 : (Bool → Prop)) (K1 : (Int → (List Int) → (List (List Int)) → Prop)) : Prop :=
  Br v5
    (L13_awake K0)
    (K1 b2 x2 l2)

/- loop of splicer/splicerlaw13.LayoutTells, region 4 -/
def L13_LayoutTells_l4 : Nat → Int → (List Int) → (List (List Int)) → Int → (Bool → Prop) → (Int → (List Int) → (List (List Int)) → Prop) → Prop
  | 0, _, _, _, _, _, _ => False
  | k + 1, b6, x6, l6, i1, K0, K1 => Br (decide (i1 < (l6.length : Int)))
      (Br ((decide ((0 : Int) ≤ i1)) && (decide (i1 < (((List.length l6) : Nat) : Int))))
        (Br (decide ((10 : Int) < ((List.getD l6 (Int.toNat i1) []).length : Int)))
          (L13_awake K0)
          (L13_LayoutTells_l4 k b6 x6 l6 (iadd .i64 i1 1) K0 K1))
        (False))
      (K1 b6 x6 l6)

/- join of splicer/splicerlaw13.LayoutTells, region 3 -/
def L13_LayoutTells_j3 (b5 : Int) (x5 : (List Int)) (l5 : (List (List Int))) (K0 : (Bool → Prop)) : Prop :=
  ∃ q, L13_LayoutTells_l4 q b5 x5 l5 0 K0
    (fun (b7 : Int) (x7 : (List Int)) (l7 : (List (List Int))) =>
    layout_Width b7
      (fun (r3 : Int) =>
      R13_Width b7
        (fun (r4 : Int) =>
        Br (decide (r3 = r4))
          (layout_Start b7
            (fun (r5 : Int) =>
            R13_Start b7
              (fun (r6 : Int) =>
              Br (decide (r5 = r6))
                (layout_Of b7
                  (fun (r7 : Int) =>
                  R13_Of b7
                    (fun (r8 : Int) =>
                    Br (decide (r7 = r8))
                      (layout_Cut x7
                        (R13_Cut x7
                          (R01_SameAll [] []
                            (fun (r9 : Bool) =>
                            Br r9
                              (layout_Join l7
                                (R13_Join l7
                                  (R01_Same [] []
                                    (fun (r10 : Bool) =>
                                    Br r10
                                      (L13_awake K0)
                                      (K0 false)))
                                  (fun (r12 : (List Int)) =>
                                  R01_Same [] r12
                                    (fun (r13 : Bool) =>
                                    Br r13
                                      (L13_awake K0)
                                      (K0 false))))
                                (fun (r15 : (List Int)) =>
                                R13_Join l7
                                  (R01_Same r15 []
                                    (fun (r16 : Bool) =>
                                    Br r16
                                      (L13_awake K0)
                                      (K0 false)))
                                  (fun (r18 : (List Int)) =>
                                  R01_Same r15 r18
                                    (fun (r19 : Bool) =>
                                    Br r19
                                      (L13_awake K0)
                                      (K0 false)))))
                              (K0 false)))
                          (fun (r21 : (List (List Int))) =>
                          R01_SameAll [] r21
                            (fun (r22 : Bool) =>
                            Br r22
                              (layout_Join l7
                                (R13_Join l7
                                  (R01_Same [] []
                                    (fun (r23 : Bool) =>
                                    Br r23
                                      (L13_awake K0)
                                      (K0 false)))
                                  (fun (r25 : (List Int)) =>
                                  R01_Same [] r25
                                    (fun (r26 : Bool) =>
                                    Br r26
                                      (L13_awake K0)
                                      (K0 false))))
                                (fun (r28 : (List Int)) =>
                                R13_Join l7
                                  (R01_Same r28 []
                                    (fun (r29 : Bool) =>
                                    Br r29
                                      (L13_awake K0)
                                      (K0 false)))
                                  (fun (r31 : (List Int)) =>
                                  R01_Same r28 r31
                                    (fun (r32 : Bool) =>
                                    Br r32
                                      (L13_awake K0)
                                      (K0 false)))))
                              (K0 false))))
                        (fun (r34 : (List (List Int))) =>
                        R13_Cut x7
                          (R01_SameAll r34 []
                            (fun (r35 : Bool) =>
                            Br r35
                              (layout_Join l7
                                (R13_Join l7
                                  (R01_Same [] []
                                    (fun (r36 : Bool) =>
                                    Br r36
                                      (L13_awake K0)
                                      (K0 false)))
                                  (fun (r38 : (List Int)) =>
                                  R01_Same [] r38
                                    (fun (r39 : Bool) =>
                                    Br r39
                                      (L13_awake K0)
                                      (K0 false))))
                                (fun (r41 : (List Int)) =>
                                R13_Join l7
                                  (R01_Same r41 []
                                    (fun (r42 : Bool) =>
                                    Br r42
                                      (L13_awake K0)
                                      (K0 false)))
                                  (fun (r44 : (List Int)) =>
                                  R01_Same r41 r44
                                    (fun (r45 : Bool) =>
                                    Br r45
                                      (L13_awake K0)
                                      (K0 false)))))
                              (K0 false)))
                          (fun (r47 : (List (List Int))) =>
                          R01_SameAll r34 r47
                            (fun (r48 : Bool) =>
                            Br r48
                              (layout_Join l7
                                (R13_Join l7
                                  (R01_Same [] []
                                    (fun (r49 : Bool) =>
                                    Br r49
                                      (L13_awake K0)
                                      (K0 false)))
                                  (fun (r51 : (List Int)) =>
                                  R01_Same [] r51
                                    (fun (r52 : Bool) =>
                                    Br r52
                                      (L13_awake K0)
                                      (K0 false))))
                                (fun (r54 : (List Int)) =>
                                R13_Join l7
                                  (R01_Same r54 []
                                    (fun (r55 : Bool) =>
                                    Br r55
                                      (L13_awake K0)
                                      (K0 false)))
                                  (fun (r57 : (List Int)) =>
                                  R01_Same r54 r57
                                    (fun (r58 : Bool) =>
                                    Br r58
                                      (L13_awake K0)
                                      (K0 false)))))
                              (K0 false)))))
                      (K0 false))))
                (K0 false))))
          (K0 false))))

/- splicer/splicerlaw13.LayoutTells (5) -/
def L13_LayoutTells_u (b1 : Int) (x1 : (List Int)) (l1 : (List (List Int))) (K0 : (Bool → Prop)) : Prop :=
  Br (decide ((70 : Int) < (x1.length : Int)))
    (L13_LayoutTells_j2 b1 x1 l1 true K0
      (fun (b3 : Int) (x3 : (List Int)) (l3 : (List (List Int))) =>
      L13_LayoutTells_j3 b3 x3 l3 K0))
    (L13_LayoutTells_j2 b1 x1 l1 (decide ((15 : Int) < (l1.length : Int))) K0
      (fun (b4 : Int) (x4 : (List Int)) (l4 : (List (List Int))) =>
      L13_LayoutTells_j3 b4 x4 l4 K0))

noncomputable def L13_LayoutTells : Int → (List Int) → (List (List Int)) → (Bool → Prop) → Prop := Classical.choose (⟨L13_LayoutTells_u, rfl⟩ : ∃ q, q = L13_LayoutTells_u)

theorem L13_LayoutTells_def (b1 : Int) (x1 : (List Int)) (l1 : (List (List Int))) (K0 : (Bool → Prop)) : L13_LayoutTells b1 x1 l1 K0 =
  (Br (decide ((70 : Int) < (x1.length : Int)))
    (L13_LayoutTells_j2 b1 x1 l1 true K0
      (fun (b3 : Int) (x3 : (List Int)) (l3 : (List (List Int))) =>
      L13_LayoutTells_j3 b3 x3 l3 K0))
    (L13_LayoutTells_j2 b1 x1 l1 (decide ((15 : Int) < (l1.length : Int))) K0
      (fun (b4 : Int) (x4 : (List Int)) (l4 : (List (List Int))) =>
      L13_LayoutTells_j3 b4 x4 l4 K0))) := by
  have e : L13_LayoutTells = L13_LayoutTells_u := Classical.choose_spec (⟨L13_LayoutTells_u, rfl⟩ : ∃ q, q = L13_LayoutTells_u)
  show L13_LayoutTells b1 x1 l1 K0 = L13_LayoutTells_u b1 x1 l1 K0
  rw [e]

end Go.Eng.A
