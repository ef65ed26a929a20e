/- The functions that AccountGoes reaches, as plain ones: printed by program. -/
import Derived.Test.YtampmpiapdegcaaEngA
set_option linter.unusedVariables false
set_option maxRecDepth 100000
namespace Go.Eng.A
open Go Go.Eng

/- loop of splicer/splicerref20.Few, region 9 -/
def R20_Few_l9 : Nat → Int → Int → (Bool × (Bool × (Bool × (Int × ((List ((List (Int × (Int × ((List Int) × Unit)))) × Unit)) × Unit))))) → (Bool → Prop) → (Int → (Bool × (Bool × (Bool × (Int × ((List ((List (Int × (Int × ((List Int) × Unit)))) × Unit)) × Unit))))) → Prop) → Prop
  | 0, _, _, _, _, _ => False
  | k + 1, i2, b1, m2, K0, K1 => Br ((decide ((0 : Int) ≤ i2)) && (decide (i2 < (((List.length m2.2.2.2.2.1) : Nat) : Int))))
      (Br (decide (b1 < ((List.getD m2.2.2.2.2.1 (Int.toNat i2) ([], ())).1.length : Int)))
        (Br ((decide ((0 : Int) ≤ i2)) && (decide (i2 < (((List.length m2.2.2.2.2.1) : Nat) : Int))))
          (let v11 : ((List (Int × (Int × ((List Int) × Unit)))) × Unit) := (List.getD m2.2.2.2.2.1 (Int.toNat i2) ([], ()))
          Br ((decide ((0 : Int) ≤ b1)) && (decide (b1 < (((List.length v11.1) : Nat) : Int))))
            (Br (decide ((10 : Int) < ((List.getD v11.1 (Int.toNat b1) (0, (0, ([], ())))).2.2.1.length : Int)))
              (K0 false)
              (R20_Few_l9 k i2 (iadd .i64 b1 1) m2 K0 K1))
            (False))
          (False))
        (K1 i2 m2))
      (False)

/- loop of splicer/splicerref20.Few, region 4 -/
def R20_Few_l4 : Nat → Int → (Bool × (Bool × (Bool × (Int × ((List ((List (Int × (Int × ((List Int) × Unit)))) × Unit)) × Unit))))) → (Bool → Prop) → (Prop) → Prop
  | 0, _, _, _, _ => False
  | k + 1, i1, m1, K0, K1 => Br (decide (i1 < (m1.2.2.2.2.1.length : Int)))
      (Br ((decide ((0 : Int) ≤ i1)) && (decide (i1 < (((List.length m1.2.2.2.2.1) : Nat) : Int))))
        (Br (decide ((15 : Int) < ((List.getD m1.2.2.2.2.1 (Int.toNat i1) ([], ())).1.length : Int)))
          (K0 false)
          (∃ q, R20_Few_l9 q i1 0 m1 K0
            (fun (i3 : Int) (m3 : (Bool × (Bool × (Bool × (Int × ((List ((List (Int × (Int × ((List Int) × Unit)))) × Unit)) × Unit)))))) =>
            R20_Few_l4 k (iadd .i64 i3 1) m3 K0 K1)))
        (False))
      (K1)

/- splicer/splicerref20.Few (18) -/
def R20_Few_u (f1 : (Bool × (Bool × (Bool × (Int × ((List ((List (Int × (Int × ((List Int) × Unit)))) × Unit)) × Unit)))))) (K0 : (Bool → Prop)) : Prop :=
  Br (decide ((4 : Int) < (f1.2.2.2.2.1.length : Int)))
    (K0 false)
    (∃ q, R20_Few_l4 q 0 f1 K0
      (K0 true))

noncomputable def R20_Few : (Bool × (Bool × (Bool × (Int × ((List ((List (Int × (Int × ((List Int) × Unit)))) × Unit)) × Unit))))) → (Bool → Prop) → Prop := Classical.choose (⟨R20_Few_u, rfl⟩ : ∃ q, q = R20_Few_u)

theorem R20_Few_def (f1 : (Bool × (Bool × (Bool × (Int × ((List ((List (Int × (Int × ((List Int) × Unit)))) × Unit)) × Unit)))))) (K0 : (Bool → Prop)) : R20_Few f1 K0 =
  (Br (decide ((4 : Int) < (f1.2.2.2.2.1.length : Int)))
    (K0 false)
    (∃ q, R20_Few_l4 q 0 f1 K0
      (K0 true))) := by
  have e : R20_Few = R20_Few_u := Classical.choose_spec (⟨R20_Few_u, rfl⟩ : ∃ q, q = R20_Few_u)
  show R20_Few f1 K0 = R20_Few_u f1 K0
  rw [e]

/- loop of splicer/splicerref28.Few, region 7 -/
def R28_Few_l7 : Nat → Int → Int → Int → ((Int × (Int × (Int × (Int × (Int × (Int × Unit)))))) × ((List (List ((Bool × (Bool × (Bool × (Int × ((List ((List (Int × (Int × ((List Int) × Unit)))) × Unit)) × Unit))))) × (Int × (Int × Unit))))) × Unit)) → (Bool → Prop) → (Int → Int → ((Int × (Int × (Int × (Int × (Int × (Int × Unit)))))) × ((List (List ((Bool × (Bool × (Bool × (Int × ((List ((List (Int × (Int × ((List Int) × Unit)))) × Unit)) × Unit))))) × (Int × (Int × Unit))))) × Unit)) → Prop) → Prop
  | 0, _, _, _, _, _, _ => False
  | k + 1, most3, i2, k1, m2, K0, K1 => Br ((decide ((0 : Int) ≤ i2)) && (decide (i2 < (((List.length m2.2.1) : Nat) : Int))))
      (Br (decide (k1 < ((List.getD m2.2.1 (Int.toNat i2) []).length : Int)))
        (Br ((decide ((0 : Int) ≤ i2)) && (decide (i2 < (((List.length m2.2.1) : Nat) : Int))))
          (let v10 : (List ((Bool × (Bool × (Bool × (Int × ((List ((List (Int × (Int × ((List Int) × Unit)))) × Unit)) × Unit))))) × (Int × (Int × Unit)))) := (List.getD m2.2.1 (Int.toNat i2) [])
          Br ((decide ((0 : Int) ≤ k1)) && (decide (k1 < (((List.length v10) : Nat) : Int))))
            (R20_Few (List.getD v10 (Int.toNat k1) ((false, (false, (false, (0, ([], ()))))), (0, (0, ())))).1
              (fun (r1 : Bool) =>
              Br (!r1)
                (K0 false)
                (R28_Few_l7 k most3 i2 (iadd .i64 k1 1) m2 K0 K1)))
            (False))
          (False))
        (K1 most3 i2 m2))
      (False)

/- loop of splicer/splicerref28.Few, region 2 -/
def R28_Few_l2 : Nat → Int → Int → ((Int × (Int × (Int × (Int × (Int × (Int × Unit)))))) × ((List (List ((Bool × (Bool × (Bool × (Int × ((List ((List (Int × (Int × ((List Int) × Unit)))) × Unit)) × Unit))))) × (Int × (Int × Unit))))) × Unit)) → (Bool → Prop) → (Int → ((Int × (Int × (Int × (Int × (Int × (Int × Unit)))))) × ((List (List ((Bool × (Bool × (Bool × (Int × ((List ((List (Int × (Int × ((List Int) × Unit)))) × Unit)) × Unit))))) × (Int × (Int × Unit))))) × Unit)) → Prop) → Prop
  | 0, _, _, _, _, _ => False
  | k + 1, most2, i1, m1, K0, K1 => Br (decide (i1 < (m1.2.1.length : Int)))
      (Br (decide (i1 < most2))
        (Br ((decide ((0 : Int) ≤ i1)) && (decide (i1 < (((List.length m1.2.1) : Nat) : Int))))
          (Br (decide ((10 : Int) < ((List.getD m1.2.1 (Int.toNat i1) []).length : Int)))
            (K0 false)
            (∃ q, R28_Few_l7 q most2 i1 0 m1 K0
              (fun (most4 : Int) (i3 : Int) (m3 : ((Int × (Int × (Int × (Int × (Int × (Int × Unit)))))) × ((List (List ((Bool × (Bool × (Bool × (Int × ((List ((List (Int × (Int × ((List Int) × Unit)))) × Unit)) × Unit))))) × (Int × (Int × Unit))))) × Unit))) =>
              R28_Few_l2 k most4 (iadd .i64 i3 1) m3 K0 K1)))
          (False))
        (K1 most2 m1))
      (K1 most2 m1)

/- splicer/splicerref28.Few (11) -/
def R28_Few_u (f1 : ((Int × (Int × (Int × (Int × (Int × (Int × Unit)))))) × ((List (List ((Bool × (Bool × (Bool × (Int × ((List ((List (Int × (Int × ((List Int) × Unit)))) × Unit)) × Unit))))) × (Int × (Int × Unit))))) × Unit))) (most1 : Int) (K0 : (Bool → Prop)) : Prop :=
  ∃ q, R28_Few_l2 q most1 0 f1 K0
    (fun (most5 : Int) (m4 : ((Int × (Int × (Int × (Int × (Int × (Int × Unit)))))) × ((List (List ((Bool × (Bool × (Bool × (Int × ((List ((List (Int × (Int × ((List Int) × Unit)))) × Unit)) × Unit))))) × (Int × (Int × Unit))))) × Unit))) =>
    K0 (decide ((m4.2.1.length : Int) ≤ most5)))

noncomputable def R28_Few : ((Int × (Int × (Int × (Int × (Int × (Int × Unit)))))) × ((List (List ((Bool × (Bool × (Bool × (Int × ((List ((List (Int × (Int × ((List Int) × Unit)))) × Unit)) × Unit))))) × (Int × (Int × Unit))))) × Unit)) → Int → (Bool → Prop) → Prop := Classical.choose (⟨R28_Few_u, rfl⟩ : ∃ q, q = R28_Few_u)

theorem R28_Few_def (f1 : ((Int × (Int × (Int × (Int × (Int × (Int × Unit)))))) × ((List (List ((Bool × (Bool × (Bool × (Int × ((List ((List (Int × (Int × ((List Int) × Unit)))) × Unit)) × Unit))))) × (Int × (Int × Unit))))) × Unit))) (most1 : Int) (K0 : (Bool → Prop)) : R28_Few f1 most1 K0 =
  (∃ q, R28_Few_l2 q most1 0 f1 K0
    (fun (most5 : Int) (m4 : ((Int × (Int × (Int × (Int × (Int × (Int × Unit)))))) × ((List (List ((Bool × (Bool × (Bool × (Int × ((List ((List (Int × (Int × ((List Int) × Unit)))) × Unit)) × Unit))))) × (Int × (Int × Unit))))) × Unit))) =>
    K0 (decide ((m4.2.1.length : Int) ≤ most5)))) := by
  have e : R28_Few = R28_Few_u := Classical.choose_spec (⟨R28_Few_u, rfl⟩ : ∃ q, q = R28_Few_u)
  show R28_Few f1 most1 K0 = R28_Few_u f1 most1 K0
  rw [e]

/- splicer/splicerref28.Head (56) -/
def R28_Head_u (h1 : (Int × (Int × (Int × (Int × (Int × (Int × Unit))))))) (K0 : (Bool → Prop)) : Prop :=
  Br (decide (h1.1 = (1 : Int)))
    (Br (decide ((1 : Int) ≤ h1.2.1))
      (Br (decide (h1.2.1 ≤ (192000 : Int)))
        (Br (decide ((0 : Int) ≤ h1.2.2.1))
          (Br (decide (h1.2.2.1 ≤ (10 : Int)))
            (Br (decide ((0 : Int) ≤ h1.2.2.2.1))
              (Br (decide (h1.2.2.2.1 ≤ (128 : Int)))
                (Br (decide ((0 : Int) ≤ h1.2.2.2.2.1))
                  (Br (decide (h1.2.2.2.2.1 ≤ (128 : Int)))
                    (Br (decide ((0 : Int) ≤ h1.2.2.2.2.2.1))
                      (K0 (decide (h1.2.2.2.2.2.1 ≤ (131072 : Int))))
                      (K0 false))
                    (K0 false))
                  (K0 false))
                (K0 false))
              (K0 false))
            (K0 false))
          (K0 false))
        (K0 false))
      (K0 false))
    (Br (decide (h1.1 = (2 : Int)))
      (Br (decide ((1 : Int) ≤ h1.2.1))
        (Br (decide (h1.2.1 ≤ (192000 : Int)))
          (Br (decide ((0 : Int) ≤ h1.2.2.1))
            (Br (decide (h1.2.2.1 ≤ (10 : Int)))
              (Br (decide ((0 : Int) ≤ h1.2.2.2.1))
                (Br (decide (h1.2.2.2.1 ≤ (128 : Int)))
                  (Br (decide ((0 : Int) ≤ h1.2.2.2.2.1))
                    (Br (decide (h1.2.2.2.2.1 ≤ (128 : Int)))
                      (Br (decide ((0 : Int) ≤ h1.2.2.2.2.2.1))
                        (K0 (decide (h1.2.2.2.2.2.1 ≤ (131072 : Int))))
                        (K0 false))
                      (K0 false))
                    (K0 false))
                  (K0 false))
                (K0 false))
              (K0 false))
            (K0 false))
          (K0 false))
        (K0 false))
      (K0 false))

noncomputable def R28_Head : (Int × (Int × (Int × (Int × (Int × (Int × Unit)))))) → (Bool → Prop) → Prop := Classical.choose (⟨R28_Head_u, rfl⟩ : ∃ q, q = R28_Head_u)

theorem R28_Head_def (h1 : (Int × (Int × (Int × (Int × (Int × (Int × Unit))))))) (K0 : (Bool → Prop)) : R28_Head h1 K0 =
  (Br (decide (h1.1 = (1 : Int)))
    (Br (decide ((1 : Int) ≤ h1.2.1))
      (Br (decide (h1.2.1 ≤ (192000 : Int)))
        (Br (decide ((0 : Int) ≤ h1.2.2.1))
          (Br (decide (h1.2.2.1 ≤ (10 : Int)))
            (Br (decide ((0 : Int) ≤ h1.2.2.2.1))
              (Br (decide (h1.2.2.2.1 ≤ (128 : Int)))
                (Br (decide ((0 : Int) ≤ h1.2.2.2.2.1))
                  (Br (decide (h1.2.2.2.2.1 ≤ (128 : Int)))
                    (Br (decide ((0 : Int) ≤ h1.2.2.2.2.2.1))
                      (K0 (decide (h1.2.2.2.2.2.1 ≤ (131072 : Int))))
                      (K0 false))
                    (K0 false))
                  (K0 false))
                (K0 false))
              (K0 false))
            (K0 false))
          (K0 false))
        (K0 false))
      (K0 false))
    (Br (decide (h1.1 = (2 : Int)))
      (Br (decide ((1 : Int) ≤ h1.2.1))
        (Br (decide (h1.2.1 ≤ (192000 : Int)))
          (Br (decide ((0 : Int) ≤ h1.2.2.1))
            (Br (decide (h1.2.2.1 ≤ (10 : Int)))
              (Br (decide ((0 : Int) ≤ h1.2.2.2.1))
                (Br (decide (h1.2.2.2.1 ≤ (128 : Int)))
                  (Br (decide ((0 : Int) ≤ h1.2.2.2.2.1))
                    (Br (decide (h1.2.2.2.2.1 ≤ (128 : Int)))
                      (Br (decide ((0 : Int) ≤ h1.2.2.2.2.2.1))
                        (K0 (decide (h1.2.2.2.2.2.1 ≤ (131072 : Int))))
                        (K0 false))
                      (K0 false))
                    (K0 false))
                  (K0 false))
                (K0 false))
              (K0 false))
            (K0 false))
          (K0 false))
        (K0 false))
      (K0 false))) := by
  have e : R28_Head = R28_Head_u := Classical.choose_spec (⟨R28_Head_u, rfl⟩ : ∃ q, q = R28_Head_u)
  show R28_Head h1 K0 = R28_Head_u h1 K0
  rw [e]

/- splicer/splicerref28.Unit (35) -/
def R28_Unit_u (u1 : ((Bool × (Bool × (Bool × (Int × ((List ((List (Int × (Int × ((List Int) × Unit)))) × Unit)) × Unit))))) × (Int × (Int × Unit)))) (K0 : (Bool → Prop)) : Prop :=
  Br (decide ((0 : Int) ≤ u1.2.1))
    (Br (decide (u1.2.1 ≤ (64 : Int)))
      (Br (decide ((0 : Int) ≤ u1.2.2.1))
        (Br (decide (u1.2.2.1 ≤ (64 : Int)))
          (K0 (decide ((iadd .i64 u1.2.1 u1.2.2.1) ≤ (64 : Int))))
          (K0 false))
        (K0 false))
      (K0 false))
    (K0 false)

noncomputable def R28_Unit : ((Bool × (Bool × (Bool × (Int × ((List ((List (Int × (Int × ((List Int) × Unit)))) × Unit)) × Unit))))) × (Int × (Int × Unit))) → (Bool → Prop) → Prop := Classical.choose (⟨R28_Unit_u, rfl⟩ : ∃ q, q = R28_Unit_u)

theorem R28_Unit_def (u1 : ((Bool × (Bool × (Bool × (Int × ((List ((List (Int × (Int × ((List Int) × Unit)))) × Unit)) × Unit))))) × (Int × (Int × Unit)))) (K0 : (Bool → Prop)) : R28_Unit u1 K0 =
  (Br (decide ((0 : Int) ≤ u1.2.1))
    (Br (decide (u1.2.1 ≤ (64 : Int)))
      (Br (decide ((0 : Int) ≤ u1.2.2.1))
        (Br (decide (u1.2.2.1 ≤ (64 : Int)))
          (K0 (decide ((iadd .i64 u1.2.1 u1.2.2.1) ≤ (64 : Int))))
          (K0 false))
        (K0 false))
      (K0 false))
    (K0 false)) := by
  have e : R28_Unit = R28_Unit_u := Classical.choose_spec (⟨R28_Unit_u, rfl⟩ : ∃ q, q = R28_Unit_u)
  show R28_Unit u1 K0 = R28_Unit_u u1 K0
  rw [e]

/- join of splicer/splicerref13.Width, region 2 -/
def R13_Width_j2 (b2 : Int) (v3 : Bool) (K0 : (Int → Prop)) (K1 : (Prop)) : Prop :=
  Br v3
    (K0 0)
    (Br (decide (b2 < (4 : Int)))
      (K0 2)
      (Br (decide (b2 < (8 : Int)))
        (K0 4)
        (K1)))

/- splicer/splicerref13.Width (66) -/
def R13_Width_u (b1 : Int) (K0 : (Int → Prop)) : Prop :=
  Br (decide (b1 < (0 : Int)))
    (R13_Width_j2 b1 true K0
      (K0 8))
    (R13_Width_j2 b1 (decide ((12 : Int) < b1)) K0
      (K0 8))

noncomputable def R13_Width : Int → (Int → Prop) → Prop := Classical.choose (⟨R13_Width_u, rfl⟩ : ∃ q, q = R13_Width_u)

theorem R13_Width_def (b1 : Int) (K0 : (Int → Prop)) : R13_Width b1 K0 =
  (Br (decide (b1 < (0 : Int)))
    (R13_Width_j2 b1 true K0
      (K0 8))
    (R13_Width_j2 b1 (decide ((12 : Int) < b1)) K0
      (K0 8))) := by
  have e : R13_Width = R13_Width_u := Classical.choose_spec (⟨R13_Width_u, rfl⟩ : ∃ q, q = R13_Width_u)
  show R13_Width b1 K0 = R13_Width_u b1 K0
  rw [e]

/- splicer/splicerref16.far (109) -/
def R16_far_u (x1 : Int) (K0 : (Int → Prop)) : Prop :=
  Br (decide (x1 < (-24 : Int)))
    (K0 25)
    (Br (decide ((24 : Int) < x1))
      (K0 25)
      (K0 (imax x1 (isub .i64 0 x1))))

noncomputable def R16_far : Int → (Int → Prop) → Prop := Classical.choose (⟨R16_far_u, rfl⟩ : ∃ q, q = R16_far_u)

theorem R16_far_def (x1 : Int) (K0 : (Int → Prop)) : R16_far x1 K0 =
  (Br (decide (x1 < (-24 : Int)))
    (K0 25)
    (Br (decide ((24 : Int) < x1))
      (K0 25)
      (K0 (imax x1 (isub .i64 0 x1))))) := by
  have e : R16_far = R16_far_u := Classical.choose_spec (⟨R16_far_u, rfl⟩ : ∃ q, q = R16_far_u)
  show R16_far x1 K0 = R16_far_u x1 K0
  rw [e]

/- join of splicer/splicerref16.Size, region 2 -/
def R16_Size_j2 (x2 : (List Int)) (v5 : Bool) (K0 : (Int → Bool → Prop)) (K1 : ((List Int) → Prop)) : Prop :=
  Br v5
    (K0 0 false)
    (K1 x2)

/- loop of splicer/splicerref16.Size, region 5 -/
def R16_Size_l5 : Nat → (List Int) → Int → Int → (Int → Prop) → Prop
  | 0, _, _, _, _ => False
  | k + 1, x6, k1, i1, K0 => Br (decide (i1 < (x6.length : Int)))
      (Br ((decide ((0 : Int) ≤ i1)) && (decide (i1 < (((List.length x6) : Nat) : Int))))
        (R16_far (List.getD x6 (Int.toNat i1) 0)
          (fun (r1 : Int) =>
          R16_Size_l5 k x6 (iadd .i64 k1 r1) (iadd .i64 i1 1) K0))
        (False))
      (K0 k1)

/- join of splicer/splicerref16.Size, region 3 -/
def R16_Size_j3 (x5 : (List Int)) (K0 : (Int → Bool → Prop)) : Prop :=
  ∃ q, R16_Size_l5 q x5 0 0
    (fun (k2 : Int) =>
    Br (decide ((24 : Int) < k2))
      (K0 0 false)
      (K0 k2 true))

/- splicer/splicerref16.Size (55) -/
def R16_Size_u (x1 : (List Int)) (K0 : (Int → Bool → Prop)) : Prop :=
  Br (decide ((x1.length : Int) < (1 : Int)))
    (R16_Size_j2 x1 true K0
      (fun (x3 : (List Int)) =>
      R16_Size_j3 x3 K0))
    (R16_Size_j2 x1 (decide ((8 : Int) < (x1.length : Int))) K0
      (fun (x4 : (List Int)) =>
      R16_Size_j3 x4 K0))

noncomputable def R16_Size : (List Int) → (Int → Bool → Prop) → Prop := Classical.choose (⟨R16_Size_u, rfl⟩ : ∃ q, q = R16_Size_u)

theorem R16_Size_def (x1 : (List Int)) (K0 : (Int → Bool → Prop)) : R16_Size x1 K0 =
  (Br (decide ((x1.length : Int) < (1 : Int)))
    (R16_Size_j2 x1 true K0
      (fun (x3 : (List Int)) =>
      R16_Size_j3 x3 K0))
    (R16_Size_j2 x1 (decide ((8 : Int) < (x1.length : Int))) K0
      (fun (x4 : (List Int)) =>
      R16_Size_j3 x4 K0))) := by
  have e : R16_Size = R16_Size_u := Classical.choose_spec (⟨R16_Size_u, rfl⟩ : ∃ q, q = R16_Size_u)
  show R16_Size x1 K0 = R16_Size_u x1 K0
  rw [e]

/- splicer/splicerref15.Band (113) -/
def R15_Band_u (q1 : Int) (c1 : Int) (w1 : Int) (K0 : (Int → Prop)) : Prop :=
  Br (decide (q1 < (0 : Int)))
    (K0 0)
    (Br (decide ((10 : Int) < q1))
      (K0 0)
      (Br (decide (c1 < (1 : Int)))
        (K0 0)
        (Br (decide ((23 : Int) < c1))
          (K0 0)
          (let v8 : Int := (imax 0 (imin 8 (isub .i64 (iadd .i64 c1 q1) 8)))
          Br (decide (w1 = (2 : Int)))
            (K0 v8)
            (Br (decide (w1 = (4 : Int)))
              (K0 (imul .i64 2 v8))
              (Br (decide (w1 = (8 : Int)))
                (K0 (imul .i64 3 v8))
                (K0 0)))))))

noncomputable def R15_Band : Int → Int → Int → (Int → Prop) → Prop := Classical.choose (⟨R15_Band_u, rfl⟩ : ∃ q, q = R15_Band_u)

theorem R15_Band_def (q1 : Int) (c1 : Int) (w1 : Int) (K0 : (Int → Prop)) : R15_Band q1 c1 w1 K0 =
  (Br (decide (q1 < (0 : Int)))
    (K0 0)
    (Br (decide ((10 : Int) < q1))
      (K0 0)
      (Br (decide (c1 < (1 : Int)))
        (K0 0)
        (Br (decide ((23 : Int) < c1))
          (K0 0)
          (let v8 : Int := (imax 0 (imin 8 (isub .i64 (iadd .i64 c1 q1) 8)))
          Br (decide (w1 = (2 : Int)))
            (K0 v8)
            (Br (decide (w1 = (4 : Int)))
              (K0 (imul .i64 2 v8))
              (Br (decide (w1 = (8 : Int)))
                (K0 (imul .i64 3 v8))
                (K0 0)))))))) := by
  have e : R15_Band = R15_Band_u := Classical.choose_spec (⟨R15_Band_u, rfl⟩ : ∃ q, q = R15_Band_u)
  show R15_Band q1 c1 w1 K0 = R15_Band_u q1 c1 w1 K0
  rw [e]

/- splicer/splicerref20.Band (65) -/
def R20_Band_u (b1 : (Int × (Int × ((List Int) × Unit)))) (q1 : Int) (w1 : Int) (K0 : (Bool → Prop)) : Prop :=
  R16_Size b1.2.2.1
    (fun (r1 : Int) (r2 : Bool) =>
    Br (decide ((0 : Int) ≤ b1.1))
      (Br (decide (b1.1 ≤ (23 : Int)))
        (Br (decide ((0 : Int) ≤ b1.2.1))
          (Br (decide (b1.2.1 ≤ (3 : Int)))
            (Br (decide ((0 : Int) < b1.1))
              (Br (decide ((b1.2.2.1.length : Int) = w1))
                (Br r2
                  (R15_Band q1 b1.1 w1
                    (fun (r3 : Int) =>
                    K0 (decide (r1 = r3))))
                  (K0 false))
                (K0 false))
              (Br (decide (b1.2.1 = (0 : Int)))
                (Br (decide ((b1.2.2.1.length : Int) = w1))
                  (Br r2
                    (R15_Band q1 b1.1 w1
                      (fun (r4 : Int) =>
                      K0 (decide (r1 = r4))))
                    (K0 false))
                  (K0 false))
                (K0 false)))
            (K0 false))
          (K0 false))
        (K0 false))
      (K0 false))

noncomputable def R20_Band : (Int × (Int × ((List Int) × Unit))) → Int → Int → (Bool → Prop) → Prop := Classical.choose (⟨R20_Band_u, rfl⟩ : ∃ q, q = R20_Band_u)

theorem R20_Band_def (b1 : (Int × (Int × ((List Int) × Unit)))) (q1 : Int) (w1 : Int) (K0 : (Bool → Prop)) : R20_Band b1 q1 w1 K0 =
  (R16_Size b1.2.2.1
    (fun (r1 : Int) (r2 : Bool) =>
    Br (decide ((0 : Int) ≤ b1.1))
      (Br (decide (b1.1 ≤ (23 : Int)))
        (Br (decide ((0 : Int) ≤ b1.2.1))
          (Br (decide (b1.2.1 ≤ (3 : Int)))
            (Br (decide ((0 : Int) < b1.1))
              (Br (decide ((b1.2.2.1.length : Int) = w1))
                (Br r2
                  (R15_Band q1 b1.1 w1
                    (fun (r3 : Int) =>
                    K0 (decide (r1 = r3))))
                  (K0 false))
                (K0 false))
              (Br (decide (b1.2.1 = (0 : Int)))
                (Br (decide ((b1.2.2.1.length : Int) = w1))
                  (Br r2
                    (R15_Band q1 b1.1 w1
                      (fun (r4 : Int) =>
                      K0 (decide (r1 = r4))))
                    (K0 false))
                  (K0 false))
                (K0 false)))
            (K0 false))
          (K0 false))
        (K0 false))
      (K0 false))) := by
  have e : R20_Band = R20_Band_u := Classical.choose_spec (⟨R20_Band_u, rfl⟩ : ∃ q, q = R20_Band_u)
  show R20_Band b1 q1 w1 K0 = R20_Band_u b1 q1 w1 K0
  rw [e]

/- loop of splicer/splicerref20.Fit, region 9 -/
def R20_Fit_l9 : Nat → Int → Int → Int → Int → (Bool × (Bool × (Bool × (Int × ((List ((List (Int × (Int × ((List Int) × Unit)))) × Unit)) × Unit))))) → (Bool → Prop) → (Int → Int → Int → (Bool × (Bool × (Bool × (Int × ((List ((List (Int × (Int × ((List Int) × Unit)))) × Unit)) × Unit))))) → Prop) → Prop
  | 0, _, _, _, _, _, _, _ => False
  | k + 1, n4, q4, i2, b1, m3, K0, K1 => Br (decide (b1 < (13 : Int)))
      (Br ((decide ((0 : Int) ≤ i2)) && (decide (i2 < (((List.length m3.2.2.2.2.1) : Nat) : Int))))
        (let v15 : ((List (Int × (Int × ((List Int) × Unit)))) × Unit) := (List.getD m3.2.2.2.2.1 (Int.toNat i2) ([], ()))
        Br ((decide ((0 : Int) ≤ b1)) && (decide (b1 < (((List.length v15.1) : Nat) : Int))))
          (R13_Width b1
            (fun (r1 : Int) =>
            R20_Band (List.getD v15.1 (Int.toNat b1) (0, (0, ([], ())))) q4 r1
              (fun (r2 : Bool) =>
              Br (!r2)
                (K0 false)
                (R20_Fit_l9 k n4 q4 i2 (iadd .i64 b1 1) m3 K0 K1))))
          (False))
        (False))
      (K1 n4 q4 i2 m3)

/- loop of splicer/splicerref20.Fit, region 4 -/
def R20_Fit_l4 : Nat → Int → Int → Int → (Bool × (Bool × (Bool × (Int × ((List ((List (Int × (Int × ((List Int) × Unit)))) × Unit)) × Unit))))) → (Bool → Prop) → (Prop) → Prop
  | 0, _, _, _, _, _, _ => False
  | k + 1, n3, q3, i1, m2, K0, K1 => Br (decide (i1 < n3))
      (Br ((decide ((0 : Int) ≤ i1)) && (decide (i1 < (((List.length m2.2.2.2.2.1) : Nat) : Int))))
        (Br (!(decide (((List.getD m2.2.2.2.2.1 (Int.toNat i1) ([], ())).1.length : Int) = (13 : Int))))
          (K0 false)
          (∃ q, R20_Fit_l9 q n3 q3 i1 0 m2 K0
            (fun (n5 : Int) (q5 : Int) (i3 : Int) (m4 : (Bool × (Bool × (Bool × (Int × ((List ((List (Int × (Int × ((List Int) × Unit)))) × Unit)) × Unit)))))) =>
            R20_Fit_l4 k n5 q5 (iadd .i64 i3 1) m4 K0 K1)))
        (False))
      (K1)

/- join of splicer/splicerref20.Fit, region 3 -/
def R20_Fit_j3 (n2 : Int) (q2 : Int) (m1 : (Bool × (Bool × (Bool × (Int × ((List ((List (Int × (Int × ((List Int) × Unit)))) × Unit)) × Unit)))))) (K0 : (Bool → Prop)) : Prop :=
  ∃ q, R20_Fit_l4 q n2 q2 0 m1 K0
    (K0 true)

/- splicer/splicerref20.Fit (21) -/
def R20_Fit_u (f1 : (Bool × (Bool × (Bool × (Int × ((List ((List (Int × (Int × ((List Int) × Unit)))) × Unit)) × Unit)))))) (n1 : Int) (q1 : Int) (K0 : (Bool → Prop)) : Prop :=
  Br (decide (n1 < (1 : Int)))
    (K0 false)
    (Br (decide ((2 : Int) < n1))
      (K0 false)
      (Br (decide (q1 < (0 : Int)))
        (K0 false)
        (Br (decide ((10 : Int) < q1))
          (K0 false)
          (Br (!(decide ((f1.2.2.2.2.1.length : Int) = n1)))
            (K0 false)
            (Br (decide (f1.2.2.2.1 < (-64 : Int)))
              (K0 false)
              (Br (decide ((32 : Int) < f1.2.2.2.1))
                (K0 false)
                (Br f1.2.1
                  (Br (decide (n1 = (1 : Int)))
                    (K0 false)
                    (R20_Fit_j3 n1 q1 f1 K0))
                  (R20_Fit_j3 n1 q1 f1 K0))))))))

noncomputable def R20_Fit : (Bool × (Bool × (Bool × (Int × ((List ((List (Int × (Int × ((List Int) × Unit)))) × Unit)) × Unit))))) → Int → Int → (Bool → Prop) → Prop := Classical.choose (⟨R20_Fit_u, rfl⟩ : ∃ q, q = R20_Fit_u)

theorem R20_Fit_def (f1 : (Bool × (Bool × (Bool × (Int × ((List ((List (Int × (Int × ((List Int) × Unit)))) × Unit)) × Unit)))))) (n1 : Int) (q1 : Int) (K0 : (Bool → Prop)) : R20_Fit f1 n1 q1 K0 =
  (Br (decide (n1 < (1 : Int)))
    (K0 false)
    (Br (decide ((2 : Int) < n1))
      (K0 false)
      (Br (decide (q1 < (0 : Int)))
        (K0 false)
        (Br (decide ((10 : Int) < q1))
          (K0 false)
          (Br (!(decide ((f1.2.2.2.2.1.length : Int) = n1)))
            (K0 false)
            (Br (decide (f1.2.2.2.1 < (-64 : Int)))
              (K0 false)
              (Br (decide ((32 : Int) < f1.2.2.2.1))
                (K0 false)
                (Br f1.2.1
                  (Br (decide (n1 = (1 : Int)))
                    (K0 false)
                    (R20_Fit_j3 n1 q1 f1 K0))
                  (R20_Fit_j3 n1 q1 f1 K0))))))))) := by
  have e : R20_Fit = R20_Fit_u := Classical.choose_spec (⟨R20_Fit_u, rfl⟩ : ∃ q, q = R20_Fit_u)
  show R20_Fit f1 n1 q1 K0 = R20_Fit_u f1 n1 q1 K0
  rw [e]

/- loop of splicer/splicerref28.page, region 2 -/
def R28_page_l2 : Nat → (List ((Bool × (Bool × (Bool × (Int × ((List ((List (Int × (Int × ((List Int) × Unit)))) × Unit)) × Unit))))) × (Int × (Int × Unit)))) → Int → (Int × (Int × (Int × (Int × (Int × (Int × Unit)))))) → (Bool → Prop) → ((List ((Bool × (Bool × (Bool × (Int × ((List ((List (Int × (Int × ((List Int) × Unit)))) × Unit)) × Unit))))) × (Int × (Int × Unit)))) → Prop) → Prop
  | 0, _, _, _, _, _ => False
  | k + 1, l2, i1, m1, K0, K1 => Br (decide (i1 < (l2.length : Int)))
      (Br ((decide ((0 : Int) ≤ i1)) && (decide (i1 < (((List.length l2) : Nat) : Int))))
        (R28_Unit (List.getD l2 (Int.toNat i1) ((false, (false, (false, (0, ([], ()))))), (0, (0, ()))))
          (fun (r1 : Bool) =>
          Br (!r1)
            (K0 false)
            (Br ((decide ((0 : Int) ≤ i1)) && (decide (i1 < (((List.length l2) : Nat) : Int))))
              (R20_Fit (List.getD l2 (Int.toNat i1) ((false, (false, (false, (0, ([], ()))))), (0, (0, ())))).1 m1.1 m1.2.2.1
                (fun (r2 : Bool) =>
                Br (!r2)
                  (K0 false)
                  (R28_page_l2 k l2 (iadd .i64 i1 1) m1 K0 K1)))
              (False))))
        (False))
      (K1 l2)

/- splicer/splicerref28.page (57) -/
def R28_page_u (l1 : (List ((Bool × (Bool × (Bool × (Int × ((List ((List (Int × (Int × ((List Int) × Unit)))) × Unit)) × Unit))))) × (Int × (Int × Unit))))) (h1 : (Int × (Int × (Int × (Int × (Int × (Int × Unit))))))) (K0 : (Bool → Prop)) : Prop :=
  ∃ q, R28_page_l2 q l1 0 h1 K0
    (fun (l3 : (List ((Bool × (Bool × (Bool × (Int × ((List ((List (Int × (Int × ((List Int) × Unit)))) × Unit)) × Unit))))) × (Int × (Int × Unit))))) =>
    Br (decide ((1 : Int) ≤ (l3.length : Int)))
      (Br (decide ((l3.length : Int) ≤ (8 : Int)))
        (Br (decide ((0 : Int) < (((List.length l3) : Nat) : Int)))
          (K0 (List.getD l3 0 ((false, (false, (false, (0, ([], ()))))), (0, (0, ())))).1.2.2.1)
          (False))
        (K0 false))
      (K0 false))

noncomputable def R28_page : (List ((Bool × (Bool × (Bool × (Int × ((List ((List (Int × (Int × ((List Int) × Unit)))) × Unit)) × Unit))))) × (Int × (Int × Unit)))) → (Int × (Int × (Int × (Int × (Int × (Int × Unit)))))) → (Bool → Prop) → Prop := Classical.choose (⟨R28_page_u, rfl⟩ : ∃ q, q = R28_page_u)

theorem R28_page_def (l1 : (List ((Bool × (Bool × (Bool × (Int × ((List ((List (Int × (Int × ((List Int) × Unit)))) × Unit)) × Unit))))) × (Int × (Int × Unit))))) (h1 : (Int × (Int × (Int × (Int × (Int × (Int × Unit))))))) (K0 : (Bool → Prop)) : R28_page l1 h1 K0 =
  (∃ q, R28_page_l2 q l1 0 h1 K0
    (fun (l3 : (List ((Bool × (Bool × (Bool × (Int × ((List ((List (Int × (Int × ((List Int) × Unit)))) × Unit)) × Unit))))) × (Int × (Int × Unit))))) =>
    Br (decide ((1 : Int) ≤ (l3.length : Int)))
      (Br (decide ((l3.length : Int) ≤ (8 : Int)))
        (Br (decide ((0 : Int) < (((List.length l3) : Nat) : Int)))
          (K0 (List.getD l3 0 ((false, (false, (false, (0, ([], ()))))), (0, (0, ())))).1.2.2.1)
          (False))
        (K0 false))
      (K0 false))) := by
  have e : R28_page = R28_page_u := Classical.choose_spec (⟨R28_page_u, rfl⟩ : ∃ q, q = R28_page_u)
  show R28_page l1 h1 K0 = R28_page_u l1 h1 K0
  rw [e]

/- splicer/splicerref28.Keeps (36) -/
def R28_Keeps_u (u1 : ((Bool × (Bool × (Bool × (Int × ((List ((List (Int × (Int × ((List Int) × Unit)))) × Unit)) × Unit))))) × (Int × (Int × Unit)))) (K0 : (Int → Prop)) : Prop :=
  R28_Unit u1
    (fun (r1 : Bool) =>
    Br (!r1)
      (K0 0)
      (K0 (isub .i64 (isub .i64 64 u1.2.1) u1.2.2.1)))

noncomputable def R28_Keeps : ((Bool × (Bool × (Bool × (Int × ((List ((List (Int × (Int × ((List Int) × Unit)))) × Unit)) × Unit))))) × (Int × (Int × Unit))) → (Int → Prop) → Prop := Classical.choose (⟨R28_Keeps_u, rfl⟩ : ∃ q, q = R28_Keeps_u)

theorem R28_Keeps_def (u1 : ((Bool × (Bool × (Bool × (Int × ((List ((List (Int × (Int × ((List Int) × Unit)))) × Unit)) × Unit))))) × (Int × (Int × Unit)))) (K0 : (Int → Prop)) : R28_Keeps u1 K0 =
  (R28_Unit u1
    (fun (r1 : Bool) =>
    Br (!r1)
      (K0 0)
      (K0 (isub .i64 (isub .i64 64 u1.2.1) u1.2.2.1)))) := by
  have e : R28_Keeps = R28_Keeps_u := Classical.choose_spec (⟨R28_Keeps_u, rfl⟩ : ∃ q, q = R28_Keeps_u)
  show R28_Keeps u1 K0 = R28_Keeps_u u1 K0
  rw [e]

/- loop of splicer/splicerref28.Page, region 3 -/
def R28_Page_l3 : Nat → (List ((Bool × (Bool × (Bool × (Int × ((List ((List (Int × (Int × ((List Int) × Unit)))) × Unit)) × Unit))))) × (Int × (Int × Unit)))) → Int → Int → (Int → Prop) → Prop
  | 0, _, _, _, _ => False
  | k + 1, l2, n1, i1, K0 => Br (decide (i1 < (l2.length : Int)))
      (Br ((decide ((0 : Int) ≤ i1)) && (decide (i1 < (((List.length l2) : Nat) : Int))))
        (R28_Keeps (List.getD l2 (Int.toNat i1) ((false, (false, (false, (0, ([], ()))))), (0, (0, ()))))
          (fun (r1 : Int) =>
          R28_Page_l3 k l2 (iadd .i64 n1 r1) (iadd .i64 i1 1) K0))
        (False))
      (K0 n1)

/- splicer/splicerref28.Page (33) -/
def R28_Page_u (l1 : (List ((Bool × (Bool × (Bool × (Int × ((List ((List (Int × (Int × ((List Int) × Unit)))) × Unit)) × Unit))))) × (Int × (Int × Unit))))) (K0 : (Int → Prop)) : Prop :=
  ∃ q, R28_Page_l3 q l1 0 0 K0

noncomputable def R28_Page : (List ((Bool × (Bool × (Bool × (Int × ((List ((List (Int × (Int × ((List Int) × Unit)))) × Unit)) × Unit))))) × (Int × (Int × Unit)))) → (Int → Prop) → Prop := Classical.choose (⟨R28_Page_u, rfl⟩ : ∃ q, q = R28_Page_u)

theorem R28_Page_def (l1 : (List ((Bool × (Bool × (Bool × (Int × ((List ((List (Int × (Int × ((List Int) × Unit)))) × Unit)) × Unit))))) × (Int × (Int × Unit))))) (K0 : (Int → Prop)) : R28_Page l1 K0 =
  (∃ q, R28_Page_l3 q l1 0 0 K0) := by
  have e : R28_Page = R28_Page_u := Classical.choose_spec (⟨R28_Page_u, rfl⟩ : ∃ q, q = R28_Page_u)
  show R28_Page l1 K0 = R28_Page_u l1 K0
  rw [e]

/- loop of splicer/splicerref28.Length, region 3 -/
def R28_Length_l3 : Nat → Int → Int → ((Int × (Int × (Int × (Int × (Int × (Int × Unit)))))) × ((List (List ((Bool × (Bool × (Bool × (Int × ((List ((List (Int × (Int × ((List Int) × Unit)))) × Unit)) × Unit))))) × (Int × (Int × Unit))))) × Unit)) → (Int → ((Int × (Int × (Int × (Int × (Int × (Int × Unit)))))) × ((List (List ((Bool × (Bool × (Bool × (Int × ((List ((List (Int × (Int × ((List Int) × Unit)))) × Unit)) × Unit))))) × (Int × (Int × Unit))))) × Unit)) → Prop) → Prop
  | 0, _, _, _, _ => False
  | k + 1, n1, i1, m1, K0 => Br (decide (i1 < (m1.2.1.length : Int)))
      (Br ((decide ((0 : Int) ≤ i1)) && (decide (i1 < (((List.length m1.2.1) : Nat) : Int))))
        (R28_Page (List.getD m1.2.1 (Int.toNat i1) [])
          (fun (r1 : Int) =>
          R28_Length_l3 k (iadd .i64 n1 r1) (iadd .i64 i1 1) m1 K0))
        (False))
      (K0 n1 m1)

/- splicer/splicerref28.Length (39) -/
def R28_Length_u (f1 : ((Int × (Int × (Int × (Int × (Int × (Int × Unit)))))) × ((List (List ((Bool × (Bool × (Bool × (Int × ((List ((List (Int × (Int × ((List Int) × Unit)))) × Unit)) × Unit))))) × (Int × (Int × Unit))))) × Unit))) (K0 : (Int → Prop)) : Prop :=
  ∃ q, R28_Length_l3 q 0 0 f1
    (fun (n2 : Int) (m2 : ((Int × (Int × (Int × (Int × (Int × (Int × Unit)))))) × ((List (List ((Bool × (Bool × (Bool × (Int × ((List ((List (Int × (Int × ((List Int) × Unit)))) × Unit)) × Unit))))) × (Int × (Int × Unit))))) × Unit))) =>
    K0 (isub .i64 (isub .i64 n2 m2.1.2.2.2.1) m2.1.2.2.2.2.1))

noncomputable def R28_Length : ((Int × (Int × (Int × (Int × (Int × (Int × Unit)))))) × ((List (List ((Bool × (Bool × (Bool × (Int × ((List ((List (Int × (Int × ((List Int) × Unit)))) × Unit)) × Unit))))) × (Int × (Int × Unit))))) × Unit)) → (Int → Prop) → Prop := Classical.choose (⟨R28_Length_u, rfl⟩ : ∃ q, q = R28_Length_u)

theorem R28_Length_def (f1 : ((Int × (Int × (Int × (Int × (Int × (Int × Unit)))))) × ((List (List ((Bool × (Bool × (Bool × (Int × ((List ((List (Int × (Int × ((List Int) × Unit)))) × Unit)) × Unit))))) × (Int × (Int × Unit))))) × Unit))) (K0 : (Int → Prop)) : R28_Length f1 K0 =
  (∃ q, R28_Length_l3 q 0 0 f1
    (fun (n2 : Int) (m2 : ((Int × (Int × (Int × (Int × (Int × (Int × Unit)))))) × ((List (List ((Bool × (Bool × (Bool × (Int × ((List ((List (Int × (Int × ((List Int) × Unit)))) × Unit)) × Unit))))) × (Int × (Int × Unit))))) × Unit))) =>
    K0 (isub .i64 (isub .i64 n2 m2.1.2.2.2.1) m2.1.2.2.2.2.1))) := by
  have e : R28_Length = R28_Length_u := Classical.choose_spec (⟨R28_Length_u, rfl⟩ : ∃ q, q = R28_Length_u)
  show R28_Length f1 K0 = R28_Length_u f1 K0
  rw [e]

/- loop of splicer/splicerref28.Fit, region 6 -/
def R28_Fit_l6 : Nat → Int → Int → ((Int × (Int × (Int × (Int × (Int × (Int × Unit)))))) × ((List (List ((Bool × (Bool × (Bool × (Int × ((List ((List (Int × (Int × ((List Int) × Unit)))) × Unit)) × Unit))))) × (Int × (Int × Unit))))) × Unit)) → (Int × (Int × (Int × (Int × (Int × (Int × Unit)))))) → (Bool → Prop) → (Int → ((Int × (Int × (Int × (Int × (Int × (Int × Unit)))))) × ((List (List ((Bool × (Bool × (Bool × (Int × ((List ((List (Int × (Int × ((List Int) × Unit)))) × Unit)) × Unit))))) × (Int × (Int × Unit))))) × Unit)) → (Int × (Int × (Int × (Int × (Int × (Int × Unit)))))) → Prop) → Prop
  | 0, _, _, _, _, _, _ => False
  | k + 1, n1, i1, m2, m3, K0, K1 => Br (decide (i1 < n1))
      (Br ((decide ((0 : Int) ≤ i1)) && (decide (i1 < (((List.length m2.2.1) : Nat) : Int))))
        (R28_page (List.getD m2.2.1 (Int.toNat i1) []) m3
          (fun (r2 : Bool) =>
          Br (!r2)
            (K0 false)
            (R28_Fit_l6 k n1 (iadd .i64 i1 1) m2 m3 K0 K1)))
        (False))
      (K1 n1 m2 m3)

/- splicer/splicerref28.Fit (12) -/
def R28_Fit_u (f1 : ((Int × (Int × (Int × (Int × (Int × (Int × Unit)))))) × ((List (List ((Bool × (Bool × (Bool × (Int × ((List ((List (Int × (Int × ((List Int) × Unit)))) × Unit)) × Unit))))) × (Int × (Int × Unit))))) × Unit))) (K0 : (Bool → Prop)) : Prop :=
  R28_Head f1.1
    (fun (r1 : Bool) =>
    Br (!r1)
      (K0 false)
      (Br (decide ((262144 : Int) < (f1.2.1.length : Int)))
        (K0 false)
        (∃ q, R28_Fit_l6 q (f1.2.1.length : Int) 0 f1 f1.1 K0
          (fun (n2 : Int) (m4 : ((Int × (Int × (Int × (Int × (Int × (Int × Unit)))))) × ((List (List ((Bool × (Bool × (Bool × (Int × ((List ((List (Int × (Int × ((List Int) × Unit)))) × Unit)) × Unit))))) × (Int × (Int × Unit))))) × Unit))) (m5 : (Int × (Int × (Int × (Int × (Int × (Int × Unit))))))) =>
          Br (decide (n2 = (0 : Int)))
            (Br (decide (m5.2.2.2.1 = (0 : Int)))
              (Br (decide (m5.2.2.2.2.1 = (0 : Int)))
                (K0 (decide (m5.2.2.2.2.2.1 = (0 : Int))))
                (K0 false))
              (K0 false))
            (Br (decide (n2 = (1 : Int)))
              (Br (decide ((0 : Int) < (((List.length m4.2.1) : Nat) : Int)))
                (R28_Page (List.getD m4.2.1 0 [])
                  (fun (r3 : Int) =>
                  Br (decide ((iadd .i64 m5.2.2.2.1 m5.2.2.2.2.1) ≤ r3))
                    (R28_Length m4
                      (fun (r4 : Int) =>
                      K0 (decide (m5.2.2.2.2.2.1 = r4))))
                    (K0 false)))
                (False))
              (Br (decide ((0 : Int) < (((List.length m4.2.1) : Nat) : Int)))
                (R28_Page (List.getD m4.2.1 0 [])
                  (fun (r5 : Int) =>
                  Br (decide (m5.2.2.2.1 ≤ r5))
                    (let v20 : Int := (isub .i64 n2 1)
                    Br ((decide ((0 : Int) ≤ v20)) && (decide (v20 < (((List.length m4.2.1) : Nat) : Int))))
                      (R28_Page (List.getD m4.2.1 (Int.toNat v20) [])
                        (fun (r6 : Int) =>
                        Br (decide (m5.2.2.2.2.1 ≤ r6))
                          (R28_Length m4
                            (fun (r7 : Int) =>
                            K0 (decide (m5.2.2.2.2.2.1 = r7))))
                          (K0 false)))
                      (False))
                    (K0 false)))
                (False)))))))

noncomputable def R28_Fit : ((Int × (Int × (Int × (Int × (Int × (Int × Unit)))))) × ((List (List ((Bool × (Bool × (Bool × (Int × ((List ((List (Int × (Int × ((List Int) × Unit)))) × Unit)) × Unit))))) × (Int × (Int × Unit))))) × Unit)) → (Bool → Prop) → Prop := Classical.choose (⟨R28_Fit_u, rfl⟩ : ∃ q, q = R28_Fit_u)

theorem R28_Fit_def (f1 : ((Int × (Int × (Int × (Int × (Int × (Int × Unit)))))) × ((List (List ((Bool × (Bool × (Bool × (Int × ((List ((List (Int × (Int × ((List Int) × Unit)))) × Unit)) × Unit))))) × (Int × (Int × Unit))))) × Unit))) (K0 : (Bool → Prop)) : R28_Fit f1 K0 =
  (R28_Head f1.1
    (fun (r1 : Bool) =>
    Br (!r1)
      (K0 false)
      (Br (decide ((262144 : Int) < (f1.2.1.length : Int)))
        (K0 false)
        (∃ q, R28_Fit_l6 q (f1.2.1.length : Int) 0 f1 f1.1 K0
          (fun (n2 : Int) (m4 : ((Int × (Int × (Int × (Int × (Int × (Int × Unit)))))) × ((List (List ((Bool × (Bool × (Bool × (Int × ((List ((List (Int × (Int × ((List Int) × Unit)))) × Unit)) × Unit))))) × (Int × (Int × Unit))))) × Unit))) (m5 : (Int × (Int × (Int × (Int × (Int × (Int × Unit))))))) =>
          Br (decide (n2 = (0 : Int)))
            (Br (decide (m5.2.2.2.1 = (0 : Int)))
              (Br (decide (m5.2.2.2.2.1 = (0 : Int)))
                (K0 (decide (m5.2.2.2.2.2.1 = (0 : Int))))
                (K0 false))
              (K0 false))
            (Br (decide (n2 = (1 : Int)))
              (Br (decide ((0 : Int) < (((List.length m4.2.1) : Nat) : Int)))
                (R28_Page (List.getD m4.2.1 0 [])
                  (fun (r3 : Int) =>
                  Br (decide ((iadd .i64 m5.2.2.2.1 m5.2.2.2.2.1) ≤ r3))
                    (R28_Length m4
                      (fun (r4 : Int) =>
                      K0 (decide (m5.2.2.2.2.2.1 = r4))))
                    (K0 false)))
                (False))
              (Br (decide ((0 : Int) < (((List.length m4.2.1) : Nat) : Int)))
                (R28_Page (List.getD m4.2.1 0 [])
                  (fun (r5 : Int) =>
                  Br (decide (m5.2.2.2.1 ≤ r5))
                    (let v20 : Int := (isub .i64 n2 1)
                    Br ((decide ((0 : Int) ≤ v20)) && (decide (v20 < (((List.length m4.2.1) : Nat) : Int))))
                      (R28_Page (List.getD m4.2.1 (Int.toNat v20) [])
                        (fun (r6 : Int) =>
                        Br (decide (m5.2.2.2.2.1 ≤ r6))
                          (R28_Length m4
                            (fun (r7 : Int) =>
                            K0 (decide (m5.2.2.2.2.2.1 = r7))))
                          (K0 false)))
                      (False))
                    (K0 false)))
                (False)))))))) := by
  have e : R28_Fit = R28_Fit_u := Classical.choose_spec (⟨R28_Fit_u, rfl⟩ : ∃ q, q = R28_Fit_u)
  show R28_Fit f1 K0 = R28_Fit_u f1 K0
  rw [e]

/- splicer/account.Unit (34) -/
def account_Unit_u (u1 : ((Bool × (Bool × (Bool × (Int × ((List ((List (Int × (Int × ((List Int) × Unit)))) × Unit)) × Unit))))) × (Int × (Int × Unit)))) (K0 : (Bool → Prop)) : Prop :=
  Br (decide ((0 : Int) ≤ (imin u1.2.1 u1.2.2.1)))
    (Br (decide ((imax u1.2.1 u1.2.2.1) ≤ (64 : Int)))
      (K0 (decide ((iadd .i64 u1.2.1 u1.2.2.1) ≤ (64 : Int))))
      (K0 false))
    (K0 false)

noncomputable def account_Unit : ((Bool × (Bool × (Bool × (Int × ((List ((List (Int × (Int × ((List Int) × Unit)))) × Unit)) × Unit))))) × (Int × (Int × Unit))) → (Bool → Prop) → Prop := Classical.choose (⟨account_Unit_u, rfl⟩ : ∃ q, q = account_Unit_u)

theorem account_Unit_def (u1 : ((Bool × (Bool × (Bool × (Int × ((List ((List (Int × (Int × ((List Int) × Unit)))) × Unit)) × Unit))))) × (Int × (Int × Unit)))) (K0 : (Bool → Prop)) : account_Unit u1 K0 =
  (Br (decide ((0 : Int) ≤ (imin u1.2.1 u1.2.2.1)))
    (Br (decide ((imax u1.2.1 u1.2.2.1) ≤ (64 : Int)))
      (K0 (decide ((iadd .i64 u1.2.1 u1.2.2.1) ≤ (64 : Int))))
      (K0 false))
    (K0 false)) := by
  have e : account_Unit = account_Unit_u := Classical.choose_spec (⟨account_Unit_u, rfl⟩ : ∃ q, q = account_Unit_u)
  show account_Unit u1 K0 = account_Unit_u u1 K0
  rw [e]

/- splicer/account.Keeps (17) -/
def account_Keeps_u (u1 : ((Bool × (Bool × (Bool × (Int × ((List ((List (Int × (Int × ((List Int) × Unit)))) × Unit)) × Unit))))) × (Int × (Int × Unit)))) (K0 : (Int → Prop)) : Prop :=
  account_Unit u1
    (fun (r1 : Bool) =>
    Br (!r1)
      (K0 0)
      (K0 (isub .i64 (isub .i64 64 u1.2.1) u1.2.2.1)))

noncomputable def account_Keeps : ((Bool × (Bool × (Bool × (Int × ((List ((List (Int × (Int × ((List Int) × Unit)))) × Unit)) × Unit))))) × (Int × (Int × Unit))) → (Int → Prop) → Prop := Classical.choose (⟨account_Keeps_u, rfl⟩ : ∃ q, q = account_Keeps_u)

theorem account_Keeps_def (u1 : ((Bool × (Bool × (Bool × (Int × ((List ((List (Int × (Int × ((List Int) × Unit)))) × Unit)) × Unit))))) × (Int × (Int × Unit)))) (K0 : (Int → Prop)) : account_Keeps u1 K0 =
  (account_Unit u1
    (fun (r1 : Bool) =>
    Br (!r1)
      (K0 0)
      (K0 (isub .i64 (isub .i64 64 u1.2.1) u1.2.2.1)))) := by
  have e : account_Keeps = account_Keeps_u := Classical.choose_spec (⟨account_Keeps_u, rfl⟩ : ∃ q, q = account_Keeps_u)
  show account_Keeps u1 K0 = account_Keeps_u u1 K0
  rw [e]

/- splicer/account.between (61) -/
def account_between_u (x1 : Int) (low1 : Int) (high1 : Int) (K0 : (Bool → Prop)) : Prop :=
  Br (decide (low1 ≤ x1))
    (K0 (decide (x1 ≤ high1)))
    (K0 false)

noncomputable def account_between : Int → Int → Int → (Bool → Prop) → Prop := Classical.choose (⟨account_between_u, rfl⟩ : ∃ q, q = account_between_u)

theorem account_between_def (x1 : Int) (low1 : Int) (high1 : Int) (K0 : (Bool → Prop)) : account_between x1 low1 high1 K0 =
  (Br (decide (low1 ≤ x1))
    (K0 (decide (x1 ≤ high1)))
    (K0 false)) := by
  have e : account_between = account_between_u := Classical.choose_spec (⟨account_between_u, rfl⟩ : ∃ q, q = account_between_u)
  show account_between x1 low1 high1 K0 = account_between_u x1 low1 high1 K0
  rw [e]

/- splicer/account.head (59) -/
def account_head_u (h1 : (Int × (Int × (Int × (Int × (Int × (Int × Unit))))))) (K0 : (Bool → Prop)) : Prop :=
  account_between h1.1 1 2
    (fun (r1 : Bool) =>
    Br r1
      (account_between h1.2.1 1 192000
        (fun (r2 : Bool) =>
        Br r2
          (account_between h1.2.2.1 0 10
            (fun (r3 : Bool) =>
            Br r3
              (account_between h1.2.2.2.1 0 128
                (fun (r4 : Bool) =>
                Br r4
                  (account_between h1.2.2.2.2.1 0 128
                    (fun (r5 : Bool) =>
                    Br r5
                      (account_between h1.2.2.2.2.2.1 0 131072 K0)
                      (K0 false)))
                  (K0 false)))
              (K0 false)))
          (K0 false)))
      (K0 false))

noncomputable def account_head : (Int × (Int × (Int × (Int × (Int × (Int × Unit)))))) → (Bool → Prop) → Prop := Classical.choose (⟨account_head_u, rfl⟩ : ∃ q, q = account_head_u)

theorem account_head_def (h1 : (Int × (Int × (Int × (Int × (Int × (Int × Unit))))))) (K0 : (Bool → Prop)) : account_head h1 K0 =
  (account_between h1.1 1 2
    (fun (r1 : Bool) =>
    Br r1
      (account_between h1.2.1 1 192000
        (fun (r2 : Bool) =>
        Br r2
          (account_between h1.2.2.1 0 10
            (fun (r3 : Bool) =>
            Br r3
              (account_between h1.2.2.2.1 0 128
                (fun (r4 : Bool) =>
                Br r4
                  (account_between h1.2.2.2.2.1 0 128
                    (fun (r5 : Bool) =>
                    Br r5
                      (account_between h1.2.2.2.2.2.1 0 131072 K0)
                      (K0 false)))
                  (K0 false)))
              (K0 false)))
          (K0 false)))
      (K0 false))) := by
  have e : account_head = account_head_u := Classical.choose_spec (⟨account_head_u, rfl⟩ : ∃ q, q = account_head_u)
  show account_head h1 K0 = account_head_u h1 K0
  rw [e]

/- splicer/layout.widths (116) -/
def layout_widths_u  (K0 : ((List Int) → Prop)) : Prop :=
  K0 [2, 2, 2, 2, 4, 4, 4, 4, 8, 8, 8, 8, 8]

noncomputable def layout_widths : ((List Int) → Prop) → Prop := Classical.choose (⟨layout_widths_u, rfl⟩ : ∃ q, q = layout_widths_u)

theorem layout_widths_def  (K0 : ((List Int) → Prop)) : layout_widths K0 =
  (K0 [2, 2, 2, 2, 4, 4, 4, 4, 8, 8, 8, 8, 8]) := by
  have e : layout_widths = layout_widths_u := Classical.choose_spec (⟨layout_widths_u, rfl⟩ : ∃ q, q = layout_widths_u)
  show layout_widths K0 = layout_widths_u K0
  rw [e]

/- splicer/layout.Width (76) -/
def layout_Width_u (b1 : Int) (K0 : (Int → Prop)) : Prop :=
  Br (decide (b1 < (0 : Int)))
    (K0 0)
    (Br (decide ((13 : Int) ≤ b1))
      (K0 0)
      (layout_widths
        (fun (r1 : (List Int)) =>
        Br ((decide ((0 : Int) ≤ b1)) && (decide (b1 < (13 : Int))))
          (Br (decide ((Int.toNat b1) < (List.length r1)))
            (K0 (List.getD r1 (Int.toNat b1) 0))
            (False))
          (False))))

noncomputable def layout_Width : Int → (Int → Prop) → Prop := Classical.choose (⟨layout_Width_u, rfl⟩ : ∃ q, q = layout_Width_u)

theorem layout_Width_def (b1 : Int) (K0 : (Int → Prop)) : layout_Width b1 K0 =
  (Br (decide (b1 < (0 : Int)))
    (K0 0)
    (Br (decide ((13 : Int) ≤ b1))
      (K0 0)
      (layout_widths
        (fun (r1 : (List Int)) =>
        Br ((decide ((0 : Int) ≤ b1)) && (decide (b1 < (13 : Int))))
          (Br (decide ((Int.toNat b1) < (List.length r1)))
            (K0 (List.getD r1 (Int.toNat b1) 0))
            (False))
          (False))))) := by
  have e : layout_Width = layout_Width_u := Classical.choose_spec (⟨layout_Width_u, rfl⟩ : ∃ q, q = layout_Width_u)
  show layout_Width b1 K0 = layout_Width_u b1 K0
  rw [e]

/- loop of splicer/num.within, region 2 -/
def num_within_l2 : Nat → Int → (List Int) → Int → Int → (Bool → Prop) → (Prop) → Prop
  | 0, _, _, _, _, _, _ => False
  | k + 1, most2, v2, v3, v4, K0, K1 => Br (decide (v4 < v3))
      (Br ((decide ((0 : Int) ≤ v4)) && (decide (v4 < (((List.length v2) : Nat) : Int))))
        (let v6 : Int := (List.getD v2 (Int.toNat v4) 0)
        Br (decide (v6 < (isub .i64 0 most2)))
          (K0 false)
          (Br (decide (most2 < v6))
            (K0 false)
            (num_within_l2 k most2 v2 v3 (iadd .i64 v4 1) K0 K1)))
        (False))
      (K1)

/- splicer/num.within (131) -/
def num_within_u (most1 : Int) (l1 : (List Int)) (K0 : (Bool → Prop)) : Prop :=
  ∃ q, num_within_l2 q most1 l1 (l1.length : Int) 0 K0
    (K0 true)

noncomputable def num_within : Int → (List Int) → (Bool → Prop) → Prop := Classical.choose (⟨num_within_u, rfl⟩ : ∃ q, q = num_within_u)

theorem num_within_def (most1 : Int) (l1 : (List Int)) (K0 : (Bool → Prop)) : num_within most1 l1 K0 =
  (∃ q, num_within_l2 q most1 l1 (l1.length : Int) 0 K0
    (K0 true)) := by
  have e : num_within = num_within_u := Classical.choose_spec (⟨num_within_u, rfl⟩ : ∃ q, q = num_within_u)
  show num_within most1 l1 K0 = num_within_u most1 l1 K0
  rw [e]

/- splicer/num.Abs (104) -/
def num_Abs_u (x1 : Int) (K0 : (Int → Prop)) : Prop :=
  num_within 4611686018427387904 [x1]
    (fun (r1 : Bool) =>
    Br (!r1)
      (K0 0)
      (Br (decide (x1 < (0 : Int)))
        (K0 (isub .i64 0 x1))
        (K0 x1)))

noncomputable def num_Abs : Int → (Int → Prop) → Prop := Classical.choose (⟨num_Abs_u, rfl⟩ : ∃ q, q = num_Abs_u)

theorem num_Abs_def (x1 : Int) (K0 : (Int → Prop)) : num_Abs x1 K0 =
  (num_within 4611686018427387904 [x1]
    (fun (r1 : Bool) =>
    Br (!r1)
      (K0 0)
      (Br (decide (x1 < (0 : Int)))
        (K0 (isub .i64 0 x1))
        (K0 x1)))) := by
  have e : num_Abs = num_Abs_u := Classical.choose_spec (⟨num_Abs_u, rfl⟩ : ∃ q, q = num_Abs_u)
  show num_Abs x1 K0 = num_Abs_u x1 K0
  rw [e]

/- join of splicer/pvq.Size, region 2 -/
def pvq_Size_j2 (x2 : (List Int)) (v5 : Bool) (K0 : (Int → Bool → Prop)) (K1 : ((List Int) → Prop)) : Prop :=
  Br v5
    (K0 0 false)
    (K1 x2)

/- join of splicer/pvq.Size, region 8 -/
def pvq_Size_j8 (k2 : Int) (v18 : Int) (v19 : (List Int)) (v20 : Int) (v21 : Int) (v22 : Bool) (K0 : (Int → Bool → Prop)) (K1 : (Int → Int → (List Int) → Int → Int → Prop)) : Prop :=
  Br v22
    (K0 0 false)
    (K1 k2 v18 v19 v20 v21)

/- join of splicer/pvq.Size, region 9 -/
def pvq_Size_j9 (k5 : Int) (v35 : Int) (v36 : (List Int)) (v37 : Int) (v38 : Int) (K0 : (Int → (List Int) → Int → Int → Prop)) : Prop :=
  num_Abs v35
    (fun (r1 : Int) =>
    K0 (iadd .i64 k5 r1) v36 v37 v38)

/- loop of splicer/pvq.Size, region 5 -/
def pvq_Size_l5 : Nat → Int → (List Int) → Int → Int → (Int → Bool → Prop) → (Int → Prop) → Prop
  | 0, _, _, _, _, _, _ => False
  | k + 1, k1, v11, v12, v13, K0, K1 => Br (decide (v13 < v12))
      (Br ((decide ((0 : Int) ≤ v13)) && (decide (v13 < (((List.length v11) : Nat) : Int))))
        (let v15 : Int := (List.getD v11 (Int.toNat v13) 0)
        Br (decide (v15 < (-24 : Int)))
          (pvq_Size_j8 k1 v15 v11 v12 v13 true K0
            (fun (k3 : Int) (v25 : Int) (v26 : (List Int)) (v27 : Int) (v28 : Int) =>
            pvq_Size_j9 k3 v25 v26 v27 v28
              (fun (k6 : Int) (v40 : (List Int)) (v41 : Int) (v42 : Int) =>
              pvq_Size_l5 k k6 v40 v41 (iadd .i64 v42 1) K0 K1)))
          (pvq_Size_j8 k1 v15 v11 v12 v13 (decide ((24 : Int) < v15)) K0
            (fun (k4 : Int) (v31 : Int) (v32 : (List Int)) (v33 : Int) (v34 : Int) =>
            pvq_Size_j9 k4 v31 v32 v33 v34
              (fun (k7 : Int) (v43 : (List Int)) (v44 : Int) (v45 : Int) =>
              pvq_Size_l5 k k7 v43 v44 (iadd .i64 v45 1) K0 K1))))
        (False))
      (K1 k1)

/- join of splicer/pvq.Size, region 3 -/
def pvq_Size_j3 (x5 : (List Int)) (K0 : (Int → Bool → Prop)) : Prop :=
  ∃ q, pvq_Size_l5 q 0 x5 (x5.length : Int) 0 K0
    (fun (k8 : Int) =>
    Br (decide ((24 : Int) < k8))
      (K0 0 false)
      (K0 k8 true))

/- splicer/pvq.Size (111) -/
def pvq_Size_u (x1 : (List Int)) (K0 : (Int → Bool → Prop)) : Prop :=
  Br (decide ((x1.length : Int) = (0 : Int)))
    (pvq_Size_j2 x1 true K0
      (fun (x3 : (List Int)) =>
      pvq_Size_j3 x3 K0))
    (pvq_Size_j2 x1 (decide ((8 : Int) < (x1.length : Int))) K0
      (fun (x4 : (List Int)) =>
      pvq_Size_j3 x4 K0))

noncomputable def pvq_Size : (List Int) → (Int → Bool → Prop) → Prop := Classical.choose (⟨pvq_Size_u, rfl⟩ : ∃ q, q = pvq_Size_u)

theorem pvq_Size_def (x1 : (List Int)) (K0 : (Int → Bool → Prop)) : pvq_Size x1 K0 =
  (Br (decide ((x1.length : Int) = (0 : Int)))
    (pvq_Size_j2 x1 true K0
      (fun (x3 : (List Int)) =>
      pvq_Size_j3 x3 K0))
    (pvq_Size_j2 x1 (decide ((8 : Int) < (x1.length : Int))) K0
      (fun (x4 : (List Int)) =>
      pvq_Size_j3 x4 K0))) := by
  have e : pvq_Size = pvq_Size_u := Classical.choose_spec (⟨pvq_Size_u, rfl⟩ : ∃ q, q = pvq_Size_u)
  show pvq_Size x1 K0 = pvq_Size_u x1 K0
  rw [e]

/- splicer/alloc.held[int] (135) -/
def alloc_held_int__u (x1 : Int) (low1 : Int) (high1 : Int) (K0 : (Int → Prop)) : Prop :=
  K0 (imax low1 (imin high1 x1))

noncomputable def alloc_held_int_ : Int → Int → Int → (Int → Prop) → Prop := Classical.choose (⟨alloc_held_int__u, rfl⟩ : ∃ q, q = alloc_held_int__u)

theorem alloc_held_int__def (x1 : Int) (low1 : Int) (high1 : Int) (K0 : (Int → Prop)) : alloc_held_int_ x1 low1 high1 K0 =
  (K0 (imax low1 (imin high1 x1))) := by
  have e : alloc_held_int_ = alloc_held_int__u := Classical.choose_spec (⟨alloc_held_int__u, rfl⟩ : ∃ q, q = alloc_held_int__u)
  show alloc_held_int_ x1 low1 high1 K0 = alloc_held_int__u x1 low1 high1 K0
  rw [e]

/- splicer/alloc.good (134) -/
def alloc_good_u (q1 : Int) (K0 : (Bool → Prop)) : Prop :=
  alloc_held_int_ q1 0 10
    (fun (r1 : Int) =>
    K0 (decide (r1 = q1)))

noncomputable def alloc_good : Int → (Bool → Prop) → Prop := Classical.choose (⟨alloc_good_u, rfl⟩ : ∃ q, q = alloc_good_u)

theorem alloc_good_def (q1 : Int) (K0 : (Bool → Prop)) : alloc_good q1 K0 =
  (alloc_held_int_ q1 0 10
    (fun (r1 : Int) =>
    K0 (decide (r1 = q1)))) := by
  have e : alloc_good = alloc_good_u := Classical.choose_spec (⟨alloc_good_u, rfl⟩ : ∃ q, q = alloc_good_u)
  show alloc_good q1 K0 = alloc_good_u q1 K0
  rw [e]

/- splicer/alloc.times (136) -/
def alloc_times_u (w1 : Int) (K0 : (Int → Prop)) : Prop :=
  Br (decide (w1 = (2 : Int)))
    (K0 1)
    (Br (decide (w1 = (4 : Int)))
      (K0 2)
      (Br (decide (w1 = (8 : Int)))
        (K0 3)
        (K0 0)))

noncomputable def alloc_times : Int → (Int → Prop) → Prop := Classical.choose (⟨alloc_times_u, rfl⟩ : ∃ q, q = alloc_times_u)

theorem alloc_times_def (w1 : Int) (K0 : (Int → Prop)) : alloc_times w1 K0 =
  (Br (decide (w1 = (2 : Int)))
    (K0 1)
    (Br (decide (w1 = (4 : Int)))
      (K0 2)
      (Br (decide (w1 = (8 : Int)))
        (K0 3)
        (K0 0)))) := by
  have e : alloc_times = alloc_times_u := Classical.choose_spec (⟨alloc_times_u, rfl⟩ : ∃ q, q = alloc_times_u)
  show alloc_times w1 K0 = alloc_times_u w1 K0
  rw [e]

/- splicer/alloc.Band (112) -/
def alloc_Band_u (q1 : Int) (c1 : Int) (w1 : Int) (K0 : (Int → Prop)) : Prop :=
  alloc_good q1
    (fun (r1 : Bool) =>
    Br (!r1)
      (K0 0)
      (alloc_held_int_ c1 1 23
        (fun (r2 : Int) =>
        Br (!(decide (r2 = c1)))
          (K0 0)
          (alloc_times w1
            (fun (r3 : Int) =>
            alloc_held_int_ (isub .i64 (iadd .i64 c1 q1) 8) 0 8
              (fun (r4 : Int) =>
              K0 (imul .i64 r3 r4)))))))

noncomputable def alloc_Band : Int → Int → Int → (Int → Prop) → Prop := Classical.choose (⟨alloc_Band_u, rfl⟩ : ∃ q, q = alloc_Band_u)

theorem alloc_Band_def (q1 : Int) (c1 : Int) (w1 : Int) (K0 : (Int → Prop)) : alloc_Band q1 c1 w1 K0 =
  (alloc_good q1
    (fun (r1 : Bool) =>
    Br (!r1)
      (K0 0)
      (alloc_held_int_ c1 1 23
        (fun (r2 : Int) =>
        Br (!(decide (r2 = c1)))
          (K0 0)
          (alloc_times w1
            (fun (r3 : Int) =>
            alloc_held_int_ (isub .i64 (iadd .i64 c1 q1) 8) 0 8
              (fun (r4 : Int) =>
              K0 (imul .i64 r3 r4)))))))) := by
  have e : alloc_Band = alloc_Band_u := Classical.choose_spec (⟨alloc_Band_u, rfl⟩ : ∃ q, q = alloc_Band_u)
  show alloc_Band q1 c1 w1 K0 = alloc_Band_u q1 c1 w1 K0
  rw [e]

/- splicer/frame.fits (64) -/
def frame_fits_u (b1 : (Int × (Int × ((List Int) × Unit)))) (q1 : Int) (at_1 : Int) (K0 : (Bool → Prop)) : Prop :=
  layout_Width at_1
    (fun (r1 : Int) =>
    pvq_Size b1.2.2.1
      (fun (r2 : Int) (r3 : Bool) =>
      Br (!r3)
        (K0 false)
        (Br (!(decide ((b1.2.2.1.length : Int) = r1)))
          (K0 false)
          (alloc_Band q1 b1.1 r1
            (fun (r4 : Int) =>
            Br (!(decide (r2 = r4)))
              (K0 false)
              (Br (decide (b1.1 = (0 : Int)))
                (K0 (decide (b1.2.1 = (0 : Int))))
                (Br (decide ((0 : Int) < b1.1))
                  (Br (decide (b1.1 ≤ (23 : Int)))
                    (Br (decide ((0 : Int) ≤ b1.2.1))
                      (K0 (decide (b1.2.1 ≤ (3 : Int))))
                      (K0 false))
                    (K0 false))
                  (K0 false))))))))

noncomputable def frame_fits : (Int × (Int × ((List Int) × Unit))) → Int → Int → (Bool → Prop) → Prop := Classical.choose (⟨frame_fits_u, rfl⟩ : ∃ q, q = frame_fits_u)

theorem frame_fits_def (b1 : (Int × (Int × ((List Int) × Unit)))) (q1 : Int) (at_1 : Int) (K0 : (Bool → Prop)) : frame_fits b1 q1 at_1 K0 =
  (layout_Width at_1
    (fun (r1 : Int) =>
    pvq_Size b1.2.2.1
      (fun (r2 : Int) (r3 : Bool) =>
      Br (!r3)
        (K0 false)
        (Br (!(decide ((b1.2.2.1.length : Int) = r1)))
          (K0 false)
          (alloc_Band q1 b1.1 r1
            (fun (r4 : Int) =>
            Br (!(decide (r2 = r4)))
              (K0 false)
              (Br (decide (b1.1 = (0 : Int)))
                (K0 (decide (b1.2.1 = (0 : Int))))
                (Br (decide ((0 : Int) < b1.1))
                  (Br (decide (b1.1 ≤ (23 : Int)))
                    (Br (decide ((0 : Int) ≤ b1.2.1))
                      (K0 (decide (b1.2.1 ≤ (3 : Int))))
                      (K0 false))
                    (K0 false))
                  (K0 false))))))))) := by
  have e : frame_fits = frame_fits_u := Classical.choose_spec (⟨frame_fits_u, rfl⟩ : ∃ q, q = frame_fits_u)
  show frame_fits b1 q1 at_1 K0 = frame_fits_u b1 q1 at_1 K0
  rw [e]

/- join of splicer/frame.Fit, region 2 -/
def frame_Fit_j2 (q2 : Int) (v6 : Bool) (m1 : (Bool × (Bool × (Bool × (Int × ((List ((List (Int × (Int × ((List Int) × Unit)))) × Unit)) × Unit)))))) (K0 : (Bool → Prop)) (K1 : (Int → (Bool × (Bool × (Bool × (Int × ((List ((List (Int × (Int × ((List Int) × Unit)))) × Unit)) × Unit))))) → Prop)) : Prop :=
  Br v6
    (K0 false)
    (Br (decide (q2 < (0 : Int)))
      (K0 false)
      (Br (decide ((10 : Int) < q2))
        (K0 false)
        (Br (decide (m1.2.2.2.1 < (-64 : Int)))
          (K0 false)
          (Br (decide ((32 : Int) < m1.2.2.2.1))
            (K0 false)
            (K1 q2 m1)))))

/- loop of splicer/frame.Fit, region 11 -/
def frame_Fit_l11 : Nat → Int → (List ((List (Int × (Int × ((List Int) × Unit)))) × Unit)) → Int → Int → (List (Int × (Int × ((List Int) × Unit)))) → Int → Int → (Bool → Prop) → (Int → (List ((List (Int × (Int × ((List Int) × Unit)))) × Unit)) → Int → Int → Prop) → Prop
  | 0, _, _, _, _, _, _, _, _, _ => False
  | k + 1, q10, v25, v26, v27, v28, v29, v30, K0, K1 => Br (decide (v30 < v29))
      (Br ((decide ((0 : Int) ≤ v30)) && (decide (v30 < (((List.length v28) : Nat) : Int))))
        (frame_fits (List.getD v28 (Int.toNat v30) (0, (0, ([], ())))) q10 v30
          (fun (r1 : Bool) =>
          Br (!r1)
            (K0 false)
            (frame_Fit_l11 k q10 v25 v26 v27 v28 v29 (iadd .i64 v30 1) K0 K1)))
        (False))
      (K1 q10 v25 v26 v27)

/- loop of splicer/frame.Fit, region 6 -/
def frame_Fit_l6 : Nat → Int → (List ((List (Int × (Int × ((List Int) × Unit)))) × Unit)) → Int → Int → (Bool → Prop) → (Prop) → Prop
  | 0, _, _, _, _, _, _ => False
  | k + 1, q9, v17, v18, v19, K0, K1 => Br (decide (v19 < v18))
      (Br ((decide ((0 : Int) ≤ v19)) && (decide (v19 < (((List.length v17) : Nat) : Int))))
        (let v21 : ((List (Int × (Int × ((List Int) × Unit)))) × Unit) := (List.getD v17 (Int.toNat v19) ([], ()))
        Br (!(decide ((v21.1.length : Int) = (13 : Int))))
          (K0 false)
          (∃ q, frame_Fit_l11 q q9 v17 v18 v19 v21.1 (v21.1.length : Int) 0 K0
            (fun (q11 : Int) (v36 : (List ((List (Int × (Int × ((List Int) × Unit)))) × Unit))) (v37 : Int) (v38 : Int) =>
            frame_Fit_l6 k q11 v36 v37 (iadd .i64 v38 1) K0 K1)))
        (False))
      (K1)

/- join of splicer/frame.Fit, region 5 -/
def frame_Fit_j5 (q8 : Int) (m7 : (Bool × (Bool × (Bool × (Int × ((List ((List (Int × (Int × ((List Int) × Unit)))) × Unit)) × Unit)))))) (K0 : (Bool → Prop)) : Prop :=
  ∃ q, frame_Fit_l6 q q8 m7.2.2.2.2.1 (m7.2.2.2.2.1.length : Int) 0 K0
    (K0 true)

/- splicer/frame.Fit (20) -/
def frame_Fit_u (f1 : (Bool × (Bool × (Bool × (Int × ((List ((List (Int × (Int × ((List Int) × Unit)))) × Unit)) × Unit)))))) (n1 : Int) (q1 : Int) (K0 : (Bool → Prop)) : Prop :=
  Br (decide (n1 < (1 : Int)))
    (frame_Fit_j2 q1 true f1 K0
      (fun (q3 : Int) (m2 : (Bool × (Bool × (Bool × (Int × ((List ((List (Int × (Int × ((List Int) × Unit)))) × Unit)) × Unit)))))) =>
      frame_Fit_j5 q3 m2 K0))
    (Br (decide ((2 : Int) < n1))
      (frame_Fit_j2 q1 true f1 K0
        (fun (q4 : Int) (m3 : (Bool × (Bool × (Bool × (Int × ((List ((List (Int × (Int × ((List Int) × Unit)))) × Unit)) × Unit)))))) =>
        frame_Fit_j5 q4 m3 K0))
      (Br (!(decide ((f1.2.2.2.2.1.length : Int) = n1)))
        (frame_Fit_j2 q1 true f1 K0
          (fun (q5 : Int) (m4 : (Bool × (Bool × (Bool × (Int × ((List ((List (Int × (Int × ((List Int) × Unit)))) × Unit)) × Unit)))))) =>
          frame_Fit_j5 q5 m4 K0))
        (Br f1.2.1
          (frame_Fit_j2 q1 (decide (n1 = (1 : Int))) f1 K0
            (fun (q6 : Int) (m5 : (Bool × (Bool × (Bool × (Int × ((List ((List (Int × (Int × ((List Int) × Unit)))) × Unit)) × Unit)))))) =>
            frame_Fit_j5 q6 m5 K0))
          (frame_Fit_j2 q1 false f1 K0
            (fun (q7 : Int) (m6 : (Bool × (Bool × (Bool × (Int × ((List ((List (Int × (Int × ((List Int) × Unit)))) × Unit)) × Unit)))))) =>
            frame_Fit_j5 q7 m6 K0)))))

noncomputable def frame_Fit : (Bool × (Bool × (Bool × (Int × ((List ((List (Int × (Int × ((List Int) × Unit)))) × Unit)) × Unit))))) → Int → Int → (Bool → Prop) → Prop := Classical.choose (⟨frame_Fit_u, rfl⟩ : ∃ q, q = frame_Fit_u)

theorem frame_Fit_def (f1 : (Bool × (Bool × (Bool × (Int × ((List ((List (Int × (Int × ((List Int) × Unit)))) × Unit)) × Unit)))))) (n1 : Int) (q1 : Int) (K0 : (Bool → Prop)) : frame_Fit f1 n1 q1 K0 =
  (Br (decide (n1 < (1 : Int)))
    (frame_Fit_j2 q1 true f1 K0
      (fun (q3 : Int) (m2 : (Bool × (Bool × (Bool × (Int × ((List ((List (Int × (Int × ((List Int) × Unit)))) × Unit)) × Unit)))))) =>
      frame_Fit_j5 q3 m2 K0))
    (Br (decide ((2 : Int) < n1))
      (frame_Fit_j2 q1 true f1 K0
        (fun (q4 : Int) (m3 : (Bool × (Bool × (Bool × (Int × ((List ((List (Int × (Int × ((List Int) × Unit)))) × Unit)) × Unit)))))) =>
        frame_Fit_j5 q4 m3 K0))
      (Br (!(decide ((f1.2.2.2.2.1.length : Int) = n1)))
        (frame_Fit_j2 q1 true f1 K0
          (fun (q5 : Int) (m4 : (Bool × (Bool × (Bool × (Int × ((List ((List (Int × (Int × ((List Int) × Unit)))) × Unit)) × Unit)))))) =>
          frame_Fit_j5 q5 m4 K0))
        (Br f1.2.1
          (frame_Fit_j2 q1 (decide (n1 = (1 : Int))) f1 K0
            (fun (q6 : Int) (m5 : (Bool × (Bool × (Bool × (Int × ((List ((List (Int × (Int × ((List Int) × Unit)))) × Unit)) × Unit)))))) =>
            frame_Fit_j5 q6 m5 K0))
          (frame_Fit_j2 q1 false f1 K0
            (fun (q7 : Int) (m6 : (Bool × (Bool × (Bool × (Int × ((List ((List (Int × (Int × ((List Int) × Unit)))) × Unit)) × Unit)))))) =>
            frame_Fit_j5 q7 m6 K0)))))) := by
  have e : frame_Fit = frame_Fit_u := Classical.choose_spec (⟨frame_Fit_u, rfl⟩ : ∃ q, q = frame_Fit_u)
  show frame_Fit f1 n1 q1 K0 = frame_Fit_u f1 n1 q1 K0
  rw [e]

/- splicer/account.Fit$1 (60) -/
def account_Fit_1_u (u1 : ((Bool × (Bool × (Bool × (Int × ((List ((List (Int × (Int × ((List Int) × Unit)))) × Unit)) × Unit))))) × (Int × (Int × Unit)))) (a1 : ((Int × (Int × (Int × (Int × (Int × (Int × Unit)))))) × ((List (List ((Bool × (Bool × (Bool × (Int × ((List ((List (Int × (Int × ((List Int) × Unit)))) × Unit)) × Unit))))) × (Int × (Int × Unit))))) × Unit))) (K0 : (Bool → Prop)) : Prop :=
  account_Unit u1
    (fun (r1 : Bool) =>
    Br (!r1)
      (K0 true)
      (frame_Fit u1.1 a1.1.1 a1.1.2.2.1
        (fun (r2 : Bool) =>
        K0 (!r2))))

noncomputable def account_Fit_1 : ((Bool × (Bool × (Bool × (Int × ((List ((List (Int × (Int × ((List Int) × Unit)))) × Unit)) × Unit))))) × (Int × (Int × Unit))) → ((Int × (Int × (Int × (Int × (Int × (Int × Unit)))))) × ((List (List ((Bool × (Bool × (Bool × (Int × ((List ((List (Int × (Int × ((List Int) × Unit)))) × Unit)) × Unit))))) × (Int × (Int × Unit))))) × Unit)) → (Bool → Prop) → Prop := Classical.choose (⟨account_Fit_1_u, rfl⟩ : ∃ q, q = account_Fit_1_u)

theorem account_Fit_1_def (u1 : ((Bool × (Bool × (Bool × (Int × ((List ((List (Int × (Int × ((List Int) × Unit)))) × Unit)) × Unit))))) × (Int × (Int × Unit)))) (a1 : ((Int × (Int × (Int × (Int × (Int × (Int × Unit)))))) × ((List (List ((Bool × (Bool × (Bool × (Int × ((List ((List (Int × (Int × ((List Int) × Unit)))) × Unit)) × Unit))))) × (Int × (Int × Unit))))) × Unit))) (K0 : (Bool → Prop)) : account_Fit_1 u1 a1 K0 =
  (account_Unit u1
    (fun (r1 : Bool) =>
    Br (!r1)
      (K0 true)
      (frame_Fit u1.1 a1.1.1 a1.1.2.2.1
        (fun (r2 : Bool) =>
        K0 (!r2))))) := by
  have e : account_Fit_1 = account_Fit_1_u := Classical.choose_spec (⟨account_Fit_1_u, rfl⟩ : ∃ q, q = account_Fit_1_u)
  show account_Fit_1 u1 a1 K0 = account_Fit_1_u u1 a1 K0
  rw [e]

/- loop of slices.IndexFunc[[]splicer/api.Unit,splicer/api.Unit], region 2 -/
def api_Unit__110__account_Fit_1_l2 : Nat → (List ((Bool × (Bool × (Bool × (Int × ((List ((List (Int × (Int × ((List Int) × Unit)))) × Unit)) × Unit))))) × (Int × (Int × Unit)))) → ((Int × (Int × (Int × (Int × (Int × (Int × Unit)))))) × ((List (List ((Bool × (Bool × (Bool × (Int × ((List ((List (Int × (Int × ((List Int) × Unit)))) × Unit)) × Unit))))) × (Int × (Int × Unit))))) × Unit)) → Int → Int → (Int → Prop) → (Prop) → Prop
  | 0, _, _, _, _, _, _ => False
  | k + 1, s2, c2, v2, v3, K0, K1 => Br (decide (v3 < v2))
      (Br ((decide ((0 : Int) ≤ v3)) && (decide (v3 < (((List.length s2) : Nat) : Int))))
        (account_Fit_1 (List.getD s2 (Int.toNat v3) ((false, (false, (false, (0, ([], ()))))), (0, (0, ())))) c2
          (fun (r1 : Bool) =>
          Br r1
            (K0 v3)
            (api_Unit__110__account_Fit_1_l2 k s2 c2 v2 (iadd .i64 v3 1) K0 K1)))
        (False))
      (K1)

/- slices.IndexFunc[[]splicer/api.Unit,splicer/api.Unit] (110) -/
def api_Unit__110__account_Fit_1_u (s1 : (List ((Bool × (Bool × (Bool × (Int × ((List ((List (Int × (Int × ((List Int) × Unit)))) × Unit)) × Unit))))) × (Int × (Int × Unit))))) (c1 : ((Int × (Int × (Int × (Int × (Int × (Int × Unit)))))) × ((List (List ((Bool × (Bool × (Bool × (Int × ((List ((List (Int × (Int × ((List Int) × Unit)))) × Unit)) × Unit))))) × (Int × (Int × Unit))))) × Unit))) (K0 : (Int → Prop)) : Prop :=
  ∃ q, api_Unit__110__account_Fit_1_l2 q s1 c1 (s1.length : Int) 0 K0
    (K0 (-1))

noncomputable def api_Unit__110__account_Fit_1 : (List ((Bool × (Bool × (Bool × (Int × ((List ((List (Int × (Int × ((List Int) × Unit)))) × Unit)) × Unit))))) × (Int × (Int × Unit)))) → ((Int × (Int × (Int × (Int × (Int × (Int × Unit)))))) × ((List (List ((Bool × (Bool × (Bool × (Int × ((List ((List (Int × (Int × ((List Int) × Unit)))) × Unit)) × Unit))))) × (Int × (Int × Unit))))) × Unit)) → (Int → Prop) → Prop := Classical.choose (⟨api_Unit__110__account_Fit_1_u, rfl⟩ : ∃ q, q = api_Unit__110__account_Fit_1_u)

theorem api_Unit__110__account_Fit_1_def (s1 : (List ((Bool × (Bool × (Bool × (Int × ((List ((List (Int × (Int × ((List Int) × Unit)))) × Unit)) × Unit))))) × (Int × (Int × Unit))))) (c1 : ((Int × (Int × (Int × (Int × (Int × (Int × Unit)))))) × ((List (List ((Bool × (Bool × (Bool × (Int × ((List ((List (Int × (Int × ((List Int) × Unit)))) × Unit)) × Unit))))) × (Int × (Int × Unit))))) × Unit))) (K0 : (Int → Prop)) : api_Unit__110__account_Fit_1 s1 c1 K0 =
  (∃ q, api_Unit__110__account_Fit_1_l2 q s1 c1 (s1.length : Int) 0 K0
    (K0 (-1))) := by
  have e : api_Unit__110__account_Fit_1 = api_Unit__110__account_Fit_1_u := Classical.choose_spec (⟨api_Unit__110__account_Fit_1_u, rfl⟩ : ∃ q, q = api_Unit__110__account_Fit_1_u)
  show api_Unit__110__account_Fit_1 s1 c1 K0 = api_Unit__110__account_Fit_1_u s1 c1 K0
  rw [e]

/- slices.ContainsFunc[[]splicer/api.Unit,splicer/api.Unit] (62) -/
def api_Unit___account_Fit_1_u (s1 : (List ((Bool × (Bool × (Bool × (Int × ((List ((List (Int × (Int × ((List Int) × Unit)))) × Unit)) × Unit))))) × (Int × (Int × Unit))))) (c1 : ((Int × (Int × (Int × (Int × (Int × (Int × Unit)))))) × ((List (List ((Bool × (Bool × (Bool × (Int × ((List ((List (Int × (Int × ((List Int) × Unit)))) × Unit)) × Unit))))) × (Int × (Int × Unit))))) × Unit))) (K0 : (Bool → Prop)) : Prop :=
  api_Unit__110__account_Fit_1 s1 c1
    (fun (r1 : Int) =>
    K0 (decide ((0 : Int) ≤ r1)))

noncomputable def api_Unit___account_Fit_1 : (List ((Bool × (Bool × (Bool × (Int × ((List ((List (Int × (Int × ((List Int) × Unit)))) × Unit)) × Unit))))) × (Int × (Int × Unit)))) → ((Int × (Int × (Int × (Int × (Int × (Int × Unit)))))) × ((List (List ((Bool × (Bool × (Bool × (Int × ((List ((List (Int × (Int × ((List Int) × Unit)))) × Unit)) × Unit))))) × (Int × (Int × Unit))))) × Unit)) → (Bool → Prop) → Prop := Classical.choose (⟨api_Unit___account_Fit_1_u, rfl⟩ : ∃ q, q = api_Unit___account_Fit_1_u)

theorem api_Unit___account_Fit_1_def (s1 : (List ((Bool × (Bool × (Bool × (Int × ((List ((List (Int × (Int × ((List Int) × Unit)))) × Unit)) × Unit))))) × (Int × (Int × Unit))))) (c1 : ((Int × (Int × (Int × (Int × (Int × (Int × Unit)))))) × ((List (List ((Bool × (Bool × (Bool × (Int × ((List ((List (Int × (Int × ((List Int) × Unit)))) × Unit)) × Unit))))) × (Int × (Int × Unit))))) × Unit))) (K0 : (Bool → Prop)) : api_Unit___account_Fit_1 s1 c1 K0 =
  (api_Unit__110__account_Fit_1 s1 c1
    (fun (r1 : Int) =>
    K0 (decide ((0 : Int) ≤ r1)))) := by
  have e : api_Unit___account_Fit_1 = api_Unit___account_Fit_1_u := Classical.choose_spec (⟨api_Unit___account_Fit_1_u, rfl⟩ : ∃ q, q = api_Unit___account_Fit_1_u)
  show api_Unit___account_Fit_1 s1 c1 K0 = api_Unit___account_Fit_1_u s1 c1 K0
  rw [e]

/- loop of splicer/account.sum[splicer/api.Unit], region 3 -/
def api_Unit__82__account_Keeps_l3 : Nat → Int → (List ((Bool × (Bool × (Bool × (Int × ((List ((List (Int × (Int × ((List Int) × Unit)))) × Unit)) × Unit))))) × (Int × (Int × Unit)))) → Int → Int → (Int → Prop) → Prop
  | 0, _, _, _, _, _ => False
  | k + 1, n1, v2, v3, v4, K0 => Br (decide (v4 < v3))
      (Br ((decide ((0 : Int) ≤ v4)) && (decide (v4 < (((List.length v2) : Nat) : Int))))
        (account_Keeps (List.getD v2 (Int.toNat v4) ((false, (false, (false, (0, ([], ()))))), (0, (0, ()))))
          (fun (r1 : Int) =>
          api_Unit__82__account_Keeps_l3 k (iadd .i64 n1 r1) v2 v3 (iadd .i64 v4 1) K0))
        (False))
      (K0 n1)

/- splicer/account.sum[splicer/api.Unit] (82) -/
def api_Unit__82__account_Keeps_u (l1 : (List ((Bool × (Bool × (Bool × (Int × ((List ((List (Int × (Int × ((List Int) × Unit)))) × Unit)) × Unit))))) × (Int × (Int × Unit))))) (K0 : (Int → Prop)) : Prop :=
  ∃ q, api_Unit__82__account_Keeps_l3 q 0 l1 (l1.length : Int) 0 K0

noncomputable def api_Unit__82__account_Keeps : (List ((Bool × (Bool × (Bool × (Int × ((List ((List (Int × (Int × ((List Int) × Unit)))) × Unit)) × Unit))))) × (Int × (Int × Unit)))) → (Int → Prop) → Prop := Classical.choose (⟨api_Unit__82__account_Keeps_u, rfl⟩ : ∃ q, q = api_Unit__82__account_Keeps_u)

theorem api_Unit__82__account_Keeps_def (l1 : (List ((Bool × (Bool × (Bool × (Int × ((List ((List (Int × (Int × ((List Int) × Unit)))) × Unit)) × Unit))))) × (Int × (Int × Unit))))) (K0 : (Int → Prop)) : api_Unit__82__account_Keeps l1 K0 =
  (∃ q, api_Unit__82__account_Keeps_l3 q 0 l1 (l1.length : Int) 0 K0) := by
  have e : api_Unit__82__account_Keeps = api_Unit__82__account_Keeps_u := Classical.choose_spec (⟨api_Unit__82__account_Keeps_u, rfl⟩ : ∃ q, q = api_Unit__82__account_Keeps_u)
  show api_Unit__82__account_Keeps l1 K0 = api_Unit__82__account_Keeps_u l1 K0
  rw [e]

/- splicer/account.Page (32) -/
def account_Page_u (l1 : (List ((Bool × (Bool × (Bool × (Int × ((List ((List (Int × (Int × ((List Int) × Unit)))) × Unit)) × Unit))))) × (Int × (Int × Unit))))) (K0 : (Int → Prop)) : Prop :=
  api_Unit__82__account_Keeps l1 K0

noncomputable def account_Page : (List ((Bool × (Bool × (Bool × (Int × ((List ((List (Int × (Int × ((List Int) × Unit)))) × Unit)) × Unit))))) × (Int × (Int × Unit)))) → (Int → Prop) → Prop := Classical.choose (⟨account_Page_u, rfl⟩ : ∃ q, q = account_Page_u)

theorem account_Page_def (l1 : (List ((Bool × (Bool × (Bool × (Int × ((List ((List (Int × (Int × ((List Int) × Unit)))) × Unit)) × Unit))))) × (Int × (Int × Unit))))) (K0 : (Int → Prop)) : account_Page l1 K0 =
  (api_Unit__82__account_Keeps l1 K0) := by
  have e : account_Page = account_Page_u := Classical.choose_spec (⟨account_Page_u, rfl⟩ : ∃ q, q = account_Page_u)
  show account_Page l1 K0 = account_Page_u l1 K0
  rw [e]

/- splicer/account.ends (63) -/
def account_ends_u (f1 : ((Int × (Int × (Int × (Int × (Int × (Int × Unit)))))) × ((List (List ((Bool × (Bool × (Bool × (Int × ((List ((List (Int × (Int × ((List Int) × Unit)))) × Unit)) × Unit))))) × (Int × (Int × Unit))))) × Unit))) (K0 : (Bool → Prop)) : Prop :=
  Br (decide ((f1.2.1.length : Int) = (0 : Int)))
    (K0 (decide ((iadd .i64 f1.1.2.2.2.1 f1.1.2.2.2.2.1) = (0 : Int))))
    (Br (decide ((f1.2.1.length : Int) = (1 : Int)))
      (Br (decide ((0 : Int) < (((List.length f1.2.1) : Nat) : Int)))
        (account_Page (List.getD f1.2.1 0 [])
          (fun (r1 : Int) =>
          K0 (decide ((iadd .i64 f1.1.2.2.2.1 f1.1.2.2.2.2.1) ≤ r1))))
        (False))
      (Br (decide ((0 : Int) < (((List.length f1.2.1) : Nat) : Int)))
        (account_Page (List.getD f1.2.1 0 [])
          (fun (r2 : Int) =>
          Br (decide (f1.1.2.2.2.1 ≤ r2))
            (let v11 : Int := (isub .i64 (f1.2.1.length : Int) 1)
            Br ((decide ((0 : Int) ≤ v11)) && (decide (v11 < (((List.length f1.2.1) : Nat) : Int))))
              (account_Page (List.getD f1.2.1 (Int.toNat v11) [])
                (fun (r3 : Int) =>
                K0 (decide (f1.1.2.2.2.2.1 ≤ r3))))
              (False))
            (K0 false)))
        (False)))

noncomputable def account_ends : ((Int × (Int × (Int × (Int × (Int × (Int × Unit)))))) × ((List (List ((Bool × (Bool × (Bool × (Int × ((List ((List (Int × (Int × ((List Int) × Unit)))) × Unit)) × Unit))))) × (Int × (Int × Unit))))) × Unit)) → (Bool → Prop) → Prop := Classical.choose (⟨account_ends_u, rfl⟩ : ∃ q, q = account_ends_u)

theorem account_ends_def (f1 : ((Int × (Int × (Int × (Int × (Int × (Int × Unit)))))) × ((List (List ((Bool × (Bool × (Bool × (Int × ((List ((List (Int × (Int × ((List Int) × Unit)))) × Unit)) × Unit))))) × (Int × (Int × Unit))))) × Unit))) (K0 : (Bool → Prop)) : account_ends f1 K0 =
  (Br (decide ((f1.2.1.length : Int) = (0 : Int)))
    (K0 (decide ((iadd .i64 f1.1.2.2.2.1 f1.1.2.2.2.2.1) = (0 : Int))))
    (Br (decide ((f1.2.1.length : Int) = (1 : Int)))
      (Br (decide ((0 : Int) < (((List.length f1.2.1) : Nat) : Int)))
        (account_Page (List.getD f1.2.1 0 [])
          (fun (r1 : Int) =>
          K0 (decide ((iadd .i64 f1.1.2.2.2.1 f1.1.2.2.2.2.1) ≤ r1))))
        (False))
      (Br (decide ((0 : Int) < (((List.length f1.2.1) : Nat) : Int)))
        (account_Page (List.getD f1.2.1 0 [])
          (fun (r2 : Int) =>
          Br (decide (f1.1.2.2.2.1 ≤ r2))
            (let v11 : Int := (isub .i64 (f1.2.1.length : Int) 1)
            Br ((decide ((0 : Int) ≤ v11)) && (decide (v11 < (((List.length f1.2.1) : Nat) : Int))))
              (account_Page (List.getD f1.2.1 (Int.toNat v11) [])
                (fun (r3 : Int) =>
                K0 (decide (f1.1.2.2.2.2.1 ≤ r3))))
              (False))
            (K0 false)))
        (False)))) := by
  have e : account_ends = account_ends_u := Classical.choose_spec (⟨account_ends_u, rfl⟩ : ∃ q, q = account_ends_u)
  show account_ends f1 K0 = account_ends_u f1 K0
  rw [e]

/- loop of splicer/account.sum[[]splicer/api.Unit], region 3 -/
def api_Unit__58__account_Page_l3 : Nat → Int → (List (List ((Bool × (Bool × (Bool × (Int × ((List ((List (Int × (Int × ((List Int) × Unit)))) × Unit)) × Unit))))) × (Int × (Int × Unit))))) → Int → Int → (Int → Prop) → Prop
  | 0, _, _, _, _, _ => False
  | k + 1, n1, v2, v3, v4, K0 => Br (decide (v4 < v3))
      (Br ((decide ((0 : Int) ≤ v4)) && (decide (v4 < (((List.length v2) : Nat) : Int))))
        (account_Page (List.getD v2 (Int.toNat v4) [])
          (fun (r1 : Int) =>
          api_Unit__58__account_Page_l3 k (iadd .i64 n1 r1) v2 v3 (iadd .i64 v4 1) K0))
        (False))
      (K0 n1)

/- splicer/account.sum[[]splicer/api.Unit] (58) -/
def api_Unit__58__account_Page_u (l1 : (List (List ((Bool × (Bool × (Bool × (Int × ((List ((List (Int × (Int × ((List Int) × Unit)))) × Unit)) × Unit))))) × (Int × (Int × Unit)))))) (K0 : (Int → Prop)) : Prop :=
  ∃ q, api_Unit__58__account_Page_l3 q 0 l1 (l1.length : Int) 0 K0

noncomputable def api_Unit__58__account_Page : (List (List ((Bool × (Bool × (Bool × (Int × ((List ((List (Int × (Int × ((List Int) × Unit)))) × Unit)) × Unit))))) × (Int × (Int × Unit))))) → (Int → Prop) → Prop := Classical.choose (⟨api_Unit__58__account_Page_u, rfl⟩ : ∃ q, q = api_Unit__58__account_Page_u)

theorem api_Unit__58__account_Page_def (l1 : (List (List ((Bool × (Bool × (Bool × (Int × ((List ((List (Int × (Int × ((List Int) × Unit)))) × Unit)) × Unit))))) × (Int × (Int × Unit)))))) (K0 : (Int → Prop)) : api_Unit__58__account_Page l1 K0 =
  (∃ q, api_Unit__58__account_Page_l3 q 0 l1 (l1.length : Int) 0 K0) := by
  have e : api_Unit__58__account_Page = api_Unit__58__account_Page_u := Classical.choose_spec (⟨api_Unit__58__account_Page_u, rfl⟩ : ∃ q, q = api_Unit__58__account_Page_u)
  show api_Unit__58__account_Page l1 K0 = api_Unit__58__account_Page_u l1 K0
  rw [e]

/- splicer/account.Length (15) -/
def account_Length_u (f1 : ((Int × (Int × (Int × (Int × (Int × (Int × Unit)))))) × ((List (List ((Bool × (Bool × (Bool × (Int × ((List ((List (Int × (Int × ((List Int) × Unit)))) × Unit)) × Unit))))) × (Int × (Int × Unit))))) × Unit))) (K0 : (Int → Prop)) : Prop :=
  api_Unit__58__account_Page f1.2.1
    (fun (r1 : Int) =>
    K0 (isub .i64 (isub .i64 r1 f1.1.2.2.2.1) f1.1.2.2.2.2.1))

noncomputable def account_Length : ((Int × (Int × (Int × (Int × (Int × (Int × Unit)))))) × ((List (List ((Bool × (Bool × (Bool × (Int × ((List ((List (Int × (Int × ((List Int) × Unit)))) × Unit)) × Unit))))) × (Int × (Int × Unit))))) × Unit)) → (Int → Prop) → Prop := Classical.choose (⟨account_Length_u, rfl⟩ : ∃ q, q = account_Length_u)

theorem account_Length_def (f1 : ((Int × (Int × (Int × (Int × (Int × (Int × Unit)))))) × ((List (List ((Bool × (Bool × (Bool × (Int × ((List ((List (Int × (Int × ((List Int) × Unit)))) × Unit)) × Unit))))) × (Int × (Int × Unit))))) × Unit))) (K0 : (Int → Prop)) : account_Length f1 K0 =
  (api_Unit__58__account_Page f1.2.1
    (fun (r1 : Int) =>
    K0 (isub .i64 (isub .i64 r1 f1.1.2.2.2.1) f1.1.2.2.2.2.1))) := by
  have e : account_Length = account_Length_u := Classical.choose_spec (⟨account_Length_u, rfl⟩ : ∃ q, q = account_Length_u)
  show account_Length f1 K0 = account_Length_u f1 K0
  rw [e]

/- loop of splicer/account.Fit, region 4 -/
def account_Fit_l4 : Nat → (List (List ((Bool × (Bool × (Bool × (Int × ((List ((List (Int × (Int × ((List Int) × Unit)))) × Unit)) × Unit))))) × (Int × (Int × Unit))))) → Int → Int → ((Int × (Int × (Int × (Int × (Int × (Int × Unit)))))) × ((List (List ((Bool × (Bool × (Bool × (Int × ((List ((List (Int × (Int × ((List Int) × Unit)))) × Unit)) × Unit))))) × (Int × (Int × Unit))))) × Unit)) → (Bool → Prop) → (((Int × (Int × (Int × (Int × (Int × (Int × Unit)))))) × ((List (List ((Bool × (Bool × (Bool × (Int × ((List ((List (Int × (Int × ((List Int) × Unit)))) × Unit)) × Unit))))) × (Int × (Int × Unit))))) × Unit)) → Prop) → Prop
  | 0, _, _, _, _, _, _ => False
  | k + 1, v5, v6, v7, m1, K0, K1 => Br (decide (v7 < v6))
      (Br ((decide ((0 : Int) ≤ v7)) && (decide (v7 < (((List.length v5) : Nat) : Int))))
        (let v9 : (List ((Bool × (Bool × (Bool × (Int × ((List ((List (Int × (Int × ((List Int) × Unit)))) × Unit)) × Unit))))) × (Int × (Int × Unit)))) := (List.getD v5 (Int.toNat v7) [])
        account_between (v9.length : Int) 1 8
          (fun (r2 : Bool) =>
          Br (!r2)
            (K0 false)
            (Br (decide ((0 : Int) < (((List.length v9) : Nat) : Int)))
              (Br (!(List.getD v9 0 ((false, (false, (false, (0, ([], ()))))), (0, (0, ())))).1.2.2.1)
                (K0 false)
                (api_Unit___account_Fit_1 v9 m1
                  (fun (r3 : Bool) =>
                  Br r3
                    (K0 false)
                    (account_Fit_l4 k v5 v6 (iadd .i64 v7 1) m1 K0 K1))))
              (False))))
        (False))
      (K1 m1)

/- splicer/account.Fit (16) -/
def account_Fit_u (f1 : ((Int × (Int × (Int × (Int × (Int × (Int × Unit)))))) × ((List (List ((Bool × (Bool × (Bool × (Int × ((List ((List (Int × (Int × ((List Int) × Unit)))) × Unit)) × Unit))))) × (Int × (Int × Unit))))) × Unit))) (K0 : (Bool → Prop)) : Prop :=
  account_head f1.1
    (fun (r1 : Bool) =>
    Br (!r1)
      (K0 false)
      (Br (decide ((262144 : Int) < (f1.2.1.length : Int)))
        (K0 false)
        (∃ q, account_Fit_l4 q f1.2.1 (f1.2.1.length : Int) 0 f1 K0
          (fun (m2 : ((Int × (Int × (Int × (Int × (Int × (Int × Unit)))))) × ((List (List ((Bool × (Bool × (Bool × (Int × ((List ((List (Int × (Int × ((List Int) × Unit)))) × Unit)) × Unit))))) × (Int × (Int × Unit))))) × Unit))) =>
          account_ends m2
            (fun (r4 : Bool) =>
            Br r4
              (account_Length m2
                (fun (r5 : Int) =>
                K0 (decide (m2.1.2.2.2.2.2.1 = r5))))
              (K0 false))))))

noncomputable def account_Fit : ((Int × (Int × (Int × (Int × (Int × (Int × Unit)))))) × ((List (List ((Bool × (Bool × (Bool × (Int × ((List ((List (Int × (Int × ((List Int) × Unit)))) × Unit)) × Unit))))) × (Int × (Int × Unit))))) × Unit)) → (Bool → Prop) → Prop := Classical.choose (⟨account_Fit_u, rfl⟩ : ∃ q, q = account_Fit_u)

theorem account_Fit_def (f1 : ((Int × (Int × (Int × (Int × (Int × (Int × Unit)))))) × ((List (List ((Bool × (Bool × (Bool × (Int × ((List ((List (Int × (Int × ((List Int) × Unit)))) × Unit)) × Unit))))) × (Int × (Int × Unit))))) × Unit))) (K0 : (Bool → Prop)) : account_Fit f1 K0 =
  (account_head f1.1
    (fun (r1 : Bool) =>
    Br (!r1)
      (K0 false)
      (Br (decide ((262144 : Int) < (f1.2.1.length : Int)))
        (K0 false)
        (∃ q, account_Fit_l4 q f1.2.1 (f1.2.1.length : Int) 0 f1 K0
          (fun (m2 : ((Int × (Int × (Int × (Int × (Int × (Int × Unit)))))) × ((List (List ((Bool × (Bool × (Bool × (Int × ((List ((List (Int × (Int × ((List Int) × Unit)))) × Unit)) × Unit))))) × (Int × (Int × Unit))))) × Unit))) =>
          account_ends m2
            (fun (r4 : Bool) =>
            Br r4
              (account_Length m2
                (fun (r5 : Int) =>
                K0 (decide (m2.1.2.2.2.2.2.1 = r5))))
              (K0 false))))))) := by
  have e : account_Fit = account_Fit_u := Classical.choose_spec (⟨account_Fit_u, rfl⟩ : ∃ q, q = account_Fit_u)
  show account_Fit f1 K0 = account_Fit_u f1 K0
  rw [e]

/- splicer/splicerlaw28.awake (13) -/
def L28_awake_u  (K0 : (Bool → Prop)) : Prop :=
  let v1 : ((Bool × (Bool × (Bool × (Int × ((List ((List (Int × (Int × ((List Int) × Unit)))) × Unit)) × Unit))))) × (Int × (Int × Unit))) := ((false, (false, (false, (0, ([], ()))))), (60, (4, ())))
  account_Unit v1
    (fun (r1 : Bool) =>
    Br r1
      (account_Keeps v1
        (fun (r2 : Int) =>
        Br (decide (r2 = (0 : Int)))
          (account_Keeps ((false, (false, (false, (0, ([], ()))))), (3, (0, ())))
            (fun (r3 : Int) =>
            Br (decide (r3 = (61 : Int)))
              (account_Unit ((false, (false, (false, (0, ([], ()))))), (60, (5, ())))
                (fun (r4 : Bool) =>
                Br (!r4)
                  (account_Fit ((1, (1, (0, (0, (0, (0, ())))))), ([], ()))
                    (fun (r5 : Bool) =>
                    Br r5
                      (account_Fit ((0, (0, (0, (0, (0, (0, ())))))), ([], ()))
                        (fun (r6 : Bool) =>
                        K0 (!r6)))
                      (K0 false)))
                  (K0 false)))
              (K0 false)))
          (K0 false)))
      (K0 false))

noncomputable def L28_awake : (Bool → Prop) → Prop := Classical.choose (⟨L28_awake_u, rfl⟩ : ∃ q, q = L28_awake_u)

theorem L28_awake_def  (K0 : (Bool → Prop)) : L28_awake K0 =
  (let v1 : ((Bool × (Bool × (Bool × (Int × ((List ((List (Int × (Int × ((List Int) × Unit)))) × Unit)) × Unit))))) × (Int × (Int × Unit))) := ((false, (false, (false, (0, ([], ()))))), (60, (4, ())))
  account_Unit v1
    (fun (r1 : Bool) =>
    Br r1
      (account_Keeps v1
        (fun (r2 : Int) =>
        Br (decide (r2 = (0 : Int)))
          (account_Keeps ((false, (false, (false, (0, ([], ()))))), (3, (0, ())))
            (fun (r3 : Int) =>
            Br (decide (r3 = (61 : Int)))
              (account_Unit ((false, (false, (false, (0, ([], ()))))), (60, (5, ())))
                (fun (r4 : Bool) =>
                Br (!r4)
                  (account_Fit ((1, (1, (0, (0, (0, (0, ())))))), ([], ()))
                    (fun (r5 : Bool) =>
                    Br r5
                      (account_Fit ((0, (0, (0, (0, (0, (0, ())))))), ([], ()))
                        (fun (r6 : Bool) =>
                        K0 (!r6)))
                      (K0 false)))
                  (K0 false)))
              (K0 false)))
          (K0 false)))
      (K0 false))) := by
  have e : L28_awake = L28_awake_u := Classical.choose_spec (⟨L28_awake_u, rfl⟩ : ∃ q, q = L28_awake_u)
  show L28_awake K0 = L28_awake_u K0
  rw [e]

/- join of splicer/account.Starts, region 9 -/
def account_Starts_j9 (at_2 : Int) (l1 : (List ((Bool × (Bool × (Bool × (Int × ((List ((List (Int × (Int × ((List Int) × Unit)))) × Unit)) × Unit))))) × (Int × (Int × Unit))))) (v9 : (List (List ((Bool × (Bool × (Bool × (Int × ((List ((List (Int × (Int × ((List Int) × Unit)))) × Unit)) × Unit))))) × (Int × (Int × Unit)))))) (v10 : Int) (v11 : Int) (m6 : (List Int)) (K0 : (Int → (List (List ((Bool × (Bool × (Bool × (Int × ((List ((List (Int × (Int × ((List Int) × Unit)))) × Unit)) × Unit))))) × (Int × (Int × Unit))))) → Int → Int → (List Int) → Prop)) : Prop :=
  account_Page l1
    (fun (r1 : Int) =>
    K0 (iadd .i64 at_2 r1) v9 v10 v11 m6)

/- loop of splicer/account.Starts, region 4 -/
def account_Starts_l4 : Nat → Int → (List (List ((Bool × (Bool × (Bool × (Int × ((List ((List (Int × (Int × ((List Int) × Unit)))) × Unit)) × Unit))))) × (Int × (Int × Unit))))) → Int → Int → (List Int) → ((List Int) → Prop) → Prop
  | 0, _, _, _, _, _, _ => False
  | k + 1, at_1, v3, v4, v5, m1, K0 => Br (decide (v5 < v4))
      (Br ((decide ((0 : Int) ≤ v5)) && (decide (v5 < (((List.length v3) : Nat) : Int))))
        (let v7 : (List ((Bool × (Bool × (Bool × (Int × ((List ((List (Int × (Int × ((List Int) × Unit)))) × Unit)) × Unit))))) × (Int × (Int × Unit)))) := (List.getD v3 (Int.toNat v5) [])
        Br (decide (v5 = (0 : Int)))
          (let m2 : (List Int) := [0]
          Br (decide ((((List.length m1) + (List.length m2)) * 8) ≤ 140737488355328))
            (account_Starts_j9 at_1 v7 v3 v4 v5 (m1 ++ m2)
              (fun (at_3 : Int) (v13 : (List (List ((Bool × (Bool × (Bool × (Int × ((List ((List (Int × (Int × ((List Int) × Unit)))) × Unit)) × Unit))))) × (Int × (Int × Unit)))))) (v14 : Int) (v15 : Int) (m7 : (List Int)) =>
              account_Starts_l4 k at_3 v13 v14 (iadd .i64 v15 1) m7 K0))
            (False))
          (let m4 : (List Int) := [at_1]
          Br (decide ((((List.length m1) + (List.length m4)) * 8) ≤ 140737488355328))
            (account_Starts_j9 at_1 v7 v3 v4 v5 (m1 ++ m4)
              (fun (at_4 : Int) (v16 : (List (List ((Bool × (Bool × (Bool × (Int × ((List ((List (Int × (Int × ((List Int) × Unit)))) × Unit)) × Unit))))) × (Int × (Int × Unit)))))) (v17 : Int) (v18 : Int) (m8 : (List Int)) =>
              account_Starts_l4 k at_4 v16 v17 (iadd .i64 v18 1) m8 K0))
            (False)))
        (False))
      (K0 m1)

/- splicer/account.Starts (14) -/
def account_Starts_u (f1 : ((Int × (Int × (Int × (Int × (Int × (Int × Unit)))))) × ((List (List ((Bool × (Bool × (Bool × (Int × ((List ((List (Int × (Int × ((List Int) × Unit)))) × Unit)) × Unit))))) × (Int × (Int × Unit))))) × Unit))) (K0 : ((List Int) → Prop)) : Prop :=
  ∃ q, account_Starts_l4 q (isub .i64 0 f1.1.2.2.2.1) f1.2.1 (f1.2.1.length : Int) 0 [] K0

noncomputable def account_Starts : ((Int × (Int × (Int × (Int × (Int × (Int × Unit)))))) × ((List (List ((Bool × (Bool × (Bool × (Int × ((List ((List (Int × (Int × ((List Int) × Unit)))) × Unit)) × Unit))))) × (Int × (Int × Unit))))) × Unit)) → ((List Int) → Prop) → Prop := Classical.choose (⟨account_Starts_u, rfl⟩ : ∃ q, q = account_Starts_u)

theorem account_Starts_def (f1 : ((Int × (Int × (Int × (Int × (Int × (Int × Unit)))))) × ((List (List ((Bool × (Bool × (Bool × (Int × ((List ((List (Int × (Int × ((List Int) × Unit)))) × Unit)) × Unit))))) × (Int × (Int × Unit))))) × Unit))) (K0 : ((List Int) → Prop)) : account_Starts f1 K0 =
  (∃ q, account_Starts_l4 q (isub .i64 0 f1.1.2.2.2.1) f1.2.1 (f1.2.1.length : Int) 0 [] K0) := by
  have e : account_Starts = account_Starts_u := Classical.choose_spec (⟨account_Starts_u, rfl⟩ : ∃ q, q = account_Starts_u)
  show account_Starts f1 K0 = account_Starts_u f1 K0
  rw [e]

/- join of splicer/splicerlaw28.AccountGoes, region 2 -/
def L28_AccountGoes_j2 (v3 : Bool) (m1 : ((Int × (Int × (Int × (Int × (Int × (Int × Unit)))))) × ((List (List ((Bool × (Bool × (Bool × (Int × ((List ((List (Int × (Int × ((List Int) × Unit)))) × Unit)) × Unit))))) × (Int × (Int × Unit))))) × Unit))) (K0 : (Bool → Prop)) (K1 : (((Int × (Int × (Int × (Int × (Int × (Int × Unit)))))) × ((List (List ((Bool × (Bool × (Bool × (Int × ((List ((List (Int × (Int × ((List Int) × Unit)))) × Unit)) × Unit))))) × (Int × (Int × Unit))))) × Unit)) → Prop)) : Prop :=
  Br v3
    (L28_awake K0)
    (K1 m1)

/- loop of splicer/splicerlaw28.AccountGoes, region 14 -/
def L28_AccountGoes_l14 : Nat → Int → Int → Int → ((Int × (Int × (Int × (Int × (Int × (Int × Unit)))))) × ((List (List ((Bool × (Bool × (Bool × (Int × ((List ((List (Int × (Int × ((List Int) × Unit)))) × Unit)) × Unit))))) × (Int × (Int × Unit))))) × Unit)) → (List Int) → (Bool → Prop) → (Int → Int → ((Int × (Int × (Int × (Int × (Int × (Int × Unit)))))) × ((List (List ((Bool × (Bool × (Bool × (Int × ((List ((List (Int × (Int × ((List Int) × Unit)))) × Unit)) × Unit))))) × (Int × (Int × Unit))))) × Unit)) → (List Int) → Prop) → Prop
  | 0, _, _, _, _, _, _, _ => False
  | k + 1, at_2, i3, k1, m9, m10, K0, K1 => Br ((decide ((0 : Int) ≤ i3)) && (decide (i3 < (((List.length m9.2.1) : Nat) : Int))))
      (Br (decide (k1 < ((List.getD m9.2.1 (Int.toNat i3) []).length : Int)))
        (Br ((decide ((0 : Int) ≤ i3)) && (decide (i3 < (((List.length m9.2.1) : Nat) : Int))))
          (let v24 : (List ((Bool × (Bool × (Bool × (Int × ((List ((List (Int × (Int × ((List Int) × Unit)))) × Unit)) × Unit))))) × (Int × (Int × Unit)))) := (List.getD m9.2.1 (Int.toNat i3) [])
          Br ((decide ((0 : Int) ≤ k1)) && (decide (k1 < (((List.length v24) : Nat) : Int))))
            (account_Keeps (List.getD v24 (Int.toNat k1) ((false, (false, (false, (0, ([], ()))))), (0, (0, ()))))
              (fun (r7 : Int) =>
              Br (decide (r7 < (0 : Int)))
                (K0 false)
                (Br (decide ((64 : Int) < r7))
                  (K0 false)
                  (L28_AccountGoes_l14 k at_2 i3 (iadd .i64 k1 1) m9 m10 K0 K1))))
            (False))
          (False))
        (K1 at_2 i3 m9 m10))
      (False)

/- join of splicer/splicerlaw28.AccountGoes, region 12 -/
def L28_AccountGoes_j12 (i2 : Int) (m7 : ((Int × (Int × (Int × (Int × (Int × (Int × Unit)))))) × ((List (List ((Bool × (Bool × (Bool × (Int × ((List ((List (Int × (Int × ((List Int) × Unit)))) × Unit)) × Unit))))) × (Int × (Int × Unit))))) × Unit))) (m8 : (List Int)) (K0 : (Bool → Prop)) (K1 : (Int → Int → ((Int × (Int × (Int × (Int × (Int × (Int × Unit)))))) × ((List (List ((Bool × (Bool × (Bool × (Int × ((List ((List (Int × (Int × ((List Int) × Unit)))) × Unit)) × Unit))))) × (Int × (Int × Unit))))) × Unit)) → (List Int) → Prop)) : Prop :=
  Br ((decide ((0 : Int) ≤ i2)) && (decide (i2 < (((List.length m8) : Nat) : Int))))
    (Br (decide ((Int.toNat i2) < (List.length m8)))
      (∃ q, L28_AccountGoes_l14 q (List.getD m8 (Int.toNat i2) 0) i2 0 m7 m8 K0 K1)
      (False))
    (False)

/- loop of splicer/splicerlaw28.AccountGoes, region 8 -/
def L28_AccountGoes_l8 : Nat → Int → Int → ((Int × (Int × (Int × (Int × (Int × (Int × Unit)))))) × ((List (List ((Bool × (Bool × (Bool × (Int × ((List ((List (Int × (Int × ((List Int) × Unit)))) × Unit)) × Unit))))) × (Int × (Int × Unit))))) × Unit)) → (List Int) → (Bool → Prop) → (Prop) → Prop
  | 0, _, _, _, _, _, _ => False
  | k + 1, at_1, i1, m5, m6, K0, K1 => Br (decide (i1 < (m6.length : Int)))
      (Br ((decide ((0 : Int) ≤ i1)) && (decide (i1 < (((List.length m6) : Nat) : Int))))
        (Br (decide ((Int.toNat i1) < (List.length m6)))
          (Br (decide ((List.getD m6 (Int.toNat i1) 0) < at_1))
            (K0 false)
            (Br ((decide ((0 : Int) ≤ i1)) && (decide (i1 < (((List.length m6) : Nat) : Int))))
              (Br (decide ((Int.toNat i1) < (List.length m6)))
                (Br (decide (m5.1.2.2.2.2.2.1 < (List.getD m6 (Int.toNat i1) 0)))
                  (K0 false)
                  (Br (decide (i1 = (0 : Int)))
                    (Br ((decide ((0 : Int) ≤ i1)) && (decide (i1 < (((List.length m6) : Nat) : Int))))
                      (Br (decide ((Int.toNat i1) < (List.length m6)))
                        (Br (!(decide ((List.getD m6 (Int.toNat i1) 0) = (0 : Int))))
                          (K0 false)
                          (L28_AccountGoes_j12 i1 m5 m6 K0
                            (fun (at_4 : Int) (i5 : Int) (m13 : ((Int × (Int × (Int × (Int × (Int × (Int × Unit)))))) × ((List (List ((Bool × (Bool × (Bool × (Int × ((List ((List (Int × (Int × ((List Int) × Unit)))) × Unit)) × Unit))))) × (Int × (Int × Unit))))) × Unit))) (m14 : (List Int)) =>
                            L28_AccountGoes_l8 k at_4 (iadd .i64 i5 1) m13 m14 K0 K1)))
                        (False))
                      (False))
                    (L28_AccountGoes_j12 i1 m5 m6 K0
                      (fun (at_5 : Int) (i6 : Int) (m15 : ((Int × (Int × (Int × (Int × (Int × (Int × Unit)))))) × ((List (List ((Bool × (Bool × (Bool × (Int × ((List ((List (Int × (Int × ((List Int) × Unit)))) × Unit)) × Unit))))) × (Int × (Int × Unit))))) × Unit))) (m16 : (List Int)) =>
                      L28_AccountGoes_l8 k at_5 (iadd .i64 i6 1) m15 m16 K0 K1))))
                (False))
              (False)))
          (False))
        (False))
      (K1)

/- join of splicer/splicerlaw28.AccountGoes, region 3 -/
def L28_AccountGoes_j3 (m4 : ((Int × (Int × (Int × (Int × (Int × (Int × Unit)))))) × ((List (List ((Bool × (Bool × (Bool × (Int × ((List ((List (Int × (Int × ((List Int) × Unit)))) × Unit)) × Unit))))) × (Int × (Int × Unit))))) × Unit))) (K0 : (Bool → Prop)) : Prop :=
  account_Starts m4
    (fun (r4 : (List Int)) =>
    Br (!(decide ((r4.length : Int) = (m4.2.1.length : Int))))
      (K0 false)
      (account_Length m4
        (fun (r5 : Int) =>
        Br (!(decide (r5 = m4.1.2.2.2.2.2.1)))
          (K0 false)
          (account_Fit m4
            (fun (r6 : Bool) =>
            Br (!r6)
              (K0 false)
              (∃ q, L28_AccountGoes_l8 q 0 0 m4 r4 K0
                (L28_awake K0)))))))

/- splicer/splicerlaw28.AccountGoes (3) -/
def L28_AccountGoes_u (f1 : ((Int × (Int × (Int × (Int × (Int × (Int × Unit)))))) × ((List (List ((Bool × (Bool × (Bool × (Int × ((List ((List (Int × (Int × ((List Int) × Unit)))) × Unit)) × Unit))))) × (Int × (Int × Unit))))) × Unit))) (K0 : (Bool → Prop)) : Prop :=
  R28_Few f1 6
    (fun (r1 : Bool) =>
    Br (!r1)
      (L28_AccountGoes_j2 true f1 K0
        (fun (m2 : ((Int × (Int × (Int × (Int × (Int × (Int × Unit)))))) × ((List (List ((Bool × (Bool × (Bool × (Int × ((List ((List (Int × (Int × ((List Int) × Unit)))) × Unit)) × Unit))))) × (Int × (Int × Unit))))) × Unit))) =>
        L28_AccountGoes_j3 m2 K0))
      (R28_Fit f1
        (fun (r2 : Bool) =>
        L28_AccountGoes_j2 (!r2) f1 K0
          (fun (m3 : ((Int × (Int × (Int × (Int × (Int × (Int × Unit)))))) × ((List (List ((Bool × (Bool × (Bool × (Int × ((List ((List (Int × (Int × ((List Int) × Unit)))) × Unit)) × Unit))))) × (Int × (Int × Unit))))) × Unit))) =>
          L28_AccountGoes_j3 m3 K0))))

noncomputable def L28_AccountGoes : ((Int × (Int × (Int × (Int × (Int × (Int × Unit)))))) × ((List (List ((Bool × (Bool × (Bool × (Int × ((List ((List (Int × (Int × ((List Int) × Unit)))) × Unit)) × Unit))))) × (Int × (Int × Unit))))) × Unit)) → (Bool → Prop) → Prop := Classical.choose (⟨L28_AccountGoes_u, rfl⟩ : ∃ q, q = L28_AccountGoes_u)

theorem L28_AccountGoes_def (f1 : ((Int × (Int × (Int × (Int × (Int × (Int × Unit)))))) × ((List (List ((Bool × (Bool × (Bool × (Int × ((List ((List (Int × (Int × ((List Int) × Unit)))) × Unit)) × Unit))))) × (Int × (Int × Unit))))) × Unit))) (K0 : (Bool → Prop)) : L28_AccountGoes f1 K0 =
  (R28_Few f1 6
    (fun (r1 : Bool) =>
    Br (!r1)
      (L28_AccountGoes_j2 true f1 K0
        (fun (m2 : ((Int × (Int × (Int × (Int × (Int × (Int × Unit)))))) × ((List (List ((Bool × (Bool × (Bool × (Int × ((List ((List (Int × (Int × ((List Int) × Unit)))) × Unit)) × Unit))))) × (Int × (Int × Unit))))) × Unit))) =>
        L28_AccountGoes_j3 m2 K0))
      (R28_Fit f1
        (fun (r2 : Bool) =>
        L28_AccountGoes_j2 (!r2) f1 K0
          (fun (m3 : ((Int × (Int × (Int × (Int × (Int × (Int × Unit)))))) × ((List (List ((Bool × (Bool × (Bool × (Int × ((List ((List (Int × (Int × ((List Int) × Unit)))) × Unit)) × Unit))))) × (Int × (Int × Unit))))) × Unit))) =>
          L28_AccountGoes_j3 m3 K0))))) := by
  have e : L28_AccountGoes = L28_AccountGoes_u := Classical.choose_spec (⟨L28_AccountGoes_u, rfl⟩ : ∃ q, q = L28_AccountGoes_u)
  show L28_AccountGoes f1 K0 = L28_AccountGoes_u f1 K0
  rw [e]

end Go.Eng.A
