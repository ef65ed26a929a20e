/- The functions that PvqOrder reaches, as plain ones: printed by program. -/
import Derived.Test.YtkgapcdnpcjcmaaEngA
set_option linter.unusedVariables false
set_option maxRecDepth 100000
namespace Go.Eng.A
open Go Go.Eng

/- loop of splicer/pvq.made, region 8 -/
def pvq_made_l8 : Nat → Int → Int → Int → (List (List Int)) → (Int → (List (List Int)) → Prop) → Prop
  | 0, _, _, _, _, _ => False
  | k + 1, n1, v5, v6, m4, K0 => Br (decide (v6 < (24 : Int)))
      (let v8 : Int := (iadd .i64 n1 1)
      let v9 : Int := (iadd .i64 v6 1)
      let v10 : Int := (iadd .i64 v6 1)
      Br ((decide ((0 : Int) ≤ n1)) && (decide (n1 < (9 : Int))))
        (Br ((decide ((0 : Int) ≤ v10)) && (decide (v10 < (25 : Int))))
          (Br (decide ((Int.toNat n1) < (List.length m4)))
            (Br (decide ((Int.toNat v10) < (List.length (List.getD m4 (Int.toNat n1) (List.replicate 25 0)))))
              (let v12 : Int := (iadd .i64 n1 1)
              Br ((decide ((0 : Int) ≤ v12)) && (decide (v12 < (9 : Int))))
                (Br ((decide ((0 : Int) ≤ v6)) && (decide (v6 < (25 : Int))))
                  (Br (decide ((Int.toNat v12) < (List.length m4)))
                    (Br (decide ((Int.toNat v6) < (List.length (List.getD m4 (Int.toNat v12) (List.replicate 25 0)))))
                      (Br ((decide ((0 : Int) ≤ n1)) && (decide (n1 < (9 : Int))))
                        (Br ((decide ((0 : Int) ≤ v6)) && (decide (v6 < (25 : Int))))
                          (Br (decide ((Int.toNat n1) < (List.length m4)))
                            (Br (decide ((Int.toNat v6) < (List.length (List.getD m4 (Int.toNat n1) (List.replicate 25 0)))))
                              (Br ((decide ((0 : Int) ≤ v8)) && (decide (v8 < (9 : Int))))
                                (Br ((decide ((0 : Int) ≤ v9)) && (decide (v9 < (25 : Int))))
                                  (Br (decide ((Int.toNat v8) < (List.length m4)))
                                    (Br (decide ((Int.toNat v9) < (List.length (List.getD m4 (Int.toNat v8) (List.replicate 25 0)))))
                                      (pvq_made_l8 k n1 v5 (iadd .i64 v6 1) (List.set m4 (Int.toNat v8) (List.set (List.getD m4 (Int.toNat v8) (List.replicate 25 0)) (Int.toNat v9) (iadd .i64 (iadd .i64 (List.getD (List.getD m4 (Int.toNat n1) (List.replicate 25 0)) (Int.toNat v10) 0) (List.getD (List.getD m4 (Int.toNat v12) (List.replicate 25 0)) (Int.toNat v6) 0)) (List.getD (List.getD m4 (Int.toNat n1) (List.replicate 25 0)) (Int.toNat v6) 0)))) K0)
                                      (False))
                                    (False))
                                  (False))
                                (False))
                              (False))
                            (False))
                          (False))
                        (False))
                      (False))
                    (False))
                  (False))
                (False))
              (False))
            (False))
          (False))
        (False))
      (K0 v5 m4)

/- loop of splicer/pvq.made, region 4 -/
def pvq_made_l4 : Nat → Int → (List (List Int)) → ((List (List Int)) → Prop) → Prop
  | 0, _, _, _ => False
  | k + 1, v2, m2, K0 => Br (decide (v2 < (8 : Int)))
      (let v4 : Int := (iadd .i64 v2 1)
      Br ((decide ((0 : Int) ≤ v4)) && (decide (v4 < (9 : Int))))
        (Br (decide ((Int.toNat v4) < (List.length m2)))
          (Br (decide (0 < (List.length (List.getD m2 (Int.toNat v4) (List.replicate 25 0)))))
            (∃ q, pvq_made_l8 q v2 v2 0 (List.set m2 (Int.toNat v4) (List.set (List.getD m2 (Int.toNat v4) (List.replicate 25 0)) 0 1))
              (fun (v18 : Int) (m6 : (List (List Int))) =>
              pvq_made_l4 k (iadd .i64 v18 1) m6 K0))
            (False))
          (False))
        (False))
      (K0 m2)

/- splicer/pvq.made (54) -/
def pvq_made_u  (K0 : ((List (List Int)) → Prop)) : Prop :=
  let v1 : (List (List Int)) := (List.replicate 9 (List.replicate 25 0))
  Br (decide (0 < (List.length v1)))
    (Br (decide (0 < (List.length (List.getD v1 0 (List.replicate 25 0)))))
      (∃ q, pvq_made_l4 q 0 (List.set v1 0 (List.set (List.getD v1 0 (List.replicate 25 0)) 0 1)) K0)
      (False))
    (False)

noncomputable def pvq_made : ((List (List Int)) → Prop) → Prop := Classical.choose (⟨pvq_made_u, rfl⟩ : ∃ q, q = pvq_made_u)

theorem pvq_made_def  (K0 : ((List (List Int)) → Prop)) : pvq_made K0 =
  (let v1 : (List (List Int)) := (List.replicate 9 (List.replicate 25 0))
  Br (decide (0 < (List.length v1)))
    (Br (decide (0 < (List.length (List.getD v1 0 (List.replicate 25 0)))))
      (∃ q, pvq_made_l4 q 0 (List.set v1 0 (List.set (List.getD v1 0 (List.replicate 25 0)) 0 1)) K0)
      (False))
    (False)) := by
  have e : pvq_made = pvq_made_u := Classical.choose_spec (⟨pvq_made_u, rfl⟩ : ∃ q, q = pvq_made_u)
  show pvq_made K0 = pvq_made_u K0
  rw [e]

/- splicer/pvq.Count (35) -/
def pvq_Count_u (n1 : Int) (k1 : Int) (K0 : (Int → Prop)) : Prop :=
  Br (decide (n1 < (0 : Int)))
    (K0 0)
    (Br (decide ((8 : Int) < n1))
      (K0 0)
      (Br (decide (k1 < (0 : Int)))
        (K0 0)
        (Br (decide ((24 : Int) < k1))
          (K0 0)
          (pvq_made
            (fun (r1 : (List (List Int))) =>
            Br ((decide ((0 : Int) ≤ n1)) && (decide (n1 < (9 : Int))))
              (Br ((decide ((0 : Int) ≤ k1)) && (decide (k1 < (25 : Int))))
                (K0 (List.getD (List.getD r1 (Int.toNat n1) (List.replicate 25 0)) (Int.toNat k1) 0))
                (False))
              (False))))))

noncomputable def pvq_Count : Int → Int → (Int → Prop) → Prop := Classical.choose (⟨pvq_Count_u, rfl⟩ : ∃ q, q = pvq_Count_u)

theorem pvq_Count_def (n1 : Int) (k1 : Int) (K0 : (Int → Prop)) : pvq_Count n1 k1 K0 =
  (Br (decide (n1 < (0 : Int)))
    (K0 0)
    (Br (decide ((8 : Int) < n1))
      (K0 0)
      (Br (decide (k1 < (0 : Int)))
        (K0 0)
        (Br (decide ((24 : Int) < k1))
          (K0 0)
          (pvq_made
            (fun (r1 : (List (List Int))) =>
            Br ((decide ((0 : Int) ≤ n1)) && (decide (n1 < (9 : Int))))
              (Br ((decide ((0 : Int) ≤ k1)) && (decide (k1 < (25 : Int))))
                (K0 (List.getD (List.getD r1 (Int.toNat n1) (List.replicate 25 0)) (Int.toNat k1) 0))
                (False))
              (False))))))) := by
  have e : pvq_Count = pvq_Count_u := Classical.choose_spec (⟨pvq_Count_u, rfl⟩ : ∃ q, q = pvq_Count_u)
  show pvq_Count n1 k1 K0 = pvq_Count_u n1 k1 K0
  rw [e]

/- loop of splicer/pvq.first, region 5 -/
def pvq_first_l5 : Nat → (List Int) → Int → Int → Int → ((List Int) → Int → Int → Int → Prop) → Prop
  | 0, _, _, _, _, _ => False
  | k + 1, rest2, k2, i2, m1, K0 => let v5 : Int := (isub .i64 k2 m1)
    Br ((decide ((0 : Int) ≤ v5)) && (decide (v5 < (25 : Int))))
      (Br (decide ((imul .i64 2 (List.getD rest2 (Int.toNat v5) 0)) ≤ i2))
        (let v9 : Int := (isub .i64 k2 m1)
        Br ((decide ((0 : Int) ≤ v9)) && (decide (v9 < (25 : Int))))
          (pvq_first_l5 k rest2 k2 (isub .i64 i2 (imul .i64 2 (List.getD rest2 (Int.toNat v9) 0))) (iadd .i64 m1 1) K0)
          (False))
        (K0 rest2 k2 i2 m1))
      (False)

/- splicer/pvq.first (56) -/
def pvq_first_u (rest1 : (List Int)) (k1 : Int) (i1 : Int) (K0 : (Int → Int → Prop)) : Prop :=
  Br ((decide ((0 : Int) ≤ k1)) && (decide (k1 < (25 : Int))))
    (Br (decide (i1 < (List.getD rest1 (Int.toNat k1) 0)))
      (K0 0 i1)
      (Br ((decide ((0 : Int) ≤ k1)) && (decide (k1 < (25 : Int))))
        (∃ q, pvq_first_l5 q rest1 k1 (isub .i64 i1 (List.getD rest1 (Int.toNat k1) 0)) 1
          (fun (rest3 : (List Int)) (k3 : Int) (i3 : Int) (m2 : Int) =>
          let v14 : Int := (isub .i64 k3 m2)
          Br ((decide ((0 : Int) ≤ v14)) && (decide (v14 < (25 : Int))))
            (Br (decide ((List.getD rest3 (Int.toNat v14) 0) ≤ i3))
              (let v18 : Int := (isub .i64 k3 m2)
              Br ((decide ((0 : Int) ≤ v18)) && (decide (v18 < (25 : Int))))
                (K0 (isub .i64 0 m2) (isub .i64 i3 (List.getD rest3 (Int.toNat v18) 0)))
                (False))
              (K0 m2 i3))
            (False)))
        (False)))
    (False)

noncomputable def pvq_first : (List Int) → Int → Int → (Int → Int → Prop) → Prop := Classical.choose (⟨pvq_first_u, rfl⟩ : ∃ q, q = pvq_first_u)

theorem pvq_first_def (rest1 : (List Int)) (k1 : Int) (i1 : Int) (K0 : (Int → Int → Prop)) : pvq_first rest1 k1 i1 K0 =
  (Br ((decide ((0 : Int) ≤ k1)) && (decide (k1 < (25 : Int))))
    (Br (decide (i1 < (List.getD rest1 (Int.toNat k1) 0)))
      (K0 0 i1)
      (Br ((decide ((0 : Int) ≤ k1)) && (decide (k1 < (25 : Int))))
        (∃ q, pvq_first_l5 q rest1 k1 (isub .i64 i1 (List.getD rest1 (Int.toNat k1) 0)) 1
          (fun (rest3 : (List Int)) (k3 : Int) (i3 : Int) (m2 : Int) =>
          let v14 : Int := (isub .i64 k3 m2)
          Br ((decide ((0 : Int) ≤ v14)) && (decide (v14 < (25 : Int))))
            (Br (decide ((List.getD rest3 (Int.toNat v14) 0) ≤ i3))
              (let v18 : Int := (isub .i64 k3 m2)
              Br ((decide ((0 : Int) ≤ v18)) && (decide (v18 < (25 : Int))))
                (K0 (isub .i64 0 m2) (isub .i64 i3 (List.getD rest3 (Int.toNat v18) 0)))
                (False))
              (K0 m2 i3))
            (False)))
        (False)))
    (False)) := by
  have e : pvq_first = pvq_first_u := Classical.choose_spec (⟨pvq_first_u, rfl⟩ : ∃ q, q = pvq_first_u)
  show pvq_first rest1 k1 i1 K0 = pvq_first_u rest1 k1 i1 K0
  rw [e]

/- loop of splicer/num.within, region 2 -/
def num_within_l2 : Nat → Int → (List Int) → Int → Int → (Bool → Prop) → (Prop) → Prop
  | 0, _, _, _, _, _, _ => False
  | k + 1, most2, v2, v3, v4, K0, K1 => Br (decide (v4 < v3))
      (Br ((decide ((0 : Int) ≤ v4)) && (decide (v4 < (((List.length v2) : Nat) : Int))))
        (let v6 : Int := (List.getD v2 (Int.toNat v4) 0)
        Br (decide (v6 < (isub .i64 0 most2)))
          (K0 false)
          (Br (decide (most2 < v6))
            (K0 false)
            (num_within_l2 k most2 v2 v3 (iadd .i64 v4 1) K0 K1)))
        (False))
      (K1)

/- splicer/num.within (58) -/
def num_within_u (most1 : Int) (l1 : (List Int)) (K0 : (Bool → Prop)) : Prop :=
  ∃ q, num_within_l2 q most1 l1 (l1.length : Int) 0 K0
    (K0 true)

noncomputable def num_within : Int → (List Int) → (Bool → Prop) → Prop := Classical.choose (⟨num_within_u, rfl⟩ : ∃ q, q = num_within_u)

theorem num_within_def (most1 : Int) (l1 : (List Int)) (K0 : (Bool → Prop)) : num_within most1 l1 K0 =
  (∃ q, num_within_l2 q most1 l1 (l1.length : Int) 0 K0
    (K0 true)) := by
  have e : num_within = num_within_u := Classical.choose_spec (⟨num_within_u, rfl⟩ : ∃ q, q = num_within_u)
  show num_within most1 l1 K0 = num_within_u most1 l1 K0
  rw [e]

/- splicer/num.Abs (52) -/
def num_Abs_u (x1 : Int) (K0 : (Int → Prop)) : Prop :=
  num_within 4611686018427387904 [x1]
    (fun (r1 : Bool) =>
    Br (!r1)
      (K0 0)
      (Br (decide (x1 < (0 : Int)))
        (K0 (isub .i64 0 x1))
        (K0 x1)))

noncomputable def num_Abs : Int → (Int → Prop) → Prop := Classical.choose (⟨num_Abs_u, rfl⟩ : ∃ q, q = num_Abs_u)

theorem num_Abs_def (x1 : Int) (K0 : (Int → Prop)) : num_Abs x1 K0 =
  (num_within 4611686018427387904 [x1]
    (fun (r1 : Bool) =>
    Br (!r1)
      (K0 0)
      (Br (decide (x1 < (0 : Int)))
        (K0 (isub .i64 0 x1))
        (K0 x1)))) := by
  have e : num_Abs = num_Abs_u := Classical.choose_spec (⟨num_Abs_u, rfl⟩ : ∃ q, q = num_Abs_u)
  show num_Abs x1 K0 = num_Abs_u x1 K0
  rw [e]

/- join of splicer/pvq.Vector, region 2 -/
def pvq_Vector_j2 (n2 : Int) (k2 : Int) (i2 : Int) (v4 : Bool) (K0 : (Bool → Prop)) (K1 : (Int → Int → Int → Prop)) : Prop :=
  Br v4
    (K0 false)
    (K1 n2 k2 i2)

/- loop of splicer/pvq.Vector, region 6 -/
def pvq_Vector_l6 : Nat → Int → Int → Int → (List (List Int)) → Int → Int → (List Int) → ((List Int) → Prop) → Prop
  | 0, _, _, _, _, _, _, _, _ => False
  | k + 1, n7, k7, i7, t1, v9, v10, m2, K0 => Br (decide (v10 < v9))
      (let v13 : Int := (isub .i64 (isub .i64 n7 1) v10)
      Br ((decide ((0 : Int) ≤ v13)) && (decide (v13 < (9 : Int))))
        (pvq_first (List.getD t1 (Int.toNat v13) (List.replicate 25 0)) k7 i7
          (fun (r3 : Int) (r4 : Int) =>
          Br ((decide ((0 : Int) ≤ v10)) && (decide (v10 < (((List.length m2) : Nat) : Int))))
            (Br (decide ((Int.toNat v10) < (List.length m2)))
              (let m3 : (List Int) := (List.set m2 (Int.toNat v10) r3)
              Br ((decide ((0 : Int) ≤ v10)) && (decide (v10 < (((List.length m3) : Nat) : Int))))
                (Br (decide ((Int.toNat v10) < (List.length m3)))
                  (num_Abs (List.getD m3 (Int.toNat v10) 0)
                    (fun (r5 : Int) =>
                    pvq_Vector_l6 k n7 (isub .i64 k7 r5) r4 t1 v9 (iadd .i64 v10 1) m3 K0))
                  (False))
                (False))
              (False))
            (False)))
        (False))
      (K0 m2)

/- join of splicer/pvq.Vector, region 3 -/
def pvq_Vector_j3 (n6 : Int) (k6 : Int) (i6 : Int) (K0 : (Bool → (List Int) → Prop)) : Prop :=
  pvq_made
    (fun (r2 : (List (List Int))) =>
    Br (((decide ((0 : Int) ≤ n6)) && (decide (n6 ≤ n6))) && (decide ((n6 * (8 : Int)) ≤ (140737488355328 : Int))))
      (let m1 : (List Int) := (List.replicate (Int.toNat n6) 0)
      ∃ q, pvq_Vector_l6 q n6 k6 i6 r2 (m1.length : Int) 0 m1
        (fun (m4 : (List Int)) =>
        K0 true m4))
      (False))

/- splicer/pvq.Vector (39) -/
def pvq_Vector_u (n1 : Int) (k1 : Int) (i1 : Int) (K0 : (Bool → Prop)) (K1 : (Bool → (List Int) → Prop)) : Prop :=
  Br (decide (n1 < (1 : Int)))
    (pvq_Vector_j2 n1 k1 i1 true K0
      (fun (n3 : Int) (k3 : Int) (i3 : Int) =>
      pvq_Vector_j3 n3 k3 i3 K1))
    (Br (decide (i1 < (0 : Int)))
      (pvq_Vector_j2 n1 k1 i1 true K0
        (fun (n4 : Int) (k4 : Int) (i4 : Int) =>
        pvq_Vector_j3 n4 k4 i4 K1))
      (pvq_Count n1 k1
        (fun (r1 : Int) =>
        pvq_Vector_j2 n1 k1 i1 (decide (r1 ≤ i1)) K0
          (fun (n5 : Int) (k5 : Int) (i5 : Int) =>
          pvq_Vector_j3 n5 k5 i5 K1))))

noncomputable def pvq_Vector : Int → Int → Int → (Bool → Prop) → (Bool → (List Int) → Prop) → Prop := Classical.choose (⟨pvq_Vector_u, rfl⟩ : ∃ q, q = pvq_Vector_u)

theorem pvq_Vector_def (n1 : Int) (k1 : Int) (i1 : Int) (K0 : (Bool → Prop)) (K1 : (Bool → (List Int) → Prop)) : pvq_Vector n1 k1 i1 K0 K1 =
  (Br (decide (n1 < (1 : Int)))
    (pvq_Vector_j2 n1 k1 i1 true K0
      (fun (n3 : Int) (k3 : Int) (i3 : Int) =>
      pvq_Vector_j3 n3 k3 i3 K1))
    (Br (decide (i1 < (0 : Int)))
      (pvq_Vector_j2 n1 k1 i1 true K0
        (fun (n4 : Int) (k4 : Int) (i4 : Int) =>
        pvq_Vector_j3 n4 k4 i4 K1))
      (pvq_Count n1 k1
        (fun (r1 : Int) =>
        pvq_Vector_j2 n1 k1 i1 (decide (r1 ≤ i1)) K0
          (fun (n5 : Int) (k5 : Int) (i5 : Int) =>
          pvq_Vector_j3 n5 k5 i5 K1))))) := by
  have e : pvq_Vector = pvq_Vector_u := Classical.choose_spec (⟨pvq_Vector_u, rfl⟩ : ∃ q, q = pvq_Vector_u)
  show pvq_Vector n1 k1 i1 K0 K1 = pvq_Vector_u n1 k1 i1 K0 K1
  rw [e]

/- splicer/splicerref16.far (53) -/
def R16_far_u (x1 : Int) (K0 : (Int → Prop)) : Prop :=
  Br (decide (x1 < (-24 : Int)))
    (K0 25)
    (Br (decide ((24 : Int) < x1))
      (K0 25)
      (K0 (imax x1 (isub .i64 0 x1))))

noncomputable def R16_far : Int → (Int → Prop) → Prop := Classical.choose (⟨R16_far_u, rfl⟩ : ∃ q, q = R16_far_u)

theorem R16_far_def (x1 : Int) (K0 : (Int → Prop)) : R16_far x1 K0 =
  (Br (decide (x1 < (-24 : Int)))
    (K0 25)
    (Br (decide ((24 : Int) < x1))
      (K0 25)
      (K0 (imax x1 (isub .i64 0 x1))))) := by
  have e : R16_far = R16_far_u := Classical.choose_spec (⟨R16_far_u, rfl⟩ : ∃ q, q = R16_far_u)
  show R16_far x1 K0 = R16_far_u x1 K0
  rw [e]

/- loop of splicer/splicerref16.Less, region 2 -/
def R16_Less_l2 : Nat → (List Int) → (List Int) → Int → (Bool → Prop) → (Prop) → Prop
  | 0, _, _, _, _, _ => False
  | k + 1, a2, b2, i1, K0, K1 => Br (decide (i1 < (a2.length : Int)))
      (Br (decide (i1 < (b2.length : Int)))
        (Br ((decide ((0 : Int) ≤ i1)) && (decide (i1 < (((List.length a2) : Nat) : Int))))
          (Br ((decide ((0 : Int) ≤ i1)) && (decide (i1 < (((List.length b2) : Nat) : Int))))
            (Br (decide ((List.getD a2 (Int.toNat i1) 0) = (List.getD b2 (Int.toNat i1) 0)))
              (R16_Less_l2 k a2 b2 (iadd .i64 i1 1) K0 K1)
              (Br ((decide ((0 : Int) ≤ i1)) && (decide (i1 < (((List.length a2) : Nat) : Int))))
                (R16_far (List.getD a2 (Int.toNat i1) 0)
                  (fun (r1 : Int) =>
                  Br ((decide ((0 : Int) ≤ i1)) && (decide (i1 < (((List.length b2) : Nat) : Int))))
                    (R16_far (List.getD b2 (Int.toNat i1) 0)
                      (fun (r2 : Int) =>
                      Br (!(decide (r1 = r2)))
                        (Br ((decide ((0 : Int) ≤ i1)) && (decide (i1 < (((List.length a2) : Nat) : Int))))
                          (R16_far (List.getD a2 (Int.toNat i1) 0)
                            (fun (r3 : Int) =>
                            Br ((decide ((0 : Int) ≤ i1)) && (decide (i1 < (((List.length b2) : Nat) : Int))))
                              (R16_far (List.getD b2 (Int.toNat i1) 0)
                                (fun (r4 : Int) =>
                                K0 (decide (r3 < r4))))
                              (False)))
                          (False))
                        (Br ((decide ((0 : Int) ≤ i1)) && (decide (i1 < (((List.length a2) : Nat) : Int))))
                          (Br ((decide ((0 : Int) ≤ i1)) && (decide (i1 < (((List.length b2) : Nat) : Int))))
                            (K0 (decide ((List.getD b2 (Int.toNat i1) 0) < (List.getD a2 (Int.toNat i1) 0))))
                            (False))
                          (False))))
                    (False)))
                (False)))
            (False))
          (False))
        (K1))
      (K1)

/- splicer/splicerref16.Less (41) -/
def R16_Less_u (a1 : (List Int)) (b1 : (List Int)) (K0 : (Bool → Prop)) : Prop :=
  ∃ q, R16_Less_l2 q a1 b1 0 K0
    (K0 false)

noncomputable def R16_Less : (List Int) → (List Int) → (Bool → Prop) → Prop := Classical.choose (⟨R16_Less_u, rfl⟩ : ∃ q, q = R16_Less_u)

theorem R16_Less_def (a1 : (List Int)) (b1 : (List Int)) (K0 : (Bool → Prop)) : R16_Less a1 b1 K0 =
  (∃ q, R16_Less_l2 q a1 b1 0 K0
    (K0 false)) := by
  have e : R16_Less = R16_Less_u := Classical.choose_spec (⟨R16_Less_u, rfl⟩ : ∃ q, q = R16_Less_u)
  show R16_Less a1 b1 K0 = R16_Less_u a1 b1 K0
  rw [e]

/- join of splicer/pvq.Size, region 2 -/
def pvq_Size_j2 (x2 : (List Int)) (v5 : Bool) (K0 : (Int → Bool → Prop)) (K1 : ((List Int) → Prop)) : Prop :=
  Br v5
    (K0 0 false)
    (K1 x2)

/- join of splicer/pvq.Size, region 8 -/
def pvq_Size_j8 (k2 : Int) (v18 : Int) (v19 : (List Int)) (v20 : Int) (v21 : Int) (v22 : Bool) (K0 : (Int → Bool → Prop)) (K1 : (Int → Int → (List Int) → Int → Int → Prop)) : Prop :=
  Br v22
    (K0 0 false)
    (K1 k2 v18 v19 v20 v21)

/- join of splicer/pvq.Size, region 9 -/
def pvq_Size_j9 (k5 : Int) (v35 : Int) (v36 : (List Int)) (v37 : Int) (v38 : Int) (K0 : (Int → (List Int) → Int → Int → Prop)) : Prop :=
  num_Abs v35
    (fun (r1 : Int) =>
    K0 (iadd .i64 k5 r1) v36 v37 v38)

/- loop of splicer/pvq.Size, region 5 -/
def pvq_Size_l5 : Nat → Int → (List Int) → Int → Int → (Int → Bool → Prop) → (Int → Prop) → Prop
  | 0, _, _, _, _, _, _ => False
  | k + 1, k1, v11, v12, v13, K0, K1 => Br (decide (v13 < v12))
      (Br ((decide ((0 : Int) ≤ v13)) && (decide (v13 < (((List.length v11) : Nat) : Int))))
        (let v15 : Int := (List.getD v11 (Int.toNat v13) 0)
        Br (decide (v15 < (-24 : Int)))
          (pvq_Size_j8 k1 v15 v11 v12 v13 true K0
            (fun (k3 : Int) (v25 : Int) (v26 : (List Int)) (v27 : Int) (v28 : Int) =>
            pvq_Size_j9 k3 v25 v26 v27 v28
              (fun (k6 : Int) (v40 : (List Int)) (v41 : Int) (v42 : Int) =>
              pvq_Size_l5 k k6 v40 v41 (iadd .i64 v42 1) K0 K1)))
          (pvq_Size_j8 k1 v15 v11 v12 v13 (decide ((24 : Int) < v15)) K0
            (fun (k4 : Int) (v31 : Int) (v32 : (List Int)) (v33 : Int) (v34 : Int) =>
            pvq_Size_j9 k4 v31 v32 v33 v34
              (fun (k7 : Int) (v43 : (List Int)) (v44 : Int) (v45 : Int) =>
              pvq_Size_l5 k k7 v43 v44 (iadd .i64 v45 1) K0 K1))))
        (False))
      (K1 k1)

/- join of splicer/pvq.Size, region 3 -/
def pvq_Size_j3 (x5 : (List Int)) (K0 : (Int → Bool → Prop)) : Prop :=
  ∃ q, pvq_Size_l5 q 0 x5 (x5.length : Int) 0 K0
    (fun (k8 : Int) =>
    Br (decide ((24 : Int) < k8))
      (K0 0 false)
      (K0 k8 true))

/- splicer/pvq.Size (33) -/
def pvq_Size_u (x1 : (List Int)) (K0 : (Int → Bool → Prop)) : Prop :=
  Br (decide ((x1.length : Int) = (0 : Int)))
    (pvq_Size_j2 x1 true K0
      (fun (x3 : (List Int)) =>
      pvq_Size_j3 x3 K0))
    (pvq_Size_j2 x1 (decide ((8 : Int) < (x1.length : Int))) K0
      (fun (x4 : (List Int)) =>
      pvq_Size_j3 x4 K0))

noncomputable def pvq_Size : (List Int) → (Int → Bool → Prop) → Prop := Classical.choose (⟨pvq_Size_u, rfl⟩ : ∃ q, q = pvq_Size_u)

theorem pvq_Size_def (x1 : (List Int)) (K0 : (Int → Bool → Prop)) : pvq_Size x1 K0 =
  (Br (decide ((x1.length : Int) = (0 : Int)))
    (pvq_Size_j2 x1 true K0
      (fun (x3 : (List Int)) =>
      pvq_Size_j3 x3 K0))
    (pvq_Size_j2 x1 (decide ((8 : Int) < (x1.length : Int))) K0
      (fun (x4 : (List Int)) =>
      pvq_Size_j3 x4 K0))) := by
  have e : pvq_Size = pvq_Size_u := Classical.choose_spec (⟨pvq_Size_u, rfl⟩ : ∃ q, q = pvq_Size_u)
  show pvq_Size x1 K0 = pvq_Size_u x1 K0
  rw [e]

/- loop of splicer/pvq.Index, region 14 -/
def pvq_Index_l14 : Nat → (List Int) → Int → (List (List Int)) → Int → Int → (List Int) → Int → Int → (List Int) → Int → Int → ((List Int) → Int → (List (List Int)) → Int → Int → (List Int) → Int → (List Int) → Int → Int → Prop) → Prop
  | 0, _, _, _, _, _, _, _, _, _, _, _, _ => False
  | k + 1, x4, k3, t3, i3, v19, rest2, m2, j1, v20, v21, v22, K0 => Br (decide (j1 < m2))
      (let v24 : Int := (isub .i64 k3 j1)
      Br ((decide ((0 : Int) ≤ v24)) && (decide (v24 < (25 : Int))))
        (pvq_Index_l14 k x4 k3 t3 (iadd .i64 i3 (imul .i64 2 (List.getD rest2 (Int.toNat v24) 0))) v19 rest2 m2 (iadd .i64 j1 1) v20 v21 v22 K0)
        (False))
      (K0 x4 k3 t3 i3 v19 rest2 m2 v20 v21 v22)

/- join of splicer/pvq.Index, region 13 -/
def pvq_Index_j13 (x3 : (List Int)) (k2 : Int) (t2 : (List (List Int))) (i2 : Int) (v15 : Int) (rest1 : (List Int)) (m1 : Int) (v16 : (List Int)) (v17 : Int) (v18 : Int) (K0 : ((List Int) → Int → (List (List Int)) → Int → (List Int) → Int → Int → Prop)) : Prop :=
  ∃ q, pvq_Index_l14 q x3 k2 t2 i2 v15 rest1 m1 1 v16 v17 v18
    (fun (x5 : (List Int)) (k4 : Int) (t4 : (List (List Int))) (i4 : Int) (v29 : Int) (rest3 : (List Int)) (m3 : Int) (v30 : (List Int)) (v31 : Int) (v32 : Int) =>
    let v33 : Int := (isub .i64 k4 m3)
    Br (decide (v29 < (0 : Int)))
      (Br ((decide ((0 : Int) ≤ v33)) && (decide (v33 < (25 : Int))))
        (K0 x5 v33 t4 (iadd .i64 i4 (List.getD rest3 (Int.toNat v33) 0)) v30 v31 v32)
        (False))
      (K0 x5 v33 t4 i4 v30 v31 v32))

/- loop of splicer/pvq.Index, region 7 -/
def pvq_Index_l7 : Nat → (List Int) → Int → (List (List Int)) → Int → (List Int) → Int → Int → (Int → Prop) → Prop
  | 0, _, _, _, _, _, _, _, _ => False
  | k + 1, x2, k1, t1, i1, v3, v4, v5, K0 => Br (decide (v5 < v4))
      (Br ((decide ((0 : Int) ≤ v5)) && (decide (v5 < (((List.length v3) : Nat) : Int))))
        (let v7 : Int := (List.getD v3 (Int.toNat v5) 0)
        let v10 : Int := (isub .i64 (isub .i64 (x2.length : Int) 1) v5)
        Br ((decide ((0 : Int) ≤ v10)) && (decide (v10 < (9 : Int))))
          (let v11 : (List Int) := (List.getD t1 (Int.toNat v10) (List.replicate 25 0))
          num_Abs v7
            (fun (r4 : Int) =>
            Br (decide ((0 : Int) < r4))
              (Br ((decide ((0 : Int) ≤ k1)) && (decide (k1 < (25 : Int))))
                (pvq_Index_j13 x2 k1 t1 (iadd .i64 i1 (List.getD v11 (Int.toNat k1) 0)) v7 v11 r4 v3 v4 v5
                  (fun (x6 : (List Int)) (k5 : Int) (t5 : (List (List Int))) (i5 : Int) (v37 : (List Int)) (v38 : Int) (v39 : Int) =>
                  pvq_Index_l7 k x6 k5 t5 i5 v37 v38 (iadd .i64 v39 1) K0))
                (False))
              (pvq_Index_j13 x2 k1 t1 i1 v7 v11 r4 v3 v4 v5
                (fun (x7 : (List Int)) (k6 : Int) (t6 : (List (List Int))) (i6 : Int) (v40 : (List Int)) (v41 : Int) (v42 : Int) =>
                pvq_Index_l7 k x7 k6 t6 i6 v40 v41 (iadd .i64 v42 1) K0))))
          (False))
        (False))
      (K0 i1)

/- splicer/pvq.Index (37) -/
def pvq_Index_u (x1 : (List Int)) (K0 : (Int → Bool → Prop)) : Prop :=
  pvq_Size x1
    (fun (r1 : Int) (r2 : Bool) =>
    Br (!r2)
      (K0 0 false)
      (pvq_made
        (fun (r3 : (List (List Int))) =>
        ∃ q, pvq_Index_l7 q x1 r1 r3 0 x1 (x1.length : Int) 0
          (fun (i7 : Int) =>
          K0 i7 true))))

noncomputable def pvq_Index : (List Int) → (Int → Bool → Prop) → Prop := Classical.choose (⟨pvq_Index_u, rfl⟩ : ∃ q, q = pvq_Index_u)

theorem pvq_Index_def (x1 : (List Int)) (K0 : (Int → Bool → Prop)) : pvq_Index x1 K0 =
  (pvq_Size x1
    (fun (r1 : Int) (r2 : Bool) =>
    Br (!r2)
      (K0 0 false)
      (pvq_made
        (fun (r3 : (List (List Int))) =>
        ∃ q, pvq_Index_l7 q x1 r1 r3 0 x1 (x1.length : Int) 0
          (fun (i7 : Int) =>
          K0 i7 true))))) := by
  have e : pvq_Index = pvq_Index_u := Classical.choose_spec (⟨pvq_Index_u, rfl⟩ : ∃ q, q = pvq_Index_u)
  show pvq_Index x1 K0 = pvq_Index_u x1 K0
  rw [e]

/- loop of splicer/splicerref01.Same, region 4 -/
def R01_Same_l4 : Nat → (List Int) → (List Int) → Int → (Bool → Prop) → (Prop) → Prop
  | 0, _, _, _, _, _ => False
  | k + 1, a2, b2, i1, K0, K1 => Br (decide (i1 < (a2.length : Int)))
      (Br ((decide ((0 : Int) ≤ i1)) && (decide (i1 < (((List.length a2) : Nat) : Int))))
        (Br ((decide ((0 : Int) ≤ i1)) && (decide (i1 < (((List.length b2) : Nat) : Int))))
          (Br (!(decide ((List.getD a2 (Int.toNat i1) 0) = (List.getD b2 (Int.toNat i1) 0))))
            (K0 false)
            (R01_Same_l4 k a2 b2 (iadd .i64 i1 1) K0 K1))
          (False))
        (False))
      (K1)

/- splicer/splicerref01.Same (29) -/
def R01_Same_u (a1 : (List Int)) (b1 : (List Int)) (K0 : (Bool → Prop)) : Prop :=
  Br (!(decide ((a1.length : Int) = (b1.length : Int))))
    (K0 false)
    (∃ q, R01_Same_l4 q a1 b1 0 K0
      (K0 true))

noncomputable def R01_Same : (List Int) → (List Int) → (Bool → Prop) → Prop := Classical.choose (⟨R01_Same_u, rfl⟩ : ∃ q, q = R01_Same_u)

theorem R01_Same_def (a1 : (List Int)) (b1 : (List Int)) (K0 : (Bool → Prop)) : R01_Same a1 b1 K0 =
  (Br (!(decide ((a1.length : Int) = (b1.length : Int))))
    (K0 false)
    (∃ q, R01_Same_l4 q a1 b1 0 K0
      (K0 true))) := by
  have e : R01_Same = R01_Same_u := Classical.choose_spec (⟨R01_Same_u, rfl⟩ : ∃ q, q = R01_Same_u)
  show R01_Same a1 b1 K0 = R01_Same_u a1 b1 K0
  rw [e]

/- join of splicer/splicerlaw16.awake, region 4 -/
def L16_awake_j4 (p2 : Bool) (i1 : Int) (q1 : Bool) (r9 : Bool) (m3 : (List Int)) (K0 : (Bool → Prop)) : Prop :=
  pvq_Count 2 1
    (fun (r10 : Int) =>
    Br (decide (r10 = (4 : Int)))
      (Br p2
        (R01_Same m3 [0, (-1)]
          (fun (r11 : Bool) =>
          Br r11
            (Br q1
              (Br (decide (i1 = (3 : Int)))
                (K0 (!r9))
                (K0 false))
              (K0 false))
            (K0 false)))
        (K0 false))
      (K0 false))

/- join of splicer/splicerlaw16.awake, region 2 -/
def L16_awake_j2 (p1 : Bool) (m1 : (List Int)) (K0 : (Bool → Prop)) : Prop :=
  pvq_Index [(-1), 0]
    (fun (r4 : Int) (r5 : Bool) =>
    pvq_Vector 2 1 4
      (fun (r6 : Bool) =>
      L16_awake_j4 p1 r4 r5 r6 m1 K0)
      (fun (r7 : Bool) (r8 : (List Int)) =>
      L16_awake_j4 p1 r4 r5 r7 m1 K0))

/- splicer/splicerlaw16.awake (32) -/
def L16_awake_u  (K0 : (Bool → Prop)) : Prop :=
  pvq_Vector 2 1 1
    (fun (r1 : Bool) =>
    L16_awake_j2 r1 [] K0)
    (fun (r2 : Bool) (r3 : (List Int)) =>
    L16_awake_j2 r2 r3 K0)

noncomputable def L16_awake : (Bool → Prop) → Prop := Classical.choose (⟨L16_awake_u, rfl⟩ : ∃ q, q = L16_awake_u)

theorem L16_awake_def  (K0 : (Bool → Prop)) : L16_awake K0 =
  (pvq_Vector 2 1 1
    (fun (r1 : Bool) =>
    L16_awake_j2 r1 [] K0)
    (fun (r2 : Bool) (r3 : (List Int)) =>
    L16_awake_j2 r2 r3 K0)) := by
  have e : L16_awake = L16_awake_u := Classical.choose_spec (⟨L16_awake_u, rfl⟩ : ∃ q, q = L16_awake_u)
  show L16_awake K0 = L16_awake_u K0
  rw [e]

/- join of splicer/splicerlaw16.PvqOrder, region 7 -/
def L16_PvqOrder_j7 (i3 : Int) (j3 : Int) (w2 : Int) (all2 : Int) (p2 : Bool) (q1 : Bool) (m3 : (List Int)) (m4 : (List Int)) (K0 : (Bool → Prop)) : Prop :=
  Br p2
    (Br q1
      (Br (decide ((m3.length : Int) = w2))
        (Br (decide ((m4.length : Int) = w2))
          (R16_Less m3 m4
            (fun (r8 : Bool) =>
            Br (decide (all2 = (0 : Int)))
              (False)
              (Br (decide (all2 = (0 : Int)))
                (False)
                (Br (r8 == (decide ((irem .i64 (Go.IntKind.wrap .i64 i3) all2) < (irem .i64 (Go.IntKind.wrap .i64 j3) all2))))
                  (L16_awake K0)
                  (K0 false)))))
          (K0 false))
        (K0 false))
      (K0 false))
    (K0 false)

/- join of splicer/splicerlaw16.PvqOrder, region 6 -/
def L16_PvqOrder_j6 (i2 : Int) (j2 : Int) (w1 : Int) (m1 : Int) (all1 : Int) (p1 : Bool) (m2 : (List Int)) (K0 : (Bool → Prop)) : Prop :=
  Br (decide (all1 = (0 : Int)))
    (False)
    (pvq_Vector w1 m1 (irem .i64 (Go.IntKind.wrap .i64 j2) all1)
      (fun (r5 : Bool) =>
      L16_PvqOrder_j7 i2 j2 w1 all1 p1 r5 m2 [] K0)
      (fun (r6 : Bool) (r7 : (List Int)) =>
      L16_PvqOrder_j7 i2 j2 w1 all1 p1 r6 m2 r7 K0))

/- splicer/splicerlaw16.PvqOrder (10) -/
def L16_PvqOrder_u (n1 : Int) (k1 : Int) (i1 : Int) (j1 : Int) (K0 : (Bool → Prop)) : Prop :=
  let v3 : Int := (iadd .i64 1 (irem .i64 (Go.IntKind.wrap .i64 n1) 8))
  let v5 : Int := (irem .i64 (Go.IntKind.wrap .i64 k1) 25)
  pvq_Count v3 v5
    (fun (r1 : Int) =>
    Br (decide (r1 < (1 : Int)))
      (K0 false)
      (Br (decide (r1 = (0 : Int)))
        (False)
        (pvq_Vector v3 v5 (irem .i64 (Go.IntKind.wrap .i64 i1) r1)
          (fun (r2 : Bool) =>
          L16_PvqOrder_j6 i1 j1 v3 v5 r1 r2 [] K0)
          (fun (r3 : Bool) (r4 : (List Int)) =>
          L16_PvqOrder_j6 i1 j1 v3 v5 r1 r3 r4 K0))))

noncomputable def L16_PvqOrder : Int → Int → Int → Int → (Bool → Prop) → Prop := Classical.choose (⟨L16_PvqOrder_u, rfl⟩ : ∃ q, q = L16_PvqOrder_u)

theorem L16_PvqOrder_def (n1 : Int) (k1 : Int) (i1 : Int) (j1 : Int) (K0 : (Bool → Prop)) : L16_PvqOrder n1 k1 i1 j1 K0 =
  (let v3 : Int := (iadd .i64 1 (irem .i64 (Go.IntKind.wrap .i64 n1) 8))
  let v5 : Int := (irem .i64 (Go.IntKind.wrap .i64 k1) 25)
  pvq_Count v3 v5
    (fun (r1 : Int) =>
    Br (decide (r1 < (1 : Int)))
      (K0 false)
      (Br (decide (r1 = (0 : Int)))
        (False)
        (pvq_Vector v3 v5 (irem .i64 (Go.IntKind.wrap .i64 i1) r1)
          (fun (r2 : Bool) =>
          L16_PvqOrder_j6 i1 j1 v3 v5 r1 r2 [] K0)
          (fun (r3 : Bool) (r4 : (List Int)) =>
          L16_PvqOrder_j6 i1 j1 v3 v5 r1 r3 r4 K0))))) := by
  have e : L16_PvqOrder = L16_PvqOrder_u := Classical.choose_spec (⟨L16_PvqOrder_u, rfl⟩ : ∃ q, q = L16_PvqOrder_u)
  show L16_PvqOrder n1 k1 i1 j1 K0 = L16_PvqOrder_u n1 k1 i1 j1 K0
  rw [e]

end Go.Eng.A
