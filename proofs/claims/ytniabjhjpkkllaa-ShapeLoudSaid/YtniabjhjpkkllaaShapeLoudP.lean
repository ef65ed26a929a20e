/- The functions that ShapeLoud reaches, as plain ones: printed by program. -/
import Derived.Test.YtniabjhjpkkllaaEngA
set_option linter.unusedVariables false
set_option maxRecDepth 100000
namespace Go.Eng.A
open Go Go.Eng

/- splicer/splicerref16.far (62) -/
def R16_far_u (x1 : Int) (K0 : (Int → Prop)) : Prop :=
  Br (decide (x1 < (-24 : Int)))
    (K0 25)
    (Br (decide ((24 : Int) < x1))
      (K0 25)
      (K0 (imax x1 (isub .i64 0 x1))))

noncomputable def R16_far : Int → (Int → Prop) → Prop := Classical.choose (⟨R16_far_u, rfl⟩ : ∃ q, q = R16_far_u)

theorem R16_far_def (x1 : Int) (K0 : (Int → Prop)) : R16_far x1 K0 =
  (Br (decide (x1 < (-24 : Int)))
    (K0 25)
    (Br (decide ((24 : Int) < x1))
      (K0 25)
      (K0 (imax x1 (isub .i64 0 x1))))) := by
  have e : R16_far = R16_far_u := Classical.choose_spec (⟨R16_far_u, rfl⟩ : ∃ q, q = R16_far_u)
  show R16_far x1 K0 = R16_far_u x1 K0
  rw [e]

/- join of splicer/splicerref16.Size, region 2 -/
def R16_Size_j2 (x2 : (List Int)) (v5 : Bool) (K0 : (Int → Bool → Prop)) (K1 : ((List Int) → Prop)) : Prop :=
  Br v5
    (K0 0 false)
    (K1 x2)

/- loop of splicer/splicerref16.Size, region 5 -/
def R16_Size_l5 : Nat → (List Int) → Int → Int → (Int → Prop) → Prop
  | 0, _, _, _, _ => False
  | k + 1, x6, k1, i1, K0 => Br (decide (i1 < (x6.length : Int)))
      (Br ((decide ((0 : Int) ≤ i1)) && (decide (i1 < (((List.length x6) : Nat) : Int))))
        (R16_far (List.getD x6 (Int.toNat i1) 0)
          (fun (r1 : Int) =>
          R16_Size_l5 k x6 (iadd .i64 k1 r1) (iadd .i64 i1 1) K0))
        (False))
      (K0 k1)

/- join of splicer/splicerref16.Size, region 3 -/
def R16_Size_j3 (x5 : (List Int)) (K0 : (Int → Bool → Prop)) : Prop :=
  ∃ q, R16_Size_l5 q x5 0 0
    (fun (k2 : Int) =>
    Br (decide ((24 : Int) < k2))
      (K0 0 false)
      (K0 k2 true))

/- splicer/splicerref16.Size (29) -/
def R16_Size_u (x1 : (List Int)) (K0 : (Int → Bool → Prop)) : Prop :=
  Br (decide ((x1.length : Int) < (1 : Int)))
    (R16_Size_j2 x1 true K0
      (fun (x3 : (List Int)) =>
      R16_Size_j3 x3 K0))
    (R16_Size_j2 x1 (decide ((8 : Int) < (x1.length : Int))) K0
      (fun (x4 : (List Int)) =>
      R16_Size_j3 x4 K0))

noncomputable def R16_Size : (List Int) → (Int → Bool → Prop) → Prop := Classical.choose (⟨R16_Size_u, rfl⟩ : ∃ q, q = R16_Size_u)

theorem R16_Size_def (x1 : (List Int)) (K0 : (Int → Bool → Prop)) : R16_Size x1 K0 =
  (Br (decide ((x1.length : Int) < (1 : Int)))
    (R16_Size_j2 x1 true K0
      (fun (x3 : (List Int)) =>
      R16_Size_j3 x3 K0))
    (R16_Size_j2 x1 (decide ((8 : Int) < (x1.length : Int))) K0
      (fun (x4 : (List Int)) =>
      R16_Size_j3 x4 K0))) := by
  have e : R16_Size = R16_Size_u := Classical.choose_spec (⟨R16_Size_u, rfl⟩ : ∃ q, q = R16_Size_u)
  show R16_Size x1 K0 = R16_Size_u x1 K0
  rw [e]

/- loop of splicer/num.within, region 2 -/
def num_within_l2 : Nat → Int → (List Int) → Int → Int → (Bool → Prop) → (Prop) → Prop
  | 0, _, _, _, _, _, _ => False
  | k + 1, most2, v2, v3, v4, K0, K1 => Br (decide (v4 < v3))
      (Br ((decide ((0 : Int) ≤ v4)) && (decide (v4 < (((List.length v2) : Nat) : Int))))
        (let v6 : Int := (List.getD v2 (Int.toNat v4) 0)
        Br (decide (v6 < (isub .i64 0 most2)))
          (K0 false)
          (Br (decide (most2 < v6))
            (K0 false)
            (num_within_l2 k most2 v2 v3 (iadd .i64 v4 1) K0 K1)))
        (False))
      (K1)

/- splicer/num.within (90) -/
def num_within_u (most1 : Int) (l1 : (List Int)) (K0 : (Bool → Prop)) : Prop :=
  ∃ q, num_within_l2 q most1 l1 (l1.length : Int) 0 K0
    (K0 true)

noncomputable def num_within : Int → (List Int) → (Bool → Prop) → Prop := Classical.choose (⟨num_within_u, rfl⟩ : ∃ q, q = num_within_u)

theorem num_within_def (most1 : Int) (l1 : (List Int)) (K0 : (Bool → Prop)) : num_within most1 l1 K0 =
  (∃ q, num_within_l2 q most1 l1 (l1.length : Int) 0 K0
    (K0 true)) := by
  have e : num_within = num_within_u := Classical.choose_spec (⟨num_within_u, rfl⟩ : ∃ q, q = num_within_u)
  show num_within most1 l1 K0 = num_within_u most1 l1 K0
  rw [e]

/- splicer/num.Abs (56) -/
def num_Abs_u (x1 : Int) (K0 : (Int → Prop)) : Prop :=
  num_within 4611686018427387904 [x1]
    (fun (r1 : Bool) =>
    Br (!r1)
      (K0 0)
      (Br (decide (x1 < (0 : Int)))
        (K0 (isub .i64 0 x1))
        (K0 x1)))

noncomputable def num_Abs : Int → (Int → Prop) → Prop := Classical.choose (⟨num_Abs_u, rfl⟩ : ∃ q, q = num_Abs_u)

theorem num_Abs_def (x1 : Int) (K0 : (Int → Prop)) : num_Abs x1 K0 =
  (num_within 4611686018427387904 [x1]
    (fun (r1 : Bool) =>
    Br (!r1)
      (K0 0)
      (Br (decide (x1 < (0 : Int)))
        (K0 (isub .i64 0 x1))
        (K0 x1)))) := by
  have e : num_Abs = num_Abs_u := Classical.choose_spec (⟨num_Abs_u, rfl⟩ : ∃ q, q = num_Abs_u)
  show num_Abs x1 K0 = num_Abs_u x1 K0
  rw [e]

/- join of splicer/pvq.Size, region 2 -/
def pvq_Size_j2 (x2 : (List Int)) (v5 : Bool) (K0 : (Int → Bool → Prop)) (K1 : ((List Int) → Prop)) : Prop :=
  Br v5
    (K0 0 false)
    (K1 x2)

/- join of splicer/pvq.Size, region 8 -/
def pvq_Size_j8 (k2 : Int) (v18 : Int) (v19 : (List Int)) (v20 : Int) (v21 : Int) (v22 : Bool) (K0 : (Int → Bool → Prop)) (K1 : (Int → Int → (List Int) → Int → Int → Prop)) : Prop :=
  Br v22
    (K0 0 false)
    (K1 k2 v18 v19 v20 v21)

/- join of splicer/pvq.Size, region 9 -/
def pvq_Size_j9 (k5 : Int) (v35 : Int) (v36 : (List Int)) (v37 : Int) (v38 : Int) (K0 : (Int → (List Int) → Int → Int → Prop)) : Prop :=
  num_Abs v35
    (fun (r1 : Int) =>
    K0 (iadd .i64 k5 r1) v36 v37 v38)

/- loop of splicer/pvq.Size, region 5 -/
def pvq_Size_l5 : Nat → Int → (List Int) → Int → Int → (Int → Bool → Prop) → (Int → Prop) → Prop
  | 0, _, _, _, _, _, _ => False
  | k + 1, k1, v11, v12, v13, K0, K1 => Br (decide (v13 < v12))
      (Br ((decide ((0 : Int) ≤ v13)) && (decide (v13 < (((List.length v11) : Nat) : Int))))
        (let v15 : Int := (List.getD v11 (Int.toNat v13) 0)
        Br (decide (v15 < (-24 : Int)))
          (pvq_Size_j8 k1 v15 v11 v12 v13 true K0
            (fun (k3 : Int) (v25 : Int) (v26 : (List Int)) (v27 : Int) (v28 : Int) =>
            pvq_Size_j9 k3 v25 v26 v27 v28
              (fun (k6 : Int) (v40 : (List Int)) (v41 : Int) (v42 : Int) =>
              pvq_Size_l5 k k6 v40 v41 (iadd .i64 v42 1) K0 K1)))
          (pvq_Size_j8 k1 v15 v11 v12 v13 (decide ((24 : Int) < v15)) K0
            (fun (k4 : Int) (v31 : Int) (v32 : (List Int)) (v33 : Int) (v34 : Int) =>
            pvq_Size_j9 k4 v31 v32 v33 v34
              (fun (k7 : Int) (v43 : (List Int)) (v44 : Int) (v45 : Int) =>
              pvq_Size_l5 k k7 v43 v44 (iadd .i64 v45 1) K0 K1))))
        (False))
      (K1 k1)

/- join of splicer/pvq.Size, region 3 -/
def pvq_Size_j3 (x5 : (List Int)) (K0 : (Int → Bool → Prop)) : Prop :=
  ∃ q, pvq_Size_l5 q 0 x5 (x5.length : Int) 0 K0
    (fun (k8 : Int) =>
    Br (decide ((24 : Int) < k8))
      (K0 0 false)
      (K0 k8 true))

/- splicer/pvq.Size (51) -/
def pvq_Size_u (x1 : (List Int)) (K0 : (Int → Bool → Prop)) : Prop :=
  Br (decide ((x1.length : Int) = (0 : Int)))
    (pvq_Size_j2 x1 true K0
      (fun (x3 : (List Int)) =>
      pvq_Size_j3 x3 K0))
    (pvq_Size_j2 x1 (decide ((8 : Int) < (x1.length : Int))) K0
      (fun (x4 : (List Int)) =>
      pvq_Size_j3 x4 K0))

noncomputable def pvq_Size : (List Int) → (Int → Bool → Prop) → Prop := Classical.choose (⟨pvq_Size_u, rfl⟩ : ∃ q, q = pvq_Size_u)

theorem pvq_Size_def (x1 : (List Int)) (K0 : (Int → Bool → Prop)) : pvq_Size x1 K0 =
  (Br (decide ((x1.length : Int) = (0 : Int)))
    (pvq_Size_j2 x1 true K0
      (fun (x3 : (List Int)) =>
      pvq_Size_j3 x3 K0))
    (pvq_Size_j2 x1 (decide ((8 : Int) < (x1.length : Int))) K0
      (fun (x4 : (List Int)) =>
      pvq_Size_j3 x4 K0))) := by
  have e : pvq_Size = pvq_Size_u := Classical.choose_spec (⟨pvq_Size_u, rfl⟩ : ∃ q, q = pvq_Size_u)
  show pvq_Size x1 K0 = pvq_Size_u x1 K0
  rw [e]

/- splicer/level.steps (89) -/
def level_steps_u  (K0 : ((List Int) → Prop)) : Prop :=
  K0 [16777216, 19951585, 23726566, 28215802]

noncomputable def level_steps : ((List Int) → Prop) → Prop := Classical.choose (⟨level_steps_u, rfl⟩ : ∃ q, q = level_steps_u)

theorem level_steps_def  (K0 : ((List Int) → Prop)) : level_steps K0 =
  (K0 [16777216, 19951585, 23726566, 28215802]) := by
  have e : level_steps = level_steps_u := Classical.choose_spec (⟨level_steps_u, rfl⟩ : ∃ q, q = level_steps_u)
  show level_steps K0 = level_steps_u K0
  rw [e]

/- join of splicer/num.Shr, region 2 -/
def num_Shr_j2 (x2 : Int) (n2 : Int) (v4 : Bool) (K0 : (Int → Prop)) (K1 : (Int → Int → Prop)) : Prop :=
  Br v4
    (K0 0)
    (Br (decide (n2 = (0 : Int)))
      (K0 x2)
      (K1 x2 n2))

/- join of splicer/num.Shr, region 5 -/
def num_Shr_j5 (x6 : Int) (n6 : Int) (K0 : (Int → Prop)) : Prop :=
  let v9 : Int := (isub .i64 n6 1)
  Br (decide (v9 < (0 : Int)))
    (False)
    (Br (decide (n6 < (0 : Int)))
      (False)
      (K0 (ishr .i64 (iadd .i64 x6 (ishl .i64 1 v9)) n6)))

/- splicer/num.Shr (81) -/
def num_Shr_u (x1 : Int) (n1 : Int) (K0 : (Int → Prop)) : Prop :=
  Br (decide (n1 < (0 : Int)))
    (num_Shr_j2 x1 n1 true K0
      (fun (x3 : Int) (n3 : Int) =>
      num_Shr_j5 x3 n3 K0))
    (Br (decide ((60 : Int) < n1))
      (num_Shr_j2 x1 n1 true K0
        (fun (x4 : Int) (n4 : Int) =>
        num_Shr_j5 x4 n4 K0))
      (num_within 2305843009213693952 [x1]
        (fun (r1 : Bool) =>
        num_Shr_j2 x1 n1 (!r1) K0
          (fun (x5 : Int) (n5 : Int) =>
          num_Shr_j5 x5 n5 K0))))

noncomputable def num_Shr : Int → Int → (Int → Prop) → Prop := Classical.choose (⟨num_Shr_u, rfl⟩ : ∃ q, q = num_Shr_u)

theorem num_Shr_def (x1 : Int) (n1 : Int) (K0 : (Int → Prop)) : num_Shr x1 n1 K0 =
  (Br (decide (n1 < (0 : Int)))
    (num_Shr_j2 x1 n1 true K0
      (fun (x3 : Int) (n3 : Int) =>
      num_Shr_j5 x3 n3 K0))
    (Br (decide ((60 : Int) < n1))
      (num_Shr_j2 x1 n1 true K0
        (fun (x4 : Int) (n4 : Int) =>
        num_Shr_j5 x4 n4 K0))
      (num_within 2305843009213693952 [x1]
        (fun (r1 : Bool) =>
        num_Shr_j2 x1 n1 (!r1) K0
          (fun (x5 : Int) (n5 : Int) =>
          num_Shr_j5 x5 n5 K0))))) := by
  have e : num_Shr = num_Shr_u := Classical.choose_spec (⟨num_Shr_u, rfl⟩ : ∃ q, q = num_Shr_u)
  show num_Shr x1 n1 K0 = num_Shr_u x1 n1 K0
  rw [e]

/- splicer/level.Amp (52) -/
def level_Amp_u (c1 : Int) (f1 : Int) (K0 : (Int → Prop)) : Prop :=
  Br (decide (c1 < (1 : Int)))
    (K0 0)
    (Br (decide ((23 : Int) < c1))
      (K0 0)
      (Br (decide (f1 < (0 : Int)))
        (K0 0)
        (Br (decide ((3 : Int) < f1))
          (K0 0)
          (level_steps
            (fun (r1 : (List Int)) =>
            Br ((decide ((0 : Int) ≤ f1)) && (decide (f1 < (4 : Int))))
              (Br (decide ((Int.toNat f1) < (List.length r1)))
                (num_Shr (List.getD r1 (Int.toNat f1) 0) (isub .i64 24 c1) K0)
                (False))
              (False))))))

noncomputable def level_Amp : Int → Int → (Int → Prop) → Prop := Classical.choose (⟨level_Amp_u, rfl⟩ : ∃ q, q = level_Amp_u)

theorem level_Amp_def (c1 : Int) (f1 : Int) (K0 : (Int → Prop)) : level_Amp c1 f1 K0 =
  (Br (decide (c1 < (1 : Int)))
    (K0 0)
    (Br (decide ((23 : Int) < c1))
      (K0 0)
      (Br (decide (f1 < (0 : Int)))
        (K0 0)
        (Br (decide ((3 : Int) < f1))
          (K0 0)
          (level_steps
            (fun (r1 : (List Int)) =>
            Br ((decide ((0 : Int) ≤ f1)) && (decide (f1 < (4 : Int))))
              (Br (decide ((Int.toNat f1) < (List.length r1)))
                (num_Shr (List.getD r1 (Int.toNat f1) 0) (isub .i64 24 c1) K0)
                (False))
              (False))))))) := by
  have e : level_Amp = level_Amp_u := Classical.choose_spec (⟨level_Amp_u, rfl⟩ : ∃ q, q = level_Amp_u)
  show level_Amp c1 f1 K0 = level_Amp_u c1 f1 K0
  rw [e]

/- loop of splicer/shape.squares, region 3 -/
def shape_squares_l3 : Nat → Int → (List Int) → Int → Int → (Int → Prop) → Prop
  | 0, _, _, _, _, _ => False
  | k + 1, n1, v2, v3, v4, K0 => Br (decide (v4 < v3))
      (Br ((decide ((0 : Int) ≤ v4)) && (decide (v4 < (((List.length v2) : Nat) : Int))))
        (let v6 : Int := (List.getD v2 (Int.toNat v4) 0)
        shape_squares_l3 k (iadd .i64 n1 (imul .i64 v6 v6)) v2 v3 (iadd .i64 v4 1) K0)
        (False))
      (K0 n1)

/- splicer/shape.squares (54) -/
def shape_squares_u (l1 : (List Int)) (K0 : (Int → Prop)) : Prop :=
  ∃ q, shape_squares_l3 q 0 l1 (l1.length : Int) 0 K0

noncomputable def shape_squares : (List Int) → (Int → Prop) → Prop := Classical.choose (⟨shape_squares_u, rfl⟩ : ∃ q, q = shape_squares_u)

theorem shape_squares_def (l1 : (List Int)) (K0 : (Int → Prop)) : shape_squares l1 K0 =
  (∃ q, shape_squares_l3 q 0 l1 (l1.length : Int) 0 K0) := by
  have e : shape_squares = shape_squares_u := Classical.choose_spec (⟨shape_squares_u, rfl⟩ : ∃ q, q = shape_squares_u)
  show shape_squares l1 K0 = shape_squares_u l1 K0
  rw [e]

/- loop of splicer/root.Sqrt, region 5 -/
def root_Sqrt_l5 : Nat → Int → Int → Int → (Int → Prop) → Prop
  | 0, _, _, _, _ => False
  | k + 1, n2, r1, v3, K0 => Br (decide (v3 < (31 : Int)))
      (let v5 : Int := (isub .i64 30 v3)
      Br (decide (v5 < (0 : Int)))
        (False)
        (let v7 : Int := (ior .i64 r1 (ishl .i64 1 v5))
        Br (decide ((imul .i64 v7 v7) ≤ n2))
          (root_Sqrt_l5 k n2 v7 (iadd .i64 v3 1) K0)
          (root_Sqrt_l5 k n2 r1 (iadd .i64 v3 1) K0)))
      (K0 r1)

/- splicer/root.Sqrt (53) -/
def root_Sqrt_u (n1 : Int) (K0 : (Int → Prop)) : Prop :=
  Br (decide (n1 < (0 : Int)))
    (K0 0)
    (Br (decide ((1152921504606846976 : Int) < n1))
      (K0 0)
      (∃ q, root_Sqrt_l5 q n1 0 0 K0))

noncomputable def root_Sqrt : Int → (Int → Prop) → Prop := Classical.choose (⟨root_Sqrt_u, rfl⟩ : ∃ q, q = root_Sqrt_u)

theorem root_Sqrt_def (n1 : Int) (K0 : (Int → Prop)) : root_Sqrt n1 K0 =
  (Br (decide (n1 < (0 : Int)))
    (K0 0)
    (Br (decide ((1152921504606846976 : Int) < n1))
      (K0 0)
      (∃ q, root_Sqrt_l5 q n1 0 0 K0))) := by
  have e : root_Sqrt = root_Sqrt_u := Classical.choose_spec (⟨root_Sqrt_u, rfl⟩ : ∃ q, q = root_Sqrt_u)
  show root_Sqrt n1 K0 = root_Sqrt_u n1 K0
  rw [e]

/- join of splicer/num.Mod, region 7 -/
def num_Mod_j7 (a3 : Int) (b3 : Int) (left2 : Int) (v7 : Bool) (K0 : (Int → Int → Prop)) (K1 : (Int → Int → Int → Prop)) : Prop :=
  Br v7
    (Br (decide (b3 = (0 : Int)))
      (False)
      (K0 (isub .i64 (iquo .i64 a3 b3) 1) left2))
    (K1 a3 b3 left2)

/- join of splicer/num.Mod, region 8 -/
def num_Mod_j8 (a6 : Int) (b6 : Int) (left5 : Int) (K0 : (Int → Int → Prop)) : Prop :=
  Br (decide (b6 = (0 : Int)))
    (False)
    (K0 (iquo .i64 a6 b6) left5)

/- join of splicer/num.Mod, region 6 -/
def num_Mod_j6 (a2 : Int) (b2 : Int) (left1 : Int) (K0 : (Int → Int → Prop)) : Prop :=
  Br (decide (a2 < (0 : Int)))
    (num_Mod_j7 a2 b2 left1 (decide ((0 : Int) < left1)) K0
      (fun (a4 : Int) (b4 : Int) (left3 : Int) =>
      num_Mod_j8 a4 b4 left3 K0))
    (num_Mod_j7 a2 b2 left1 false K0
      (fun (a5 : Int) (b5 : Int) (left4 : Int) =>
      num_Mod_j8 a5 b5 left4 K0))

/- splicer/num.Mod (91) -/
def num_Mod_u (a1 : Int) (b1 : Int) (K0 : (Int → Int → Prop)) : Prop :=
  Br (decide (b1 < (1 : Int)))
    (K0 0 0)
    (Br (decide (b1 = (0 : Int)))
      (False)
      (let v2 : Int := (irem .i64 a1 b1)
      Br (decide (v2 < (0 : Int)))
        (num_Mod_j6 a1 b1 (iadd .i64 v2 b1) K0)
        (num_Mod_j6 a1 b1 v2 K0)))

noncomputable def num_Mod : Int → Int → (Int → Int → Prop) → Prop := Classical.choose (⟨num_Mod_u, rfl⟩ : ∃ q, q = num_Mod_u)

theorem num_Mod_def (a1 : Int) (b1 : Int) (K0 : (Int → Int → Prop)) : num_Mod a1 b1 K0 =
  (Br (decide (b1 < (1 : Int)))
    (K0 0 0)
    (Br (decide (b1 = (0 : Int)))
      (False)
      (let v2 : Int := (irem .i64 a1 b1)
      Br (decide (v2 < (0 : Int)))
        (num_Mod_j6 a1 b1 (iadd .i64 v2 b1) K0)
        (num_Mod_j6 a1 b1 v2 K0)))) := by
  have e : num_Mod = num_Mod_u := Classical.choose_spec (⟨num_Mod_u, rfl⟩ : ∃ q, q = num_Mod_u)
  show num_Mod a1 b1 K0 = num_Mod_u a1 b1 K0
  rw [e]

/- splicer/num.Div (55) -/
def num_Div_u (a1 : Int) (b1 : Int) (K0 : (Int → Prop)) : Prop :=
  Br (decide (b1 < (1 : Int)))
    (K0 0)
    (num_within 1152921504606846976 [a1, b1]
      (fun (r1 : Bool) =>
      Br (!r1)
        (K0 0)
        (num_Mod a1 b1
          (fun (r2 : Int) (r3 : Int) =>
          Br (decide ((isub .i64 b1 r3) ≤ r3))
            (K0 (iadd .i64 r2 1))
            (K0 r2)))))

noncomputable def num_Div : Int → Int → (Int → Prop) → Prop := Classical.choose (⟨num_Div_u, rfl⟩ : ∃ q, q = num_Div_u)

theorem num_Div_def (a1 : Int) (b1 : Int) (K0 : (Int → Prop)) : num_Div a1 b1 K0 =
  (Br (decide (b1 < (1 : Int)))
    (K0 0)
    (num_within 1152921504606846976 [a1, b1]
      (fun (r1 : Bool) =>
      Br (!r1)
        (K0 0)
        (num_Mod a1 b1
          (fun (r2 : Int) (r3 : Int) =>
          Br (decide ((isub .i64 b1 r3) ≤ r3))
            (K0 (iadd .i64 r2 1))
            (K0 r2)))))) := by
  have e : num_Div = num_Div_u := Classical.choose_spec (⟨num_Div_u, rfl⟩ : ∃ q, q = num_Div_u)
  show num_Div a1 b1 K0 = num_Div_u a1 b1 K0
  rw [e]

/- join of splicer/shape.Values, region 3 -/
def shape_Values_j3 (x2 : (List Int)) (c2 : Int) (f2 : Int) (k1 : Int) (v6 : Bool) (K0 : (Bool → Prop)) (K1 : ((List Int) → Int → Int → Int → Prop)) : Prop :=
  Br v6
    (K0 false)
    (K1 x2 c2 f2 k1)

/- join of splicer/shape.Values, region 7 -/
def shape_Values_j7 (x9 : (List Int)) (a1 : Int) (v15 : Bool) (m2 : (List Int)) (K0 : (Bool → (List Int) → Prop)) (K1 : ((List Int) → Int → (List Int) → Prop)) : Prop :=
  Br v15
    (K0 true m2)
    (K1 x9 a1 m2)

/- loop of splicer/shape.Values, region 10 -/
def shape_Values_l10 : Nat → Int → Int → (List Int) → Int → Int → (List Int) → ((List Int) → Prop) → Prop
  | 0, _, _, _, _, _, _, _ => False
  | k + 1, a5, r6, v20, v21, v22, m8, K0 => Br (decide (v22 < v21))
      (Br ((decide ((0 : Int) ≤ v22)) && (decide (v22 < (((List.length v20) : Nat) : Int))))
        (let v24 : Int := (List.getD v20 (Int.toNat v22) 0)
        num_Abs v24
          (fun (r7 : Int) =>
          num_Div (ishl .i64 (imul .i64 a5 r7) 10) r6
            (fun (r8 : Int) =>
            Br (decide (v24 < (0 : Int)))
              (Br ((decide ((0 : Int) ≤ v22)) && (decide (v22 < (((List.length m8) : Nat) : Int))))
                (Br (decide ((Int.toNat v22) < (List.length m8)))
                  (shape_Values_l10 k a5 r6 v20 v21 (iadd .i64 v22 1) (List.set m8 (Int.toNat v22) (isub .i64 0 r8)) K0)
                  (False))
                (False))
              (Br ((decide ((0 : Int) ≤ v22)) && (decide (v22 < (((List.length m8) : Nat) : Int))))
                (Br (decide ((Int.toNat v22) < (List.length m8)))
                  (shape_Values_l10 k a5 r6 v20 v21 (iadd .i64 v22 1) (List.set m8 (Int.toNat v22) r8) K0)
                  (False))
                (False)))))
        (False))
      (K0 m8)

/- join of splicer/shape.Values, region 8 -/
def shape_Values_j8 (x12 : (List Int)) (a4 : Int) (m7 : (List Int)) (K0 : (Bool → (List Int) → Prop)) : Prop :=
  shape_squares x12
    (fun (r4 : Int) =>
    root_Sqrt (ishl .i64 r4 20)
      (fun (r5 : Int) =>
      ∃ q, shape_Values_l10 q a4 r5 x12 (x12.length : Int) 0 m7
        (fun (m11 : (List Int)) =>
        K0 true m11)))

/- join of splicer/shape.Values, region 4 -/
def shape_Values_j4 (x8 : (List Int)) (c8 : Int) (f8 : Int) (k7 : Int) (K0 : (Bool → (List Int) → Prop)) : Prop :=
  Br (((decide ((0 : Int) ≤ (x8.length : Int))) && (decide ((x8.length : Int) ≤ (x8.length : Int)))) && (decide (((x8.length : Int) * (8 : Int)) ≤ (140737488355328 : Int))))
    (let m1 : (List Int) := (List.replicate (Int.toNat (x8.length : Int)) 0)
    level_Amp c8 f8
      (fun (r3 : Int) =>
      Br (decide (k7 = (0 : Int)))
        (shape_Values_j7 x8 r3 true m1 K0
          (fun (x10 : (List Int)) (a2 : Int) (m4 : (List Int)) =>
          shape_Values_j8 x10 a2 m4 K0))
        (shape_Values_j7 x8 r3 (decide (r3 = (0 : Int))) m1 K0
          (fun (x11 : (List Int)) (a3 : Int) (m6 : (List Int)) =>
          shape_Values_j8 x11 a3 m6 K0))))
    (False)

/- splicer/shape.Values (23) -/
def shape_Values_u (x1 : (List Int)) (c1 : Int) (f1 : Int) (K0 : (Bool → Prop)) (K1 : (Bool → (List Int) → Prop)) : Prop :=
  pvq_Size x1
    (fun (r1 : Int) (r2 : Bool) =>
    Br (!r2)
      (shape_Values_j3 x1 c1 f1 r1 true K0
        (fun (x3 : (List Int)) (c3 : Int) (f3 : Int) (k2 : Int) =>
        shape_Values_j4 x3 c3 f3 k2 K1))
      (Br (decide (c1 < (0 : Int)))
        (shape_Values_j3 x1 c1 f1 r1 true K0
          (fun (x4 : (List Int)) (c4 : Int) (f4 : Int) (k3 : Int) =>
          shape_Values_j4 x4 c4 f4 k3 K1))
        (Br (decide ((23 : Int) < c1))
          (shape_Values_j3 x1 c1 f1 r1 true K0
            (fun (x5 : (List Int)) (c5 : Int) (f5 : Int) (k4 : Int) =>
            shape_Values_j4 x5 c5 f5 k4 K1))
          (Br (decide (f1 < (0 : Int)))
            (shape_Values_j3 x1 c1 f1 r1 true K0
              (fun (x6 : (List Int)) (c6 : Int) (f6 : Int) (k5 : Int) =>
              shape_Values_j4 x6 c6 f6 k5 K1))
            (shape_Values_j3 x1 c1 f1 r1 (decide ((3 : Int) < f1)) K0
              (fun (x7 : (List Int)) (c7 : Int) (f7 : Int) (k6 : Int) =>
              shape_Values_j4 x7 c7 f7 k6 K1))))))

noncomputable def shape_Values : (List Int) → Int → Int → (Bool → Prop) → (Bool → (List Int) → Prop) → Prop := Classical.choose (⟨shape_Values_u, rfl⟩ : ∃ q, q = shape_Values_u)

theorem shape_Values_def (x1 : (List Int)) (c1 : Int) (f1 : Int) (K0 : (Bool → Prop)) (K1 : (Bool → (List Int) → Prop)) : shape_Values x1 c1 f1 K0 K1 =
  (pvq_Size x1
    (fun (r1 : Int) (r2 : Bool) =>
    Br (!r2)
      (shape_Values_j3 x1 c1 f1 r1 true K0
        (fun (x3 : (List Int)) (c3 : Int) (f3 : Int) (k2 : Int) =>
        shape_Values_j4 x3 c3 f3 k2 K1))
      (Br (decide (c1 < (0 : Int)))
        (shape_Values_j3 x1 c1 f1 r1 true K0
          (fun (x4 : (List Int)) (c4 : Int) (f4 : Int) (k3 : Int) =>
          shape_Values_j4 x4 c4 f4 k3 K1))
        (Br (decide ((23 : Int) < c1))
          (shape_Values_j3 x1 c1 f1 r1 true K0
            (fun (x5 : (List Int)) (c5 : Int) (f5 : Int) (k4 : Int) =>
            shape_Values_j4 x5 c5 f5 k4 K1))
          (Br (decide (f1 < (0 : Int)))
            (shape_Values_j3 x1 c1 f1 r1 true K0
              (fun (x6 : (List Int)) (c6 : Int) (f6 : Int) (k5 : Int) =>
              shape_Values_j4 x6 c6 f6 k5 K1))
            (shape_Values_j3 x1 c1 f1 r1 (decide ((3 : Int) < f1)) K0
              (fun (x7 : (List Int)) (c7 : Int) (f7 : Int) (k6 : Int) =>
              shape_Values_j4 x7 c7 f7 k6 K1))))))) := by
  have e : shape_Values = shape_Values_u := Classical.choose_spec (⟨shape_Values_u, rfl⟩ : ∃ q, q = shape_Values_u)
  show shape_Values x1 c1 f1 K0 K1 = shape_Values_u x1 c1 f1 K0 K1
  rw [e]

/- loop of splicer/shape.Power, region 4 -/
def shape_Power_l4 : Nat → (List Int) → (List Int) → Int → Int → (Int → Prop) → ((List Int) → Prop) → Prop
  | 0, _, _, _, _, _, _ => False
  | k + 1, x2, v4, v5, v6, K0, K1 => Br (decide (v6 < v5))
      (Br ((decide ((0 : Int) ≤ v6)) && (decide (v6 < (((List.length v4) : Nat) : Int))))
        (let v8 : Int := (List.getD v4 (Int.toNat v6) 0)
        Br (decide (v8 < (-67108864 : Int)))
          (K0 0)
          (Br (decide ((67108864 : Int) < v8))
            (K0 0)
            (shape_Power_l4 k x2 v4 v5 (iadd .i64 v6 1) K0 K1)))
        (False))
      (K1 x2)

/- splicer/shape.Power (27) -/
def shape_Power_u (x1 : (List Int)) (K0 : (Int → Prop)) : Prop :=
  Br (decide ((64 : Int) < (x1.length : Int)))
    (K0 0)
    (∃ q, shape_Power_l4 q x1 x1 (x1.length : Int) 0 K0
      (fun (x3 : (List Int)) =>
      shape_squares x3
        (fun (r1 : Int) =>
        root_Sqrt r1 K0)))

noncomputable def shape_Power : (List Int) → (Int → Prop) → Prop := Classical.choose (⟨shape_Power_u, rfl⟩ : ∃ q, q = shape_Power_u)

theorem shape_Power_def (x1 : (List Int)) (K0 : (Int → Prop)) : shape_Power x1 K0 =
  (Br (decide ((64 : Int) < (x1.length : Int)))
    (K0 0)
    (∃ q, shape_Power_l4 q x1 x1 (x1.length : Int) 0 K0
      (fun (x3 : (List Int)) =>
      shape_squares x3
        (fun (r1 : Int) =>
        root_Sqrt r1 K0)))) := by
  have e : shape_Power = shape_Power_u := Classical.choose_spec (⟨shape_Power_u, rfl⟩ : ∃ q, q = shape_Power_u)
  show shape_Power x1 K0 = shape_Power_u x1 K0
  rw [e]

/- loop of splicer/level.Find, region 2 -/
def level_Find_l2 : Nat → Int → Int → Int → (Int → Prop) → Prop
  | 0, _, _, _, _ => False
  | k + 1, a2, low1, high1, K0 => Br (decide ((1 : Int) < (isub .i64 high1 low1)))
      (let v4 : Int := (iquo .i64 (iadd .i64 low1 high1) 2)
      level_Amp (iquo .i64 v4 4) (irem .i64 v4 4)
        (fun (r1 : Int) =>
        Br (decide (r1 ≤ a2))
          (level_Find_l2 k a2 v4 high1 K0)
          (level_Find_l2 k a2 low1 v4 K0)))
      (K0 low1)

/- splicer/level.Find (60) -/
def level_Find_u (a1 : Int) (K0 : (Int → Int → Prop)) : Prop :=
  ∃ q, level_Find_l2 q a1 3 96
    (fun (low2 : Int) =>
    Br (decide (low2 < (4 : Int)))
      (K0 0 0)
      (K0 (iquo .i64 low2 4) (irem .i64 low2 4)))

noncomputable def level_Find : Int → (Int → Int → Prop) → Prop := Classical.choose (⟨level_Find_u, rfl⟩ : ∃ q, q = level_Find_u)

theorem level_Find_def (a1 : Int) (K0 : (Int → Int → Prop)) : level_Find a1 K0 =
  (∃ q, level_Find_l2 q a1 3 96
    (fun (low2 : Int) =>
    Br (decide (low2 < (4 : Int)))
      (K0 0 0)
      (K0 (iquo .i64 low2 4) (irem .i64 low2 4)))) := by
  have e : level_Find = level_Find_u := Classical.choose_spec (⟨level_Find_u, rfl⟩ : ∃ q, q = level_Find_u)
  show level_Find a1 K0 = level_Find_u a1 K0
  rw [e]

/- splicer/shape.Level (25) -/
def shape_Level_u (x1 : (List Int)) (K0 : (Int → Int → Prop)) : Prop :=
  shape_Power x1
    (fun (r1 : Int) =>
    level_Find r1 K0)

noncomputable def shape_Level : (List Int) → (Int → Int → Prop) → Prop := Classical.choose (⟨shape_Level_u, rfl⟩ : ∃ q, q = shape_Level_u)

theorem shape_Level_def (x1 : (List Int)) (K0 : (Int → Int → Prop)) : shape_Level x1 K0 =
  (shape_Power x1
    (fun (r1 : Int) =>
    level_Find r1 K0)) := by
  have e : shape_Level = shape_Level_u := Classical.choose_spec (⟨shape_Level_u, rfl⟩ : ∃ q, q = shape_Level_u)
  show shape_Level x1 K0 = shape_Level_u x1 K0
  rw [e]

/- loop of splicer/splicerref01.Same, region 4 -/
def R01_Same_l4 : Nat → (List Int) → (List Int) → Int → (Bool → Prop) → (Prop) → Prop
  | 0, _, _, _, _, _ => False
  | k + 1, a2, b2, i1, K0, K1 => Br (decide (i1 < (a2.length : Int)))
      (Br ((decide ((0 : Int) ≤ i1)) && (decide (i1 < (((List.length a2) : Nat) : Int))))
        (Br ((decide ((0 : Int) ≤ i1)) && (decide (i1 < (((List.length b2) : Nat) : Int))))
          (Br (!(decide ((List.getD a2 (Int.toNat i1) 0) = (List.getD b2 (Int.toNat i1) 0))))
            (K0 false)
            (R01_Same_l4 k a2 b2 (iadd .i64 i1 1) K0 K1))
          (False))
        (False))
      (K1)

/- splicer/splicerref01.Same (19) -/
def R01_Same_u (a1 : (List Int)) (b1 : (List Int)) (K0 : (Bool → Prop)) : Prop :=
  Br (!(decide ((a1.length : Int) = (b1.length : Int))))
    (K0 false)
    (∃ q, R01_Same_l4 q a1 b1 0 K0
      (K0 true))

noncomputable def R01_Same : (List Int) → (List Int) → (Bool → Prop) → Prop := Classical.choose (⟨R01_Same_u, rfl⟩ : ∃ q, q = R01_Same_u)

theorem R01_Same_def (a1 : (List Int)) (b1 : (List Int)) (K0 : (Bool → Prop)) : R01_Same a1 b1 K0 =
  (Br (!(decide ((a1.length : Int) = (b1.length : Int))))
    (K0 false)
    (∃ q, R01_Same_l4 q a1 b1 0 K0
      (K0 true))) := by
  have e : R01_Same = R01_Same_u := Classical.choose_spec (⟨R01_Same_u, rfl⟩ : ∃ q, q = R01_Same_u)
  show R01_Same a1 b1 K0 = R01_Same_u a1 b1 K0
  rw [e]

/- join of splicer/splicerlaw17.awake, region 3 -/
def L17_awake_j3 (ok2 : Bool) (is1 : Bool) (m3 : (List Int)) (K0 : (Bool → Prop)) : Prop :=
  shape_Level [3, (-4)]
    (fun (r7 : Int) (r8 : Int) =>
    Br ok2
      (R01_Same m3 [16, 0]
        (fun (r9 : Bool) =>
        Br r9
          (Br (!is1)
            (shape_Power [3, (-4)]
              (fun (r10 : Int) =>
              Br (decide (r10 = (5 : Int)))
                (Br (decide (r7 = (2 : Int)))
                  (K0 (decide (r8 = (1 : Int))))
                  (K0 false))
                (K0 false)))
            (K0 false))
          (K0 false)))
      (K0 false))

/- join of splicer/splicerlaw17.awake, region 2 -/
def L17_awake_j2 (ok1 : Bool) (m2 : (List Int)) (K0 : (Bool → Prop)) : Prop :=
  shape_Values [] 4 0
    (fun (r4 : Bool) =>
    L17_awake_j3 ok1 r4 m2 K0)
    (fun (r5 : Bool) (r6 : (List Int)) =>
    L17_awake_j3 ok1 r5 m2 K0)

/- splicer/splicerlaw17.awake (22) -/
def L17_awake_u  (K0 : (Bool → Prop)) : Prop :=
  shape_Values [1, 0] 4 0
    (fun (r1 : Bool) =>
    L17_awake_j2 r1 [] K0)
    (fun (r2 : Bool) (r3 : (List Int)) =>
    L17_awake_j2 r2 r3 K0)

noncomputable def L17_awake : (Bool → Prop) → Prop := Classical.choose (⟨L17_awake_u, rfl⟩ : ∃ q, q = L17_awake_u)

theorem L17_awake_def  (K0 : (Bool → Prop)) : L17_awake K0 =
  (shape_Values [1, 0] 4 0
    (fun (r1 : Bool) =>
    L17_awake_j2 r1 [] K0)
    (fun (r2 : Bool) (r3 : (List Int)) =>
    L17_awake_j2 r2 r3 K0)) := by
  have e : L17_awake = L17_awake_u := Classical.choose_spec (⟨L17_awake_u, rfl⟩ : ∃ q, q = L17_awake_u)
  show L17_awake K0 = L17_awake_u K0
  rw [e]

/- splicer/splicerref08.step (63) -/
def R08_step_u (f1 : Int) (K0 : (Int → Prop)) : Prop :=
  Br (decide (f1 = (0 : Int)))
    (K0 16777216)
    (Br (decide (f1 = (1 : Int)))
      (K0 19951585)
      (Br (decide (f1 = (2 : Int)))
        (K0 23726566)
        (K0 28215802)))

noncomputable def R08_step : Int → (Int → Prop) → Prop := Classical.choose (⟨R08_step_u, rfl⟩ : ∃ q, q = R08_step_u)

theorem R08_step_def (f1 : Int) (K0 : (Int → Prop)) : R08_step f1 K0 =
  (Br (decide (f1 = (0 : Int)))
    (K0 16777216)
    (Br (decide (f1 = (1 : Int)))
      (K0 19951585)
      (Br (decide (f1 = (2 : Int)))
        (K0 23726566)
        (K0 28215802)))) := by
  have e : R08_step = R08_step_u := Classical.choose_spec (⟨R08_step_u, rfl⟩ : ∃ q, q = R08_step_u)
  show R08_step f1 K0 = R08_step_u f1 K0
  rw [e]

/- splicer/splicerref01.Mod (74) -/
def R01_Mod_u (a1 : Int) (b1 : Int) (K0 : (Int → Int → Prop)) : Prop :=
  Br (decide (b1 < (1 : Int)))
    (K0 0 0)
    (Br (decide (b1 = (0 : Int)))
      (False)
      (let v2 : Int := (iquo .i64 a1 b1)
      Br (decide (b1 = (0 : Int)))
        (False)
        (let v3 : Int := (irem .i64 a1 b1)
        Br (decide (v3 < (0 : Int)))
          (K0 (isub .i64 v2 1) (iadd .i64 v3 b1))
          (K0 v2 v3))))

noncomputable def R01_Mod : Int → Int → (Int → Int → Prop) → Prop := Classical.choose (⟨R01_Mod_u, rfl⟩ : ∃ q, q = R01_Mod_u)

theorem R01_Mod_def (a1 : Int) (b1 : Int) (K0 : (Int → Int → Prop)) : R01_Mod a1 b1 K0 =
  (Br (decide (b1 < (1 : Int)))
    (K0 0 0)
    (Br (decide (b1 = (0 : Int)))
      (False)
      (let v2 : Int := (iquo .i64 a1 b1)
      Br (decide (b1 = (0 : Int)))
        (False)
        (let v3 : Int := (irem .i64 a1 b1)
        Br (decide (v3 < (0 : Int)))
          (K0 (isub .i64 v2 1) (iadd .i64 v3 b1))
          (K0 v2 v3))))) := by
  have e : R01_Mod = R01_Mod_u := Classical.choose_spec (⟨R01_Mod_u, rfl⟩ : ∃ q, q = R01_Mod_u)
  show R01_Mod a1 b1 K0 = R01_Mod_u a1 b1 K0
  rw [e]

/- splicer/splicerref01.Shr (50) -/
def R01_Shr_u (x1 : Int) (n1 : Int) (K0 : (Int → Prop)) : Prop :=
  Br (decide (x1 < (-2305843009213693952 : Int)))
    (K0 0)
    (Br (decide ((2305843009213693952 : Int) < x1))
      (K0 0)
      (Br (decide (n1 < (0 : Int)))
        (K0 0)
        (Br (decide ((60 : Int) < n1))
          (K0 0)
          (Br (decide (n1 < (0 : Int)))
            (False)
            (R01_Mod x1 (ishl .i64 1 n1)
              (fun (r1 : Int) (r2 : Int) =>
              Br (decide (n1 < (0 : Int)))
                (False)
                (Br (decide ((ishl .i64 1 n1) ≤ (imul .i64 2 r2)))
                  (K0 (iadd .i64 r1 1))
                  (K0 r1))))))))

noncomputable def R01_Shr : Int → Int → (Int → Prop) → Prop := Classical.choose (⟨R01_Shr_u, rfl⟩ : ∃ q, q = R01_Shr_u)

theorem R01_Shr_def (x1 : Int) (n1 : Int) (K0 : (Int → Prop)) : R01_Shr x1 n1 K0 =
  (Br (decide (x1 < (-2305843009213693952 : Int)))
    (K0 0)
    (Br (decide ((2305843009213693952 : Int) < x1))
      (K0 0)
      (Br (decide (n1 < (0 : Int)))
        (K0 0)
        (Br (decide ((60 : Int) < n1))
          (K0 0)
          (Br (decide (n1 < (0 : Int)))
            (False)
            (R01_Mod x1 (ishl .i64 1 n1)
              (fun (r1 : Int) (r2 : Int) =>
              Br (decide (n1 < (0 : Int)))
                (False)
                (Br (decide ((ishl .i64 1 n1) ≤ (imul .i64 2 r2)))
                  (K0 (iadd .i64 r1 1))
                  (K0 r1))))))))) := by
  have e : R01_Shr = R01_Shr_u := Classical.choose_spec (⟨R01_Shr_u, rfl⟩ : ∃ q, q = R01_Shr_u)
  show R01_Shr x1 n1 K0 = R01_Shr_u x1 n1 K0
  rw [e]

/- splicer/splicerref08.Amp (30) -/
def R08_Amp_u (c1 : Int) (f1 : Int) (K0 : (Int → Prop)) : Prop :=
  Br (decide (c1 < (1 : Int)))
    (K0 0)
    (Br (decide ((23 : Int) < c1))
      (K0 0)
      (Br (decide (f1 < (0 : Int)))
        (K0 0)
        (Br (decide ((3 : Int) < f1))
          (K0 0)
          (R08_step f1
            (fun (r1 : Int) =>
            R01_Shr r1 (isub .i64 24 c1) K0)))))

noncomputable def R08_Amp : Int → Int → (Int → Prop) → Prop := Classical.choose (⟨R08_Amp_u, rfl⟩ : ∃ q, q = R08_Amp_u)

theorem R08_Amp_def (c1 : Int) (f1 : Int) (K0 : (Int → Prop)) : R08_Amp c1 f1 K0 =
  (Br (decide (c1 < (1 : Int)))
    (K0 0)
    (Br (decide ((23 : Int) < c1))
      (K0 0)
      (Br (decide (f1 < (0 : Int)))
        (K0 0)
        (Br (decide ((3 : Int) < f1))
          (K0 0)
          (R08_step f1
            (fun (r1 : Int) =>
            R01_Shr r1 (isub .i64 24 c1) K0)))))) := by
  have e : R08_Amp = R08_Amp_u := Classical.choose_spec (⟨R08_Amp_u, rfl⟩ : ∃ q, q = R08_Amp_u)
  show R08_Amp c1 f1 K0 = R08_Amp_u c1 f1 K0
  rw [e]

/- splicer/splicerref01.Abs (31) -/
def R01_Abs_u (x1 : Int) (K0 : (Int → Prop)) : Prop :=
  Br (decide (x1 < (-4611686018427387904 : Int)))
    (K0 0)
    (Br (decide ((4611686018427387904 : Int) < x1))
      (K0 0)
      (K0 (imax x1 (isub .i64 0 x1))))

noncomputable def R01_Abs : Int → (Int → Prop) → Prop := Classical.choose (⟨R01_Abs_u, rfl⟩ : ∃ q, q = R01_Abs_u)

theorem R01_Abs_def (x1 : Int) (K0 : (Int → Prop)) : R01_Abs x1 K0 =
  (Br (decide (x1 < (-4611686018427387904 : Int)))
    (K0 0)
    (Br (decide ((4611686018427387904 : Int) < x1))
      (K0 0)
      (K0 (imax x1 (isub .i64 0 x1))))) := by
  have e : R01_Abs = R01_Abs_u := Classical.choose_spec (⟨R01_Abs_u, rfl⟩ : ∃ q, q = R01_Abs_u)
  show R01_Abs x1 K0 = R01_Abs_u x1 K0
  rw [e]

/- join of splicer/splicerlaw17.ShapeLoud, region 3 -/
def L17_ShapeLoud_j3 (x2 : (List Int)) (c2 : Int) (f2 : Int) (v3 : Bool) (K0 : (Bool → Prop)) (K1 : ((List Int) → Int → Int → Prop)) : Prop :=
  Br v3
    (L17_awake K0)
    (K1 x2 c2 f2)

/- loop of splicer/splicerlaw17.ShapeLoud, region 19 -/
def L17_ShapeLoud_l19 : Nat → (List Int) → Int → Int → (List Int) → (Bool → Prop) → ((List Int) → Int → (List Int) → Prop) → Prop
  | 0, _, _, _, _, _, _ => False
  | k + 1, x9, i3, j1, m4, K0, K1 => Br (decide (j1 < (x9.length : Int)))
      (Br ((decide ((0 : Int) ≤ i3)) && (decide (i3 < (((List.length x9) : Nat) : Int))))
        (R01_Abs (List.getD x9 (Int.toNat i3) 0)
          (fun (r9 : Int) =>
          Br ((decide ((0 : Int) ≤ j1)) && (decide (j1 < (((List.length x9) : Nat) : Int))))
            (R01_Abs (List.getD x9 (Int.toNat j1) 0)
              (fun (r10 : Int) =>
              Br (decide (r9 ≤ r10))
                (Br ((decide ((0 : Int) ≤ i3)) && (decide (i3 < (((List.length m4) : Nat) : Int))))
                  (Br (decide ((Int.toNat i3) < (List.length m4)))
                    (R01_Abs (List.getD m4 (Int.toNat i3) 0)
                      (fun (r11 : Int) =>
                      Br ((decide ((0 : Int) ≤ j1)) && (decide (j1 < (((List.length m4) : Nat) : Int))))
                        (Br (decide ((Int.toNat j1) < (List.length m4)))
                          (R01_Abs (List.getD m4 (Int.toNat j1) 0)
                            (fun (r12 : Int) =>
                            Br (decide (r12 < r11))
                              (K0 false)
                              (L17_ShapeLoud_l19 k x9 i3 (iadd .i64 j1 1) m4 K0 K1)))
                          (False))
                        (False)))
                    (False))
                  (False))
                (L17_ShapeLoud_l19 k x9 i3 (iadd .i64 j1 1) m4 K0 K1)))
            (False)))
        (False))
      (K1 x9 i3 m4)

/- join of splicer/splicerlaw17.ShapeLoud, region 18 -/
def L17_ShapeLoud_j18 (x8 : (List Int)) (i2 : Int) (m3 : (List Int)) (K0 : (Bool → Prop)) (K1 : ((List Int) → Int → (List Int) → Prop)) : Prop :=
  ∃ q, L17_ShapeLoud_l19 q x8 i2 0 m3 K0 K1

/- loop of splicer/splicerlaw17.ShapeLoud, region 14 -/
def L17_ShapeLoud_l14 : Nat → (List Int) → Int → (List Int) → (Bool → Prop) → (Prop) → Prop
  | 0, _, _, _, _, _ => False
  | k + 1, x7, i1, m2, K0, K1 => Br (decide (i1 < (x7.length : Int)))
      (Br ((decide ((0 : Int) ≤ i1)) && (decide (i1 < (((List.length x7) : Nat) : Int))))
        (Br (decide ((0 : Int) < (List.getD x7 (Int.toNat i1) 0)))
          (Br ((decide ((0 : Int) ≤ i1)) && (decide (i1 < (((List.length m2) : Nat) : Int))))
            (Br (decide ((Int.toNat i1) < (List.length m2)))
              (Br (decide ((List.getD m2 (Int.toNat i1) 0) < (0 : Int)))
                (K0 false)
                (Br ((decide ((0 : Int) ≤ i1)) && (decide (i1 < (((List.length x7) : Nat) : Int))))
                  (Br (decide ((List.getD x7 (Int.toNat i1) 0) < (0 : Int)))
                    (Br ((decide ((0 : Int) ≤ i1)) && (decide (i1 < (((List.length m2) : Nat) : Int))))
                      (Br (decide ((Int.toNat i1) < (List.length m2)))
                        (Br (decide ((0 : Int) < (List.getD m2 (Int.toNat i1) 0)))
                          (K0 false)
                          (Br ((decide ((0 : Int) ≤ i1)) && (decide (i1 < (((List.length x7) : Nat) : Int))))
                            (Br (decide ((List.getD x7 (Int.toNat i1) 0) = (0 : Int)))
                              (Br ((decide ((0 : Int) ≤ i1)) && (decide (i1 < (((List.length m2) : Nat) : Int))))
                                (Br (decide ((Int.toNat i1) < (List.length m2)))
                                  (Br (!(decide ((List.getD m2 (Int.toNat i1) 0) = (0 : Int))))
                                    (K0 false)
                                    (L17_ShapeLoud_j18 x7 i1 m2 K0
                                      (fun (x11 : (List Int)) (i5 : Int) (m6 : (List Int)) =>
                                      L17_ShapeLoud_l14 k x11 (iadd .i64 i5 1) m6 K0 K1)))
                                  (False))
                                (False))
                              (L17_ShapeLoud_j18 x7 i1 m2 K0
                                (fun (x12 : (List Int)) (i6 : Int) (m7 : (List Int)) =>
                                L17_ShapeLoud_l14 k x12 (iadd .i64 i6 1) m7 K0 K1)))
                            (False)))
                        (False))
                      (False))
                    (Br ((decide ((0 : Int) ≤ i1)) && (decide (i1 < (((List.length x7) : Nat) : Int))))
                      (Br (decide ((List.getD x7 (Int.toNat i1) 0) = (0 : Int)))
                        (Br ((decide ((0 : Int) ≤ i1)) && (decide (i1 < (((List.length m2) : Nat) : Int))))
                          (Br (decide ((Int.toNat i1) < (List.length m2)))
                            (Br (!(decide ((List.getD m2 (Int.toNat i1) 0) = (0 : Int))))
                              (K0 false)
                              (L17_ShapeLoud_j18 x7 i1 m2 K0
                                (fun (x13 : (List Int)) (i7 : Int) (m8 : (List Int)) =>
                                L17_ShapeLoud_l14 k x13 (iadd .i64 i7 1) m8 K0 K1)))
                            (False))
                          (False))
                        (L17_ShapeLoud_j18 x7 i1 m2 K0
                          (fun (x14 : (List Int)) (i8 : Int) (m9 : (List Int)) =>
                          L17_ShapeLoud_l14 k x14 (iadd .i64 i8 1) m9 K0 K1)))
                      (False)))
                  (False)))
              (False))
            (False))
          (Br ((decide ((0 : Int) ≤ i1)) && (decide (i1 < (((List.length x7) : Nat) : Int))))
            (Br (decide ((List.getD x7 (Int.toNat i1) 0) < (0 : Int)))
              (Br ((decide ((0 : Int) ≤ i1)) && (decide (i1 < (((List.length m2) : Nat) : Int))))
                (Br (decide ((Int.toNat i1) < (List.length m2)))
                  (Br (decide ((0 : Int) < (List.getD m2 (Int.toNat i1) 0)))
                    (K0 false)
                    (Br ((decide ((0 : Int) ≤ i1)) && (decide (i1 < (((List.length x7) : Nat) : Int))))
                      (Br (decide ((List.getD x7 (Int.toNat i1) 0) = (0 : Int)))
                        (Br ((decide ((0 : Int) ≤ i1)) && (decide (i1 < (((List.length m2) : Nat) : Int))))
                          (Br (decide ((Int.toNat i1) < (List.length m2)))
                            (Br (!(decide ((List.getD m2 (Int.toNat i1) 0) = (0 : Int))))
                              (K0 false)
                              (L17_ShapeLoud_j18 x7 i1 m2 K0
                                (fun (x15 : (List Int)) (i9 : Int) (m10 : (List Int)) =>
                                L17_ShapeLoud_l14 k x15 (iadd .i64 i9 1) m10 K0 K1)))
                            (False))
                          (False))
                        (L17_ShapeLoud_j18 x7 i1 m2 K0
                          (fun (x16 : (List Int)) (i10 : Int) (m11 : (List Int)) =>
                          L17_ShapeLoud_l14 k x16 (iadd .i64 i10 1) m11 K0 K1)))
                      (False)))
                  (False))
                (False))
              (Br ((decide ((0 : Int) ≤ i1)) && (decide (i1 < (((List.length x7) : Nat) : Int))))
                (Br (decide ((List.getD x7 (Int.toNat i1) 0) = (0 : Int)))
                  (Br ((decide ((0 : Int) ≤ i1)) && (decide (i1 < (((List.length m2) : Nat) : Int))))
                    (Br (decide ((Int.toNat i1) < (List.length m2)))
                      (Br (!(decide ((List.getD m2 (Int.toNat i1) 0) = (0 : Int))))
                        (K0 false)
                        (L17_ShapeLoud_j18 x7 i1 m2 K0
                          (fun (x17 : (List Int)) (i11 : Int) (m12 : (List Int)) =>
                          L17_ShapeLoud_l14 k x17 (iadd .i64 i11 1) m12 K0 K1)))
                      (False))
                    (False))
                  (L17_ShapeLoud_j18 x7 i1 m2 K0
                    (fun (x18 : (List Int)) (i12 : Int) (m13 : (List Int)) =>
                    L17_ShapeLoud_l14 k x18 (iadd .i64 i12 1) m13 K0 K1)))
                (False)))
            (False)))
        (False))
      (K1)

/- join of splicer/splicerlaw17.ShapeLoud, region 6 -/
def L17_ShapeLoud_j6 (x6 : (List Int)) (p1 : Int) (q1 : Int) (is1 : Bool) (m1 : (List Int)) (K0 : (Bool → Prop)) : Prop :=
  Br (!is1)
    (K0 false)
    (Br (!(decide ((m1.length : Int) = (x6.length : Int))))
      (K0 false)
      (R08_Amp p1 q1
        (fun (r7 : Int) =>
        shape_Power m1
          (fun (r8 : Int) =>
          let v15 : Int := (isub .i64 r8 r7)
          let v19 : Int := (iadd .i64 (iadd .i64 (x6.length : Int) 1) (iquo .i64 r7 1000))
          Br (decide (v19 < v15))
            (K0 false)
            (Br (decide (v15 < (isub .i64 0 v19)))
              (K0 false)
              (∃ q, L17_ShapeLoud_l14 q x6 0 m1 K0
                (L17_awake K0)))))))

/- join of splicer/splicerlaw17.ShapeLoud, region 4 -/
def L17_ShapeLoud_j4 (x5 : (List Int)) (c5 : Int) (f5 : Int) (K0 : (Bool → Prop)) : Prop :=
  let v8 : Int := (iadd .i64 1 (irem .i64 (Go.IntKind.wrap .i64 c5) 23))
  let v10 : Int := (irem .i64 (Go.IntKind.wrap .i64 f5) 4)
  shape_Values x5 v8 v10
    (fun (r4 : Bool) =>
    L17_ShapeLoud_j6 x5 v8 v10 r4 [] K0)
    (fun (r5 : Bool) (r6 : (List Int)) =>
    L17_ShapeLoud_j6 x5 v8 v10 r5 r6 K0)

/- splicer/splicerlaw17.ShapeLoud (8) -/
def L17_ShapeLoud_u (x1 : (List Int)) (c1 : Int) (f1 : Int) (K0 : (Bool → Prop)) : Prop :=
  R16_Size x1
    (fun (r1 : Int) (r2 : Bool) =>
    Br (!r2)
      (L17_ShapeLoud_j3 x1 c1 f1 true K0
        (fun (x3 : (List Int)) (c3 : Int) (f3 : Int) =>
        L17_ShapeLoud_j4 x3 c3 f3 K0))
      (L17_ShapeLoud_j3 x1 c1 f1 (decide (r1 = (0 : Int))) K0
        (fun (x4 : (List Int)) (c4 : Int) (f4 : Int) =>
        L17_ShapeLoud_j4 x4 c4 f4 K0)))

noncomputable def L17_ShapeLoud : (List Int) → Int → Int → (Bool → Prop) → Prop := Classical.choose (⟨L17_ShapeLoud_u, rfl⟩ : ∃ q, q = L17_ShapeLoud_u)

theorem L17_ShapeLoud_def (x1 : (List Int)) (c1 : Int) (f1 : Int) (K0 : (Bool → Prop)) : L17_ShapeLoud x1 c1 f1 K0 =
  (R16_Size x1
    (fun (r1 : Int) (r2 : Bool) =>
    Br (!r2)
      (L17_ShapeLoud_j3 x1 c1 f1 true K0
        (fun (x3 : (List Int)) (c3 : Int) (f3 : Int) =>
        L17_ShapeLoud_j4 x3 c3 f3 K0))
      (L17_ShapeLoud_j3 x1 c1 f1 (decide (r1 = (0 : Int))) K0
        (fun (x4 : (List Int)) (c4 : Int) (f4 : Int) =>
        L17_ShapeLoud_j4 x4 c4 f4 K0)))) := by
  have e : L17_ShapeLoud = L17_ShapeLoud_u := Classical.choose_spec (⟨L17_ShapeLoud_u, rfl⟩ : ∃ q, q = L17_ShapeLoud_u)
  show L17_ShapeLoud x1 c1 f1 K0 = L17_ShapeLoud_u x1 c1 f1 K0
  rw [e]

end Go.Eng.A
