/- The functions that ShapeTells reaches, as plain ones: printed by program. -/
import Derived.Test.YtniabjhjpkkllaaEngA
set_option linter.unusedVariables false
set_option maxRecDepth 100000
namespace Go.Eng.A
open Go Go.Eng

/- loop of splicer/num.within, region 2 -/
def num_within_l2 : Nat → Int → (List Int) → Int → Int → (Bool → Prop) → (Prop) → Prop
  | 0, _, _, _, _, _, _ => False
  | k + 1, most2, v2, v3, v4, K0, K1 => Br (decide (v4 < v3))
      (Br ((decide ((0 : Int) ≤ v4)) && (decide (v4 < (((List.length v2) : Nat) : Int))))
        (let v6 : Int := (List.getD v2 (Int.toNat v4) 0)
        Br (decide (v6 < (isub .i64 0 most2)))
          (K0 false)
          (Br (decide (most2 < v6))
            (K0 false)
            (num_within_l2 k most2 v2 v3 (iadd .i64 v4 1) K0 K1)))
        (False))
      (K1)

/- splicer/num.within (90) -/
def num_within_u (most1 : Int) (l1 : (List Int)) (K0 : (Bool → Prop)) : Prop :=
  ∃ q, num_within_l2 q most1 l1 (l1.length : Int) 0 K0
    (K0 true)

noncomputable def num_within : Int → (List Int) → (Bool → Prop) → Prop := Classical.choose (⟨num_within_u, rfl⟩ : ∃ q, q = num_within_u)

theorem num_within_def (most1 : Int) (l1 : (List Int)) (K0 : (Bool → Prop)) : num_within most1 l1 K0 =
  (∃ q, num_within_l2 q most1 l1 (l1.length : Int) 0 K0
    (K0 true)) := by
  have e : num_within = num_within_u := Classical.choose_spec (⟨num_within_u, rfl⟩ : ∃ q, q = num_within_u)
  show num_within most1 l1 K0 = num_within_u most1 l1 K0
  rw [e]

/- splicer/num.Abs (56) -/
def num_Abs_u (x1 : Int) (K0 : (Int → Prop)) : Prop :=
  num_within 4611686018427387904 [x1]
    (fun (r1 : Bool) =>
    Br (!r1)
      (K0 0)
      (Br (decide (x1 < (0 : Int)))
        (K0 (isub .i64 0 x1))
        (K0 x1)))

noncomputable def num_Abs : Int → (Int → Prop) → Prop := Classical.choose (⟨num_Abs_u, rfl⟩ : ∃ q, q = num_Abs_u)

theorem num_Abs_def (x1 : Int) (K0 : (Int → Prop)) : num_Abs x1 K0 =
  (num_within 4611686018427387904 [x1]
    (fun (r1 : Bool) =>
    Br (!r1)
      (K0 0)
      (Br (decide (x1 < (0 : Int)))
        (K0 (isub .i64 0 x1))
        (K0 x1)))) := by
  have e : num_Abs = num_Abs_u := Classical.choose_spec (⟨num_Abs_u, rfl⟩ : ∃ q, q = num_Abs_u)
  show num_Abs x1 K0 = num_Abs_u x1 K0
  rw [e]

/- join of splicer/pvq.Size, region 2 -/
def pvq_Size_j2 (x2 : (List Int)) (v5 : Bool) (K0 : (Int → Bool → Prop)) (K1 : ((List Int) → Prop)) : Prop :=
  Br v5
    (K0 0 false)
    (K1 x2)

/- join of splicer/pvq.Size, region 8 -/
def pvq_Size_j8 (k2 : Int) (v18 : Int) (v19 : (List Int)) (v20 : Int) (v21 : Int) (v22 : Bool) (K0 : (Int → Bool → Prop)) (K1 : (Int → Int → (List Int) → Int → Int → Prop)) : Prop :=
  Br v22
    (K0 0 false)
    (K1 k2 v18 v19 v20 v21)

/- join of splicer/pvq.Size, region 9 -/
def pvq_Size_j9 (k5 : Int) (v35 : Int) (v36 : (List Int)) (v37 : Int) (v38 : Int) (K0 : (Int → (List Int) → Int → Int → Prop)) : Prop :=
  num_Abs v35
    (fun (r1 : Int) =>
    K0 (iadd .i64 k5 r1) v36 v37 v38)

/- loop of splicer/pvq.Size, region 5 -/
def pvq_Size_l5 : Nat → Int → (List Int) → Int → Int → (Int → Bool → Prop) → (Int → Prop) → Prop
  | 0, _, _, _, _, _, _ => False
  | k + 1, k1, v11, v12, v13, K0, K1 => Br (decide (v13 < v12))
      (Br ((decide ((0 : Int) ≤ v13)) && (decide (v13 < (((List.length v11) : Nat) : Int))))
        (let v15 : Int := (List.getD v11 (Int.toNat v13) 0)
        Br (decide (v15 < (-24 : Int)))
          (pvq_Size_j8 k1 v15 v11 v12 v13 true K0
            (fun (k3 : Int) (v25 : Int) (v26 : (List Int)) (v27 : Int) (v28 : Int) =>
            pvq_Size_j9 k3 v25 v26 v27 v28
              (fun (k6 : Int) (v40 : (List Int)) (v41 : Int) (v42 : Int) =>
              pvq_Size_l5 k k6 v40 v41 (iadd .i64 v42 1) K0 K1)))
          (pvq_Size_j8 k1 v15 v11 v12 v13 (decide ((24 : Int) < v15)) K0
            (fun (k4 : Int) (v31 : Int) (v32 : (List Int)) (v33 : Int) (v34 : Int) =>
            pvq_Size_j9 k4 v31 v32 v33 v34
              (fun (k7 : Int) (v43 : (List Int)) (v44 : Int) (v45 : Int) =>
              pvq_Size_l5 k k7 v43 v44 (iadd .i64 v45 1) K0 K1))))
        (False))
      (K1 k1)

/- join of splicer/pvq.Size, region 3 -/
def pvq_Size_j3 (x5 : (List Int)) (K0 : (Int → Bool → Prop)) : Prop :=
  ∃ q, pvq_Size_l5 q 0 x5 (x5.length : Int) 0 K0
    (fun (k8 : Int) =>
    Br (decide ((24 : Int) < k8))
      (K0 0 false)
      (K0 k8 true))

/- splicer/pvq.Size (51) -/
def pvq_Size_u (x1 : (List Int)) (K0 : (Int → Bool → Prop)) : Prop :=
  Br (decide ((x1.length : Int) = (0 : Int)))
    (pvq_Size_j2 x1 true K0
      (fun (x3 : (List Int)) =>
      pvq_Size_j3 x3 K0))
    (pvq_Size_j2 x1 (decide ((8 : Int) < (x1.length : Int))) K0
      (fun (x4 : (List Int)) =>
      pvq_Size_j3 x4 K0))

noncomputable def pvq_Size : (List Int) → (Int → Bool → Prop) → Prop := Classical.choose (⟨pvq_Size_u, rfl⟩ : ∃ q, q = pvq_Size_u)

theorem pvq_Size_def (x1 : (List Int)) (K0 : (Int → Bool → Prop)) : pvq_Size x1 K0 =
  (Br (decide ((x1.length : Int) = (0 : Int)))
    (pvq_Size_j2 x1 true K0
      (fun (x3 : (List Int)) =>
      pvq_Size_j3 x3 K0))
    (pvq_Size_j2 x1 (decide ((8 : Int) < (x1.length : Int))) K0
      (fun (x4 : (List Int)) =>
      pvq_Size_j3 x4 K0))) := by
  have e : pvq_Size = pvq_Size_u := Classical.choose_spec (⟨pvq_Size_u, rfl⟩ : ∃ q, q = pvq_Size_u)
  show pvq_Size x1 K0 = pvq_Size_u x1 K0
  rw [e]

/- splicer/level.steps (89) -/
def level_steps_u  (K0 : ((List Int) → Prop)) : Prop :=
  K0 [16777216, 19951585, 23726566, 28215802]

noncomputable def level_steps : ((List Int) → Prop) → Prop := Classical.choose (⟨level_steps_u, rfl⟩ : ∃ q, q = level_steps_u)

theorem level_steps_def  (K0 : ((List Int) → Prop)) : level_steps K0 =
  (K0 [16777216, 19951585, 23726566, 28215802]) := by
  have e : level_steps = level_steps_u := Classical.choose_spec (⟨level_steps_u, rfl⟩ : ∃ q, q = level_steps_u)
  show level_steps K0 = level_steps_u K0
  rw [e]

/- join of splicer/num.Shr, region 2 -/
def num_Shr_j2 (x2 : Int) (n2 : Int) (v4 : Bool) (K0 : (Int → Prop)) (K1 : (Int → Int → Prop)) : Prop :=
  Br v4
    (K0 0)
    (Br (decide (n2 = (0 : Int)))
      (K0 x2)
      (K1 x2 n2))

/- join of splicer/num.Shr, region 5 -/
def num_Shr_j5 (x6 : Int) (n6 : Int) (K0 : (Int → Prop)) : Prop :=
  let v9 : Int := (isub .i64 n6 1)
  Br (decide (v9 < (0 : Int)))
    (False)
    (Br (decide (n6 < (0 : Int)))
      (False)
      (K0 (ishr .i64 (iadd .i64 x6 (ishl .i64 1 v9)) n6)))

/- splicer/num.Shr (81) -/
def num_Shr_u (x1 : Int) (n1 : Int) (K0 : (Int → Prop)) : Prop :=
  Br (decide (n1 < (0 : Int)))
    (num_Shr_j2 x1 n1 true K0
      (fun (x3 : Int) (n3 : Int) =>
      num_Shr_j5 x3 n3 K0))
    (Br (decide ((60 : Int) < n1))
      (num_Shr_j2 x1 n1 true K0
        (fun (x4 : Int) (n4 : Int) =>
        num_Shr_j5 x4 n4 K0))
      (num_within 2305843009213693952 [x1]
        (fun (r1 : Bool) =>
        num_Shr_j2 x1 n1 (!r1) K0
          (fun (x5 : Int) (n5 : Int) =>
          num_Shr_j5 x5 n5 K0))))

noncomputable def num_Shr : Int → Int → (Int → Prop) → Prop := Classical.choose (⟨num_Shr_u, rfl⟩ : ∃ q, q = num_Shr_u)

theorem num_Shr_def (x1 : Int) (n1 : Int) (K0 : (Int → Prop)) : num_Shr x1 n1 K0 =
  (Br (decide (n1 < (0 : Int)))
    (num_Shr_j2 x1 n1 true K0
      (fun (x3 : Int) (n3 : Int) =>
      num_Shr_j5 x3 n3 K0))
    (Br (decide ((60 : Int) < n1))
      (num_Shr_j2 x1 n1 true K0
        (fun (x4 : Int) (n4 : Int) =>
        num_Shr_j5 x4 n4 K0))
      (num_within 2305843009213693952 [x1]
        (fun (r1 : Bool) =>
        num_Shr_j2 x1 n1 (!r1) K0
          (fun (x5 : Int) (n5 : Int) =>
          num_Shr_j5 x5 n5 K0))))) := by
  have e : num_Shr = num_Shr_u := Classical.choose_spec (⟨num_Shr_u, rfl⟩ : ∃ q, q = num_Shr_u)
  show num_Shr x1 n1 K0 = num_Shr_u x1 n1 K0
  rw [e]

/- splicer/level.Amp (52) -/
def level_Amp_u (c1 : Int) (f1 : Int) (K0 : (Int → Prop)) : Prop :=
  Br (decide (c1 < (1 : Int)))
    (K0 0)
    (Br (decide ((23 : Int) < c1))
      (K0 0)
      (Br (decide (f1 < (0 : Int)))
        (K0 0)
        (Br (decide ((3 : Int) < f1))
          (K0 0)
          (level_steps
            (fun (r1 : (List Int)) =>
            Br ((decide ((0 : Int) ≤ f1)) && (decide (f1 < (4 : Int))))
              (Br (decide ((Int.toNat f1) < (List.length r1)))
                (num_Shr (List.getD r1 (Int.toNat f1) 0) (isub .i64 24 c1) K0)
                (False))
              (False))))))

noncomputable def level_Amp : Int → Int → (Int → Prop) → Prop := Classical.choose (⟨level_Amp_u, rfl⟩ : ∃ q, q = level_Amp_u)

theorem level_Amp_def (c1 : Int) (f1 : Int) (K0 : (Int → Prop)) : level_Amp c1 f1 K0 =
  (Br (decide (c1 < (1 : Int)))
    (K0 0)
    (Br (decide ((23 : Int) < c1))
      (K0 0)
      (Br (decide (f1 < (0 : Int)))
        (K0 0)
        (Br (decide ((3 : Int) < f1))
          (K0 0)
          (level_steps
            (fun (r1 : (List Int)) =>
            Br ((decide ((0 : Int) ≤ f1)) && (decide (f1 < (4 : Int))))
              (Br (decide ((Int.toNat f1) < (List.length r1)))
                (num_Shr (List.getD r1 (Int.toNat f1) 0) (isub .i64 24 c1) K0)
                (False))
              (False))))))) := by
  have e : level_Amp = level_Amp_u := Classical.choose_spec (⟨level_Amp_u, rfl⟩ : ∃ q, q = level_Amp_u)
  show level_Amp c1 f1 K0 = level_Amp_u c1 f1 K0
  rw [e]

/- loop of splicer/shape.squares, region 3 -/
def shape_squares_l3 : Nat → Int → (List Int) → Int → Int → (Int → Prop) → Prop
  | 0, _, _, _, _, _ => False
  | k + 1, n1, v2, v3, v4, K0 => Br (decide (v4 < v3))
      (Br ((decide ((0 : Int) ≤ v4)) && (decide (v4 < (((List.length v2) : Nat) : Int))))
        (let v6 : Int := (List.getD v2 (Int.toNat v4) 0)
        shape_squares_l3 k (iadd .i64 n1 (imul .i64 v6 v6)) v2 v3 (iadd .i64 v4 1) K0)
        (False))
      (K0 n1)

/- splicer/shape.squares (54) -/
def shape_squares_u (l1 : (List Int)) (K0 : (Int → Prop)) : Prop :=
  ∃ q, shape_squares_l3 q 0 l1 (l1.length : Int) 0 K0

noncomputable def shape_squares : (List Int) → (Int → Prop) → Prop := Classical.choose (⟨shape_squares_u, rfl⟩ : ∃ q, q = shape_squares_u)

theorem shape_squares_def (l1 : (List Int)) (K0 : (Int → Prop)) : shape_squares l1 K0 =
  (∃ q, shape_squares_l3 q 0 l1 (l1.length : Int) 0 K0) := by
  have e : shape_squares = shape_squares_u := Classical.choose_spec (⟨shape_squares_u, rfl⟩ : ∃ q, q = shape_squares_u)
  show shape_squares l1 K0 = shape_squares_u l1 K0
  rw [e]

/- loop of splicer/root.Sqrt, region 5 -/
def root_Sqrt_l5 : Nat → Int → Int → Int → (Int → Prop) → Prop
  | 0, _, _, _, _ => False
  | k + 1, n2, r1, v3, K0 => Br (decide (v3 < (31 : Int)))
      (let v5 : Int := (isub .i64 30 v3)
      Br (decide (v5 < (0 : Int)))
        (False)
        (let v7 : Int := (ior .i64 r1 (ishl .i64 1 v5))
        Br (decide ((imul .i64 v7 v7) ≤ n2))
          (root_Sqrt_l5 k n2 v7 (iadd .i64 v3 1) K0)
          (root_Sqrt_l5 k n2 r1 (iadd .i64 v3 1) K0)))
      (K0 r1)

/- splicer/root.Sqrt (53) -/
def root_Sqrt_u (n1 : Int) (K0 : (Int → Prop)) : Prop :=
  Br (decide (n1 < (0 : Int)))
    (K0 0)
    (Br (decide ((1152921504606846976 : Int) < n1))
      (K0 0)
      (∃ q, root_Sqrt_l5 q n1 0 0 K0))

noncomputable def root_Sqrt : Int → (Int → Prop) → Prop := Classical.choose (⟨root_Sqrt_u, rfl⟩ : ∃ q, q = root_Sqrt_u)

theorem root_Sqrt_def (n1 : Int) (K0 : (Int → Prop)) : root_Sqrt n1 K0 =
  (Br (decide (n1 < (0 : Int)))
    (K0 0)
    (Br (decide ((1152921504606846976 : Int) < n1))
      (K0 0)
      (∃ q, root_Sqrt_l5 q n1 0 0 K0))) := by
  have e : root_Sqrt = root_Sqrt_u := Classical.choose_spec (⟨root_Sqrt_u, rfl⟩ : ∃ q, q = root_Sqrt_u)
  show root_Sqrt n1 K0 = root_Sqrt_u n1 K0
  rw [e]

/- join of splicer/num.Mod, region 7 -/
def num_Mod_j7 (a3 : Int) (b3 : Int) (left2 : Int) (v7 : Bool) (K0 : (Int → Int → Prop)) (K1 : (Int → Int → Int → Prop)) : Prop :=
  Br v7
    (Br (decide (b3 = (0 : Int)))
      (False)
      (K0 (isub .i64 (iquo .i64 a3 b3) 1) left2))
    (K1 a3 b3 left2)

/- join of splicer/num.Mod, region 8 -/
def num_Mod_j8 (a6 : Int) (b6 : Int) (left5 : Int) (K0 : (Int → Int → Prop)) : Prop :=
  Br (decide (b6 = (0 : Int)))
    (False)
    (K0 (iquo .i64 a6 b6) left5)

/- join of splicer/num.Mod, region 6 -/
def num_Mod_j6 (a2 : Int) (b2 : Int) (left1 : Int) (K0 : (Int → Int → Prop)) : Prop :=
  Br (decide (a2 < (0 : Int)))
    (num_Mod_j7 a2 b2 left1 (decide ((0 : Int) < left1)) K0
      (fun (a4 : Int) (b4 : Int) (left3 : Int) =>
      num_Mod_j8 a4 b4 left3 K0))
    (num_Mod_j7 a2 b2 left1 false K0
      (fun (a5 : Int) (b5 : Int) (left4 : Int) =>
      num_Mod_j8 a5 b5 left4 K0))

/- splicer/num.Mod (91) -/
def num_Mod_u (a1 : Int) (b1 : Int) (K0 : (Int → Int → Prop)) : Prop :=
  Br (decide (b1 < (1 : Int)))
    (K0 0 0)
    (Br (decide (b1 = (0 : Int)))
      (False)
      (let v2 : Int := (irem .i64 a1 b1)
      Br (decide (v2 < (0 : Int)))
        (num_Mod_j6 a1 b1 (iadd .i64 v2 b1) K0)
        (num_Mod_j6 a1 b1 v2 K0)))

noncomputable def num_Mod : Int → Int → (Int → Int → Prop) → Prop := Classical.choose (⟨num_Mod_u, rfl⟩ : ∃ q, q = num_Mod_u)

theorem num_Mod_def (a1 : Int) (b1 : Int) (K0 : (Int → Int → Prop)) : num_Mod a1 b1 K0 =
  (Br (decide (b1 < (1 : Int)))
    (K0 0 0)
    (Br (decide (b1 = (0 : Int)))
      (False)
      (let v2 : Int := (irem .i64 a1 b1)
      Br (decide (v2 < (0 : Int)))
        (num_Mod_j6 a1 b1 (iadd .i64 v2 b1) K0)
        (num_Mod_j6 a1 b1 v2 K0)))) := by
  have e : num_Mod = num_Mod_u := Classical.choose_spec (⟨num_Mod_u, rfl⟩ : ∃ q, q = num_Mod_u)
  show num_Mod a1 b1 K0 = num_Mod_u a1 b1 K0
  rw [e]

/- splicer/num.Div (55) -/
def num_Div_u (a1 : Int) (b1 : Int) (K0 : (Int → Prop)) : Prop :=
  Br (decide (b1 < (1 : Int)))
    (K0 0)
    (num_within 1152921504606846976 [a1, b1]
      (fun (r1 : Bool) =>
      Br (!r1)
        (K0 0)
        (num_Mod a1 b1
          (fun (r2 : Int) (r3 : Int) =>
          Br (decide ((isub .i64 b1 r3) ≤ r3))
            (K0 (iadd .i64 r2 1))
            (K0 r2)))))

noncomputable def num_Div : Int → Int → (Int → Prop) → Prop := Classical.choose (⟨num_Div_u, rfl⟩ : ∃ q, q = num_Div_u)

theorem num_Div_def (a1 : Int) (b1 : Int) (K0 : (Int → Prop)) : num_Div a1 b1 K0 =
  (Br (decide (b1 < (1 : Int)))
    (K0 0)
    (num_within 1152921504606846976 [a1, b1]
      (fun (r1 : Bool) =>
      Br (!r1)
        (K0 0)
        (num_Mod a1 b1
          (fun (r2 : Int) (r3 : Int) =>
          Br (decide ((isub .i64 b1 r3) ≤ r3))
            (K0 (iadd .i64 r2 1))
            (K0 r2)))))) := by
  have e : num_Div = num_Div_u := Classical.choose_spec (⟨num_Div_u, rfl⟩ : ∃ q, q = num_Div_u)
  show num_Div a1 b1 K0 = num_Div_u a1 b1 K0
  rw [e]

/- join of splicer/shape.Values, region 3 -/
def shape_Values_j3 (x2 : (List Int)) (c2 : Int) (f2 : Int) (k1 : Int) (v6 : Bool) (K0 : (Bool → Prop)) (K1 : ((List Int) → Int → Int → Int → Prop)) : Prop :=
  Br v6
    (K0 false)
    (K1 x2 c2 f2 k1)

/- join of splicer/shape.Values, region 7 -/
def shape_Values_j7 (x9 : (List Int)) (a1 : Int) (v15 : Bool) (m2 : (List Int)) (K0 : (Bool → (List Int) → Prop)) (K1 : ((List Int) → Int → (List Int) → Prop)) : Prop :=
  Br v15
    (K0 true m2)
    (K1 x9 a1 m2)

/- loop of splicer/shape.Values, region 10 -/
def shape_Values_l10 : Nat → Int → Int → (List Int) → Int → Int → (List Int) → ((List Int) → Prop) → Prop
  | 0, _, _, _, _, _, _, _ => False
  | k + 1, a5, r6, v20, v21, v22, m8, K0 => Br (decide (v22 < v21))
      (Br ((decide ((0 : Int) ≤ v22)) && (decide (v22 < (((List.length v20) : Nat) : Int))))
        (let v24 : Int := (List.getD v20 (Int.toNat v22) 0)
        num_Abs v24
          (fun (r7 : Int) =>
          num_Div (ishl .i64 (imul .i64 a5 r7) 10) r6
            (fun (r8 : Int) =>
            Br (decide (v24 < (0 : Int)))
              (Br ((decide ((0 : Int) ≤ v22)) && (decide (v22 < (((List.length m8) : Nat) : Int))))
                (Br (decide ((Int.toNat v22) < (List.length m8)))
                  (shape_Values_l10 k a5 r6 v20 v21 (iadd .i64 v22 1) (List.set m8 (Int.toNat v22) (isub .i64 0 r8)) K0)
                  (False))
                (False))
              (Br ((decide ((0 : Int) ≤ v22)) && (decide (v22 < (((List.length m8) : Nat) : Int))))
                (Br (decide ((Int.toNat v22) < (List.length m8)))
                  (shape_Values_l10 k a5 r6 v20 v21 (iadd .i64 v22 1) (List.set m8 (Int.toNat v22) r8) K0)
                  (False))
                (False)))))
        (False))
      (K0 m8)

/- join of splicer/shape.Values, region 8 -/
def shape_Values_j8 (x12 : (List Int)) (a4 : Int) (m7 : (List Int)) (K0 : (Bool → (List Int) → Prop)) : Prop :=
  shape_squares x12
    (fun (r4 : Int) =>
    root_Sqrt (ishl .i64 r4 20)
      (fun (r5 : Int) =>
      ∃ q, shape_Values_l10 q a4 r5 x12 (x12.length : Int) 0 m7
        (fun (m11 : (List Int)) =>
        K0 true m11)))

/- join of splicer/shape.Values, region 4 -/
def shape_Values_j4 (x8 : (List Int)) (c8 : Int) (f8 : Int) (k7 : Int) (K0 : (Bool → (List Int) → Prop)) : Prop :=
  Br (((decide ((0 : Int) ≤ (x8.length : Int))) && (decide ((x8.length : Int) ≤ (x8.length : Int)))) && (decide (((x8.length : Int) * (8 : Int)) ≤ (140737488355328 : Int))))
    (let m1 : (List Int) := (List.replicate (Int.toNat (x8.length : Int)) 0)
    level_Amp c8 f8
      (fun (r3 : Int) =>
      Br (decide (k7 = (0 : Int)))
        (shape_Values_j7 x8 r3 true m1 K0
          (fun (x10 : (List Int)) (a2 : Int) (m4 : (List Int)) =>
          shape_Values_j8 x10 a2 m4 K0))
        (shape_Values_j7 x8 r3 (decide (r3 = (0 : Int))) m1 K0
          (fun (x11 : (List Int)) (a3 : Int) (m6 : (List Int)) =>
          shape_Values_j8 x11 a3 m6 K0))))
    (False)

/- splicer/shape.Values (23) -/
def shape_Values_u (x1 : (List Int)) (c1 : Int) (f1 : Int) (K0 : (Bool → Prop)) (K1 : (Bool → (List Int) → Prop)) : Prop :=
  pvq_Size x1
    (fun (r1 : Int) (r2 : Bool) =>
    Br (!r2)
      (shape_Values_j3 x1 c1 f1 r1 true K0
        (fun (x3 : (List Int)) (c3 : Int) (f3 : Int) (k2 : Int) =>
        shape_Values_j4 x3 c3 f3 k2 K1))
      (Br (decide (c1 < (0 : Int)))
        (shape_Values_j3 x1 c1 f1 r1 true K0
          (fun (x4 : (List Int)) (c4 : Int) (f4 : Int) (k3 : Int) =>
          shape_Values_j4 x4 c4 f4 k3 K1))
        (Br (decide ((23 : Int) < c1))
          (shape_Values_j3 x1 c1 f1 r1 true K0
            (fun (x5 : (List Int)) (c5 : Int) (f5 : Int) (k4 : Int) =>
            shape_Values_j4 x5 c5 f5 k4 K1))
          (Br (decide (f1 < (0 : Int)))
            (shape_Values_j3 x1 c1 f1 r1 true K0
              (fun (x6 : (List Int)) (c6 : Int) (f6 : Int) (k5 : Int) =>
              shape_Values_j4 x6 c6 f6 k5 K1))
            (shape_Values_j3 x1 c1 f1 r1 (decide ((3 : Int) < f1)) K0
              (fun (x7 : (List Int)) (c7 : Int) (f7 : Int) (k6 : Int) =>
              shape_Values_j4 x7 c7 f7 k6 K1))))))

noncomputable def shape_Values : (List Int) → Int → Int → (Bool → Prop) → (Bool → (List Int) → Prop) → Prop := Classical.choose (⟨shape_Values_u, rfl⟩ : ∃ q, q = shape_Values_u)

theorem shape_Values_def (x1 : (List Int)) (c1 : Int) (f1 : Int) (K0 : (Bool → Prop)) (K1 : (Bool → (List Int) → Prop)) : shape_Values x1 c1 f1 K0 K1 =
  (pvq_Size x1
    (fun (r1 : Int) (r2 : Bool) =>
    Br (!r2)
      (shape_Values_j3 x1 c1 f1 r1 true K0
        (fun (x3 : (List Int)) (c3 : Int) (f3 : Int) (k2 : Int) =>
        shape_Values_j4 x3 c3 f3 k2 K1))
      (Br (decide (c1 < (0 : Int)))
        (shape_Values_j3 x1 c1 f1 r1 true K0
          (fun (x4 : (List Int)) (c4 : Int) (f4 : Int) (k3 : Int) =>
          shape_Values_j4 x4 c4 f4 k3 K1))
        (Br (decide ((23 : Int) < c1))
          (shape_Values_j3 x1 c1 f1 r1 true K0
            (fun (x5 : (List Int)) (c5 : Int) (f5 : Int) (k4 : Int) =>
            shape_Values_j4 x5 c5 f5 k4 K1))
          (Br (decide (f1 < (0 : Int)))
            (shape_Values_j3 x1 c1 f1 r1 true K0
              (fun (x6 : (List Int)) (c6 : Int) (f6 : Int) (k5 : Int) =>
              shape_Values_j4 x6 c6 f6 k5 K1))
            (shape_Values_j3 x1 c1 f1 r1 (decide ((3 : Int) < f1)) K0
              (fun (x7 : (List Int)) (c7 : Int) (f7 : Int) (k6 : Int) =>
              shape_Values_j4 x7 c7 f7 k6 K1))))))) := by
  have e : shape_Values = shape_Values_u := Classical.choose_spec (⟨shape_Values_u, rfl⟩ : ∃ q, q = shape_Values_u)
  show shape_Values x1 c1 f1 K0 K1 = shape_Values_u x1 c1 f1 K0 K1
  rw [e]

/- loop of splicer/shape.Power, region 4 -/
def shape_Power_l4 : Nat → (List Int) → (List Int) → Int → Int → (Int → Prop) → ((List Int) → Prop) → Prop
  | 0, _, _, _, _, _, _ => False
  | k + 1, x2, v4, v5, v6, K0, K1 => Br (decide (v6 < v5))
      (Br ((decide ((0 : Int) ≤ v6)) && (decide (v6 < (((List.length v4) : Nat) : Int))))
        (let v8 : Int := (List.getD v4 (Int.toNat v6) 0)
        Br (decide (v8 < (-67108864 : Int)))
          (K0 0)
          (Br (decide ((67108864 : Int) < v8))
            (K0 0)
            (shape_Power_l4 k x2 v4 v5 (iadd .i64 v6 1) K0 K1)))
        (False))
      (K1 x2)

/- splicer/shape.Power (27) -/
def shape_Power_u (x1 : (List Int)) (K0 : (Int → Prop)) : Prop :=
  Br (decide ((64 : Int) < (x1.length : Int)))
    (K0 0)
    (∃ q, shape_Power_l4 q x1 x1 (x1.length : Int) 0 K0
      (fun (x3 : (List Int)) =>
      shape_squares x3
        (fun (r1 : Int) =>
        root_Sqrt r1 K0)))

noncomputable def shape_Power : (List Int) → (Int → Prop) → Prop := Classical.choose (⟨shape_Power_u, rfl⟩ : ∃ q, q = shape_Power_u)

theorem shape_Power_def (x1 : (List Int)) (K0 : (Int → Prop)) : shape_Power x1 K0 =
  (Br (decide ((64 : Int) < (x1.length : Int)))
    (K0 0)
    (∃ q, shape_Power_l4 q x1 x1 (x1.length : Int) 0 K0
      (fun (x3 : (List Int)) =>
      shape_squares x3
        (fun (r1 : Int) =>
        root_Sqrt r1 K0)))) := by
  have e : shape_Power = shape_Power_u := Classical.choose_spec (⟨shape_Power_u, rfl⟩ : ∃ q, q = shape_Power_u)
  show shape_Power x1 K0 = shape_Power_u x1 K0
  rw [e]

/- loop of splicer/level.Find, region 2 -/
def level_Find_l2 : Nat → Int → Int → Int → (Int → Prop) → Prop
  | 0, _, _, _, _ => False
  | k + 1, a2, low1, high1, K0 => Br (decide ((1 : Int) < (isub .i64 high1 low1)))
      (let v4 : Int := (iquo .i64 (iadd .i64 low1 high1) 2)
      level_Amp (iquo .i64 v4 4) (irem .i64 v4 4)
        (fun (r1 : Int) =>
        Br (decide (r1 ≤ a2))
          (level_Find_l2 k a2 v4 high1 K0)
          (level_Find_l2 k a2 low1 v4 K0)))
      (K0 low1)

/- splicer/level.Find (60) -/
def level_Find_u (a1 : Int) (K0 : (Int → Int → Prop)) : Prop :=
  ∃ q, level_Find_l2 q a1 3 96
    (fun (low2 : Int) =>
    Br (decide (low2 < (4 : Int)))
      (K0 0 0)
      (K0 (iquo .i64 low2 4) (irem .i64 low2 4)))

noncomputable def level_Find : Int → (Int → Int → Prop) → Prop := Classical.choose (⟨level_Find_u, rfl⟩ : ∃ q, q = level_Find_u)

theorem level_Find_def (a1 : Int) (K0 : (Int → Int → Prop)) : level_Find a1 K0 =
  (∃ q, level_Find_l2 q a1 3 96
    (fun (low2 : Int) =>
    Br (decide (low2 < (4 : Int)))
      (K0 0 0)
      (K0 (iquo .i64 low2 4) (irem .i64 low2 4)))) := by
  have e : level_Find = level_Find_u := Classical.choose_spec (⟨level_Find_u, rfl⟩ : ∃ q, q = level_Find_u)
  show level_Find a1 K0 = level_Find_u a1 K0
  rw [e]

/- splicer/shape.Level (25) -/
def shape_Level_u (x1 : (List Int)) (K0 : (Int → Int → Prop)) : Prop :=
  shape_Power x1
    (fun (r1 : Int) =>
    level_Find r1 K0)

noncomputable def shape_Level : (List Int) → (Int → Int → Prop) → Prop := Classical.choose (⟨shape_Level_u, rfl⟩ : ∃ q, q = shape_Level_u)

theorem shape_Level_def (x1 : (List Int)) (K0 : (Int → Int → Prop)) : shape_Level x1 K0 =
  (shape_Power x1
    (fun (r1 : Int) =>
    level_Find r1 K0)) := by
  have e : shape_Level = shape_Level_u := Classical.choose_spec (⟨shape_Level_u, rfl⟩ : ∃ q, q = shape_Level_u)
  show shape_Level x1 K0 = shape_Level_u x1 K0
  rw [e]

/- loop of splicer/splicerref01.Same, region 4 -/
def R01_Same_l4 : Nat → (List Int) → (List Int) → Int → (Bool → Prop) → (Prop) → Prop
  | 0, _, _, _, _, _ => False
  | k + 1, a2, b2, i1, K0, K1 => Br (decide (i1 < (a2.length : Int)))
      (Br ((decide ((0 : Int) ≤ i1)) && (decide (i1 < (((List.length a2) : Nat) : Int))))
        (Br ((decide ((0 : Int) ≤ i1)) && (decide (i1 < (((List.length b2) : Nat) : Int))))
          (Br (!(decide ((List.getD a2 (Int.toNat i1) 0) = (List.getD b2 (Int.toNat i1) 0))))
            (K0 false)
            (R01_Same_l4 k a2 b2 (iadd .i64 i1 1) K0 K1))
          (False))
        (False))
      (K1)

/- splicer/splicerref01.Same (19) -/
def R01_Same_u (a1 : (List Int)) (b1 : (List Int)) (K0 : (Bool → Prop)) : Prop :=
  Br (!(decide ((a1.length : Int) = (b1.length : Int))))
    (K0 false)
    (∃ q, R01_Same_l4 q a1 b1 0 K0
      (K0 true))

noncomputable def R01_Same : (List Int) → (List Int) → (Bool → Prop) → Prop := Classical.choose (⟨R01_Same_u, rfl⟩ : ∃ q, q = R01_Same_u)

theorem R01_Same_def (a1 : (List Int)) (b1 : (List Int)) (K0 : (Bool → Prop)) : R01_Same a1 b1 K0 =
  (Br (!(decide ((a1.length : Int) = (b1.length : Int))))
    (K0 false)
    (∃ q, R01_Same_l4 q a1 b1 0 K0
      (K0 true))) := by
  have e : R01_Same = R01_Same_u := Classical.choose_spec (⟨R01_Same_u, rfl⟩ : ∃ q, q = R01_Same_u)
  show R01_Same a1 b1 K0 = R01_Same_u a1 b1 K0
  rw [e]

/- join of splicer/splicerlaw17.awake, region 3 -/
def L17_awake_j3 (ok2 : Bool) (is1 : Bool) (m3 : (List Int)) (K0 : (Bool → Prop)) : Prop :=
  shape_Level [3, (-4)]
    (fun (r7 : Int) (r8 : Int) =>
    Br ok2
      (R01_Same m3 [16, 0]
        (fun (r9 : Bool) =>
        Br r9
          (Br (!is1)
            (shape_Power [3, (-4)]
              (fun (r10 : Int) =>
              Br (decide (r10 = (5 : Int)))
                (Br (decide (r7 = (2 : Int)))
                  (K0 (decide (r8 = (1 : Int))))
                  (K0 false))
                (K0 false)))
            (K0 false))
          (K0 false)))
      (K0 false))

/- join of splicer/splicerlaw17.awake, region 2 -/
def L17_awake_j2 (ok1 : Bool) (m2 : (List Int)) (K0 : (Bool → Prop)) : Prop :=
  shape_Values [] 4 0
    (fun (r4 : Bool) =>
    L17_awake_j3 ok1 r4 m2 K0)
    (fun (r5 : Bool) (r6 : (List Int)) =>
    L17_awake_j3 ok1 r5 m2 K0)

/- splicer/splicerlaw17.awake (22) -/
def L17_awake_u  (K0 : (Bool → Prop)) : Prop :=
  shape_Values [1, 0] 4 0
    (fun (r1 : Bool) =>
    L17_awake_j2 r1 [] K0)
    (fun (r2 : Bool) (r3 : (List Int)) =>
    L17_awake_j2 r2 r3 K0)

noncomputable def L17_awake : (Bool → Prop) → Prop := Classical.choose (⟨L17_awake_u, rfl⟩ : ∃ q, q = L17_awake_u)

theorem L17_awake_def  (K0 : (Bool → Prop)) : L17_awake K0 =
  (shape_Values [1, 0] 4 0
    (fun (r1 : Bool) =>
    L17_awake_j2 r1 [] K0)
    (fun (r2 : Bool) (r3 : (List Int)) =>
    L17_awake_j2 r2 r3 K0)) := by
  have e : L17_awake = L17_awake_u := Classical.choose_spec (⟨L17_awake_u, rfl⟩ : ∃ q, q = L17_awake_u)
  show L17_awake K0 = L17_awake_u K0
  rw [e]

/- splicer/splicerref16.far (62) -/
def R16_far_u (x1 : Int) (K0 : (Int → Prop)) : Prop :=
  Br (decide (x1 < (-24 : Int)))
    (K0 25)
    (Br (decide ((24 : Int) < x1))
      (K0 25)
      (K0 (imax x1 (isub .i64 0 x1))))

noncomputable def R16_far : Int → (Int → Prop) → Prop := Classical.choose (⟨R16_far_u, rfl⟩ : ∃ q, q = R16_far_u)

theorem R16_far_def (x1 : Int) (K0 : (Int → Prop)) : R16_far x1 K0 =
  (Br (decide (x1 < (-24 : Int)))
    (K0 25)
    (Br (decide ((24 : Int) < x1))
      (K0 25)
      (K0 (imax x1 (isub .i64 0 x1))))) := by
  have e : R16_far = R16_far_u := Classical.choose_spec (⟨R16_far_u, rfl⟩ : ∃ q, q = R16_far_u)
  show R16_far x1 K0 = R16_far_u x1 K0
  rw [e]

/- join of splicer/splicerref16.Size, region 2 -/
def R16_Size_j2 (x2 : (List Int)) (v5 : Bool) (K0 : (Int → Bool → Prop)) (K1 : ((List Int) → Prop)) : Prop :=
  Br v5
    (K0 0 false)
    (K1 x2)

/- loop of splicer/splicerref16.Size, region 5 -/
def R16_Size_l5 : Nat → (List Int) → Int → Int → (Int → Prop) → Prop
  | 0, _, _, _, _ => False
  | k + 1, x6, k1, i1, K0 => Br (decide (i1 < (x6.length : Int)))
      (Br ((decide ((0 : Int) ≤ i1)) && (decide (i1 < (((List.length x6) : Nat) : Int))))
        (R16_far (List.getD x6 (Int.toNat i1) 0)
          (fun (r1 : Int) =>
          R16_Size_l5 k x6 (iadd .i64 k1 r1) (iadd .i64 i1 1) K0))
        (False))
      (K0 k1)

/- join of splicer/splicerref16.Size, region 3 -/
def R16_Size_j3 (x5 : (List Int)) (K0 : (Int → Bool → Prop)) : Prop :=
  ∃ q, R16_Size_l5 q x5 0 0
    (fun (k2 : Int) =>
    Br (decide ((24 : Int) < k2))
      (K0 0 false)
      (K0 k2 true))

/- splicer/splicerref16.Size (29) -/
def R16_Size_u (x1 : (List Int)) (K0 : (Int → Bool → Prop)) : Prop :=
  Br (decide ((x1.length : Int) < (1 : Int)))
    (R16_Size_j2 x1 true K0
      (fun (x3 : (List Int)) =>
      R16_Size_j3 x3 K0))
    (R16_Size_j2 x1 (decide ((8 : Int) < (x1.length : Int))) K0
      (fun (x4 : (List Int)) =>
      R16_Size_j3 x4 K0))

noncomputable def R16_Size : (List Int) → (Int → Bool → Prop) → Prop := Classical.choose (⟨R16_Size_u, rfl⟩ : ∃ q, q = R16_Size_u)

theorem R16_Size_def (x1 : (List Int)) (K0 : (Int → Bool → Prop)) : R16_Size x1 K0 =
  (Br (decide ((x1.length : Int) < (1 : Int)))
    (R16_Size_j2 x1 true K0
      (fun (x3 : (List Int)) =>
      R16_Size_j3 x3 K0))
    (R16_Size_j2 x1 (decide ((8 : Int) < (x1.length : Int))) K0
      (fun (x4 : (List Int)) =>
      R16_Size_j3 x4 K0))) := by
  have e : R16_Size = R16_Size_u := Classical.choose_spec (⟨R16_Size_u, rfl⟩ : ∃ q, q = R16_Size_u)
  show R16_Size x1 K0 = R16_Size_u x1 K0
  rw [e]

/- splicer/splicerref08.step (63) -/
def R08_step_u (f1 : Int) (K0 : (Int → Prop)) : Prop :=
  Br (decide (f1 = (0 : Int)))
    (K0 16777216)
    (Br (decide (f1 = (1 : Int)))
      (K0 19951585)
      (Br (decide (f1 = (2 : Int)))
        (K0 23726566)
        (K0 28215802)))

noncomputable def R08_step : Int → (Int → Prop) → Prop := Classical.choose (⟨R08_step_u, rfl⟩ : ∃ q, q = R08_step_u)

theorem R08_step_def (f1 : Int) (K0 : (Int → Prop)) : R08_step f1 K0 =
  (Br (decide (f1 = (0 : Int)))
    (K0 16777216)
    (Br (decide (f1 = (1 : Int)))
      (K0 19951585)
      (Br (decide (f1 = (2 : Int)))
        (K0 23726566)
        (K0 28215802)))) := by
  have e : R08_step = R08_step_u := Classical.choose_spec (⟨R08_step_u, rfl⟩ : ∃ q, q = R08_step_u)
  show R08_step f1 K0 = R08_step_u f1 K0
  rw [e]

/- splicer/splicerref01.Mod (74) -/
def R01_Mod_u (a1 : Int) (b1 : Int) (K0 : (Int → Int → Prop)) : Prop :=
  Br (decide (b1 < (1 : Int)))
    (K0 0 0)
    (Br (decide (b1 = (0 : Int)))
      (False)
      (let v2 : Int := (iquo .i64 a1 b1)
      Br (decide (b1 = (0 : Int)))
        (False)
        (let v3 : Int := (irem .i64 a1 b1)
        Br (decide (v3 < (0 : Int)))
          (K0 (isub .i64 v2 1) (iadd .i64 v3 b1))
          (K0 v2 v3))))

noncomputable def R01_Mod : Int → Int → (Int → Int → Prop) → Prop := Classical.choose (⟨R01_Mod_u, rfl⟩ : ∃ q, q = R01_Mod_u)

theorem R01_Mod_def (a1 : Int) (b1 : Int) (K0 : (Int → Int → Prop)) : R01_Mod a1 b1 K0 =
  (Br (decide (b1 < (1 : Int)))
    (K0 0 0)
    (Br (decide (b1 = (0 : Int)))
      (False)
      (let v2 : Int := (iquo .i64 a1 b1)
      Br (decide (b1 = (0 : Int)))
        (False)
        (let v3 : Int := (irem .i64 a1 b1)
        Br (decide (v3 < (0 : Int)))
          (K0 (isub .i64 v2 1) (iadd .i64 v3 b1))
          (K0 v2 v3))))) := by
  have e : R01_Mod = R01_Mod_u := Classical.choose_spec (⟨R01_Mod_u, rfl⟩ : ∃ q, q = R01_Mod_u)
  show R01_Mod a1 b1 K0 = R01_Mod_u a1 b1 K0
  rw [e]

/- splicer/splicerref01.Shr (50) -/
def R01_Shr_u (x1 : Int) (n1 : Int) (K0 : (Int → Prop)) : Prop :=
  Br (decide (x1 < (-2305843009213693952 : Int)))
    (K0 0)
    (Br (decide ((2305843009213693952 : Int) < x1))
      (K0 0)
      (Br (decide (n1 < (0 : Int)))
        (K0 0)
        (Br (decide ((60 : Int) < n1))
          (K0 0)
          (Br (decide (n1 < (0 : Int)))
            (False)
            (R01_Mod x1 (ishl .i64 1 n1)
              (fun (r1 : Int) (r2 : Int) =>
              Br (decide (n1 < (0 : Int)))
                (False)
                (Br (decide ((ishl .i64 1 n1) ≤ (imul .i64 2 r2)))
                  (K0 (iadd .i64 r1 1))
                  (K0 r1))))))))

noncomputable def R01_Shr : Int → Int → (Int → Prop) → Prop := Classical.choose (⟨R01_Shr_u, rfl⟩ : ∃ q, q = R01_Shr_u)

theorem R01_Shr_def (x1 : Int) (n1 : Int) (K0 : (Int → Prop)) : R01_Shr x1 n1 K0 =
  (Br (decide (x1 < (-2305843009213693952 : Int)))
    (K0 0)
    (Br (decide ((2305843009213693952 : Int) < x1))
      (K0 0)
      (Br (decide (n1 < (0 : Int)))
        (K0 0)
        (Br (decide ((60 : Int) < n1))
          (K0 0)
          (Br (decide (n1 < (0 : Int)))
            (False)
            (R01_Mod x1 (ishl .i64 1 n1)
              (fun (r1 : Int) (r2 : Int) =>
              Br (decide (n1 < (0 : Int)))
                (False)
                (Br (decide ((ishl .i64 1 n1) ≤ (imul .i64 2 r2)))
                  (K0 (iadd .i64 r1 1))
                  (K0 r1))))))))) := by
  have e : R01_Shr = R01_Shr_u := Classical.choose_spec (⟨R01_Shr_u, rfl⟩ : ∃ q, q = R01_Shr_u)
  show R01_Shr x1 n1 K0 = R01_Shr_u x1 n1 K0
  rw [e]

/- splicer/splicerref08.Amp (30) -/
def R08_Amp_u (c1 : Int) (f1 : Int) (K0 : (Int → Prop)) : Prop :=
  Br (decide (c1 < (1 : Int)))
    (K0 0)
    (Br (decide ((23 : Int) < c1))
      (K0 0)
      (Br (decide (f1 < (0 : Int)))
        (K0 0)
        (Br (decide ((3 : Int) < f1))
          (K0 0)
          (R08_step f1
            (fun (r1 : Int) =>
            R01_Shr r1 (isub .i64 24 c1) K0)))))

noncomputable def R08_Amp : Int → Int → (Int → Prop) → Prop := Classical.choose (⟨R08_Amp_u, rfl⟩ : ∃ q, q = R08_Amp_u)

theorem R08_Amp_def (c1 : Int) (f1 : Int) (K0 : (Int → Prop)) : R08_Amp c1 f1 K0 =
  (Br (decide (c1 < (1 : Int)))
    (K0 0)
    (Br (decide ((23 : Int) < c1))
      (K0 0)
      (Br (decide (f1 < (0 : Int)))
        (K0 0)
        (Br (decide ((3 : Int) < f1))
          (K0 0)
          (R08_step f1
            (fun (r1 : Int) =>
            R01_Shr r1 (isub .i64 24 c1) K0)))))) := by
  have e : R08_Amp = R08_Amp_u := Classical.choose_spec (⟨R08_Amp_u, rfl⟩ : ∃ q, q = R08_Amp_u)
  show R08_Amp c1 f1 K0 = R08_Amp_u c1 f1 K0
  rw [e]

/- loop of splicer/splicerref17.squares, region 3 -/
def R17_squares_l3 : Nat → (List Int) → Int → Int → (Int → Prop) → Prop
  | 0, _, _, _, _ => False
  | k + 1, x2, n1, i1, K0 => Br (decide (i1 < (x2.length : Int)))
      (Br ((decide ((0 : Int) ≤ i1)) && (decide (i1 < (((List.length x2) : Nat) : Int))))
        (Br ((decide ((0 : Int) ≤ i1)) && (decide (i1 < (((List.length x2) : Nat) : Int))))
          (R17_squares_l3 k x2 (iadd .i64 n1 (imul .i64 (List.getD x2 (Int.toNat i1) 0) (List.getD x2 (Int.toNat i1) 0))) (iadd .i64 i1 1) K0)
          (False))
        (False))
      (K0 n1)

/- splicer/splicerref17.squares (58) -/
def R17_squares_u (x1 : (List Int)) (K0 : (Int → Prop)) : Prop :=
  ∃ q, R17_squares_l3 q x1 0 0 K0

noncomputable def R17_squares : (List Int) → (Int → Prop) → Prop := Classical.choose (⟨R17_squares_u, rfl⟩ : ∃ q, q = R17_squares_u)

theorem R17_squares_def (x1 : (List Int)) (K0 : (Int → Prop)) : R17_squares x1 K0 =
  (∃ q, R17_squares_l3 q x1 0 0 K0) := by
  have e : R17_squares = R17_squares_u := Classical.choose_spec (⟨R17_squares_u, rfl⟩ : ∃ q, q = R17_squares_u)
  show R17_squares x1 K0 = R17_squares_u x1 K0
  rw [e]

/- loop of splicer/splicerref06.Sqrt, region 4 -/
def R06_Sqrt_l4 : Nat → Int → Int → Int → (Int → Prop) → Prop
  | 0, _, _, _, _ => False
  | k + 1, n2, low1, high1, K0 => Br (decide ((1 : Int) < (isub .i64 high1 low1)))
      (let v6 : Int := (iquo .i64 (iadd .i64 low1 high1) 2)
      Br (decide ((imul .i64 v6 v6) ≤ n2))
        (R06_Sqrt_l4 k n2 v6 high1 K0)
        (R06_Sqrt_l4 k n2 low1 v6 K0))
      (K0 low1)

/- splicer/splicerref06.Sqrt (57) -/
def R06_Sqrt_u (n1 : Int) (K0 : (Int → Prop)) : Prop :=
  Br (decide (n1 < (0 : Int)))
    (K0 0)
    (Br (decide ((1152921504606846976 : Int) < n1))
      (K0 0)
      (∃ q, R06_Sqrt_l4 q n1 0 1073741825 K0))

noncomputable def R06_Sqrt : Int → (Int → Prop) → Prop := Classical.choose (⟨R06_Sqrt_u, rfl⟩ : ∃ q, q = R06_Sqrt_u)

theorem R06_Sqrt_def (n1 : Int) (K0 : (Int → Prop)) : R06_Sqrt n1 K0 =
  (Br (decide (n1 < (0 : Int)))
    (K0 0)
    (Br (decide ((1152921504606846976 : Int) < n1))
      (K0 0)
      (∃ q, R06_Sqrt_l4 q n1 0 1073741825 K0))) := by
  have e : R06_Sqrt = R06_Sqrt_u := Classical.choose_spec (⟨R06_Sqrt_u, rfl⟩ : ∃ q, q = R06_Sqrt_u)
  show R06_Sqrt n1 K0 = R06_Sqrt_u n1 K0
  rw [e]

/- splicer/splicerref01.Abs (31) -/
def R01_Abs_u (x1 : Int) (K0 : (Int → Prop)) : Prop :=
  Br (decide (x1 < (-4611686018427387904 : Int)))
    (K0 0)
    (Br (decide ((4611686018427387904 : Int) < x1))
      (K0 0)
      (K0 (imax x1 (isub .i64 0 x1))))

noncomputable def R01_Abs : Int → (Int → Prop) → Prop := Classical.choose (⟨R01_Abs_u, rfl⟩ : ∃ q, q = R01_Abs_u)

theorem R01_Abs_def (x1 : Int) (K0 : (Int → Prop)) : R01_Abs x1 K0 =
  (Br (decide (x1 < (-4611686018427387904 : Int)))
    (K0 0)
    (Br (decide ((4611686018427387904 : Int) < x1))
      (K0 0)
      (K0 (imax x1 (isub .i64 0 x1))))) := by
  have e : R01_Abs = R01_Abs_u := Classical.choose_spec (⟨R01_Abs_u, rfl⟩ : ∃ q, q = R01_Abs_u)
  show R01_Abs x1 K0 = R01_Abs_u x1 K0
  rw [e]

/- splicer/splicerref01.Div (59) -/
def R01_Div_u (a1 : Int) (b1 : Int) (K0 : (Int → Prop)) : Prop :=
  Br (decide (a1 < (-1152921504606846976 : Int)))
    (K0 0)
    (Br (decide ((1152921504606846976 : Int) < a1))
      (K0 0)
      (Br (decide (b1 < (1 : Int)))
        (K0 0)
        (Br (decide ((1152921504606846976 : Int) < b1))
          (K0 0)
          (R01_Mod a1 b1
            (fun (r1 : Int) (r2 : Int) =>
            Br (decide (b1 ≤ (imul .i64 2 r2)))
              (K0 (iadd .i64 r1 1))
              (K0 r1))))))

noncomputable def R01_Div : Int → Int → (Int → Prop) → Prop := Classical.choose (⟨R01_Div_u, rfl⟩ : ∃ q, q = R01_Div_u)

theorem R01_Div_def (a1 : Int) (b1 : Int) (K0 : (Int → Prop)) : R01_Div a1 b1 K0 =
  (Br (decide (a1 < (-1152921504606846976 : Int)))
    (K0 0)
    (Br (decide ((1152921504606846976 : Int) < a1))
      (K0 0)
      (Br (decide (b1 < (1 : Int)))
        (K0 0)
        (Br (decide ((1152921504606846976 : Int) < b1))
          (K0 0)
          (R01_Mod a1 b1
            (fun (r1 : Int) (r2 : Int) =>
            Br (decide (b1 ≤ (imul .i64 2 r2)))
              (K0 (iadd .i64 r1 1))
              (K0 r1))))))) := by
  have e : R01_Div = R01_Div_u := Classical.choose_spec (⟨R01_Div_u, rfl⟩ : ∃ q, q = R01_Div_u)
  show R01_Div a1 b1 K0 = R01_Div_u a1 b1 K0
  rw [e]

/- join of splicer/splicerref17.Values, region 3 -/
def R17_Values_j3 (x2 : (List Int)) (c2 : Int) (f2 : Int) (k1 : Int) (v6 : Bool) (K0 : (Bool → Prop)) (K1 : ((List Int) → Int → Int → Int → Prop)) : Prop :=
  Br v6
    (K0 false)
    (K1 x2 c2 f2 k1)

/- join of splicer/splicerref17.Values, region 6 -/
def R17_Values_j6 (x9 : (List Int)) (c9 : Int) (f9 : Int) (v15 : Bool) (m2 : (List Int)) (K0 : (Bool → (List Int) → Prop)) (K1 : ((List Int) → Int → Int → (List Int) → Prop)) : Prop :=
  Br v15
    (K0 true m2)
    (K1 x9 c9 f9 m2)

/- join of splicer/splicerref17.Values, region 14 -/
def R17_Values_j14 (x14 : (List Int)) (a2 : Int) (r9 : Int) (i2 : Int) (v27 : Int) (m9 : (List Int)) (K0 : ((List Int) → Int → Int → Int → (List Int) → Prop)) : Prop :=
  Br ((decide ((0 : Int) ≤ i2)) && (decide (i2 < (((List.length m9) : Nat) : Int))))
    (Br (decide ((Int.toNat i2) < (List.length m9)))
      (K0 x14 a2 r9 i2 (List.set m9 (Int.toNat i2) v27))
      (False))
    (False)

/- loop of splicer/splicerref17.Values, region 9 -/
def R17_Values_l9 : Nat → (List Int) → Int → Int → Int → (List Int) → ((List Int) → Prop) → Prop
  | 0, _, _, _, _, _, _ => False
  | k + 1, x13, a1, r6, i1, m8, K0 => Br (decide (i1 < (x13.length : Int)))
      (Br ((decide ((0 : Int) ≤ i1)) && (decide (i1 < (((List.length x13) : Nat) : Int))))
        (R01_Abs (List.getD x13 (Int.toNat i1) 0)
          (fun (r7 : Int) =>
          R01_Div (ishl .i64 (imul .i64 a1 r7) 10) r6
            (fun (r8 : Int) =>
            Br ((decide ((0 : Int) ≤ i1)) && (decide (i1 < (((List.length x13) : Nat) : Int))))
              (Br (decide ((List.getD x13 (Int.toNat i1) 0) < (0 : Int)))
                (R17_Values_j14 x13 a1 r6 i1 (isub .i64 0 r8) m8
                  (fun (x15 : (List Int)) (a3 : Int) (r10 : Int) (i3 : Int) (m11 : (List Int)) =>
                  R17_Values_l9 k x15 a3 r10 (iadd .i64 i3 1) m11 K0))
                (R17_Values_j14 x13 a1 r6 i1 r8 m8
                  (fun (x16 : (List Int)) (a4 : Int) (r11 : Int) (i4 : Int) (m12 : (List Int)) =>
                  R17_Values_l9 k x16 a4 r11 (iadd .i64 i4 1) m12 K0)))
              (False))))
        (False))
      (K0 m8)

/- join of splicer/splicerref17.Values, region 7 -/
def R17_Values_j7 (x12 : (List Int)) (c12 : Int) (f12 : Int) (m7 : (List Int)) (K0 : (Bool → (List Int) → Prop)) : Prop :=
  R08_Amp c12 f12
    (fun (r3 : Int) =>
    R17_squares x12
      (fun (r4 : Int) =>
      R06_Sqrt (ishl .i64 r4 20)
        (fun (r5 : Int) =>
        ∃ q, R17_Values_l9 q x12 r3 r5 0 m7
          (fun (m13 : (List Int)) =>
          K0 true m13))))

/- join of splicer/splicerref17.Values, region 4 -/
def R17_Values_j4 (x8 : (List Int)) (c8 : Int) (f8 : Int) (k7 : Int) (K0 : (Bool → (List Int) → Prop)) : Prop :=
  Br (((decide ((0 : Int) ≤ (x8.length : Int))) && (decide ((x8.length : Int) ≤ (x8.length : Int)))) && (decide (((x8.length : Int) * (8 : Int)) ≤ (140737488355328 : Int))))
    (let m1 : (List Int) := (List.replicate (Int.toNat (x8.length : Int)) 0)
    Br (decide (k7 = (0 : Int)))
      (R17_Values_j6 x8 c8 f8 true m1 K0
        (fun (x10 : (List Int)) (c10 : Int) (f10 : Int) (m4 : (List Int)) =>
        R17_Values_j7 x10 c10 f10 m4 K0))
      (R17_Values_j6 x8 c8 f8 (decide (c8 = (0 : Int))) m1 K0
        (fun (x11 : (List Int)) (c11 : Int) (f11 : Int) (m6 : (List Int)) =>
        R17_Values_j7 x11 c11 f11 m6 K0)))
    (False)

/- splicer/splicerref17.Values (24) -/
def R17_Values_u (x1 : (List Int)) (c1 : Int) (f1 : Int) (K0 : (Bool → Prop)) (K1 : (Bool → (List Int) → Prop)) : Prop :=
  R16_Size x1
    (fun (r1 : Int) (r2 : Bool) =>
    Br (!r2)
      (R17_Values_j3 x1 c1 f1 r1 true K0
        (fun (x3 : (List Int)) (c3 : Int) (f3 : Int) (k2 : Int) =>
        R17_Values_j4 x3 c3 f3 k2 K1))
      (Br (decide (c1 < (0 : Int)))
        (R17_Values_j3 x1 c1 f1 r1 true K0
          (fun (x4 : (List Int)) (c4 : Int) (f4 : Int) (k3 : Int) =>
          R17_Values_j4 x4 c4 f4 k3 K1))
        (Br (decide ((23 : Int) < c1))
          (R17_Values_j3 x1 c1 f1 r1 true K0
            (fun (x5 : (List Int)) (c5 : Int) (f5 : Int) (k4 : Int) =>
            R17_Values_j4 x5 c5 f5 k4 K1))
          (Br (decide (f1 < (0 : Int)))
            (R17_Values_j3 x1 c1 f1 r1 true K0
              (fun (x6 : (List Int)) (c6 : Int) (f6 : Int) (k5 : Int) =>
              R17_Values_j4 x6 c6 f6 k5 K1))
            (R17_Values_j3 x1 c1 f1 r1 (decide ((3 : Int) < f1)) K0
              (fun (x7 : (List Int)) (c7 : Int) (f7 : Int) (k6 : Int) =>
              R17_Values_j4 x7 c7 f7 k6 K1))))))

noncomputable def R17_Values : (List Int) → Int → Int → (Bool → Prop) → (Bool → (List Int) → Prop) → Prop := Classical.choose (⟨R17_Values_u, rfl⟩ : ∃ q, q = R17_Values_u)

theorem R17_Values_def (x1 : (List Int)) (c1 : Int) (f1 : Int) (K0 : (Bool → Prop)) (K1 : (Bool → (List Int) → Prop)) : R17_Values x1 c1 f1 K0 K1 =
  (R16_Size x1
    (fun (r1 : Int) (r2 : Bool) =>
    Br (!r2)
      (R17_Values_j3 x1 c1 f1 r1 true K0
        (fun (x3 : (List Int)) (c3 : Int) (f3 : Int) (k2 : Int) =>
        R17_Values_j4 x3 c3 f3 k2 K1))
      (Br (decide (c1 < (0 : Int)))
        (R17_Values_j3 x1 c1 f1 r1 true K0
          (fun (x4 : (List Int)) (c4 : Int) (f4 : Int) (k3 : Int) =>
          R17_Values_j4 x4 c4 f4 k3 K1))
        (Br (decide ((23 : Int) < c1))
          (R17_Values_j3 x1 c1 f1 r1 true K0
            (fun (x5 : (List Int)) (c5 : Int) (f5 : Int) (k4 : Int) =>
            R17_Values_j4 x5 c5 f5 k4 K1))
          (Br (decide (f1 < (0 : Int)))
            (R17_Values_j3 x1 c1 f1 r1 true K0
              (fun (x6 : (List Int)) (c6 : Int) (f6 : Int) (k5 : Int) =>
              R17_Values_j4 x6 c6 f6 k5 K1))
            (R17_Values_j3 x1 c1 f1 r1 (decide ((3 : Int) < f1)) K0
              (fun (x7 : (List Int)) (c7 : Int) (f7 : Int) (k6 : Int) =>
              R17_Values_j4 x7 c7 f7 k6 K1))))))) := by
  have e : R17_Values = R17_Values_u := Classical.choose_spec (⟨R17_Values_u, rfl⟩ : ∃ q, q = R17_Values_u)
  show R17_Values x1 c1 f1 K0 K1 = R17_Values_u x1 c1 f1 K0 K1
  rw [e]

/- loop of splicer/splicerref01.Within, region 2 -/
def R01_Within_l2 : Nat → (List Int) → Int → Int → Int → (Bool → Prop) → (Prop) → Prop
  | 0, _, _, _, _, _, _ => False
  | k + 1, l2, low2, high2, i1, K0, K1 => Br (decide (i1 < (l2.length : Int)))
      (Br ((decide ((0 : Int) ≤ i1)) && (decide (i1 < (((List.length l2) : Nat) : Int))))
        (Br (decide ((List.getD l2 (Int.toNat i1) 0) < low2))
          (K0 false)
          (Br ((decide ((0 : Int) ≤ i1)) && (decide (i1 < (((List.length l2) : Nat) : Int))))
            (Br (decide (high2 < (List.getD l2 (Int.toNat i1) 0)))
              (K0 false)
              (R01_Within_l2 k l2 low2 high2 (iadd .i64 i1 1) K0 K1))
            (False)))
        (False))
      (K1)

/- splicer/splicerref01.Within (40) -/
def R01_Within_u (l1 : (List Int)) (low1 : Int) (high1 : Int) (K0 : (Bool → Prop)) : Prop :=
  ∃ q, R01_Within_l2 q l1 low1 high1 0 K0
    (K0 true)

noncomputable def R01_Within : (List Int) → Int → Int → (Bool → Prop) → Prop := Classical.choose (⟨R01_Within_u, rfl⟩ : ∃ q, q = R01_Within_u)

theorem R01_Within_def (l1 : (List Int)) (low1 : Int) (high1 : Int) (K0 : (Bool → Prop)) : R01_Within l1 low1 high1 K0 =
  (∃ q, R01_Within_l2 q l1 low1 high1 0 K0
    (K0 true)) := by
  have e : R01_Within = R01_Within_u := Classical.choose_spec (⟨R01_Within_u, rfl⟩ : ∃ q, q = R01_Within_u)
  show R01_Within l1 low1 high1 K0 = R01_Within_u l1 low1 high1 K0
  rw [e]

/- splicer/splicerref17.Power (28) -/
def R17_Power_u (x1 : (List Int)) (K0 : (Int → Prop)) : Prop :=
  Br (decide ((64 : Int) < (x1.length : Int)))
    (K0 0)
    (R01_Within x1 (-67108864) 67108864
      (fun (r1 : Bool) =>
      Br (!r1)
        (K0 0)
        (R17_squares x1
          (fun (r2 : Int) =>
          R06_Sqrt r2 K0))))

noncomputable def R17_Power : (List Int) → (Int → Prop) → Prop := Classical.choose (⟨R17_Power_u, rfl⟩ : ∃ q, q = R17_Power_u)

theorem R17_Power_def (x1 : (List Int)) (K0 : (Int → Prop)) : R17_Power x1 K0 =
  (Br (decide ((64 : Int) < (x1.length : Int)))
    (K0 0)
    (R01_Within x1 (-67108864) 67108864
      (fun (r1 : Bool) =>
      Br (!r1)
        (K0 0)
        (R17_squares x1
          (fun (r2 : Int) =>
          R06_Sqrt r2 K0))))) := by
  have e : R17_Power = R17_Power_u := Classical.choose_spec (⟨R17_Power_u, rfl⟩ : ∃ q, q = R17_Power_u)
  show R17_Power x1 K0 = R17_Power_u x1 K0
  rw [e]

/- loop of splicer/splicerref08.Find, region 5 -/
def R08_Find_l5 : Nat → Int → Int → Int → (Int → Int → Prop) → (Int → Int → Prop) → Prop
  | 0, _, _, _, _, _ => False
  | k + 1, a3, c2, f1, K0, K1 => Br (decide ((0 : Int) ≤ f1))
      (R08_Amp c2 f1
        (fun (r1 : Int) =>
        Br (decide (r1 ≤ a3))
          (K0 c2 f1)
          (R08_Find_l5 k a3 c2 (isub .i64 f1 1) K0 K1)))
      (K1 a3 c2)

/- loop of splicer/splicerref08.Find, region 2 -/
def R08_Find_l2 : Nat → Int → Int → (Int → Int → Prop) → (Prop) → Prop
  | 0, _, _, _, _ => False
  | k + 1, a2, c1, K0, K1 => Br (decide ((1 : Int) ≤ c1))
      (∃ q, R08_Find_l5 q a2 c1 3 K0
        (fun (a4 : Int) (c3 : Int) =>
        R08_Find_l2 k a4 (isub .i64 c3 1) K0 K1))
      (K1)

/- splicer/splicerref08.Find (61) -/
def R08_Find_u (a1 : Int) (K0 : (Int → Int → Prop)) : Prop :=
  ∃ q, R08_Find_l2 q a1 23 K0
    (K0 0 0)

noncomputable def R08_Find : Int → (Int → Int → Prop) → Prop := Classical.choose (⟨R08_Find_u, rfl⟩ : ∃ q, q = R08_Find_u)

theorem R08_Find_def (a1 : Int) (K0 : (Int → Int → Prop)) : R08_Find a1 K0 =
  (∃ q, R08_Find_l2 q a1 23 K0
    (K0 0 0)) := by
  have e : R08_Find = R08_Find_u := Classical.choose_spec (⟨R08_Find_u, rfl⟩ : ∃ q, q = R08_Find_u)
  show R08_Find a1 K0 = R08_Find_u a1 K0
  rw [e]

/- splicer/splicerref17.Level (26) -/
def R17_Level_u (x1 : (List Int)) (K0 : (Int → Int → Prop)) : Prop :=
  R17_Power x1
    (fun (r1 : Int) =>
    R08_Find r1 K0)

noncomputable def R17_Level : (List Int) → (Int → Int → Prop) → Prop := Classical.choose (⟨R17_Level_u, rfl⟩ : ∃ q, q = R17_Level_u)

theorem R17_Level_def (x1 : (List Int)) (K0 : (Int → Int → Prop)) : R17_Level x1 K0 =
  (R17_Power x1
    (fun (r1 : Int) =>
    R08_Find r1 K0)) := by
  have e : R17_Level = R17_Level_u := Classical.choose_spec (⟨R17_Level_u, rfl⟩ : ∃ q, q = R17_Level_u)
  show R17_Level x1 K0 = R17_Level_u x1 K0
  rw [e]

/- join of splicer/splicerlaw17.ShapeTells, region 2 -/
def L17_ShapeTells_j2 (x2 : (List Int)) (c2 : Int) (f2 : Int) (l2 : (List Int)) (v5 : Bool) (K0 : (Bool → Prop)) (K1 : ((List Int) → Int → Int → (List Int) → Prop)) : Prop :=
  Br v5
    (L17_awake K0)
    (K1 x2 c2 f2 l2)

/- join of splicer/splicerlaw17.ShapeTells, region 5 -/
def L17_ShapeTells_j5 (l7 : (List Int)) (p2 : Bool) (q1 : Bool) (m2 : (List Int)) (m3 : (List Int)) (K0 : (Bool → Prop)) : Prop :=
  shape_Level l7
    (fun (r8 : Int) (r9 : Int) =>
    R17_Level l7
      (fun (r10 : Int) (r11 : Int) =>
      R01_Same m2 m3
        (fun (r12 : Bool) =>
        Br r12
          (Br (p2 == q1)
            (shape_Power l7
              (fun (r13 : Int) =>
              R17_Power l7
                (fun (r14 : Int) =>
                Br (decide (r13 = r14))
                  (Br (decide (r8 = r10))
                    (Br (decide (r9 = r11))
                      (L17_awake K0)
                      (K0 false))
                    (K0 false))
                  (K0 false))))
            (K0 false))
          (K0 false))))

/- join of splicer/splicerlaw17.ShapeTells, region 4 -/
def L17_ShapeTells_j4 (x6 : (List Int)) (c6 : Int) (f6 : Int) (l6 : (List Int)) (p1 : Bool) (m1 : (List Int)) (K0 : (Bool → Prop)) : Prop :=
  R17_Values x6 c6 f6
    (fun (r5 : Bool) =>
    L17_ShapeTells_j5 l6 p1 r5 m1 [] K0)
    (fun (r6 : Bool) (r7 : (List Int)) =>
    L17_ShapeTells_j5 l6 p1 r6 m1 r7 K0)

/- join of splicer/splicerlaw17.ShapeTells, region 3 -/
def L17_ShapeTells_j3 (x5 : (List Int)) (c5 : Int) (f5 : Int) (l5 : (List Int)) (K0 : (Bool → Prop)) : Prop :=
  shape_Values x5 c5 f5
    (fun (r2 : Bool) =>
    L17_ShapeTells_j4 x5 c5 f5 l5 r2 [] K0)
    (fun (r3 : Bool) (r4 : (List Int)) =>
    L17_ShapeTells_j4 x5 c5 f5 l5 r3 r4 K0)

/- splicer/splicerlaw17.ShapeTells (7) -/
def L17_ShapeTells_u (x1 : (List Int)) (c1 : Int) (f1 : Int) (l1 : (List Int)) (K0 : (Bool → Prop)) : Prop :=
  Br (decide ((12 : Int) < (x1.length : Int)))
    (L17_ShapeTells_j2 x1 c1 f1 l1 true K0
      (fun (x3 : (List Int)) (c3 : Int) (f3 : Int) (l3 : (List Int)) =>
      L17_ShapeTells_j3 x3 c3 f3 l3 K0))
    (L17_ShapeTells_j2 x1 c1 f1 l1 (decide ((70 : Int) < (l1.length : Int))) K0
      (fun (x4 : (List Int)) (c4 : Int) (f4 : Int) (l4 : (List Int)) =>
      L17_ShapeTells_j3 x4 c4 f4 l4 K0))

noncomputable def L17_ShapeTells : (List Int) → Int → Int → (List Int) → (Bool → Prop) → Prop := Classical.choose (⟨L17_ShapeTells_u, rfl⟩ : ∃ q, q = L17_ShapeTells_u)

theorem L17_ShapeTells_def (x1 : (List Int)) (c1 : Int) (f1 : Int) (l1 : (List Int)) (K0 : (Bool → Prop)) : L17_ShapeTells x1 c1 f1 l1 K0 =
  (Br (decide ((12 : Int) < (x1.length : Int)))
    (L17_ShapeTells_j2 x1 c1 f1 l1 true K0
      (fun (x3 : (List Int)) (c3 : Int) (f3 : Int) (l3 : (List Int)) =>
      L17_ShapeTells_j3 x3 c3 f3 l3 K0))
    (L17_ShapeTells_j2 x1 c1 f1 l1 (decide ((70 : Int) < (l1.length : Int))) K0
      (fun (x4 : (List Int)) (c4 : Int) (f4 : Int) (l4 : (List Int)) =>
      L17_ShapeTells_j3 x4 c4 f4 l4 K0))) := by
  have e : L17_ShapeTells = L17_ShapeTells_u := Classical.choose_spec (⟨L17_ShapeTells_u, rfl⟩ : ∃ q, q = L17_ShapeTells_u)
  show L17_ShapeTells x1 c1 f1 l1 K0 = L17_ShapeTells_u x1 c1 f1 l1 K0
  rw [e]

end Go.Eng.A
