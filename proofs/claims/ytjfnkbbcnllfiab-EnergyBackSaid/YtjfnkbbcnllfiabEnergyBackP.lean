/- The functions that EnergyBack reaches, as plain ones: printed by program. -/
import Derived.Test.YtjfnkbbcnllfiabEngA
set_option linter.unusedVariables false
set_option maxRecDepth 100000
namespace Go.Eng.A
open Go Go.Eng

/- loop of splicer/energy.Right, region 2 -/
def energy_Right_l2 : Nat → (List Int) → (List Int) → Int → Int → (Bool → Prop) → ((List Int) → Prop) → Prop
  | 0, _, _, _, _, _, _ => False
  | k + 1, c2, v2, v3, v4, K0, K1 => Br (decide (v4 < v3))
      (Br ((decide ((0 : Int) ≤ v4)) && (decide (v4 < (((List.length v2) : Nat) : Int))))
        (let v6 : Int := (List.getD v2 (Int.toNat v4) 0)
        Br (decide (v6 < (0 : Int)))
          (K0 false)
          (Br (decide ((23 : Int) < v6))
            (K0 false)
            (energy_Right_l2 k c2 v2 v3 (iadd .i64 v4 1) K0 K1)))
        (False))
      (K1 c2)

/- splicer/energy.Right (32) -/
def energy_Right_u (c1 : (List Int)) (K0 : (Bool → Prop)) : Prop :=
  ∃ q, energy_Right_l2 q c1 c1 (c1.length : Int) 0 K0
    (fun (c3 : (List Int)) =>
    K0 (decide ((c3.length : Int) = (13 : Int))))

noncomputable def energy_Right : (List Int) → (Bool → Prop) → Prop := Classical.choose (⟨energy_Right_u, rfl⟩ : ∃ q, q = energy_Right_u)

theorem energy_Right_def (c1 : (List Int)) (K0 : (Bool → Prop)) : energy_Right c1 K0 =
  (∃ q, energy_Right_l2 q c1 c1 (c1.length : Int) 0 K0
    (fun (c3 : (List Int)) =>
    K0 (decide ((c3.length : Int) = (13 : Int))))) := by
  have e : energy_Right = energy_Right_u := Classical.choose_spec (⟨energy_Right_u, rfl⟩ : ∃ q, q = energy_Right_u)
  show energy_Right c1 K0 = energy_Right_u c1 K0
  rw [e]

/- splicer/energy.expects (33) -/
def energy_expects_u (intra1 : Bool) (p1 : (List Int)) (K0 : (Prop)) (K1 : ((List Int) → Prop)) : Prop :=
  Br intra1
    (K0)
    (K1 p1)

noncomputable def energy_expects : Bool → (List Int) → (Prop) → ((List Int) → Prop) → Prop := Classical.choose (⟨energy_expects_u, rfl⟩ : ∃ q, q = energy_expects_u)

theorem energy_expects_def (intra1 : Bool) (p1 : (List Int)) (K0 : (Prop)) (K1 : ((List Int) → Prop)) : energy_expects intra1 p1 K0 K1 =
  (Br intra1
    (K0)
    (K1 p1)) := by
  have e : energy_expects = energy_expects_u := Classical.choose_spec (⟨energy_expects_u, rfl⟩ : ∃ q, q = energy_expects_u)
  show energy_expects intra1 p1 K0 K1 = energy_expects_u intra1 p1 K0 K1
  rw [e]

/- splicer/energy.expects$1 (45) -/
def energy_expects_1_u (b1 : Int) (last1 : Int) (K0 : (Int → Prop)) : Prop :=
  Br (decide (b1 = (0 : Int)))
    (K0 8)
    (K0 last1)

noncomputable def energy_expects_1 : Int → Int → (Int → Prop) → Prop := Classical.choose (⟨energy_expects_1_u, rfl⟩ : ∃ q, q = energy_expects_1_u)

theorem energy_expects_1_def (b1 : Int) (last1 : Int) (K0 : (Int → Prop)) : energy_expects_1 b1 last1 K0 =
  (Br (decide (b1 = (0 : Int)))
    (K0 8)
    (K0 last1)) := by
  have e : energy_expects_1 = energy_expects_1_u := Classical.choose_spec (⟨energy_expects_1_u, rfl⟩ : ∃ q, q = energy_expects_1_u)
  show energy_expects_1 b1 last1 K0 = energy_expects_1_u b1 last1 K0
  rw [e]

/- join of splicer/energy.expects$2, region 3 -/
def energy_expects_2_j3 (b2 : Int) (last2 : Int) (v3 : (List Int)) (K0 : (Int → Prop)) : Prop :=
  Br ((decide ((0 : Int) ≤ b2)) && (decide (b2 < (((List.length v3) : Nat) : Int))))
    (K0 (iquo .i64 (iadd .i64 (imul .i64 3 (List.getD v3 (Int.toNat b2) 0)) last2) 4))
    (False)

/- splicer/energy.expects$2 (46) -/
def energy_expects_2_u (b1 : Int) (last1 : Int) (a1 : (List Int)) (K0 : (Int → Prop)) : Prop :=
  Br (decide (b1 = (0 : Int)))
    (Br (decide ((0 : Int) < (((List.length a1) : Nat) : Int)))
      (energy_expects_2_j3 b1 (List.getD a1 0 0) a1 K0)
      (False))
    (energy_expects_2_j3 b1 last1 a1 K0)

noncomputable def energy_expects_2 : Int → Int → (List Int) → (Int → Prop) → Prop := Classical.choose (⟨energy_expects_2_u, rfl⟩ : ∃ q, q = energy_expects_2_u)

theorem energy_expects_2_def (b1 : Int) (last1 : Int) (a1 : (List Int)) (K0 : (Int → Prop)) : energy_expects_2 b1 last1 a1 K0 =
  (Br (decide (b1 = (0 : Int)))
    (Br (decide ((0 : Int) < (((List.length a1) : Nat) : Int)))
      (energy_expects_2_j3 b1 (List.getD a1 0 0) a1 K0)
      (False))
    (energy_expects_2_j3 b1 last1 a1 K0)) := by
  have e : energy_expects_2 = energy_expects_2_u := Classical.choose_spec (⟨energy_expects_2_u, rfl⟩ : ∃ q, q = energy_expects_2_u)
  show energy_expects_2 b1 last1 a1 K0 = energy_expects_2_u b1 last1 a1 K0
  rw [e]

/- loop of splicer/energy.Deltas, region 7 -/
def energy_Deltas_l7 : Nat → Int → (List Int) → Int → Int → (List Int) → ((List Int) → Prop) → Prop
  | 0, _, _, _, _, _, _ => False
  | k + 1, last1, v6, v7, v8, m2, K0 => Br (decide (v8 < v7))
      (Br ((decide ((0 : Int) ≤ v8)) && (decide (v8 < (((List.length v6) : Nat) : Int))))
        (let v10 : Int := (List.getD v6 (Int.toNat v8) 0)
        energy_expects_1 v8 last1
          (fun (r4 : Int) =>
          Br ((decide ((0 : Int) ≤ v8)) && (decide (v8 < (((List.length m2) : Nat) : Int))))
            (Br (decide ((Int.toNat v8) < (List.length m2)))
              (energy_Deltas_l7 k v10 v6 v7 (iadd .i64 v8 1) (List.set m2 (Int.toNat v8) (isub .i64 v10 r4)) K0)
              (False))
            (False)))
        (False))
      (K0 m2)

/- loop of splicer/energy.Deltas, region 7 -/
def energy_Deltas_l7a : Nat → Int → (List Int) → Int → Int → (List Int) → (List Int) → ((List Int) → Prop) → Prop
  | 0, _, _, _, _, _, _, _ => False
  | k + 1, last2, v15, v16, v17, m6, m7, K0 => Br (decide (v17 < v16))
      (Br ((decide ((0 : Int) ≤ v17)) && (decide (v17 < (((List.length v15) : Nat) : Int))))
        (let v19 : Int := (List.getD v15 (Int.toNat v17) 0)
        energy_expects_2 v17 last2 m6
          (fun (r5 : Int) =>
          Br ((decide ((0 : Int) ≤ v17)) && (decide (v17 < (((List.length m7) : Nat) : Int))))
            (Br (decide ((Int.toNat v17) < (List.length m7)))
              (energy_Deltas_l7a k v19 v15 v16 (iadd .i64 v17 1) m6 (List.set m7 (Int.toNat v17) (isub .i64 v19 r5)) K0)
              (False))
            (False)))
        (False))
      (K0 m7)

/- join of splicer/energy.Deltas, region 3 -/
def energy_Deltas_j3 (intra2 : Bool) (p2 : (List Int)) (c2 : (List Int)) (K0 : ((List Int) → Prop)) : Prop :=
  energy_expects intra2 p2
    (Br (((decide ((0 : Int) ≤ (c2.length : Int))) && (decide ((c2.length : Int) ≤ (c2.length : Int)))) && (decide (((c2.length : Int) * (8 : Int)) ≤ (140737488355328 : Int))))
      (∃ q, energy_Deltas_l7 q 0 c2 (c2.length : Int) 0 (List.replicate (Int.toNat (c2.length : Int)) 0) K0)
      (False))
    (fun (r3 : (List Int)) =>
    Br (((decide ((0 : Int) ≤ (c2.length : Int))) && (decide ((c2.length : Int) ≤ (c2.length : Int)))) && (decide (((c2.length : Int) * (8 : Int)) ≤ (140737488355328 : Int))))
      (∃ q, energy_Deltas_l7a q 0 c2 (c2.length : Int) 0 r3 (List.replicate (Int.toNat (c2.length : Int)) 0) K0)
      (False))

/- splicer/energy.Deltas (10) -/
def energy_Deltas_u (intra1 : Bool) (p1 : (List Int)) (c1 : (List Int)) (K0 : (Prop)) (K1 : ((List Int) → Prop)) : Prop :=
  energy_Right c1
    (fun (r1 : Bool) =>
    Br (!r1)
      (K0)
      (Br (!intra1)
        (energy_Right p1
          (fun (r2 : Bool) =>
          Br (!r2)
            (K0)
            (energy_Deltas_j3 intra1 p1 c1 K1)))
        (energy_Deltas_j3 intra1 p1 c1 K1)))

noncomputable def energy_Deltas : Bool → (List Int) → (List Int) → (Prop) → ((List Int) → Prop) → Prop := Classical.choose (⟨energy_Deltas_u, rfl⟩ : ∃ q, q = energy_Deltas_u)

theorem energy_Deltas_def (intra1 : Bool) (p1 : (List Int)) (c1 : (List Int)) (K0 : (Prop)) (K1 : ((List Int) → Prop)) : energy_Deltas intra1 p1 c1 K0 K1 =
  (energy_Right c1
    (fun (r1 : Bool) =>
    Br (!r1)
      (K0)
      (Br (!intra1)
        (energy_Right p1
          (fun (r2 : Bool) =>
          Br (!r2)
            (K0)
            (energy_Deltas_j3 intra1 p1 c1 K1)))
        (energy_Deltas_j3 intra1 p1 c1 K1)))) := by
  have e : energy_Deltas = energy_Deltas_u := Classical.choose_spec (⟨energy_Deltas_u, rfl⟩ : ∃ q, q = energy_Deltas_u)
  show energy_Deltas intra1 p1 c1 K0 K1 = energy_Deltas_u intra1 p1 c1 K0 K1
  rw [e]

/- join of splicer/energy.Row, region 2 -/
def energy_Row_j2 (intra2 : Bool) (p2 : (List Int)) (d2 : (List Int)) (v5 : Bool) (K0 : (Bool → Prop)) (K1 : (Bool → (List Int) → (List Int) → Prop)) : Prop :=
  Br v5
    (K0 false)
    (K1 intra2 p2 d2)

/- join of splicer/energy.Row, region 10 -/
def energy_Row_j10 (last2 : Int) (b1 : Int) (n1 : Int) (v18 : (List Int)) (v19 : Int) (v20 : Int) (v21 : Bool) (m3 : (List Int)) (K0 : (Bool → Prop)) (K1 : (Int → Int → Int → (List Int) → Int → Int → (List Int) → Prop)) : Prop :=
  Br v21
    (K0 false)
    (K1 last2 b1 n1 v18 v19 v20 m3)

/- join of splicer/energy.Row, region 14 -/
def energy_Row_j14 (last6 : Int) (v36 : (List Int)) (v37 : Int) (v38 : Int) (v39 : Bool) (m8 : (List Int)) (K0 : (Bool → Prop)) (K1 : (Int → (List Int) → Int → Int → (List Int) → Prop)) : Prop :=
  Br v39
    (K0 false)
    (K1 last6 v36 v37 v38 m8)

/- join of splicer/energy.Row, region 11 -/
def energy_Row_j11 (last5 : Int) (b4 : Int) (n4 : Int) (v30 : (List Int)) (v31 : Int) (v32 : Int) (m6 : (List Int)) (K0 : (Bool → Prop)) (K1 : (Int → (List Int) → Int → Int → (List Int) → Prop)) : Prop :=
  energy_expects_1 b4 last5
    (fun (r3 : Int) =>
    let v33 : Int := (iadd .i64 r3 n4)
    Br ((decide ((0 : Int) ≤ b4)) && (decide (b4 < (((List.length m6) : Nat) : Int))))
      (Br (decide ((Int.toNat b4) < (List.length m6)))
        (let m7 : (List Int) := (List.set m6 (Int.toNat b4) v33)
        Br (decide (v33 < (0 : Int)))
          (energy_Row_j14 v33 v30 v31 v32 true m7 K0 K1)
          (energy_Row_j14 v33 v30 v31 v32 (decide ((23 : Int) < v33)) m7 K0 K1))
        (False))
      (False))

/- loop of splicer/energy.Row, region 7 -/
def energy_Row_l7 : Nat → Int → (List Int) → Int → Int → (List Int) → (Bool → Prop) → ((List Int) → Prop) → Prop
  | 0, _, _, _, _, _, _, _ => False
  | k + 1, last1, v11, v12, v13, m2, K0, K1 => Br (decide (v13 < v12))
      (Br ((decide ((0 : Int) ≤ v13)) && (decide (v13 < (((List.length v11) : Nat) : Int))))
        (let v15 : Int := (List.getD v11 (Int.toNat v13) 0)
        Br (decide (v15 < (-67 : Int)))
          (energy_Row_j10 last1 v13 v15 v11 v12 v13 true m2 K0
            (fun (last3 : Int) (b2 : Int) (n2 : Int) (v23 : (List Int)) (v24 : Int) (v25 : Int) (m4 : (List Int)) =>
            energy_Row_j11 last3 b2 n2 v23 v24 v25 m4 K0
              (fun (last9 : Int) (v49 : (List Int)) (v50 : Int) (v51 : Int) (m11 : (List Int)) =>
              energy_Row_l7 k last9 v49 v50 (iadd .i64 v51 1) m11 K0 K1)))
          (energy_Row_j10 last1 v13 v15 v11 v12 v13 (decide ((67 : Int) < v15)) m2 K0
            (fun (last4 : Int) (b3 : Int) (n3 : Int) (v27 : (List Int)) (v28 : Int) (v29 : Int) (m5 : (List Int)) =>
            energy_Row_j11 last4 b3 n3 v27 v28 v29 m5 K0
              (fun (last10 : Int) (v53 : (List Int)) (v54 : Int) (v55 : Int) (m12 : (List Int)) =>
              energy_Row_l7 k last10 v53 v54 (iadd .i64 v55 1) m12 K0 K1))))
        (False))
      (K1 m2)

/- join of splicer/energy.Row, region 10 -/
def energy_Row_j10a (last12 : Int) (b5 : Int) (n5 : Int) (v68 : (List Int)) (v69 : Int) (v70 : Int) (v71 : Bool) (m17 : (List Int)) (m18 : (List Int)) (K0 : (Bool → Prop)) (K1 : (Int → Int → Int → (List Int) → Int → Int → (List Int) → (List Int) → Prop)) : Prop :=
  Br v71
    (K0 false)
    (K1 last12 b5 n5 v68 v69 v70 m17 m18)

/- join of splicer/energy.Row, region 14 -/
def energy_Row_j14a (last16 : Int) (v86 : (List Int)) (v87 : Int) (v88 : Int) (v89 : Bool) (m26 : (List Int)) (m27 : (List Int)) (K0 : (Bool → Prop)) (K1 : (Int → (List Int) → Int → Int → (List Int) → (List Int) → Prop)) : Prop :=
  Br v89
    (K0 false)
    (K1 last16 v86 v87 v88 m26 m27)

/- join of splicer/energy.Row, region 11 -/
def energy_Row_j11a (last15 : Int) (b8 : Int) (n8 : Int) (v80 : (List Int)) (v81 : Int) (v82 : Int) (m23 : (List Int)) (m24 : (List Int)) (K0 : (Bool → Prop)) (K1 : (Int → (List Int) → Int → Int → (List Int) → (List Int) → Prop)) : Prop :=
  energy_expects_2 b8 last15 m23
    (fun (r4 : Int) =>
    let v83 : Int := (iadd .i64 r4 n8)
    Br ((decide ((0 : Int) ≤ b8)) && (decide (b8 < (((List.length m24) : Nat) : Int))))
      (Br (decide ((Int.toNat b8) < (List.length m24)))
        (let m25 : (List Int) := (List.set m24 (Int.toNat b8) v83)
        Br (decide (v83 < (0 : Int)))
          (energy_Row_j14a v83 v80 v81 v82 true m23 m25 K0 K1)
          (energy_Row_j14a v83 v80 v81 v82 (decide ((23 : Int) < v83)) m23 m25 K0 K1))
        (False))
      (False))

/- loop of splicer/energy.Row, region 7 -/
def energy_Row_l7a : Nat → Int → (List Int) → Int → Int → (List Int) → (List Int) → (Bool → Prop) → ((List Int) → Prop) → Prop
  | 0, _, _, _, _, _, _, _, _ => False
  | k + 1, last11, v61, v62, v63, m15, m16, K0, K1 => Br (decide (v63 < v62))
      (Br ((decide ((0 : Int) ≤ v63)) && (decide (v63 < (((List.length v61) : Nat) : Int))))
        (let v65 : Int := (List.getD v61 (Int.toNat v63) 0)
        Br (decide (v65 < (-67 : Int)))
          (energy_Row_j10a last11 v63 v65 v61 v62 v63 true m15 m16 K0
            (fun (last13 : Int) (b6 : Int) (n6 : Int) (v73 : (List Int)) (v74 : Int) (v75 : Int) (m19 : (List Int)) (m20 : (List Int)) =>
            energy_Row_j11a last13 b6 n6 v73 v74 v75 m19 m20 K0
              (fun (last19 : Int) (v99 : (List Int)) (v100 : Int) (v101 : Int) (m32 : (List Int)) (m33 : (List Int)) =>
              energy_Row_l7a k last19 v99 v100 (iadd .i64 v101 1) m32 m33 K0 K1)))
          (energy_Row_j10a last11 v63 v65 v61 v62 v63 (decide ((67 : Int) < v65)) m15 m16 K0
            (fun (last14 : Int) (b7 : Int) (n7 : Int) (v77 : (List Int)) (v78 : Int) (v79 : Int) (m21 : (List Int)) (m22 : (List Int)) =>
            energy_Row_j11a last14 b7 n7 v77 v78 v79 m21 m22 K0
              (fun (last20 : Int) (v103 : (List Int)) (v104 : Int) (v105 : Int) (m34 : (List Int)) (m35 : (List Int)) =>
              energy_Row_l7a k last20 v103 v104 (iadd .i64 v105 1) m34 m35 K0 K1))))
        (False))
      (K1 m16)

/- join of splicer/energy.Row, region 3 -/
def energy_Row_j3 (intra6 : Bool) (p6 : (List Int)) (d6 : (List Int)) (K0 : (Bool → (List Int) → Prop)) : Prop :=
  energy_expects intra6 p6
    (Br (((decide ((0 : Int) ≤ (d6.length : Int))) && (decide ((d6.length : Int) ≤ (d6.length : Int)))) && (decide (((d6.length : Int) * (8 : Int)) ≤ (140737488355328 : Int))))
      (∃ q, energy_Row_l7 q 0 d6 (d6.length : Int) 0 (List.replicate (Int.toNat (d6.length : Int)) 0)
        (fun (v58 : Bool) =>
        K0 v58 [])
        (fun (m13 : (List Int)) =>
        K0 true m13))
      (False))
    (fun (r2 : (List Int)) =>
    Br (((decide ((0 : Int) ≤ (d6.length : Int))) && (decide ((d6.length : Int) ≤ (d6.length : Int)))) && (decide (((d6.length : Int) * (8 : Int)) ≤ (140737488355328 : Int))))
      (∃ q, energy_Row_l7a q 0 d6 (d6.length : Int) 0 r2 (List.replicate (Int.toNat (d6.length : Int)) 0)
        (fun (v108 : Bool) =>
        K0 v108 [])
        (fun (m36 : (List Int)) =>
        K0 true m36))
      (False))

/- splicer/energy.Row (11) -/
def energy_Row_u (intra1 : Bool) (p1 : (List Int)) (d1 : (List Int)) (K0 : (Bool → Prop)) (K1 : (Bool → (List Int) → Prop)) : Prop :=
  Br (!(decide ((d1.length : Int) = (13 : Int))))
    (energy_Row_j2 intra1 p1 d1 true K0
      (fun (intra3 : Bool) (p3 : (List Int)) (d3 : (List Int)) =>
      energy_Row_j3 intra3 p3 d3 K1))
    (Br (!intra1)
      (energy_Right p1
        (fun (r1 : Bool) =>
        energy_Row_j2 intra1 p1 d1 (!r1) K0
          (fun (intra4 : Bool) (p4 : (List Int)) (d4 : (List Int)) =>
          energy_Row_j3 intra4 p4 d4 K1)))
      (energy_Row_j2 intra1 p1 d1 false K0
        (fun (intra5 : Bool) (p5 : (List Int)) (d5 : (List Int)) =>
        energy_Row_j3 intra5 p5 d5 K1)))

noncomputable def energy_Row : Bool → (List Int) → (List Int) → (Bool → Prop) → (Bool → (List Int) → Prop) → Prop := Classical.choose (⟨energy_Row_u, rfl⟩ : ∃ q, q = energy_Row_u)

theorem energy_Row_def (intra1 : Bool) (p1 : (List Int)) (d1 : (List Int)) (K0 : (Bool → Prop)) (K1 : (Bool → (List Int) → Prop)) : energy_Row intra1 p1 d1 K0 K1 =
  (Br (!(decide ((d1.length : Int) = (13 : Int))))
    (energy_Row_j2 intra1 p1 d1 true K0
      (fun (intra3 : Bool) (p3 : (List Int)) (d3 : (List Int)) =>
      energy_Row_j3 intra3 p3 d3 K1))
    (Br (!intra1)
      (energy_Right p1
        (fun (r1 : Bool) =>
        energy_Row_j2 intra1 p1 d1 (!r1) K0
          (fun (intra4 : Bool) (p4 : (List Int)) (d4 : (List Int)) =>
          energy_Row_j3 intra4 p4 d4 K1)))
      (energy_Row_j2 intra1 p1 d1 false K0
        (fun (intra5 : Bool) (p5 : (List Int)) (d5 : (List Int)) =>
        energy_Row_j3 intra5 p5 d5 K1)))) := by
  have e : energy_Row = energy_Row_u := Classical.choose_spec (⟨energy_Row_u, rfl⟩ : ∃ q, q = energy_Row_u)
  show energy_Row intra1 p1 d1 K0 K1 = energy_Row_u intra1 p1 d1 K0 K1
  rw [e]

/- loop of splicer/splicerref01.Within, region 2 -/
def R01_Within_l2 : Nat → (List Int) → Int → Int → Int → (Bool → Prop) → (Prop) → Prop
  | 0, _, _, _, _, _, _ => False
  | k + 1, l2, low2, high2, i1, K0, K1 => Br (decide (i1 < (l2.length : Int)))
      (Br ((decide ((0 : Int) ≤ i1)) && (decide (i1 < (((List.length l2) : Nat) : Int))))
        (Br (decide ((List.getD l2 (Int.toNat i1) 0) < low2))
          (K0 false)
          (Br ((decide ((0 : Int) ≤ i1)) && (decide (i1 < (((List.length l2) : Nat) : Int))))
            (Br (decide (high2 < (List.getD l2 (Int.toNat i1) 0)))
              (K0 false)
              (R01_Within_l2 k l2 low2 high2 (iadd .i64 i1 1) K0 K1))
            (False)))
        (False))
      (K1)

/- splicer/splicerref01.Within (12) -/
def R01_Within_u (l1 : (List Int)) (low1 : Int) (high1 : Int) (K0 : (Bool → Prop)) : Prop :=
  ∃ q, R01_Within_l2 q l1 low1 high1 0 K0
    (K0 true)

noncomputable def R01_Within : (List Int) → Int → Int → (Bool → Prop) → Prop := Classical.choose (⟨R01_Within_u, rfl⟩ : ∃ q, q = R01_Within_u)

theorem R01_Within_def (l1 : (List Int)) (low1 : Int) (high1 : Int) (K0 : (Bool → Prop)) : R01_Within l1 low1 high1 K0 =
  (∃ q, R01_Within_l2 q l1 low1 high1 0 K0
    (K0 true)) := by
  have e : R01_Within = R01_Within_u := Classical.choose_spec (⟨R01_Within_u, rfl⟩ : ∃ q, q = R01_Within_u)
  show R01_Within l1 low1 high1 K0 = R01_Within_u l1 low1 high1 K0
  rw [e]

/- loop of splicer/splicerref01.Same, region 4 -/
def R01_Same_l4 : Nat → (List Int) → (List Int) → Int → (Bool → Prop) → (Prop) → Prop
  | 0, _, _, _, _, _ => False
  | k + 1, a2, b2, i1, K0, K1 => Br (decide (i1 < (a2.length : Int)))
      (Br ((decide ((0 : Int) ≤ i1)) && (decide (i1 < (((List.length a2) : Nat) : Int))))
        (Br ((decide ((0 : Int) ≤ i1)) && (decide (i1 < (((List.length b2) : Nat) : Int))))
          (Br (!(decide ((List.getD a2 (Int.toNat i1) 0) = (List.getD b2 (Int.toNat i1) 0))))
            (K0 false)
            (R01_Same_l4 k a2 b2 (iadd .i64 i1 1) K0 K1))
          (False))
        (False))
      (K1)

/- splicer/splicerref01.Same (13) -/
def R01_Same_u (a1 : (List Int)) (b1 : (List Int)) (K0 : (Bool → Prop)) : Prop :=
  Br (!(decide ((a1.length : Int) = (b1.length : Int))))
    (K0 false)
    (∃ q, R01_Same_l4 q a1 b1 0 K0
      (K0 true))

noncomputable def R01_Same : (List Int) → (List Int) → (Bool → Prop) → Prop := Classical.choose (⟨R01_Same_u, rfl⟩ : ∃ q, q = R01_Same_u)

theorem R01_Same_def (a1 : (List Int)) (b1 : (List Int)) (K0 : (Bool → Prop)) : R01_Same a1 b1 K0 =
  (Br (!(decide ((a1.length : Int) = (b1.length : Int))))
    (K0 false)
    (∃ q, R01_Same_l4 q a1 b1 0 K0
      (K0 true))) := by
  have e : R01_Same = R01_Same_u := Classical.choose_spec (⟨R01_Same_u, rfl⟩ : ∃ q, q = R01_Same_u)
  show R01_Same a1 b1 K0 = R01_Same_u a1 b1 K0
  rw [e]

/- loop of splicer/splicerlaw14.awake, region 3 -/
def L14_awake_l3 : Nat → Int → (List Int) → ((List Int) → Prop) → Prop
  | 0, _, _, _ => False
  | k + 1, i1, m1, K0 => Br (decide (i1 < (13 : Int)))
      (let m2 : (List Int) := [8]
      Br (decide ((((List.length m1) + (List.length m2)) * 8) ≤ 140737488355328))
        (L14_awake_l3 k (iadd .i64 i1 1) (m1 ++ m2) K0)
        (False))
      (K0 m1)

/- join of splicer/splicerlaw14.awake, region 8 -/
def L14_awake_j8 (ok1 : Bool) (m7 : (List Int)) (m8 : (List Int)) (K0 : (Bool → Prop)) : Prop :=
  Br (decide ((m8.length : Int) = (13 : Int)))
    (R01_Within m8 0 0
      (fun (r5 : Bool) =>
      Br r5
        (Br (!ok1)
          (energy_Right m7
            (fun (r6 : Bool) =>
            Br r6
              (energy_Right []
                (fun (r7 : Bool) =>
                K0 (!r7)))
              (K0 false)))
          (K0 false))
        (K0 false)))
    (K0 false)

/- join of splicer/splicerlaw14.awake, region 7 -/
def L14_awake_j7 (m5 : (List Int)) (m6 : (List Int)) (K0 : (Bool → Prop)) : Prop :=
  energy_Row true [] m5
    (fun (r2 : Bool) =>
    L14_awake_j8 r2 m5 m6 K0)
    (fun (r3 : Bool) (r4 : (List Int)) =>
    L14_awake_j8 r3 m5 m6 K0)

/- splicer/splicerlaw14.awake (14) -/
def L14_awake_u  (K0 : (Bool → Prop)) : Prop :=
  ∃ q, L14_awake_l3 q 0 []
    (fun (m4 : (List Int)) =>
    energy_Deltas true [] m4
      (L14_awake_j7 m4 [] K0)
      (fun (r1 : (List Int)) =>
      L14_awake_j7 m4 r1 K0))

noncomputable def L14_awake : (Bool → Prop) → Prop := Classical.choose (⟨L14_awake_u, rfl⟩ : ∃ q, q = L14_awake_u)

theorem L14_awake_def  (K0 : (Bool → Prop)) : L14_awake K0 =
  (∃ q, L14_awake_l3 q 0 []
    (fun (m4 : (List Int)) =>
    energy_Deltas true [] m4
      (L14_awake_j7 m4 [] K0)
      (fun (r1 : (List Int)) =>
      L14_awake_j7 m4 r1 K0))) := by
  have e : L14_awake = L14_awake_u := Classical.choose_spec (⟨L14_awake_u, rfl⟩ : ∃ q, q = L14_awake_u)
  show L14_awake K0 = L14_awake_u K0
  rw [e]

/- loop of splicer/splicerlaw14.EnergyBack, region 3 -/
def L14_EnergyBack_l3 : Nat → Bool → Int → (List Int) → (List Int) → (List Int) → (List Int) → (Bool → (List Int) → (List Int) → Prop) → Prop
  | 0, _, _, _, _, _, _, _ => False
  | k + 1, intra2, i1, m1, m2, m3, m4, K0 => Br (decide (i1 < (13 : Int)))
      (Br ((decide ((0 : Int) ≤ i1)) && (decide (i1 < (13 : Int))))
        (Br (decide ((Int.toNat i1) < (List.length m1)))
          (let m5 : (List Int) := [(irem .i64 (Go.IntKind.wrap .i64 (List.getD m1 (Int.toNat i1) 0)) 24)]
          Br (decide ((((List.length m3) + (List.length m5)) * 8) ≤ 140737488355328))
            (Br ((decide ((0 : Int) ≤ i1)) && (decide (i1 < (13 : Int))))
              (Br (decide ((Int.toNat i1) < (List.length m2)))
                (let m7 : (List Int) := [(irem .i64 (Go.IntKind.wrap .i64 (List.getD m2 (Int.toNat i1) 0)) 24)]
                Br (decide ((((List.length m4) + (List.length m7)) * 8) ≤ 140737488355328))
                  (L14_EnergyBack_l3 k intra2 (iadd .i64 i1 1) m1 m2 (m3 ++ m5) (m4 ++ m7) K0)
                  (False))
                (False))
              (False))
            (False))
          (False))
        (False))
      (K0 intra2 m3 m4)

/- join of splicer/splicerlaw14.EnergyBack, region 10 -/
def L14_EnergyBack_j10 (ok2 : Bool) (is1 : Bool) (m18 : (List Int)) (m19 : (List Int)) (m20 : (List Int)) (m21 : (List Int)) (m22 : (List Int)) (K0 : (Bool → Prop)) : Prop :=
  Br (decide ((m20.length : Int) = (13 : Int)))
    (R01_Within m20 (-23) 23
      (fun (r12 : Bool) =>
      Br r12
        (Br ok2
          (R01_Same m21 m19
            (fun (r13 : Bool) =>
            Br r13
              (Br is1
                (R01_Same m22 m19
                  (fun (r14 : Bool) =>
                  Br r14
                    (energy_Deltas true m18 m19
                      (energy_Deltas true [] m19
                        (R01_Same [] []
                          (fun (r15 : Bool) =>
                          Br r15
                            (L14_awake K0)
                            (K0 false)))
                        (fun (r17 : (List Int)) =>
                        R01_Same [] r17
                          (fun (r18 : Bool) =>
                          Br r18
                            (L14_awake K0)
                            (K0 false))))
                      (fun (r20 : (List Int)) =>
                      energy_Deltas true [] m19
                        (R01_Same r20 []
                          (fun (r21 : Bool) =>
                          Br r21
                            (L14_awake K0)
                            (K0 false)))
                        (fun (r23 : (List Int)) =>
                        R01_Same r20 r23
                          (fun (r24 : Bool) =>
                          Br r24
                            (L14_awake K0)
                            (K0 false)))))
                    (K0 false)))
                (K0 false))
              (K0 false)))
          (K0 false))
        (K0 false)))
    (K0 false)

/- join of splicer/splicerlaw14.EnergyBack, region 9 -/
def L14_EnergyBack_j9 (ok1 : Bool) (m14 : (List Int)) (m15 : (List Int)) (m16 : (List Int)) (m17 : (List Int)) (K0 : (Bool → Prop)) : Prop :=
  energy_Deltas true [] m15
    (energy_Row true [] []
      (fun (r5 : Bool) =>
      L14_EnergyBack_j10 ok1 r5 m14 m15 m16 m17 [] K0)
      (fun (r6 : Bool) (r7 : (List Int)) =>
      L14_EnergyBack_j10 ok1 r6 m14 m15 m16 m17 r7 K0))
    (fun (r8 : (List Int)) =>
    energy_Row true [] r8
      (fun (r9 : Bool) =>
      L14_EnergyBack_j10 ok1 r9 m14 m15 m16 m17 [] K0)
      (fun (r10 : Bool) (r11 : (List Int)) =>
      L14_EnergyBack_j10 ok1 r10 m14 m15 m16 m17 r11 K0))

/- join of splicer/splicerlaw14.EnergyBack, region 8 -/
def L14_EnergyBack_j8 (intra4 : Bool) (m11 : (List Int)) (m12 : (List Int)) (m13 : (List Int)) (K0 : (Bool → Prop)) : Prop :=
  energy_Row intra4 m11 m13
    (fun (r2 : Bool) =>
    L14_EnergyBack_j9 r2 m11 m12 m13 [] K0)
    (fun (r3 : Bool) (r4 : (List Int)) =>
    L14_EnergyBack_j9 r3 m11 m12 m13 r4 K0)

/- splicer/splicerlaw14.EnergyBack (3) -/
def L14_EnergyBack_u (intra1 : Bool) (p1 : (List Int)) (c1 : (List Int)) (K0 : (Bool → Prop)) : Prop :=
  ∃ q, L14_EnergyBack_l3 q intra1 0 p1 c1 [] []
    (fun (intra3 : Bool) (m9 : (List Int)) (m10 : (List Int)) =>
    energy_Deltas intra3 m9 m10
      (L14_EnergyBack_j8 intra3 m9 m10 [] K0)
      (fun (r1 : (List Int)) =>
      L14_EnergyBack_j8 intra3 m9 m10 r1 K0))

noncomputable def L14_EnergyBack : Bool → (List Int) → (List Int) → (Bool → Prop) → Prop := Classical.choose (⟨L14_EnergyBack_u, rfl⟩ : ∃ q, q = L14_EnergyBack_u)

theorem L14_EnergyBack_def (intra1 : Bool) (p1 : (List Int)) (c1 : (List Int)) (K0 : (Bool → Prop)) : L14_EnergyBack intra1 p1 c1 K0 =
  (∃ q, L14_EnergyBack_l3 q intra1 0 p1 c1 [] []
    (fun (intra3 : Bool) (m9 : (List Int)) (m10 : (List Int)) =>
    energy_Deltas intra3 m9 m10
      (L14_EnergyBack_j8 intra3 m9 m10 [] K0)
      (fun (r1 : (List Int)) =>
      L14_EnergyBack_j8 intra3 m9 m10 r1 K0))) := by
  have e : L14_EnergyBack = L14_EnergyBack_u := Classical.choose_spec (⟨L14_EnergyBack_u, rfl⟩ : ∃ q, q = L14_EnergyBack_u)
  show L14_EnergyBack intra1 p1 c1 K0 = L14_EnergyBack_u intra1 p1 c1 K0
  rw [e]

end Go.Eng.A
