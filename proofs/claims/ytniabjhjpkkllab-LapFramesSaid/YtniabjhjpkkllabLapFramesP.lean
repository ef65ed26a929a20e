/- The functions that LapFrames reaches, as plain ones: printed by program. -/
import Derived.Test.YtniabjhjpkkllabEngA
set_option linter.unusedVariables false
set_option maxRecDepth 100000
namespace Go.Eng.A
open Go Go.Eng

/- splicer/trig.first (25) -/
def trig_first_u  (K0 : ((List Int) → Prop)) : Prop :=
  K0 [16777216, 16775953, 16772163, 16765847, 16757007, 16745643, 16731757, 16715352, 16696429, 16674992, 16651044, 16624588, 16595628, 16564169, 16530216, 16493773, 16454846, 16413442, 16369565, 16323224, 16274424, 16223173, 16169479, 16113350, 16054795, 15993821, 15930439, 15864658, 15796488, 15725939, 15653022, 15577747, 15500126, 15420172, 15337895, 15253308, 15166424, 15077256, 14985817, 14892122, 14796184, 14698017, 14597637, 14495059, 14390298, 14283370, 14174291, 14063077, 13949745, 13834313, 13716797, 13597215, 13475586, 13351928, 13226258, 13098597, 12968963, 12837376, 12703856, 12568423, 12431097, 12291899, 12150850, 12007971, 11863283, 11716809, 11568571, 11418590, 11266890, 11113493, 10958422, 10801701, 10643353, 10483403, 10321873, 10158790, 9994176, 9828057, 9660458, 9491405, 9320922, 9149035, 8975771, 8801154, 8625213, 8447972, 8269459, 8089701, 7908725, 7726557, 7543226, 7358759, 7173184, 6986529, 6798821, 6610090, 6420363, 6229669, 6038037, 5845495, 5652074, 5457801, 5262706, 5066819, 4870169, 4672785, 4474698, 4275936, 4076531, 3876512, 3675909, 3474752, 3273072, 3070900, 2868265, 2665197, 2461729, 2257890, 2053710, 1849222, 1644455, 1439440, 1234209, 1028791, 823219, 617523, 411733, 205882, 0]

noncomputable def trig_first : ((List Int) → Prop) → Prop := Classical.choose (⟨trig_first_u, rfl⟩ : ∃ q, q = trig_first_u)

theorem trig_first_def  (K0 : ((List Int) → Prop)) : trig_first K0 =
  (K0 [16777216, 16775953, 16772163, 16765847, 16757007, 16745643, 16731757, 16715352, 16696429, 16674992, 16651044, 16624588, 16595628, 16564169, 16530216, 16493773, 16454846, 16413442, 16369565, 16323224, 16274424, 16223173, 16169479, 16113350, 16054795, 15993821, 15930439, 15864658, 15796488, 15725939, 15653022, 15577747, 15500126, 15420172, 15337895, 15253308, 15166424, 15077256, 14985817, 14892122, 14796184, 14698017, 14597637, 14495059, 14390298, 14283370, 14174291, 14063077, 13949745, 13834313, 13716797, 13597215, 13475586, 13351928, 13226258, 13098597, 12968963, 12837376, 12703856, 12568423, 12431097, 12291899, 12150850, 12007971, 11863283, 11716809, 11568571, 11418590, 11266890, 11113493, 10958422, 10801701, 10643353, 10483403, 10321873, 10158790, 9994176, 9828057, 9660458, 9491405, 9320922, 9149035, 8975771, 8801154, 8625213, 8447972, 8269459, 8089701, 7908725, 7726557, 7543226, 7358759, 7173184, 6986529, 6798821, 6610090, 6420363, 6229669, 6038037, 5845495, 5652074, 5457801, 5262706, 5066819, 4870169, 4672785, 4474698, 4275936, 4076531, 3876512, 3675909, 3474752, 3273072, 3070900, 2868265, 2665197, 2461729, 2257890, 2053710, 1849222, 1644455, 1439440, 1234209, 1028791, 823219, 617523, 411733, 205882, 0]) := by
  have e : trig_first = trig_first_u := Classical.choose_spec (⟨trig_first_u, rfl⟩ : ∃ q, q = trig_first_u)
  show trig_first K0 = trig_first_u K0
  rw [e]

/- loop of splicer/trig.Make, region 3 -/
def trig_Make_l3 : Nat → Int → (List Int) → (List Int) → ((List Int) → Prop) → Prop
  | 0, _, _, _, _ => False
  | k + 1, v2, m2, m3, K0 => Br (decide (v2 < (129 : Int)))
      (Br ((decide ((0 : Int) ≤ v2)) && (decide (v2 < (129 : Int))))
        (Br (decide ((Int.toNat v2) < (List.length m3)))
          (Br ((decide ((0 : Int) ≤ v2)) && (decide (v2 < (512 : Int))))
            (Br (decide ((Int.toNat v2) < (List.length m2)))
              (let m4 : (List Int) := (List.set m2 (Int.toNat v2) (List.getD m3 (Int.toNat v2) 0))
              let v5 : Int := (isub .i64 256 v2)
              Br ((decide ((0 : Int) ≤ v2)) && (decide (v2 < (129 : Int))))
                (Br (decide ((Int.toNat v2) < (List.length m3)))
                  (Br ((decide ((0 : Int) ≤ v5)) && (decide (v5 < (512 : Int))))
                    (Br (decide ((Int.toNat v5) < (List.length m4)))
                      (let m5 : (List Int) := (List.set m4 (Int.toNat v5) (isub .i64 0 (List.getD m3 (Int.toNat v2) 0)))
                      let v9 : Int := (irem .i64 (iadd .i64 256 v2) 512)
                      Br ((decide ((0 : Int) ≤ v2)) && (decide (v2 < (129 : Int))))
                        (Br (decide ((Int.toNat v2) < (List.length m3)))
                          (Br ((decide ((0 : Int) ≤ v9)) && (decide (v9 < (512 : Int))))
                            (Br (decide ((Int.toNat v9) < (List.length m5)))
                              (let m6 : (List Int) := (List.set m5 (Int.toNat v9) (isub .i64 0 (List.getD m3 (Int.toNat v2) 0)))
                              let v13 : Int := (irem .i64 (isub .i64 512 v2) 512)
                              Br ((decide ((0 : Int) ≤ v2)) && (decide (v2 < (129 : Int))))
                                (Br (decide ((Int.toNat v2) < (List.length m3)))
                                  (Br ((decide ((0 : Int) ≤ v13)) && (decide (v13 < (512 : Int))))
                                    (Br (decide ((Int.toNat v13) < (List.length m6)))
                                      (trig_Make_l3 k (iadd .i64 v2 1) (List.set m6 (Int.toNat v13) (List.getD m3 (Int.toNat v2) 0)) m3 K0)
                                      (False))
                                    (False))
                                  (False))
                                (False))
                              (False))
                            (False))
                          (False))
                        (False))
                      (False))
                    (False))
                  (False))
                (False))
              (False))
            (False))
          (False))
        (False))
      (K0 m2)

/- splicer/trig.Make (7) -/
def trig_Make_u  (K0 : ((List Int) → Prop)) : Prop :=
  trig_first
    (fun (r1 : (List Int)) =>
    ∃ q, trig_Make_l3 q 0 (List.replicate 512 0) r1 K0)

noncomputable def trig_Make : ((List Int) → Prop) → Prop := Classical.choose (⟨trig_Make_u, rfl⟩ : ∃ q, q = trig_Make_u)

theorem trig_Make_def  (K0 : ((List Int) → Prop)) : trig_Make K0 =
  (trig_first
    (fun (r1 : (List Int)) =>
    ∃ q, trig_Make_l3 q 0 (List.replicate 512 0) r1 K0)) := by
  have e : trig_Make = trig_Make_u := Classical.choose_spec (⟨trig_Make_u, rfl⟩ : ∃ q, q = trig_Make_u)
  show trig_Make K0 = trig_Make_u K0
  rw [e]

/- loop of splicer/lap.right, region 2 -/
def lap_right_l2 : Nat → (List Int) → (List Int) → Int → Int → (List Int) → (Bool → Prop) → ((List Int) → (List Int) → Prop) → Prop
  | 0, _, _, _, _, _, _, _ => False
  | k + 1, x2, v2, v3, v4, m1, K0, K1 => Br (decide (v4 < v3))
      (Br ((decide ((0 : Int) ≤ v4)) && (decide (v4 < (((List.length v2) : Nat) : Int))))
        (let v6 : Int := (List.getD v2 (Int.toNat v4) 0)
        Br (decide (v6 < (-33554432 : Int)))
          (K0 false)
          (Br (decide ((33554432 : Int) < v6))
            (K0 false)
            (lap_right_l2 k x2 v2 v3 (iadd .i64 v4 1) m1 K0 K1)))
        (False))
      (K1 x2 m1)

/- loop of splicer/lap.right, region 8 -/
def lap_right_l8 : Nat → (List Int) → (List Int) → Int → (Bool → Prop) → ((List Int) → Prop) → Prop
  | 0, _, _, _, _, _ => False
  | k + 1, x4, v11, v12, K0, K1 => Br (decide (v12 < (8 : Int)))
      (Br ((decide ((0 : Int) ≤ v12)) && (decide (v12 < (8 : Int))))
        (let v14 : Int := (List.getD v11 (Int.toNat v12) 0)
        Br (decide (v14 < (-35184372088832 : Int)))
          (K0 false)
          (Br (decide ((35184372088832 : Int) < v14))
            (K0 false)
            (lap_right_l8 k x4 v11 (iadd .i64 v12 1) K0 K1)))
        (False))
      (K1 x4)

/- splicer/lap.right (32) -/
def lap_right_u (x1 : (List Int)) (tail1 : (List Int)) (K0 : (Bool → Prop)) : Prop :=
  ∃ q, lap_right_l2 q x1 x1 (x1.length : Int) 0 tail1 K0
    (fun (x3 : (List Int)) (m2 : (List Int)) =>
    ∃ q, lap_right_l8 q x3 m2 0 K0
      (fun (x5 : (List Int)) =>
      K0 (decide ((x5.length : Int) = (64 : Int)))))

noncomputable def lap_right : (List Int) → (List Int) → (Bool → Prop) → Prop := Classical.choose (⟨lap_right_u, rfl⟩ : ∃ q, q = lap_right_u)

theorem lap_right_def (x1 : (List Int)) (tail1 : (List Int)) (K0 : (Bool → Prop)) : lap_right x1 tail1 K0 =
  (∃ q, lap_right_l2 q x1 x1 (x1.length : Int) 0 tail1 K0
    (fun (x3 : (List Int)) (m2 : (List Int)) =>
    ∃ q, lap_right_l8 q x3 m2 0 K0
      (fun (x5 : (List Int)) =>
      K0 (decide ((x5.length : Int) = (64 : Int)))))) := by
  have e : lap_right = lap_right_u := Classical.choose_spec (⟨lap_right_u, rfl⟩ : ∃ q, q = lap_right_u)
  show lap_right x1 tail1 K0 = lap_right_u x1 tail1 K0
  rw [e]

/- splicer/lap.blocks (33) -/
def lap_blocks_u (t1 : (List Int)) (x1 : (List Int)) (short1 : Bool) (K0 : (Bool → (List Int) → (List Int) → Prop)) : Prop :=
  K0 short1 t1 x1

noncomputable def lap_blocks : (List Int) → (List Int) → Bool → (Bool → (List Int) → (List Int) → Prop) → Prop := Classical.choose (⟨lap_blocks_u, rfl⟩ : ∃ q, q = lap_blocks_u)

theorem lap_blocks_def (t1 : (List Int)) (x1 : (List Int)) (short1 : Bool) (K0 : (Bool → (List Int) → (List Int) → Prop)) : lap_blocks t1 x1 short1 K0 =
  (K0 short1 t1 x1) := by
  have e : lap_blocks = lap_blocks_u := Classical.choose_spec (⟨lap_blocks_u, rfl⟩ : ∃ q, q = lap_blocks_u)
  show lap_blocks t1 x1 short1 K0 = lap_blocks_u t1 x1 short1 K0
  rw [e]

/- loop of splicer/dct.right, region 4 -/
def dct_right_l4 : Nat → Int → (List Int) → Int → Int → (Bool → Prop) → (Prop) → Prop
  | 0, _, _, _, _, _, _ => False
  | k + 1, wide3, v6, v7, v8, K0, K1 => Br (decide (v8 < v7))
      (Br ((decide ((0 : Int) ≤ v8)) && (decide (v8 < (((List.length v6) : Nat) : Int))))
        (let v10 : Int := (List.getD v6 (Int.toNat v8) 0)
        Br (decide (v10 < (isub .i64 0 wide3)))
          (K0 false)
          (Br (decide (wide3 < v10))
            (K0 false)
            (dct_right_l4 k wide3 v6 v7 (iadd .i64 v8 1) K0 K1)))
        (False))
      (K1)

/- join of splicer/dct.right, region 3 -/
def dct_right_j3 (u2 : (List Int)) (wide2 : Int) (K0 : (Bool → Prop)) : Prop :=
  ∃ q, dct_right_l4 q wide2 u2 (u2.length : Int) 0 K0
    (K0 true)

/- splicer/dct.right (22) -/
def dct_right_u (u1 : (List Int)) (wide1 : Int) (K0 : (Bool → Prop)) : Prop :=
  Br (!(decide ((u1.length : Int) = (64 : Int))))
    (Br (!(decide ((u1.length : Int) = (8 : Int))))
      (K0 false)
      (dct_right_j3 u1 wide1 K0))
    (dct_right_j3 u1 wide1 K0)

noncomputable def dct_right : (List Int) → Int → (Bool → Prop) → Prop := Classical.choose (⟨dct_right_u, rfl⟩ : ∃ q, q = dct_right_u)

theorem dct_right_def (u1 : (List Int)) (wide1 : Int) (K0 : (Bool → Prop)) : dct_right u1 wide1 K0 =
  (Br (!(decide ((u1.length : Int) = (64 : Int))))
    (Br (!(decide ((u1.length : Int) = (8 : Int))))
      (K0 false)
      (dct_right_j3 u1 wide1 K0))
    (dct_right_j3 u1 wide1 K0)) := by
  have e : dct_right = dct_right_u := Classical.choose_spec (⟨dct_right_u, rfl⟩ : ∃ q, q = dct_right_u)
  show dct_right u1 wide1 K0 = dct_right_u u1 wide1 K0
  rw [e]

/- splicer/dct.angles (61) -/
def dct_angles_u (l1 : (List Int)) (k1 : Int) (K0 : ((List Int) → Int → Prop)) : Prop :=
  K0 l1 k1

noncomputable def dct_angles : (List Int) → Int → ((List Int) → Int → Prop) → Prop := Classical.choose (⟨dct_angles_u, rfl⟩ : ∃ q, q = dct_angles_u)

theorem dct_angles_def (l1 : (List Int)) (k1 : Int) (K0 : ((List Int) → Int → Prop)) : dct_angles l1 k1 K0 =
  (K0 l1 k1) := by
  have e : dct_angles = dct_angles_u := Classical.choose_spec (⟨dct_angles_u, rfl⟩ : ∃ q, q = dct_angles_u)
  show dct_angles l1 k1 K0 = dct_angles_u l1 k1 K0
  rw [e]

/- loop of splicer/dct.angles$1, region 3 -/
def It_dct_angles_1_l3 (S : Type) (rd : ((Int × Int × Unit) → S → (Bool → S → Prop) → Prop)) : Nat → Int → Int → (List Int) → Int → Int → S → (S → Prop) → (S → Prop) → Prop
  | 0, _, _, _, _, _, _, _, _ => False
  | k + 1, step1, at_1, v7, v8, v9, s1, K0, K1 => Br (decide (v9 < v8))
      (Br ((decide ((0 : Int) ≤ v9)) && (decide (v9 < (((List.length v7) : Nat) : Int))))
        (rd ((List.getD v7 (Int.toNat v9) 0), at_1, ()) s1 fun (b1 : Bool) (s2 : S) =>
        Br (!b1)
          (K0 s2)
          (It_dct_angles_1_l3 S rd k step1 (iadd .i64 at_1 (imul .i64 2 step1)) v7 v8 (iadd .i64 v9 1) s2 K0 K1))
        (False))
      (K1 s1)

/- splicer/dct.angles$1 (67) -/
def It_dct_angles_1_u (c1 : (List Int)) (c2 : Int) (S : Type) (rd : ((Int × Int × Unit) → S → (Bool → S → Prop) → Prop)) (s : S) (K0 : S → Prop) : Prop :=
  Br (decide ((c1.length : Int) = (0 : Int)))
    (False)
    (let v5 : Int := (imul .i64 (iquo .i64 64 (c1.length : Int)) (iadd .i64 (imul .i64 2 c2) 1))
    ∃ q, It_dct_angles_1_l3 S rd q v5 v5 c1 (c1.length : Int) 0 s K0 K0)

noncomputable def It_dct_angles_1 : (List Int) → Int → (S : Type) → ((Int × Int × Unit) → S → (Bool → S → Prop) → Prop) → S → (S → Prop) → Prop := Classical.choose (⟨It_dct_angles_1_u, rfl⟩ : ∃ q, q = It_dct_angles_1_u)

theorem It_dct_angles_1_def (c1 : (List Int)) (c2 : Int) (S : Type) (rd : ((Int × Int × Unit) → S → (Bool → S → Prop) → Prop)) (s : S) (K0 : S → Prop) : It_dct_angles_1 c1 c2 S rd s K0 =
  (Br (decide ((c1.length : Int) = (0 : Int)))
    (False)
    (let v5 : Int := (imul .i64 (iquo .i64 64 (c1.length : Int)) (iadd .i64 (imul .i64 2 c2) 1))
    ∃ q, It_dct_angles_1_l3 S rd q v5 v5 c1 (c1.length : Int) 0 s K0 K0)) := by
  have e : It_dct_angles_1 = It_dct_angles_1_u := Classical.choose_spec (⟨It_dct_angles_1_u, rfl⟩ : ∃ q, q = It_dct_angles_1_u)
  show It_dct_angles_1 c1 c2 S rd s K0 = It_dct_angles_1_u c1 c2 S rd s K0
  rw [e]

/- (*splicer/trig.Table).Cos (45) -/
def trig_Table__Cos_u (t1 : (List Int)) (k1 : Int) (K0 : (Int → Prop)) : Prop :=
  Br (decide (k1 < (-1152921504606846976 : Int)))
    (K0 0)
    (Br (decide ((1152921504606846976 : Int) < k1))
      (K0 0)
      (let v3 : Int := (iand .i64 k1 511)
      Br ((decide ((0 : Int) ≤ v3)) && (decide (v3 < (512 : Int))))
        (K0 (List.getD t1 (Int.toNat v3) 0))
        (False)))

noncomputable def trig_Table__Cos : (List Int) → Int → (Int → Prop) → Prop := Classical.choose (⟨trig_Table__Cos_u, rfl⟩ : ∃ q, q = trig_Table__Cos_u)

theorem trig_Table__Cos_def (t1 : (List Int)) (k1 : Int) (K0 : (Int → Prop)) : trig_Table__Cos t1 k1 K0 =
  (Br (decide (k1 < (-1152921504606846976 : Int)))
    (K0 0)
    (Br (decide ((1152921504606846976 : Int) < k1))
      (K0 0)
      (let v3 : Int := (iand .i64 k1 511)
      Br ((decide ((0 : Int) ≤ v3)) && (decide (v3 < (512 : Int))))
        (K0 (List.getD t1 (Int.toNat v3) 0))
        (False)))) := by
  have e : trig_Table__Cos = trig_Table__Cos_u := Classical.choose_spec (⟨trig_Table__Cos_u, rfl⟩ : ∃ q, q = trig_Table__Cos_u)
  show trig_Table__Cos t1 k1 K0 = trig_Table__Cos_u t1 k1 K0
  rw [e]

/- loop of splicer/num.within, region 2 -/
def num_within_l2 : Nat → Int → (List Int) → Int → Int → (Bool → Prop) → (Prop) → Prop
  | 0, _, _, _, _, _, _ => False
  | k + 1, most2, v2, v3, v4, K0, K1 => Br (decide (v4 < v3))
      (Br ((decide ((0 : Int) ≤ v4)) && (decide (v4 < (((List.length v2) : Nat) : Int))))
        (let v6 : Int := (List.getD v2 (Int.toNat v4) 0)
        Br (decide (v6 < (isub .i64 0 most2)))
          (K0 false)
          (Br (decide (most2 < v6))
            (K0 false)
            (num_within_l2 k most2 v2 v3 (iadd .i64 v4 1) K0 K1)))
        (False))
      (K1)

/- splicer/num.within (62) -/
def num_within_u (most1 : Int) (l1 : (List Int)) (K0 : (Bool → Prop)) : Prop :=
  ∃ q, num_within_l2 q most1 l1 (l1.length : Int) 0 K0
    (K0 true)

noncomputable def num_within : Int → (List Int) → (Bool → Prop) → Prop := Classical.choose (⟨num_within_u, rfl⟩ : ∃ q, q = num_within_u)

theorem num_within_def (most1 : Int) (l1 : (List Int)) (K0 : (Bool → Prop)) : num_within most1 l1 K0 =
  (∃ q, num_within_l2 q most1 l1 (l1.length : Int) 0 K0
    (K0 true)) := by
  have e : num_within = num_within_u := Classical.choose_spec (⟨num_within_u, rfl⟩ : ∃ q, q = num_within_u)
  show num_within most1 l1 K0 = num_within_u most1 l1 K0
  rw [e]

/- join of splicer/num.Shr, region 2 -/
def num_Shr_j2 (x2 : Int) (n2 : Int) (v4 : Bool) (K0 : (Int → Prop)) (K1 : (Int → Int → Prop)) : Prop :=
  Br v4
    (K0 0)
    (Br (decide (n2 = (0 : Int)))
      (K0 x2)
      (K1 x2 n2))

/- join of splicer/num.Shr, region 5 -/
def num_Shr_j5 (x6 : Int) (n6 : Int) (K0 : (Int → Prop)) : Prop :=
  let v9 : Int := (isub .i64 n6 1)
  Br (decide (v9 < (0 : Int)))
    (False)
    (Br (decide (n6 < (0 : Int)))
      (False)
      (K0 (ishr .i64 (iadd .i64 x6 (ishl .i64 1 v9)) n6)))

/- splicer/num.Shr (47) -/
def num_Shr_u (x1 : Int) (n1 : Int) (K0 : (Int → Prop)) : Prop :=
  Br (decide (n1 < (0 : Int)))
    (num_Shr_j2 x1 n1 true K0
      (fun (x3 : Int) (n3 : Int) =>
      num_Shr_j5 x3 n3 K0))
    (Br (decide ((60 : Int) < n1))
      (num_Shr_j2 x1 n1 true K0
        (fun (x4 : Int) (n4 : Int) =>
        num_Shr_j5 x4 n4 K0))
      (num_within 2305843009213693952 [x1]
        (fun (r1 : Bool) =>
        num_Shr_j2 x1 n1 (!r1) K0
          (fun (x5 : Int) (n5 : Int) =>
          num_Shr_j5 x5 n5 K0))))

noncomputable def num_Shr : Int → Int → (Int → Prop) → Prop := Classical.choose (⟨num_Shr_u, rfl⟩ : ∃ q, q = num_Shr_u)

theorem num_Shr_def (x1 : Int) (n1 : Int) (K0 : (Int → Prop)) : num_Shr x1 n1 K0 =
  (Br (decide (n1 < (0 : Int)))
    (num_Shr_j2 x1 n1 true K0
      (fun (x3 : Int) (n3 : Int) =>
      num_Shr_j5 x3 n3 K0))
    (Br (decide ((60 : Int) < n1))
      (num_Shr_j2 x1 n1 true K0
        (fun (x4 : Int) (n4 : Int) =>
        num_Shr_j5 x4 n4 K0))
      (num_within 2305843009213693952 [x1]
        (fun (r1 : Bool) =>
        num_Shr_j2 x1 n1 (!r1) K0
          (fun (x5 : Int) (n5 : Int) =>
          num_Shr_j5 x5 n5 K0))))) := by
  have e : num_Shr = num_Shr_u := Classical.choose_spec (⟨num_Shr_u, rfl⟩ : ∃ q, q = num_Shr_u)
  show num_Shr x1 n1 K0 = num_Shr_u x1 n1 K0
  rw [e]

/- range, region 7 -/
def dct_shifted_r7b (x1 : Int) (x2 : Int) (l3 : (List Int)) (by_3 : Int) (k1 : Int) (v6 : Int) (v7 : Int) (m4 : (List Int)) (m5 : (List Int)) (m6 : Int) (K0 : ((List Int) → Int → Int → Int → Int → (List Int) → (List Int) → Int → Prop)) : Prop :=
  trig_Table__Cos m4 x2
    (fun (r3 : Int) =>
    K0 l3 by_3 k1 v6 v7 m4 m5 (iadd .i64 m6 (imul .i64 x1 r3)))
def dct_shifted_r7 (c0_ : (List Int)) (c1_ : Int) (l3 : (List Int)) (by_3 : Int) (k1 : Int) (v6 : Int) (v7 : Int) (m4 : (List Int)) (m5 : (List Int)) (m6 : Int) (K0 : ((List Int) → Int → Int → Int → Int → (List Int) → (List Int) → Int → Prop)) : Prop :=
  It_dct_angles_1 c0_ c1_ (Rs (((List Int) × Int × Int × Int × Int × Unit) × ((List Int) × (List Int) × Int × Unit)) (Empty))
    (fun x s Kb => s.on fun (v : ((List Int) × Int × Int × Int × Int × Unit) × ((List Int) × (List Int) × Int × Unit)) => dct_shifted_r7b x.1 x.2.1 v.1.1 v.1.2.1 v.1.2.2.1 v.1.2.2.2.1 v.1.2.2.2.2.1 v.2.1 v.2.2.1 v.2.2.2.1 (fun (y0 : (List Int)) (y1 : Int) (y2 : Int) (y3 : Int) (y4 : Int) (y5 : (List Int)) (y6 : (List Int)) (y7 : Int) => Kb true (.go ((y0, y1, y2, y3, y4, ()), (y5, y6, y7, ())))))
    (.go ((l3, by_3, k1, v6, v7, ()), (m4, m5, m6, ())))
    (fun s => s.fin (fun (v : ((List Int) × Int × Int × Int × Int × Unit) × ((List Int) × (List Int) × Int × Unit)) => K0 v.1.1 v.1.2.1 v.1.2.2.1 v.1.2.2.2.1 v.1.2.2.2.2.1 v.2.1 v.2.2.1 v.2.2.2.1) (fun _ => False))

/- loop of splicer/dct.shifted, region 3 -/
def dct_shifted_l3 : Nat → (List Int) → Int → Int → Int → (List Int) → (List Int) → ((List Int) → Prop) → Prop
  | 0, _, _, _, _, _, _, _ => False
  | k + 1, l2, by_2, v3, v4, m2, m3, K0 => Br (decide (v4 < v3))
      (dct_angles l2 v4
        (fun (r1 : (List Int)) (r2 : Int) =>
        dct_shifted_r7 r1 r2 l2 by_2 v4 v3 v4 m2 m3 0
          (fun (l4 : (List Int)) (by_4 : Int) (k2 : Int) (v10 : Int) (v11 : Int) (m7 : (List Int)) (m8 : (List Int)) (m9 : Int) =>
          num_Shr m9 by_4
            (fun (r4 : Int) =>
            Br ((decide ((0 : Int) ≤ k2)) && (decide (k2 < (((List.length m8) : Nat) : Int))))
              (Br (decide ((Int.toNat k2) < (List.length m8)))
                (dct_shifted_l3 k l4 by_4 v10 (iadd .i64 v11 1) m7 (List.set m8 (Int.toNat k2) r4) K0)
                (False))
              (False)))))
      (K0 m3)

/- splicer/dct.shifted (43) -/
def dct_shifted_u (t1 : (List Int)) (l1 : (List Int)) (by_1 : Int) (K0 : ((List Int) → Prop)) : Prop :=
  Br (((decide ((0 : Int) ≤ (l1.length : Int))) && (decide ((l1.length : Int) ≤ (l1.length : Int)))) && (decide (((l1.length : Int) * (8 : Int)) ≤ (140737488355328 : Int))))
    (let m1 : (List Int) := (List.replicate (Int.toNat (l1.length : Int)) 0)
    ∃ q, dct_shifted_l3 q l1 by_1 (m1.length : Int) 0 t1 m1 K0)
    (False)

noncomputable def dct_shifted : (List Int) → (List Int) → Int → ((List Int) → Prop) → Prop := Classical.choose (⟨dct_shifted_u, rfl⟩ : ∃ q, q = dct_shifted_u)

theorem dct_shifted_def (t1 : (List Int)) (l1 : (List Int)) (by_1 : Int) (K0 : ((List Int) → Prop)) : dct_shifted t1 l1 by_1 K0 =
  (Br (((decide ((0 : Int) ≤ (l1.length : Int))) && (decide ((l1.length : Int) ≤ (l1.length : Int)))) && (decide (((l1.length : Int) * (8 : Int)) ≤ (140737488355328 : Int))))
    (let m1 : (List Int) := (List.replicate (Int.toNat (l1.length : Int)) 0)
    ∃ q, dct_shifted_l3 q l1 by_1 (m1.length : Int) 0 t1 m1 K0)
    (False)) := by
  have e : dct_shifted = dct_shifted_u := Classical.choose_spec (⟨dct_shifted_u, rfl⟩ : ∃ q, q = dct_shifted_u)
  show dct_shifted t1 l1 by_1 K0 = dct_shifted_u t1 l1 by_1 K0
  rw [e]

/- splicer/dct.Back (20) -/
def dct_Back_u (t1 : (List Int)) (x1 : (List Int)) (K0 : (Prop)) (K1 : ((List Int) → Prop)) : Prop :=
  dct_right x1 33554432
    (fun (r1 : Bool) =>
    Br (!r1)
      (K0)
      (Br (decide ((x1.length : Int) = (8 : Int)))
        (dct_shifted t1 x1 26 K1)
        (dct_shifted t1 x1 29 K1)))

noncomputable def dct_Back : (List Int) → (List Int) → (Prop) → ((List Int) → Prop) → Prop := Classical.choose (⟨dct_Back_u, rfl⟩ : ∃ q, q = dct_Back_u)

theorem dct_Back_def (t1 : (List Int)) (x1 : (List Int)) (K0 : (Prop)) (K1 : ((List Int) → Prop)) : dct_Back t1 x1 K0 K1 =
  (dct_right x1 33554432
    (fun (r1 : Bool) =>
    Br (!r1)
      (K0)
      (Br (decide ((x1.length : Int) = (8 : Int)))
        (dct_shifted t1 x1 26 K1)
        (dct_shifted t1 x1 29 K1)))) := by
  have e : dct_Back = dct_Back_u := Classical.choose_spec (⟨dct_Back_u, rfl⟩ : ∃ q, q = dct_Back_u)
  show dct_Back t1 x1 K0 K1 = dct_Back_u t1 x1 K0 K1
  rw [e]

/- loop of splicer/lap.Pick, region 5 -/
def lap_Pick_l5 : Nat → (List Int) → Int → Int → Int → (List Int) → ((List Int) → Prop) → Prop
  | 0, _, _, _, _, _, _ => False
  | k + 1, x2, b2, v6, v7, m2, K0 => Br (decide (v7 < v6))
      (let v10 : Int := (iadd .i64 (imul .i64 v7 8) b2)
      Br ((decide ((0 : Int) ≤ v10)) && (decide (v10 < (((List.length x2) : Nat) : Int))))
        (Br ((decide ((0 : Int) ≤ v7)) && (decide (v7 < (((List.length m2) : Nat) : Int))))
          (Br (decide ((Int.toNat v7) < (List.length m2)))
            (lap_Pick_l5 k x2 b2 v6 (iadd .i64 v7 1) (List.set m2 (Int.toNat v7) (List.getD x2 (Int.toNat v10) 0)) K0)
            (False))
          (False))
        (False))
      (K0 m2)

/- splicer/lap.Pick (17) -/
def lap_Pick_u (x1 : (List Int)) (b1 : Int) (K0 : (Prop)) (K1 : ((List Int) → Prop)) : Prop :=
  Br (!(decide ((x1.length : Int) = (64 : Int))))
    (K0)
    (Br (decide (b1 < (0 : Int)))
      (K0)
      (Br (decide ((8 : Int) ≤ b1))
        (K0)
        (let m1 : (List Int) := (List.replicate 8 0)
        ∃ q, lap_Pick_l5 q x1 b1 (m1.length : Int) 0 m1 K1)))

noncomputable def lap_Pick : (List Int) → Int → (Prop) → ((List Int) → Prop) → Prop := Classical.choose (⟨lap_Pick_u, rfl⟩ : ∃ q, q = lap_Pick_u)

theorem lap_Pick_def (x1 : (List Int)) (b1 : Int) (K0 : (Prop)) (K1 : ((List Int) → Prop)) : lap_Pick x1 b1 K0 K1 =
  (Br (!(decide ((x1.length : Int) = (64 : Int))))
    (K0)
    (Br (decide (b1 < (0 : Int)))
      (K0)
      (Br (decide ((8 : Int) ≤ b1))
        (K0)
        (let m1 : (List Int) := (List.replicate 8 0)
        ∃ q, lap_Pick_l5 q x1 b1 (m1.length : Int) 0 m1 K1)))) := by
  have e : lap_Pick = lap_Pick_u := Classical.choose_spec (⟨lap_Pick_u, rfl⟩ : ∃ q, q = lap_Pick_u)
  show lap_Pick x1 b1 K0 K1 = lap_Pick_u x1 b1 K0 K1
  rw [e]

/- loop of splicer/lap.blocks$1, region 3 -/
def It_lap_blocks_1_l3 (S : Type) (rd : (((List Int) × Unit) → S → (Bool → S → Prop) → Prop)) : Nat → (List Int) → (List Int) → Int → S → (S → Prop) → (S → Prop) → Prop
  | 0, _, _, _, _, _, _ => False
  | k + 1, v2, v3, v4, s3, K0, K1 => Br (decide (v4 < (8 : Int)))
      (lap_Pick v3 v4
        (dct_Back v2 []
          (rd ([], ()) s3 fun (b3 : Bool) (s4 : S) =>
          Br (!b3)
            (K0 s4)
            (It_lap_blocks_1_l3 S rd k v2 v3 (iadd .i64 v4 1) s4 K0 K1))
          (fun (r2 : (List Int)) =>
          rd (r2, ()) s3 fun (b4 : Bool) (s5 : S) =>
          Br (!b4)
            (K0 s5)
            (It_lap_blocks_1_l3 S rd k v2 v3 (iadd .i64 v4 1) s5 K0 K1)))
        (fun (r3 : (List Int)) =>
        dct_Back v2 r3
          (rd ([], ()) s3 fun (b5 : Bool) (s6 : S) =>
          Br (!b5)
            (K0 s6)
            (It_lap_blocks_1_l3 S rd k v2 v3 (iadd .i64 v4 1) s6 K0 K1))
          (fun (r4 : (List Int)) =>
          rd (r4, ()) s3 fun (b6 : Bool) (s7 : S) =>
          Br (!b6)
            (K0 s7)
            (It_lap_blocks_1_l3 S rd k v2 v3 (iadd .i64 v4 1) s7 K0 K1))))
      (K1 s3)

/- splicer/lap.blocks$1 (56) -/
def It_lap_blocks_1_u (c1 : Bool) (c2 : (List Int)) (c3 : (List Int)) (S : Type) (rd : (((List Int) × Unit) → S → (Bool → S → Prop) → Prop)) (s : S) (K0 : S → Prop) : Prop :=
  Br (!c1)
    (dct_Back c2 c3
      (rd ([], ()) s fun (b1 : Bool) (s1 : S) =>
      K0 s1)
      (fun (r1 : (List Int)) =>
      rd (r1, ()) s fun (b2 : Bool) (s2 : S) =>
      K0 s2))
    (∃ q, It_lap_blocks_1_l3 S rd q c2 c3 0 s K0 K0)

noncomputable def It_lap_blocks_1 : Bool → (List Int) → (List Int) → (S : Type) → (((List Int) × Unit) → S → (Bool → S → Prop) → Prop) → S → (S → Prop) → Prop := Classical.choose (⟨It_lap_blocks_1_u, rfl⟩ : ∃ q, q = It_lap_blocks_1_u)

theorem It_lap_blocks_1_def (c1 : Bool) (c2 : (List Int)) (c3 : (List Int)) (S : Type) (rd : (((List Int) × Unit) → S → (Bool → S → Prop) → Prop)) (s : S) (K0 : S → Prop) : It_lap_blocks_1 c1 c2 c3 S rd s K0 =
  (Br (!c1)
    (dct_Back c2 c3
      (rd ([], ()) s fun (b1 : Bool) (s1 : S) =>
      K0 s1)
      (fun (r1 : (List Int)) =>
      rd (r1, ()) s fun (b2 : Bool) (s2 : S) =>
      K0 s2))
    (∃ q, It_lap_blocks_1_l3 S rd q c2 c3 0 s K0 K0)) := by
  have e : It_lap_blocks_1 = It_lap_blocks_1_u := Classical.choose_spec (⟨It_lap_blocks_1_u, rfl⟩ : ∃ q, q = It_lap_blocks_1_u)
  show It_lap_blocks_1 c1 c2 c3 S rd s K0 = It_lap_blocks_1_u c1 c2 c3 S rd s K0
  rw [e]

/- loop of splicer/window.within, region 5 -/
def window_within_l5 : Nat → Int → (List Int) → Int → Int → (Bool → Prop) → (Prop) → Prop
  | 0, _, _, _, _, _, _ => False
  | k + 1, wide3, v6, v7, v8, K0, K1 => Br (decide (v8 < v7))
      (Br ((decide ((0 : Int) ≤ v8)) && (decide (v8 < (((List.length v6) : Nat) : Int))))
        (let v10 : Int := (List.getD v6 (Int.toNat v8) 0)
        Br (decide (v10 < (isub .i64 0 wide3)))
          (K0 false)
          (Br (decide (wide3 < v10))
            (K0 false)
            (window_within_l5 k wide3 v6 v7 (iadd .i64 v8 1) K0 K1)))
        (False))
      (K1)

/- join of splicer/window.within, region 4 -/
def window_within_j4 (l2 : (List Int)) (wide2 : Int) (K0 : (Bool → Prop)) : Prop :=
  ∃ q, window_within_l5 q wide2 l2 (l2.length : Int) 0 K0
    (K0 true)

/- splicer/window.within (57) -/
def window_within_u (l1 : (List Int)) (more1 : Int) (wide1 : Int) (K0 : (Bool → Prop)) : Prop :=
  let v2 : Int := (isub .i64 (l1.length : Int) more1)
  Br (!(decide (v2 = (64 : Int))))
    (Br (!(decide (v2 = (8 : Int))))
      (K0 false)
      (window_within_j4 l1 wide1 K0))
    (window_within_j4 l1 wide1 K0)

noncomputable def window_within : (List Int) → Int → Int → (Bool → Prop) → Prop := Classical.choose (⟨window_within_u, rfl⟩ : ∃ q, q = window_within_u)

theorem window_within_def (l1 : (List Int)) (more1 : Int) (wide1 : Int) (K0 : (Bool → Prop)) : window_within l1 more1 wide1 K0 =
  (let v2 : Int := (isub .i64 (l1.length : Int) more1)
  Br (!(decide (v2 = (64 : Int))))
    (Br (!(decide (v2 = (8 : Int))))
      (K0 false)
      (window_within_j4 l1 wide1 K0))
    (window_within_j4 l1 wide1 K0)) := by
  have e : window_within = window_within_u := Classical.choose_spec (⟨window_within_u, rfl⟩ : ∃ q, q = window_within_u)
  show window_within l1 more1 wide1 K0 = window_within_u l1 more1 wide1 K0
  rw [e]

/- splicer/window.Slope (58) -/
def window_Slope_u  (K0 : ((List Int) → Prop)) : Prop :=
  K0 [494, 4325, 11207, 19363, 26435, 30792, 32481, 32764]

noncomputable def window_Slope : ((List Int) → Prop) → Prop := Classical.choose (⟨window_Slope_u, rfl⟩ : ∃ q, q = window_Slope_u)

theorem window_Slope_def  (K0 : ((List Int) → Prop)) : window_Slope K0 =
  (K0 [494, 4325, 11207, 19363, 26435, 30792, 32481, 32764]) := by
  have e : window_Slope = window_Slope_u := Classical.choose_spec (⟨window_Slope_u, rfl⟩ : ∃ q, q = window_Slope_u)
  show window_Slope K0 = window_Slope_u K0
  rw [e]

/- loop of splicer/window.Left, region 6 -/
def window_Left_l6 : Nat → (List Int) → Int → (List Int) → (List Int) → (List Int) → ((List Int) → (List Int) → Prop) → Prop
  | 0, _, _, _, _, _, _ => False
  | k + 1, u2, v2, m4, m5, m6, K0 => Br (decide (v2 < (4 : Int)))
      (let v4 : Int := (iadd .i64 4 v2)
      let v5 : Int := (iadd .i64 4 v2)
      Br ((decide ((0 : Int) ≤ v5)) && (decide (v5 < (8 : Int))))
        (Br (decide ((Int.toNat v5) < (List.length m6)))
          (Br ((decide ((0 : Int) ≤ v2)) && (decide (v2 < (((List.length u2) : Nat) : Int))))
            (Br ((decide ((0 : Int) ≤ v4)) && (decide (v4 < (8 : Int))))
              (Br (decide ((Int.toNat v4) < (List.length m5)))
                (let m7 : (List Int) := (List.set m5 (Int.toNat v4) (imul .i64 (List.getD m6 (Int.toNat v5) 0) (List.getD u2 (Int.toNat v2) 0)))
                let v9 : Int := (isub .i64 3 v2)
                let v10 : Int := (isub .i64 3 v2)
                Br ((decide ((0 : Int) ≤ v10)) && (decide (v10 < (8 : Int))))
                  (Br (decide ((Int.toNat v10) < (List.length m6)))
                    (Br ((decide ((0 : Int) ≤ v2)) && (decide (v2 < (((List.length u2) : Nat) : Int))))
                      (Br ((decide ((0 : Int) ≤ v9)) && (decide (v9 < (8 : Int))))
                        (Br (decide ((Int.toNat v9) < (List.length m7)))
                          (window_Left_l6 k u2 (iadd .i64 v2 1) m4 (List.set m7 (Int.toNat v9) (imul .i64 (List.getD m6 (Int.toNat v10) 0) (List.getD u2 (Int.toNat v2) 0))) m6 K0)
                          (False))
                        (False))
                      (False))
                    (False))
                  (False))
                (False))
              (False))
            (False))
          (False))
        (False))
      (K0 m4 m5)

/- splicer/window.Left (35) -/
def window_Left_u (u1 : (List Int)) (K0 : ((List Int) → Prop)) : Prop :=
  let m2 : (List Int) := (List.replicate 8 0)
  window_within u1 0 1073741824
    (fun (r1 : Bool) =>
    Br (!r1)
      (K0 m2)
      (window_Slope
        (fun (r2 : (List Int)) =>
        ∃ q, window_Left_l6 q u1 0 (List.replicate 8 0) m2 r2
          (fun (m9 : (List Int)) (m10 : (List Int)) =>
          K0 m10))))

noncomputable def window_Left : (List Int) → ((List Int) → Prop) → Prop := Classical.choose (⟨window_Left_u, rfl⟩ : ∃ q, q = window_Left_u)

theorem window_Left_def (u1 : (List Int)) (K0 : ((List Int) → Prop)) : window_Left u1 K0 =
  (let m2 : (List Int) := (List.replicate 8 0)
  window_within u1 0 1073741824
    (fun (r1 : Bool) =>
    Br (!r1)
      (K0 m2)
      (window_Slope
        (fun (r2 : (List Int)) =>
        ∃ q, window_Left_l6 q u1 0 (List.replicate 8 0) m2 r2
          (fun (m9 : (List Int)) (m10 : (List Int)) =>
          K0 m10))))) := by
  have e : window_Left = window_Left_u := Classical.choose_spec (⟨window_Left_u, rfl⟩ : ∃ q, q = window_Left_u)
  show window_Left u1 K0 = window_Left_u u1 K0
  rw [e]

/- join of splicer/window.Meet, region 6 -/
def window_Meet_j6 (j1 : Int) (v11 : Int) (v12 : Bool) (m7 : (List Int)) (m8 : (List Int)) (m9 : (List Int)) (m10 : (List Int)) (K0 : (Int → (List Int) → (List Int) → (List Int) → (List Int) → Prop)) : Prop :=
  Br v12
    (Br ((decide ((0 : Int) ≤ j1)) && (decide (j1 < (8 : Int))))
      (Br (decide ((Int.toNat j1) < (List.length m7)))
        (Br ((decide ((0 : Int) ≤ j1)) && (decide (j1 < (8 : Int))))
          (Br (decide ((Int.toNat j1) < (List.length m8)))
            (num_Shr (iadd .i64 (List.getD m7 (Int.toNat j1) 0) (List.getD m8 (Int.toNat j1) 0)) 15
              (fun (r1 : Int) =>
              Br ((decide ((0 : Int) ≤ j1)) && (decide (j1 < (8 : Int))))
                (Br (decide ((Int.toNat j1) < (List.length m10)))
                  (K0 v11 m7 m8 m9 (List.set m10 (Int.toNat j1) r1))
                  (False))
                (False)))
            (False))
          (False))
        (False))
      (False))
    (K0 v11 m7 m8 m9 m10)

/- loop of splicer/window.Meet, region 3 -/
def window_Meet_l3 : Nat → Int → (List Int) → (List Int) → (List Int) → (List Int) → ((List Int) → (List Int) → Prop) → Prop
  | 0, _, _, _, _, _, _ => False
  | k + 1, v1, m3, m4, m5, m6, K0 => Br (decide (v1 < (8 : Int)))
      (Br ((decide ((0 : Int) ≤ v1)) && (decide (v1 < (8 : Int))))
        (Br (decide ((Int.toNat v1) < (List.length m3)))
          (Br ((decide ((0 : Int) ≤ v1)) && (decide (v1 < (8 : Int))))
            (Br (decide ((Int.toNat v1) < (List.length m4)))
              (Br (decide ((-70368744177664 : Int) ≤ (imin (List.getD m3 (Int.toNat v1) 0) (List.getD m4 (Int.toNat v1) 0))))
                (Br ((decide ((0 : Int) ≤ v1)) && (decide (v1 < (8 : Int))))
                  (Br (decide ((Int.toNat v1) < (List.length m3)))
                    (Br ((decide ((0 : Int) ≤ v1)) && (decide (v1 < (8 : Int))))
                      (Br (decide ((Int.toNat v1) < (List.length m4)))
                        (window_Meet_j6 v1 v1 (decide ((imax (List.getD m3 (Int.toNat v1) 0) (List.getD m4 (Int.toNat v1) 0)) ≤ (70368744177664 : Int))) m3 m4 m5 m6
                          (fun (v16 : Int) (m12 : (List Int)) (m13 : (List Int)) (m14 : (List Int)) (m15 : (List Int)) =>
                          window_Meet_l3 k (iadd .i64 v16 1) m12 m13 m14 m15 K0))
                        (False))
                      (False))
                    (False))
                  (False))
                (window_Meet_j6 v1 v1 false m3 m4 m5 m6
                  (fun (v17 : Int) (m16 : (List Int)) (m17 : (List Int)) (m18 : (List Int)) (m19 : (List Int)) =>
                  window_Meet_l3 k (iadd .i64 v17 1) m16 m17 m18 m19 K0)))
              (False))
            (False))
          (False))
        (False))
      (K0 m5 m6)

/- splicer/window.Meet (34) -/
def window_Meet_u (left1 : (List Int)) (right1 : (List Int)) (K0 : ((List Int) → Prop)) : Prop :=
  ∃ q, window_Meet_l3 q 0 left1 right1 (List.replicate 8 0) (List.replicate 8 0)
    (fun (m20 : (List Int)) (m21 : (List Int)) =>
    K0 m21)

noncomputable def window_Meet : (List Int) → (List Int) → ((List Int) → Prop) → Prop := Classical.choose (⟨window_Meet_u, rfl⟩ : ∃ q, q = window_Meet_u)

theorem window_Meet_def (left1 : (List Int)) (right1 : (List Int)) (K0 : ((List Int) → Prop)) : window_Meet left1 right1 K0 =
  (∃ q, window_Meet_l3 q 0 left1 right1 (List.replicate 8 0) (List.replicate 8 0)
    (fun (m20 : (List Int)) (m21 : (List Int)) =>
    K0 m21)) := by
  have e : window_Meet = window_Meet_u := Classical.choose_spec (⟨window_Meet_u, rfl⟩ : ∃ q, q = window_Meet_u)
  show window_Meet left1 right1 K0 = window_Meet_u left1 right1 K0
  rw [e]

/- loop of splicer/window.Right, region 6 -/
def window_Right_l6 : Nat → (List Int) → Int → (List Int) → (List Int) → (List Int) → ((List Int) → (List Int) → Prop) → Prop
  | 0, _, _, _, _, _, _ => False
  | k + 1, u2, v2, m4, m5, m6, K0 => Br (decide (v2 < (4 : Int)))
      (let v6 : Int := (isub .i64 (isub .i64 (u2.length : Int) 1) v2)
      Br ((decide ((0 : Int) ≤ v6)) && (decide (v6 < (((List.length u2) : Nat) : Int))))
        (let v7 : Int := (List.getD u2 (Int.toNat v6) 0)
        let v8 : Int := (isub .i64 3 v2)
        let v9 : Int := (iadd .i64 4 v2)
        Br ((decide ((0 : Int) ≤ v9)) && (decide (v9 < (8 : Int))))
          (Br (decide ((Int.toNat v9) < (List.length m6)))
            (Br ((decide ((0 : Int) ≤ v8)) && (decide (v8 < (8 : Int))))
              (Br (decide ((Int.toNat v8) < (List.length m5)))
                (let m7 : (List Int) := (List.set m5 (Int.toNat v8) (imul .i64 (List.getD m6 (Int.toNat v9) 0) v7))
                let v12 : Int := (iadd .i64 4 v2)
                let v13 : Int := (isub .i64 3 v2)
                Br ((decide ((0 : Int) ≤ v13)) && (decide (v13 < (8 : Int))))
                  (Br (decide ((Int.toNat v13) < (List.length m6)))
                    (Br ((decide ((0 : Int) ≤ v12)) && (decide (v12 < (8 : Int))))
                      (Br (decide ((Int.toNat v12) < (List.length m7)))
                        (window_Right_l6 k u2 (iadd .i64 v2 1) m4 (List.set m7 (Int.toNat v12) (imul .i64 (isub .i64 0 (List.getD m6 (Int.toNat v13) 0)) v7)) m6 K0)
                        (False))
                      (False))
                    (False))
                  (False))
                (False))
              (False))
            (False))
          (False))
        (False))
      (K0 m4 m5)

/- splicer/window.Right (36) -/
def window_Right_u (u1 : (List Int)) (K0 : ((List Int) → Prop)) : Prop :=
  let m2 : (List Int) := (List.replicate 8 0)
  window_within u1 0 1073741824
    (fun (r1 : Bool) =>
    Br (!r1)
      (K0 m2)
      (window_Slope
        (fun (r2 : (List Int)) =>
        ∃ q, window_Right_l6 q u1 0 (List.replicate 8 0) m2 r2
          (fun (m9 : (List Int)) (m10 : (List Int)) =>
          K0 m10))))

noncomputable def window_Right : (List Int) → ((List Int) → Prop) → Prop := Classical.choose (⟨window_Right_u, rfl⟩ : ∃ q, q = window_Right_u)

theorem window_Right_def (u1 : (List Int)) (K0 : ((List Int) → Prop)) : window_Right u1 K0 =
  (let m2 : (List Int) := (List.replicate 8 0)
  window_within u1 0 1073741824
    (fun (r1 : Bool) =>
    Br (!r1)
      (K0 m2)
      (window_Slope
        (fun (r2 : (List Int)) =>
        ∃ q, window_Right_l6 q u1 0 (List.replicate 8 0) m2 r2
          (fun (m9 : (List Int)) (m10 : (List Int)) =>
          K0 m10))))) := by
  have e : window_Right = window_Right_u := Classical.choose_spec (⟨window_Right_u, rfl⟩ : ∃ q, q = window_Right_u)
  show window_Right u1 K0 = window_Right_u u1 K0
  rw [e]

/- splicer/num.Sat (37) -/
def num_Sat_u (x1 : Int) (K0 : (Int → Prop)) : Prop :=
  K0 (imin (imax x1 (-32768)) 32767)

noncomputable def num_Sat : Int → (Int → Prop) → Prop := Classical.choose (⟨num_Sat_u, rfl⟩ : ∃ q, q = num_Sat_u)

theorem num_Sat_def (x1 : Int) (K0 : (Int → Prop)) : num_Sat x1 K0 =
  (K0 (imin (imax x1 (-32768)) 32767)) := by
  have e : num_Sat = num_Sat_u := Classical.choose_spec (⟨num_Sat_u, rfl⟩ : ∃ q, q = num_Sat_u)
  show num_Sat x1 K0 = num_Sat_u x1 K0
  rw [e]

/- range, region 5 -/
def lap_Frame_r5b (x2 : (List Int)) (m3 : (List Int)) (m4 : (List Int)) (m5 : (List Int)) (K0 : ((List Int) → (List Int) → (List Int) → Prop)) : Prop :=
  window_Left x2
    (fun (r5 : (List Int)) =>
    window_Meet m3 r5
      (fun (r6 : (List Int)) =>
      Br (decide (8 ≤ (List.length r6)))
        (Br (decide ((((List.length m5) + (List.length (List.take 8 (List.drop 0 r6)))) * 8) ≤ 140737488355328))
          (let m7 : (List Int) := (m5 ++ (List.take 8 (List.drop 0 r6)))
          let v4 : Int := (isub .i64 (x2.length : Int) 4)
          Br ((decide ((0 : Int) ≤ v4)) && (decide (v4 ≤ (((List.length x2) : Nat) : Int))))
            (Br (decide ((4 : Int) ≤ (((Int.toNat v4) : Nat) : Int)))
              (let v5 : (List Int) := (List.take ((Int.toNat v4) - 4) (List.drop 4 x2))
              Br (decide ((((List.length m7) + (List.length v5)) * 8) ≤ 140737488355328))
                (window_Right x2
                  (fun (r7 : (List Int)) =>
                  K0 r7 m4 (m7 ++ v5)))
                (False))
              (False))
            (False))
          (False))
        (False)))
def lap_Frame_r5 (c0_ : Bool) (c1_ : (List Int)) (c2_ : (List Int)) (m3 : (List Int)) (m4 : (List Int)) (m5 : (List Int)) (K0 : ((List Int) → (List Int) → (List Int) → Prop)) : Prop :=
  It_lap_blocks_1 c0_ c1_ c2_ (Rs ((Unit) × ((List Int) × (List Int) × (List Int) × Unit)) (Empty))
    (fun x s Kb => s.on fun (v : (Unit) × ((List Int) × (List Int) × (List Int) × Unit)) => lap_Frame_r5b x.1 v.2.1 v.2.2.1 v.2.2.2.1 (fun (y0 : (List Int)) (y1 : (List Int)) (y2 : (List Int)) => Kb true (.go ((()), (y0, y1, y2, ())))))
    (.go ((()), (m3, m4, m5, ())))
    (fun s => s.fin (fun (v : (Unit) × ((List Int) × (List Int) × (List Int) × Unit)) => K0 v.2.1 v.2.2.1 v.2.2.2.1) (fun _ => False))

/- loop of splicer/lap.Frame, region 11 -/
def lap_Frame_l11 : Nat → Int → Int → (List Int) → (List Int) → (List Int) → ((List Int) → (List Int) → (List Int) → Prop) → Prop
  | 0, _, _, _, _, _, _ => False
  | k + 1, v7, v8, m12, m13, m14, K0 => Br (decide (v8 < v7))
      (Br ((decide ((0 : Int) ≤ v8)) && (decide (v8 < (((List.length m14) : Nat) : Int))))
        (Br (decide ((Int.toNat v8) < (List.length m14)))
          (num_Sat (List.getD m14 (Int.toNat v8) 0)
            (fun (r8 : Int) =>
            Br ((decide ((0 : Int) ≤ v8)) && (decide (v8 < (((List.length m14) : Nat) : Int))))
              (Br (decide ((Int.toNat v8) < (List.length m14)))
                (lap_Frame_l11 k v7 (iadd .i64 v8 1) m12 m13 (List.set m14 (Int.toNat v8) r8) K0)
                (False))
              (False)))
          (False))
        (False))
      (K0 m12 m13 m14)

/- splicer/lap.Frame (13) -/
def lap_Frame_u (t1 : (List Int)) (tail1 : (List Int)) (x1 : (List Int)) (short1 : Bool) (K0 : ((List Int) → Prop)) (K1 : ((List Int) → (List Int) → Prop)) : Prop :=
  lap_right x1 tail1
    (fun (r1 : Bool) =>
    Br (!r1)
      (K0 (List.replicate 8 0))
      (lap_blocks t1 x1 short1
        (fun (r2 : Bool) (r3 : (List Int)) (r4 : (List Int)) =>
        lap_Frame_r5 r2 r3 r4 tail1 (List.replicate 8 0) (List.replicate 0 0)
          (fun (m9 : (List Int)) (m10 : (List Int)) (m11 : (List Int)) =>
          ∃ q, lap_Frame_l11 q (m11.length : Int) 0 m9 m10 m11
            (fun (m16 : (List Int)) (m17 : (List Int)) (m18 : (List Int)) =>
            K1 m16 m18)))))

noncomputable def lap_Frame : (List Int) → (List Int) → (List Int) → Bool → ((List Int) → Prop) → ((List Int) → (List Int) → Prop) → Prop := Classical.choose (⟨lap_Frame_u, rfl⟩ : ∃ q, q = lap_Frame_u)

theorem lap_Frame_def (t1 : (List Int)) (tail1 : (List Int)) (x1 : (List Int)) (short1 : Bool) (K0 : ((List Int) → Prop)) (K1 : ((List Int) → (List Int) → Prop)) : lap_Frame t1 tail1 x1 short1 K0 K1 =
  (lap_right x1 tail1
    (fun (r1 : Bool) =>
    Br (!r1)
      (K0 (List.replicate 8 0))
      (lap_blocks t1 x1 short1
        (fun (r2 : Bool) (r3 : (List Int)) (r4 : (List Int)) =>
        lap_Frame_r5 r2 r3 r4 tail1 (List.replicate 8 0) (List.replicate 0 0)
          (fun (m9 : (List Int)) (m10 : (List Int)) (m11 : (List Int)) =>
          ∃ q, lap_Frame_l11 q (m11.length : Int) 0 m9 m10 m11
            (fun (m16 : (List Int)) (m17 : (List Int)) (m18 : (List Int)) =>
            K1 m16 m18)))))) := by
  have e : lap_Frame = lap_Frame_u := Classical.choose_spec (⟨lap_Frame_u, rfl⟩ : ∃ q, q = lap_Frame_u)
  show lap_Frame t1 tail1 x1 short1 K0 K1 = lap_Frame_u t1 tail1 x1 short1 K0 K1
  rw [e]

/- loop of splicer/splicerref01.Same, region 4 -/
def R01_Same_l4 : Nat → (List Int) → (List Int) → Int → (Bool → Prop) → (Prop) → Prop
  | 0, _, _, _, _, _ => False
  | k + 1, a2, b2, i1, K0, K1 => Br (decide (i1 < (a2.length : Int)))
      (Br ((decide ((0 : Int) ≤ i1)) && (decide (i1 < (((List.length a2) : Nat) : Int))))
        (Br ((decide ((0 : Int) ≤ i1)) && (decide (i1 < (((List.length b2) : Nat) : Int))))
          (Br (!(decide ((List.getD a2 (Int.toNat i1) 0) = (List.getD b2 (Int.toNat i1) 0))))
            (K0 false)
            (R01_Same_l4 k a2 b2 (iadd .i64 i1 1) K0 K1))
          (False))
        (False))
      (K1)

/- splicer/splicerref01.Same (10) -/
def R01_Same_u (a1 : (List Int)) (b1 : (List Int)) (K0 : (Bool → Prop)) : Prop :=
  Br (!(decide ((a1.length : Int) = (b1.length : Int))))
    (K0 false)
    (∃ q, R01_Same_l4 q a1 b1 0 K0
      (K0 true))

noncomputable def R01_Same : (List Int) → (List Int) → (Bool → Prop) → Prop := Classical.choose (⟨R01_Same_u, rfl⟩ : ∃ q, q = R01_Same_u)

theorem R01_Same_def (a1 : (List Int)) (b1 : (List Int)) (K0 : (Bool → Prop)) : R01_Same a1 b1 K0 =
  (Br (!(decide ((a1.length : Int) = (b1.length : Int))))
    (K0 false)
    (∃ q, R01_Same_l4 q a1 b1 0 K0
      (K0 true))) := by
  have e : R01_Same = R01_Same_u := Classical.choose_spec (⟨R01_Same_u, rfl⟩ : ∃ q, q = R01_Same_u)
  show R01_Same a1 b1 K0 = R01_Same_u a1 b1 K0
  rw [e]

/- join of splicer/splicerlaw12.awake, region 6 -/
def L12_awake_j6 (m10 : (List Int)) (m11 : (List Int)) (m12 : (List Int)) (m13 : (List Int)) (K0 : (Bool → Prop)) : Prop :=
  Br (decide ((m10.length : Int) = (64 : Int)))
    (R01_Same m10 (List.replicate 64 0)
      (fun (r8 : Bool) =>
      Br r8
        (Br (eqv ((.arr 8 (.int .i64))) m11 (List.replicate 8 0))
          (Br (decide ((m12.length : Int) = (64 : Int)))
            (Br (decide ((10 : Int) < (((List.length m12) : Nat) : Int)))
              (Br (decide (10 < (List.length m12)))
                (Br (decide ((900 : Int) < (List.getD m12 10 0)))
                  (Br (decide ((10 : Int) < (((List.length m12) : Nat) : Int)))
                    (Br (decide (10 < (List.length m12)))
                      (Br (decide ((List.getD m12 10 0) < (1000 : Int)))
                        (K0 (!(eqv ((.arr 8 (.int .i64))) m13 (List.replicate 8 0))))
                        (K0 false))
                      (False))
                    (False))
                  (K0 false))
                (False))
              (False))
            (K0 false))
          (K0 false))
        (K0 false)))
    (K0 false)

/- join of splicer/splicerlaw12.awake, region 4 -/
def L12_awake_j4 (t1 : (List Int)) (m4 : (List Int)) (m5 : (List Int)) (m6 : (List Int)) (K0 : (Bool → Prop)) : Prop :=
  Br (decide ((0 : Int) < (((List.length m4) : Nat) : Int)))
    (Br (decide (0 < (List.length m4)))
      (lap_Frame t1 (List.replicate 8 0) (List.set m4 0 32000) false
        (fun (r5 : (List Int)) =>
        L12_awake_j6 m5 m6 [] r5 K0)
        (fun (r6 : (List Int)) (r7 : (List Int)) =>
        L12_awake_j6 m5 m6 r7 r6 K0))
      (False))
    (False)

/- splicer/splicerlaw12.awake (12) -/
def L12_awake_u  (K0 : (Bool → Prop)) : Prop :=
  trig_Make
    (fun (r1 : (List Int)) =>
    let m1 : (List Int) := (List.replicate 64 0)
    lap_Frame r1 (List.replicate 8 0) m1 true
      (fun (r2 : (List Int)) =>
      L12_awake_j4 r1 m1 [] r2 K0)
      (fun (r3 : (List Int)) (r4 : (List Int)) =>
      L12_awake_j4 r1 m1 r4 r3 K0))

noncomputable def L12_awake : (Bool → Prop) → Prop := Classical.choose (⟨L12_awake_u, rfl⟩ : ∃ q, q = L12_awake_u)

theorem L12_awake_def  (K0 : (Bool → Prop)) : L12_awake K0 =
  (trig_Make
    (fun (r1 : (List Int)) =>
    let m1 : (List Int) := (List.replicate 64 0)
    lap_Frame r1 (List.replicate 8 0) m1 true
      (fun (r2 : (List Int)) =>
      L12_awake_j4 r1 m1 [] r2 K0)
      (fun (r3 : (List Int)) (r4 : (List Int)) =>
      L12_awake_j4 r1 m1 r4 r3 K0))) := by
  have e : L12_awake = L12_awake_u := Classical.choose_spec (⟨L12_awake_u, rfl⟩ : ∃ q, q = L12_awake_u)
  show L12_awake K0 = L12_awake_u K0
  rw [e]

/- loop of splicer/splicerref01.Within, region 2 -/
def R01_Within_l2 : Nat → (List Int) → Int → Int → Int → (Bool → Prop) → (Prop) → Prop
  | 0, _, _, _, _, _, _ => False
  | k + 1, l2, low2, high2, i1, K0, K1 => Br (decide (i1 < (l2.length : Int)))
      (Br ((decide ((0 : Int) ≤ i1)) && (decide (i1 < (((List.length l2) : Nat) : Int))))
        (Br (decide ((List.getD l2 (Int.toNat i1) 0) < low2))
          (K0 false)
          (Br ((decide ((0 : Int) ≤ i1)) && (decide (i1 < (((List.length l2) : Nat) : Int))))
            (Br (decide (high2 < (List.getD l2 (Int.toNat i1) 0)))
              (K0 false)
              (R01_Within_l2 k l2 low2 high2 (iadd .i64 i1 1) K0 K1))
            (False)))
        (False))
      (K1)

/- splicer/splicerref01.Within (26) -/
def R01_Within_u (l1 : (List Int)) (low1 : Int) (high1 : Int) (K0 : (Bool → Prop)) : Prop :=
  ∃ q, R01_Within_l2 q l1 low1 high1 0 K0
    (K0 true)

noncomputable def R01_Within : (List Int) → Int → Int → (Bool → Prop) → Prop := Classical.choose (⟨R01_Within_u, rfl⟩ : ∃ q, q = R01_Within_u)

theorem R01_Within_def (l1 : (List Int)) (low1 : Int) (high1 : Int) (K0 : (Bool → Prop)) : R01_Within l1 low1 high1 K0 =
  (∃ q, R01_Within_l2 q l1 low1 high1 0 K0
    (K0 true)) := by
  have e : R01_Within = R01_Within_u := Classical.choose_spec (⟨R01_Within_u, rfl⟩ : ∃ q, q = R01_Within_u)
  show R01_Within l1 low1 high1 K0 = R01_Within_u l1 low1 high1 K0
  rw [e]

/- splicer/splicerref10.Right (8) -/
def R10_Right_u (u1 : (List Int)) (wide1 : Int) (K0 : (Bool → Prop)) : Prop :=
  Br (decide ((u1.length : Int) = (8 : Int)))
    (R01_Within u1 (isub .i64 0 wide1) wide1 K0)
    (Br (decide ((u1.length : Int) = (64 : Int)))
      (R01_Within u1 (isub .i64 0 wide1) wide1 K0)
      (K0 false))

noncomputable def R10_Right : (List Int) → Int → (Bool → Prop) → Prop := Classical.choose (⟨R10_Right_u, rfl⟩ : ∃ q, q = R10_Right_u)

theorem R10_Right_def (u1 : (List Int)) (wide1 : Int) (K0 : (Bool → Prop)) : R10_Right u1 wide1 K0 =
  (Br (decide ((u1.length : Int) = (8 : Int)))
    (R01_Within u1 (isub .i64 0 wide1) wide1 K0)
    (Br (decide ((u1.length : Int) = (64 : Int)))
      (R01_Within u1 (isub .i64 0 wide1) wide1 K0)
      (K0 false))) := by
  have e : R10_Right = R10_Right_u := Classical.choose_spec (⟨R10_Right_u, rfl⟩ : ∃ q, q = R10_Right_u)
  show R10_Right u1 wide1 K0 = R10_Right_u u1 wide1 K0
  rw [e]

/- splicer/splicerref07.quarter (50) -/
def R07_quarter_u  (K0 : ((List Int) → Prop)) : Prop :=
  K0 [16777216, 16775953, 16772163, 16765847, 16757007, 16745643, 16731757, 16715352, 16696429, 16674992, 16651044, 16624588, 16595628, 16564169, 16530216, 16493773, 16454846, 16413442, 16369565, 16323224, 16274424, 16223173, 16169479, 16113350, 16054795, 15993821, 15930439, 15864658, 15796488, 15725939, 15653022, 15577747, 15500126, 15420172, 15337895, 15253308, 15166424, 15077256, 14985817, 14892122, 14796184, 14698017, 14597637, 14495059, 14390298, 14283370, 14174291, 14063077, 13949745, 13834313, 13716797, 13597215, 13475586, 13351928, 13226258, 13098597, 12968963, 12837376, 12703856, 12568423, 12431097, 12291899, 12150850, 12007971, 11863283, 11716809, 11568571, 11418590, 11266890, 11113493, 10958422, 10801701, 10643353, 10483403, 10321873, 10158790, 9994176, 9828057, 9660458, 9491405, 9320922, 9149035, 8975771, 8801154, 8625213, 8447972, 8269459, 8089701, 7908725, 7726557, 7543226, 7358759, 7173184, 6986529, 6798821, 6610090, 6420363, 6229669, 6038037, 5845495, 5652074, 5457801, 5262706, 5066819, 4870169, 4672785, 4474698, 4275936, 4076531, 3876512, 3675909, 3474752, 3273072, 3070900, 2868265, 2665197, 2461729, 2257890, 2053710, 1849222, 1644455, 1439440, 1234209, 1028791, 823219, 617523, 411733, 205882, 0]

noncomputable def R07_quarter : ((List Int) → Prop) → Prop := Classical.choose (⟨R07_quarter_u, rfl⟩ : ∃ q, q = R07_quarter_u)

theorem R07_quarter_def  (K0 : ((List Int) → Prop)) : R07_quarter K0 =
  (K0 [16777216, 16775953, 16772163, 16765847, 16757007, 16745643, 16731757, 16715352, 16696429, 16674992, 16651044, 16624588, 16595628, 16564169, 16530216, 16493773, 16454846, 16413442, 16369565, 16323224, 16274424, 16223173, 16169479, 16113350, 16054795, 15993821, 15930439, 15864658, 15796488, 15725939, 15653022, 15577747, 15500126, 15420172, 15337895, 15253308, 15166424, 15077256, 14985817, 14892122, 14796184, 14698017, 14597637, 14495059, 14390298, 14283370, 14174291, 14063077, 13949745, 13834313, 13716797, 13597215, 13475586, 13351928, 13226258, 13098597, 12968963, 12837376, 12703856, 12568423, 12431097, 12291899, 12150850, 12007971, 11863283, 11716809, 11568571, 11418590, 11266890, 11113493, 10958422, 10801701, 10643353, 10483403, 10321873, 10158790, 9994176, 9828057, 9660458, 9491405, 9320922, 9149035, 8975771, 8801154, 8625213, 8447972, 8269459, 8089701, 7908725, 7726557, 7543226, 7358759, 7173184, 6986529, 6798821, 6610090, 6420363, 6229669, 6038037, 5845495, 5652074, 5457801, 5262706, 5066819, 4870169, 4672785, 4474698, 4275936, 4076531, 3876512, 3675909, 3474752, 3273072, 3070900, 2868265, 2665197, 2461729, 2257890, 2053710, 1849222, 1644455, 1439440, 1234209, 1028791, 823219, 617523, 411733, 205882, 0]) := by
  have e : R07_quarter = R07_quarter_u := Classical.choose_spec (⟨R07_quarter_u, rfl⟩ : ∃ q, q = R07_quarter_u)
  show R07_quarter K0 = R07_quarter_u K0
  rw [e]

/- loop of splicer/splicerref07.Make, region 4 -/
def R07_Make_l4 : Nat → Int → (List Int) → (List Int) → ((List Int) → Prop) → Prop
  | 0, _, _, _, _ => False
  | k + 1, k1, m1, m2, K0 => Br (decide (k1 < (512 : Int)))
      (let v3 : Int := (imin k1 (isub .i64 512 k1))
      Br (decide ((128 : Int) < v3))
        (let v5 : Int := (isub .i64 256 v3)
        Br ((decide ((0 : Int) ≤ v5)) && (decide (v5 < (((List.length m1) : Nat) : Int))))
          (Br (decide ((Int.toNat v5) < (List.length m1)))
            (let m3 : (List Int) := [(isub .i64 0 (List.getD m1 (Int.toNat v5) 0))]
            Br (decide ((((List.length m2) + (List.length m3)) * 8) ≤ 140737488355328))
              (R07_Make_l4 k (iadd .i64 k1 1) m1 (m2 ++ m3) K0)
              (False))
            (False))
          (False))
        (Br ((decide ((0 : Int) ≤ v3)) && (decide (v3 < (((List.length m1) : Nat) : Int))))
          (Br (decide ((Int.toNat v3) < (List.length m1)))
            (let m5 : (List Int) := [(List.getD m1 (Int.toNat v3) 0)]
            Br (decide ((((List.length m2) + (List.length m5)) * 8) ≤ 140737488355328))
              (R07_Make_l4 k (iadd .i64 k1 1) m1 (m2 ++ m5) K0)
              (False))
            (False))
          (False)))
      (K0 m2)

/- splicer/splicerref07.Make (27) -/
def R07_Make_u  (K0 : ((List Int) → Prop)) : Prop :=
  R07_quarter
    (fun (r1 : (List Int)) =>
    ∃ q, R07_Make_l4 q 0 r1 [] K0)

noncomputable def R07_Make : ((List Int) → Prop) → Prop := Classical.choose (⟨R07_Make_u, rfl⟩ : ∃ q, q = R07_Make_u)

theorem R07_Make_def  (K0 : ((List Int) → Prop)) : R07_Make K0 =
  (R07_quarter
    (fun (r1 : (List Int)) =>
    ∃ q, R07_Make_l4 q 0 r1 [] K0)) := by
  have e : R07_Make = R07_Make_u := Classical.choose_spec (⟨R07_Make_u, rfl⟩ : ∃ q, q = R07_Make_u)
  show R07_Make K0 = R07_Make_u K0
  rw [e]

/- loop of splicer/splicerref10.sum, region 4 -/
def R10_sum_l4 : Nat → (List Int) → (List Int) → Int → Int → Int → Int → (Int → Prop) → Prop
  | 0, _, _, _, _, _, _, _ => False
  | k + 1, c2, l2, k2, n1, a1, i1, K0 => Br (decide (i1 < (l2.length : Int)))
      (Br ((decide ((0 : Int) ≤ i1)) && (decide (i1 < (((List.length l2) : Nat) : Int))))
        (let v12 : Int := (irem .i64 (imul .i64 (imul .i64 a1 (iadd .i64 (imul .i64 2 i1) 1)) (iadd .i64 (imul .i64 2 k2) 1)) 512)
        Br ((decide ((0 : Int) ≤ v12)) && (decide (v12 < (((List.length c2) : Nat) : Int))))
          (R10_sum_l4 k c2 l2 k2 (iadd .i64 n1 (imul .i64 (List.getD l2 (Int.toNat i1) 0) (List.getD c2 (Int.toNat v12) 0))) a1 (iadd .i64 i1 1) K0)
          (False))
        (False))
      (K0 n1)

/- splicer/splicerref10.sum (29) -/
def R10_sum_u (c1 : (List Int)) (l1 : (List Int)) (k1 : Int) (K0 : (Int → Prop)) : Prop :=
  Br (decide ((l1.length : Int) = (0 : Int)))
    (False)
    (∃ q, R10_sum_l4 q c1 l1 k1 0 (iquo .i64 64 (l1.length : Int)) 0 K0)

noncomputable def R10_sum : (List Int) → (List Int) → Int → (Int → Prop) → Prop := Classical.choose (⟨R10_sum_u, rfl⟩ : ∃ q, q = R10_sum_u)

theorem R10_sum_def (c1 : (List Int)) (l1 : (List Int)) (k1 : Int) (K0 : (Int → Prop)) : R10_sum c1 l1 k1 K0 =
  (Br (decide ((l1.length : Int) = (0 : Int)))
    (False)
    (∃ q, R10_sum_l4 q c1 l1 k1 0 (iquo .i64 64 (l1.length : Int)) 0 K0)) := by
  have e : R10_sum = R10_sum_u := Classical.choose_spec (⟨R10_sum_u, rfl⟩ : ∃ q, q = R10_sum_u)
  show R10_sum c1 l1 k1 K0 = R10_sum_u c1 l1 k1 K0
  rw [e]

/- loop of splicer/splicerref10.Sums, region 4 -/
def R10_Sums_l4 : Nat → (List Int) → Int → (List Int) → (List Int) → ((List Int) → Prop) → Prop
  | 0, _, _, _, _, _ => False
  | k + 1, x2, i1, m1, m2, K0 => Br (decide (i1 < (x2.length : Int)))
      (R10_sum m1 x2 i1
        (fun (r2 : Int) =>
        let m3 : (List Int) := [r2]
        Br (decide ((((List.length m2) + (List.length m3)) * 8) ≤ 140737488355328))
          (R10_Sums_l4 k x2 (iadd .i64 i1 1) m1 (m2 ++ m3) K0)
          (False)))
      (K0 m2)

/- splicer/splicerref10.Sums (44) -/
def R10_Sums_u (x1 : (List Int)) (K0 : ((List Int) → Prop)) : Prop :=
  R07_Make
    (fun (r1 : (List Int)) =>
    ∃ q, R10_Sums_l4 q x1 0 r1 [] K0)

noncomputable def R10_Sums : (List Int) → ((List Int) → Prop) → Prop := Classical.choose (⟨R10_Sums_u, rfl⟩ : ∃ q, q = R10_Sums_u)

theorem R10_Sums_def (x1 : (List Int)) (K0 : ((List Int) → Prop)) : R10_Sums x1 K0 =
  (R07_Make
    (fun (r1 : (List Int)) =>
    ∃ q, R10_Sums_l4 q x1 0 r1 [] K0)) := by
  have e : R10_Sums = R10_Sums_u := Classical.choose_spec (⟨R10_Sums_u, rfl⟩ : ∃ q, q = R10_Sums_u)
  show R10_Sums x1 K0 = R10_Sums_u x1 K0
  rw [e]

/- splicer/splicerref01.Mod (51) -/
def R01_Mod_u (a1 : Int) (b1 : Int) (K0 : (Int → Int → Prop)) : Prop :=
  Br (decide (b1 < (1 : Int)))
    (K0 0 0)
    (Br (decide (b1 = (0 : Int)))
      (False)
      (let v2 : Int := (iquo .i64 a1 b1)
      Br (decide (b1 = (0 : Int)))
        (False)
        (let v3 : Int := (irem .i64 a1 b1)
        Br (decide (v3 < (0 : Int)))
          (K0 (isub .i64 v2 1) (iadd .i64 v3 b1))
          (K0 v2 v3))))

noncomputable def R01_Mod : Int → Int → (Int → Int → Prop) → Prop := Classical.choose (⟨R01_Mod_u, rfl⟩ : ∃ q, q = R01_Mod_u)

theorem R01_Mod_def (a1 : Int) (b1 : Int) (K0 : (Int → Int → Prop)) : R01_Mod a1 b1 K0 =
  (Br (decide (b1 < (1 : Int)))
    (K0 0 0)
    (Br (decide (b1 = (0 : Int)))
      (False)
      (let v2 : Int := (iquo .i64 a1 b1)
      Br (decide (b1 = (0 : Int)))
        (False)
        (let v3 : Int := (irem .i64 a1 b1)
        Br (decide (v3 < (0 : Int)))
          (K0 (isub .i64 v2 1) (iadd .i64 v3 b1))
          (K0 v2 v3))))) := by
  have e : R01_Mod = R01_Mod_u := Classical.choose_spec (⟨R01_Mod_u, rfl⟩ : ∃ q, q = R01_Mod_u)
  show R01_Mod a1 b1 K0 = R01_Mod_u a1 b1 K0
  rw [e]

/- splicer/splicerref01.Shr (28) -/
def R01_Shr_u (x1 : Int) (n1 : Int) (K0 : (Int → Prop)) : Prop :=
  Br (decide (x1 < (-2305843009213693952 : Int)))
    (K0 0)
    (Br (decide ((2305843009213693952 : Int) < x1))
      (K0 0)
      (Br (decide (n1 < (0 : Int)))
        (K0 0)
        (Br (decide ((60 : Int) < n1))
          (K0 0)
          (Br (decide (n1 < (0 : Int)))
            (False)
            (R01_Mod x1 (ishl .i64 1 n1)
              (fun (r1 : Int) (r2 : Int) =>
              Br (decide (n1 < (0 : Int)))
                (False)
                (Br (decide ((ishl .i64 1 n1) ≤ (imul .i64 2 r2)))
                  (K0 (iadd .i64 r1 1))
                  (K0 r1))))))))

noncomputable def R01_Shr : Int → Int → (Int → Prop) → Prop := Classical.choose (⟨R01_Shr_u, rfl⟩ : ∃ q, q = R01_Shr_u)

theorem R01_Shr_def (x1 : Int) (n1 : Int) (K0 : (Int → Prop)) : R01_Shr x1 n1 K0 =
  (Br (decide (x1 < (-2305843009213693952 : Int)))
    (K0 0)
    (Br (decide ((2305843009213693952 : Int) < x1))
      (K0 0)
      (Br (decide (n1 < (0 : Int)))
        (K0 0)
        (Br (decide ((60 : Int) < n1))
          (K0 0)
          (Br (decide (n1 < (0 : Int)))
            (False)
            (R01_Mod x1 (ishl .i64 1 n1)
              (fun (r1 : Int) (r2 : Int) =>
              Br (decide (n1 < (0 : Int)))
                (False)
                (Br (decide ((ishl .i64 1 n1) ≤ (imul .i64 2 r2)))
                  (K0 (iadd .i64 r1 1))
                  (K0 r1))))))))) := by
  have e : R01_Shr = R01_Shr_u := Classical.choose_spec (⟨R01_Shr_u, rfl⟩ : ∃ q, q = R01_Shr_u)
  show R01_Shr x1 n1 K0 = R01_Shr_u x1 n1 K0
  rw [e]

/- loop of splicer/splicerref10.Back, region 9 -/
def R10_Back_l9 : Nat → Int → Int → (List Int) → (List Int) → ((List Int) → Prop) → Prop
  | 0, _, _, _, _, _ => False
  | k + 1, by_2, i1, m1, m2, K0 => Br (decide (i1 < (m1.length : Int)))
      (Br ((decide ((0 : Int) ≤ i1)) && (decide (i1 < (((List.length m1) : Nat) : Int))))
        (Br (decide ((Int.toNat i1) < (List.length m1)))
          (R01_Shr (List.getD m1 (Int.toNat i1) 0) by_2
            (fun (r3 : Int) =>
            let m3 : (List Int) := [r3]
            Br (decide ((((List.length m2) + (List.length m3)) * 8) ≤ 140737488355328))
              (R10_Back_l9 k by_2 (iadd .i64 i1 1) m1 (m2 ++ m3) K0)
              (False)))
          (False))
        (False))
      (K0 m2)

/- join of splicer/splicerref10.Back, region 6 -/
def R10_Back_j6 (x2 : (List Int)) (by_1 : Int) (K0 : ((List Int) → Prop)) : Prop :=
  R10_Sums x2
    (fun (r2 : (List Int)) =>
    ∃ q, R10_Back_l9 q by_1 0 r2 [] K0)

/- splicer/splicerref10.Back (21) -/
def R10_Back_u (x1 : (List Int)) (K0 : (Prop)) (K1 : ((List Int) → Prop)) : Prop :=
  R10_Right x1 33554432
    (fun (r1 : Bool) =>
    Br (!r1)
      (K0)
      (Br (decide ((x1.length : Int) = (8 : Int)))
        (R10_Back_j6 x1 26 K1)
        (R10_Back_j6 x1 29 K1)))

noncomputable def R10_Back : (List Int) → (Prop) → ((List Int) → Prop) → Prop := Classical.choose (⟨R10_Back_u, rfl⟩ : ∃ q, q = R10_Back_u)

theorem R10_Back_def (x1 : (List Int)) (K0 : (Prop)) (K1 : ((List Int) → Prop)) : R10_Back x1 K0 K1 =
  (R10_Right x1 33554432
    (fun (r1 : Bool) =>
    Br (!r1)
      (K0)
      (Br (decide ((x1.length : Int) = (8 : Int)))
        (R10_Back_j6 x1 26 K1)
        (R10_Back_j6 x1 29 K1)))) := by
  have e : R10_Back = R10_Back_u := Classical.choose_spec (⟨R10_Back_u, rfl⟩ : ∃ q, q = R10_Back_u)
  show R10_Back x1 K0 K1 = R10_Back_u x1 K0 K1
  rw [e]

/- loop of splicer/splicerref12.Pick, region 5 -/
def R12_Pick_l5 : Nat → (List Int) → Int → Int → (List Int) → ((List Int) → Prop) → Prop
  | 0, _, _, _, _, _ => False
  | k + 1, x2, b2, k1, m1, K0 => Br (decide (k1 < (8 : Int)))
      (let v7 : Int := (iadd .i64 (imul .i64 8 k1) b2)
      Br ((decide ((0 : Int) ≤ v7)) && (decide (v7 < (((List.length x2) : Nat) : Int))))
        (let m2 : (List Int) := [(List.getD x2 (Int.toNat v7) 0)]
        Br (decide ((((List.length m1) + (List.length m2)) * 8) ≤ 140737488355328))
          (R12_Pick_l5 k x2 b2 (iadd .i64 k1 1) (m1 ++ m2) K0)
          (False))
        (False))
      (K0 m1)

/- splicer/splicerref12.Pick (18) -/
def R12_Pick_u (x1 : (List Int)) (b1 : Int) (K0 : (Prop)) (K1 : ((List Int) → Prop)) : Prop :=
  Br (!(decide ((x1.length : Int) = (64 : Int))))
    (K0)
    (Br (decide (b1 < (0 : Int)))
      (K0)
      (Br (decide ((7 : Int) < b1))
        (K0)
        (∃ q, R12_Pick_l5 q x1 b1 0 [] K1)))

noncomputable def R12_Pick : (List Int) → Int → (Prop) → ((List Int) → Prop) → Prop := Classical.choose (⟨R12_Pick_u, rfl⟩ : ∃ q, q = R12_Pick_u)

theorem R12_Pick_def (x1 : (List Int)) (b1 : Int) (K0 : (Prop)) (K1 : ((List Int) → Prop)) : R12_Pick x1 b1 K0 K1 =
  (Br (!(decide ((x1.length : Int) = (64 : Int))))
    (K0)
    (Br (decide (b1 < (0 : Int)))
      (K0)
      (Br (decide ((7 : Int) < b1))
        (K0)
        (∃ q, R12_Pick_l5 q x1 b1 0 [] K1)))) := by
  have e : R12_Pick = R12_Pick_u := Classical.choose_spec (⟨R12_Pick_u, rfl⟩ : ∃ q, q = R12_Pick_u)
  show R12_Pick x1 b1 K0 K1 = R12_Pick_u x1 b1 K0 K1
  rw [e]

/- loop of splicer/splicerref12.Blocks, region 5 -/
def R12_Blocks_l5 : Nat → (List Int) → Int → (List (List Int)) → ((List (List Int)) → Prop) → Prop
  | 0, _, _, _, _ => False
  | k + 1, x2, b1, m3, K0 => Br (decide (b1 < (8 : Int)))
      (R12_Pick x2 b1
        (R10_Back []
          (let m4 : (List (List Int)) := [[]]
          Br (decide ((((List.length m3) + (List.length m4)) * 24) ≤ 140737488355328))
            (R12_Blocks_l5 k x2 (iadd .i64 b1 1) (m3 ++ m4) K0)
            (False))
          (fun (r2 : (List Int)) =>
          let m6 : (List (List Int)) := [r2]
          Br (decide ((((List.length m3) + (List.length m6)) * 24) ≤ 140737488355328))
            (R12_Blocks_l5 k x2 (iadd .i64 b1 1) (m3 ++ m6) K0)
            (False)))
        (fun (r3 : (List Int)) =>
        R10_Back r3
          (let m8 : (List (List Int)) := [[]]
          Br (decide ((((List.length m3) + (List.length m8)) * 24) ≤ 140737488355328))
            (R12_Blocks_l5 k x2 (iadd .i64 b1 1) (m3 ++ m8) K0)
            (False))
          (fun (r4 : (List Int)) =>
          let m10 : (List (List Int)) := [r4]
          Br (decide ((((List.length m3) + (List.length m10)) * 24) ≤ 140737488355328))
            (R12_Blocks_l5 k x2 (iadd .i64 b1 1) (m3 ++ m10) K0)
            (False))))
      (K0 m3)

/- splicer/splicerref12.Blocks (38) -/
def R12_Blocks_u (x1 : (List Int)) (short1 : Bool) (K0 : ((List (List Int)) → Prop)) : Prop :=
  Br (!short1)
    (R10_Back x1
      (K0 [[]])
      (fun (r1 : (List Int)) =>
      K0 [r1]))
    (∃ q, R12_Blocks_l5 q x1 0 [] K0)

noncomputable def R12_Blocks : (List Int) → Bool → ((List (List Int)) → Prop) → Prop := Classical.choose (⟨R12_Blocks_u, rfl⟩ : ∃ q, q = R12_Blocks_u)

theorem R12_Blocks_def (x1 : (List Int)) (short1 : Bool) (K0 : ((List (List Int)) → Prop)) : R12_Blocks x1 short1 K0 =
  (Br (!short1)
    (R10_Back x1
      (K0 [[]])
      (fun (r1 : (List Int)) =>
      K0 [r1]))
    (∃ q, R12_Blocks_l5 q x1 0 [] K0)) := by
  have e : R12_Blocks = R12_Blocks_u := Classical.choose_spec (⟨R12_Blocks_u, rfl⟩ : ∃ q, q = R12_Blocks_u)
  show R12_Blocks x1 short1 K0 = R12_Blocks_u x1 short1 K0
  rw [e]

/- splicer/splicerref11.Block (59) -/
def R11_Block_u (u1 : (List Int)) (K0 : (Bool → Prop)) : Prop :=
  Br (decide ((u1.length : Int) = (8 : Int)))
    (R01_Within u1 (-1073741824) 1073741824 K0)
    (Br (decide ((u1.length : Int) = (64 : Int)))
      (R01_Within u1 (-1073741824) 1073741824 K0)
      (K0 false))

noncomputable def R11_Block : (List Int) → (Bool → Prop) → Prop := Classical.choose (⟨R11_Block_u, rfl⟩ : ∃ q, q = R11_Block_u)

theorem R11_Block_def (u1 : (List Int)) (K0 : (Bool → Prop)) : R11_Block u1 K0 =
  (Br (decide ((u1.length : Int) = (8 : Int)))
    (R01_Within u1 (-1073741824) 1073741824 K0)
    (Br (decide ((u1.length : Int) = (64 : Int)))
      (R01_Within u1 (-1073741824) 1073741824 K0)
      (K0 false))) := by
  have e : R11_Block = R11_Block_u := Classical.choose_spec (⟨R11_Block_u, rfl⟩ : ∃ q, q = R11_Block_u)
  show R11_Block u1 K0 = R11_Block_u u1 K0
  rw [e]

/- splicer/splicerref11.W (60) -/
def R11_W_u  (K0 : ((List Int) → Prop)) : Prop :=
  K0 [494, 4325, 11207, 19363, 26435, 30792, 32481, 32764]

noncomputable def R11_W : ((List Int) → Prop) → Prop := Classical.choose (⟨R11_W_u, rfl⟩ : ∃ q, q = R11_W_u)

theorem R11_W_def  (K0 : ((List Int) → Prop)) : R11_W K0 =
  (K0 [494, 4325, 11207, 19363, 26435, 30792, 32481, 32764]) := by
  have e : R11_W = R11_W_u := Classical.choose_spec (⟨R11_W_u, rfl⟩ : ∃ q, q = R11_W_u)
  show R11_W K0 = R11_W_u K0
  rw [e]

/- join of splicer/splicerref11.Left, region 11 -/
def R11_Left_j11 (u3 : (List Int)) (j2 : Int) (i1 : Int) (m6 : (List Int)) (m7 : (List Int)) (m8 : (List Int)) (K0 : ((List Int) → Int → (List Int) → (List Int) → (List Int) → Prop)) : Prop :=
  Br ((decide ((0 : Int) ≤ j2)) && (decide (j2 < (((List.length m8) : Nat) : Int))))
    (Br (decide ((Int.toNat j2) < (List.length m8)))
      (Br ((decide ((0 : Int) ≤ i1)) && (decide (i1 < (((List.length u3) : Nat) : Int))))
        (Br ((decide ((0 : Int) ≤ j2)) && (decide (j2 < (8 : Int))))
          (Br (decide ((Int.toNat j2) < (List.length m7)))
            (K0 u3 j2 m6 (List.set m7 (Int.toNat j2) (imul .i64 (List.getD m8 (Int.toNat j2) 0) (List.getD u3 (Int.toNat i1) 0))) m8)
            (False))
          (False))
        (False))
      (False))
    (False)

/- loop of splicer/splicerref11.Left, region 6 -/
def R11_Left_l6 : Nat → (List Int) → Int → (List Int) → (List Int) → (List Int) → ((List Int) → (List Int) → Prop) → Prop
  | 0, _, _, _, _, _, _ => False
  | k + 1, u2, j1, m3, m4, m5, K0 => Br (decide (j1 < (8 : Int)))
      (Br (decide (j1 < (4 : Int)))
        (R11_Left_j11 u2 j1 (isub .i64 3 j1) m3 m4 m5
          (fun (u4 : (List Int)) (j3 : Int) (m10 : (List Int)) (m11 : (List Int)) (m12 : (List Int)) =>
          R11_Left_l6 k u4 (iadd .i64 j3 1) m10 m11 m12 K0))
        (R11_Left_j11 u2 j1 (isub .i64 j1 4) m3 m4 m5
          (fun (u5 : (List Int)) (j4 : Int) (m13 : (List Int)) (m14 : (List Int)) (m15 : (List Int)) =>
          R11_Left_l6 k u5 (iadd .i64 j4 1) m13 m14 m15 K0)))
      (K0 m3 m4)

/- splicer/splicerref11.Left (40) -/
def R11_Left_u (u1 : (List Int)) (K0 : ((List Int) → Prop)) : Prop :=
  let v1 : (List Int) := (List.replicate 8 0)
  R11_Block u1
    (fun (r1 : Bool) =>
    Br (!r1)
      (K0 v1)
      (R11_W
        (fun (r2 : (List Int)) =>
        ∃ q, R11_Left_l6 q u1 0 (List.replicate 8 0) v1 r2
          (fun (m16 : (List Int)) (m17 : (List Int)) =>
          K0 m17))))

noncomputable def R11_Left : (List Int) → ((List Int) → Prop) → Prop := Classical.choose (⟨R11_Left_u, rfl⟩ : ∃ q, q = R11_Left_u)

theorem R11_Left_def (u1 : (List Int)) (K0 : ((List Int) → Prop)) : R11_Left u1 K0 =
  (let v1 : (List Int) := (List.replicate 8 0)
  R11_Block u1
    (fun (r1 : Bool) =>
    Br (!r1)
      (K0 v1)
      (R11_W
        (fun (r2 : (List Int)) =>
        ∃ q, R11_Left_l6 q u1 0 (List.replicate 8 0) v1 r2
          (fun (m16 : (List Int)) (m17 : (List Int)) =>
          K0 m17))))) := by
  have e : R11_Left = R11_Left_u := Classical.choose_spec (⟨R11_Left_u, rfl⟩ : ∃ q, q = R11_Left_u)
  show R11_Left u1 K0 = R11_Left_u u1 K0
  rw [e]

/- join of splicer/splicerref11.Meet, region 6 -/
def R11_Meet_j6 (j2 : Int) (v11 : Bool) (m7 : (List Int)) (m8 : (List Int)) (m9 : (List Int)) (m10 : (List Int)) (K0 : (Int → (List Int) → (List Int) → (List Int) → (List Int) → Prop)) : Prop :=
  Br v11
    (Br ((decide ((0 : Int) ≤ j2)) && (decide (j2 < (8 : Int))))
      (Br (decide ((Int.toNat j2) < (List.length m7)))
        (Br ((decide ((0 : Int) ≤ j2)) && (decide (j2 < (8 : Int))))
          (Br (decide ((Int.toNat j2) < (List.length m8)))
            (R01_Shr (iadd .i64 (List.getD m7 (Int.toNat j2) 0) (List.getD m8 (Int.toNat j2) 0)) 15
              (fun (r1 : Int) =>
              Br ((decide ((0 : Int) ≤ j2)) && (decide (j2 < (8 : Int))))
                (Br (decide ((Int.toNat j2) < (List.length m10)))
                  (K0 j2 m7 m8 m9 (List.set m10 (Int.toNat j2) r1))
                  (False))
                (False)))
            (False))
          (False))
        (False))
      (False))
    (K0 j2 m7 m8 m9 m10)

/- loop of splicer/splicerref11.Meet, region 3 -/
def R11_Meet_l3 : Nat → Int → (List Int) → (List Int) → (List Int) → (List Int) → ((List Int) → (List Int) → Prop) → Prop
  | 0, _, _, _, _, _, _ => False
  | k + 1, j1, m3, m4, m5, m6, K0 => Br (decide (j1 < (8 : Int)))
      (Br ((decide ((0 : Int) ≤ j1)) && (decide (j1 < (8 : Int))))
        (Br (decide ((Int.toNat j1) < (List.length m3)))
          (Br (decide ((-70368744177664 : Int) ≤ (List.getD m3 (Int.toNat j1) 0)))
            (Br ((decide ((0 : Int) ≤ j1)) && (decide (j1 < (8 : Int))))
              (Br (decide ((Int.toNat j1) < (List.length m3)))
                (Br (decide ((List.getD m3 (Int.toNat j1) 0) ≤ (70368744177664 : Int)))
                  (Br ((decide ((0 : Int) ≤ j1)) && (decide (j1 < (8 : Int))))
                    (Br (decide ((Int.toNat j1) < (List.length m4)))
                      (Br (decide ((-70368744177664 : Int) ≤ (List.getD m4 (Int.toNat j1) 0)))
                        (Br ((decide ((0 : Int) ≤ j1)) && (decide (j1 < (8 : Int))))
                          (Br (decide ((Int.toNat j1) < (List.length m4)))
                            (R11_Meet_j6 j1 (decide ((List.getD m4 (Int.toNat j1) 0) ≤ (70368744177664 : Int))) m3 m4 m5 m6
                              (fun (j3 : Int) (m12 : (List Int)) (m13 : (List Int)) (m14 : (List Int)) (m15 : (List Int)) =>
                              R11_Meet_l3 k (iadd .i64 j3 1) m12 m13 m14 m15 K0))
                            (False))
                          (False))
                        (R11_Meet_j6 j1 false m3 m4 m5 m6
                          (fun (j4 : Int) (m16 : (List Int)) (m17 : (List Int)) (m18 : (List Int)) (m19 : (List Int)) =>
                          R11_Meet_l3 k (iadd .i64 j4 1) m16 m17 m18 m19 K0)))
                      (False))
                    (False))
                  (R11_Meet_j6 j1 false m3 m4 m5 m6
                    (fun (j5 : Int) (m20 : (List Int)) (m21 : (List Int)) (m22 : (List Int)) (m23 : (List Int)) =>
                    R11_Meet_l3 k (iadd .i64 j5 1) m20 m21 m22 m23 K0)))
                (False))
              (False))
            (R11_Meet_j6 j1 false m3 m4 m5 m6
              (fun (j6 : Int) (m24 : (List Int)) (m25 : (List Int)) (m26 : (List Int)) (m27 : (List Int)) =>
              R11_Meet_l3 k (iadd .i64 j6 1) m24 m25 m26 m27 K0)))
          (False))
        (False))
      (K0 m5 m6)

/- splicer/splicerref11.Meet (39) -/
def R11_Meet_u (a1 : (List Int)) (b1 : (List Int)) (K0 : ((List Int) → Prop)) : Prop :=
  ∃ q, R11_Meet_l3 q 0 a1 b1 (List.replicate 8 0) (List.replicate 8 0)
    (fun (m28 : (List Int)) (m29 : (List Int)) =>
    K0 m29)

noncomputable def R11_Meet : (List Int) → (List Int) → ((List Int) → Prop) → Prop := Classical.choose (⟨R11_Meet_u, rfl⟩ : ∃ q, q = R11_Meet_u)

theorem R11_Meet_def (a1 : (List Int)) (b1 : (List Int)) (K0 : ((List Int) → Prop)) : R11_Meet a1 b1 K0 =
  (∃ q, R11_Meet_l3 q 0 a1 b1 (List.replicate 8 0) (List.replicate 8 0)
    (fun (m28 : (List Int)) (m29 : (List Int)) =>
    K0 m29)) := by
  have e : R11_Meet = R11_Meet_u := Classical.choose_spec (⟨R11_Meet_u, rfl⟩ : ∃ q, q = R11_Meet_u)
  show R11_Meet a1 b1 K0 = R11_Meet_u a1 b1 K0
  rw [e]

/- splicer/splicerref01.Sat (41) -/
def R01_Sat_u (x1 : Int) (K0 : (Int → Prop)) : Prop :=
  K0 (imax (-32768) (imin 32767 x1))

noncomputable def R01_Sat : Int → (Int → Prop) → Prop := Classical.choose (⟨R01_Sat_u, rfl⟩ : ∃ q, q = R01_Sat_u)

theorem R01_Sat_def (x1 : Int) (K0 : (Int → Prop)) : R01_Sat x1 K0 =
  (K0 (imax (-32768) (imin 32767 x1))) := by
  have e : R01_Sat = R01_Sat_u := Classical.choose_spec (⟨R01_Sat_u, rfl⟩ : ∃ q, q = R01_Sat_u)
  show R01_Sat x1 K0 = R01_Sat_u x1 K0
  rw [e]

/- loop of splicer/splicerref11.Right, region 6 -/
def R11_Right_l6 : Nat → (List Int) → Int → (List Int) → (List Int) → (List Int) → ((List Int) → (List Int) → Prop) → Prop
  | 0, _, _, _, _, _, _ => False
  | k + 1, u2, j1, m3, m4, m5, K0 => Br (decide (j1 < (8 : Int)))
      (Br (decide (j1 < (4 : Int)))
        (let v5 : Int := (isub .i64 7 j1)
        Br ((decide ((0 : Int) ≤ v5)) && (decide (v5 < (((List.length m5) : Nat) : Int))))
          (Br (decide ((Int.toNat v5) < (List.length m5)))
            (let v9 : Int := (iadd .i64 (isub .i64 (u2.length : Int) 4) j1)
            Br ((decide ((0 : Int) ≤ v9)) && (decide (v9 < (((List.length u2) : Nat) : Int))))
              (Br ((decide ((0 : Int) ≤ j1)) && (decide (j1 < (8 : Int))))
                (Br (decide ((Int.toNat j1) < (List.length m4)))
                  (R11_Right_l6 k u2 (iadd .i64 j1 1) m3 (List.set m4 (Int.toNat j1) (imul .i64 (List.getD m5 (Int.toNat v5) 0) (List.getD u2 (Int.toNat v9) 0))) m5 K0)
                  (False))
                (False))
              (False))
            (False))
          (False))
        (let v12 : Int := (isub .i64 7 j1)
        Br ((decide ((0 : Int) ≤ v12)) && (decide (v12 < (((List.length m5) : Nat) : Int))))
          (Br (decide ((Int.toNat v12) < (List.length m5)))
            (let v17 : Int := (isub .i64 (iadd .i64 (u2.length : Int) 3) j1)
            Br ((decide ((0 : Int) ≤ v17)) && (decide (v17 < (((List.length u2) : Nat) : Int))))
              (Br ((decide ((0 : Int) ≤ j1)) && (decide (j1 < (8 : Int))))
                (Br (decide ((Int.toNat j1) < (List.length m4)))
                  (R11_Right_l6 k u2 (iadd .i64 j1 1) m3 (List.set m4 (Int.toNat j1) (imul .i64 (isub .i64 0 (List.getD m5 (Int.toNat v12) 0)) (List.getD u2 (Int.toNat v17) 0))) m5 K0)
                  (False))
                (False))
              (False))
            (False))
          (False)))
      (K0 m3 m4)

/- splicer/splicerref11.Right (42) -/
def R11_Right_u (u1 : (List Int)) (K0 : ((List Int) → Prop)) : Prop :=
  let v1 : (List Int) := (List.replicate 8 0)
  R11_Block u1
    (fun (r1 : Bool) =>
    Br (!r1)
      (K0 v1)
      (R11_W
        (fun (r2 : (List Int)) =>
        ∃ q, R11_Right_l6 q u1 0 (List.replicate 8 0) v1 r2
          (fun (m8 : (List Int)) (m9 : (List Int)) =>
          K0 m9))))

noncomputable def R11_Right : (List Int) → ((List Int) → Prop) → Prop := Classical.choose (⟨R11_Right_u, rfl⟩ : ∃ q, q = R11_Right_u)

theorem R11_Right_def (u1 : (List Int)) (K0 : ((List Int) → Prop)) : R11_Right u1 K0 =
  (let v1 : (List Int) := (List.replicate 8 0)
  R11_Block u1
    (fun (r1 : Bool) =>
    Br (!r1)
      (K0 v1)
      (R11_W
        (fun (r2 : (List Int)) =>
        ∃ q, R11_Right_l6 q u1 0 (List.replicate 8 0) v1 r2
          (fun (m8 : (List Int)) (m9 : (List Int)) =>
          K0 m9))))) := by
  have e : R11_Right = R11_Right_u := Classical.choose_spec (⟨R11_Right_u, rfl⟩ : ∃ q, q = R11_Right_u)
  show R11_Right u1 K0 = R11_Right_u u1 K0
  rw [e]

/- join of splicer/splicerref12.Frame, region 2 -/
def R12_Frame_j2 (x2 : (List Int)) (short2 : Bool) (v5 : Bool) (m2 : (List Int)) (m3 : (List Int)) (K0 : ((List Int) → Prop)) (K1 : ((List Int) → Bool → (List Int) → (List Int) → Prop)) : Prop :=
  Br v5
    (K0 (List.replicate 8 0))
    (K1 x2 short2 m2 m3)

/- loop of splicer/splicerref12.Frame, region 10 -/
def R12_Frame_l10 : Nat → Int → Int → (List Int) → (List Int) → (List Int) → (List (List Int)) → (List Int) → (Int → (List Int) → (List Int) → (List Int) → (List (List Int)) → Prop) → Prop
  | 0, _, _, _, _, _, _, _, _ => False
  | k + 1, b2, j1, m20, m21, m22, m23, m24, K0 => Br (decide (j1 < (8 : Int)))
      (Br ((decide ((0 : Int) ≤ j1)) && (decide (j1 < (8 : Int))))
        (Br (decide ((Int.toNat j1) < (List.length m24)))
          (R01_Sat (List.getD m24 (Int.toNat j1) 0)
            (fun (r6 : Int) =>
            let m25 : (List Int) := [r6]
            Br (decide ((((List.length m22) + (List.length m25)) * 8) ≤ 140737488355328))
              (R12_Frame_l10 k b2 (iadd .i64 j1 1) m20 m21 (m22 ++ m25) m23 m24 K0)
              (False)))
          (False))
        (False))
      (K0 b2 m20 m21 m22 m23)

/- loop of splicer/splicerref12.Frame, region 14 -/
def R12_Frame_l14 : Nat → Int → Int → (List Int) → (List Int) → (List Int) → (List (List Int)) → (Int → (List Int) → (List Int) → (List Int) → (List (List Int)) → Prop) → Prop
  | 0, _, _, _, _, _, _, _ => False
  | k + 1, b4, k1, m31, m32, m33, m34, K0 => Br ((decide ((0 : Int) ≤ b4)) && (decide (b4 < (((List.length m34) : Nat) : Int))))
      (Br (decide ((Int.toNat b4) < (List.length m34)))
        (Br (decide (k1 < (isub .i64 ((List.getD m34 (Int.toNat b4) []).length : Int) 4)))
          (Br ((decide ((0 : Int) ≤ b4)) && (decide (b4 < (((List.length m34) : Nat) : Int))))
            (Br (decide ((Int.toNat b4) < (List.length m34)))
              (let v17 : (List Int) := (List.getD m34 (Int.toNat b4) [])
              Br ((decide ((0 : Int) ≤ k1)) && (decide (k1 < (((List.length v17) : Nat) : Int))))
                (R01_Sat (List.getD v17 (Int.toNat k1) 0)
                  (fun (r7 : Int) =>
                  let m35 : (List Int) := [r7]
                  Br (decide ((((List.length m33) + (List.length m35)) * 8) ≤ 140737488355328))
                    (R12_Frame_l14 k b4 (iadd .i64 k1 1) m31 m32 (m33 ++ m35) m34 K0)
                    (False)))
                (False))
              (False))
            (False))
          (K0 b4 m31 m32 m33 m34))
        (False))
      (False)

/- loop of splicer/splicerref12.Frame, region 6 -/
def R12_Frame_l6 : Nat → Int → (List Int) → (List Int) → (List Int) → (List (List Int)) → ((List Int) → (List Int) → (List Int) → Prop) → Prop
  | 0, _, _, _, _, _, _ => False
  | k + 1, b1, m15, m16, m17, m18, K0 => Br (decide (b1 < (m18.length : Int)))
      (Br ((decide ((0 : Int) ≤ b1)) && (decide (b1 < (((List.length m18) : Nat) : Int))))
        (Br (decide ((Int.toNat b1) < (List.length m18)))
          (R11_Left (List.getD m18 (Int.toNat b1) [])
            (fun (r4 : (List Int)) =>
            R11_Meet m15 r4
              (fun (r5 : (List Int)) =>
              ∃ q, R12_Frame_l10 q b1 0 m15 m16 m17 m18 r5
                (fun (b3 : Int) (m27 : (List Int)) (m28 : (List Int)) (m29 : (List Int)) (m30 : (List (List Int))) =>
                ∃ q, R12_Frame_l14 q b3 4 m27 m28 m29 m30
                  (fun (b5 : Int) (m37 : (List Int)) (m38 : (List Int)) (m39 : (List Int)) (m40 : (List (List Int))) =>
                  Br ((decide ((0 : Int) ≤ b5)) && (decide (b5 < (((List.length m40) : Nat) : Int))))
                    (Br (decide ((Int.toNat b5) < (List.length m40)))
                      (R11_Right (List.getD m40 (Int.toNat b5) [])
                        (fun (r8 : (List Int)) =>
                        R12_Frame_l6 k (iadd .i64 b5 1) r8 m38 m39 m40 K0))
                      (False))
                    (False))))))
          (False))
        (False))
      (K0 m15 m16 m17)

/- join of splicer/splicerref12.Frame, region 3 -/
def R12_Frame_j3 (x6 : (List Int)) (short6 : Bool) (m13 : (List Int)) (m14 : (List Int)) (K0 : ((List Int) → (List Int) → Prop)) : Prop :=
  R12_Blocks x6 short6
    (fun (r3 : (List (List Int))) =>
    ∃ q, R12_Frame_l6 q 0 m13 m14 [] r3
      (fun (m41 : (List Int)) (m42 : (List Int)) (m43 : (List Int)) =>
      K0 m43 m41))

/- splicer/splicerref12.Frame (14) -/
def R12_Frame_u (tail1 : (List Int)) (x1 : (List Int)) (short1 : Bool) (K0 : ((List Int) → Prop)) (K1 : ((List Int) → (List Int) → Prop)) : Prop :=
  let m1 : (List Int) := (List.replicate 8 0)
  Br (!(decide ((x1.length : Int) = (64 : Int))))
    (R12_Frame_j2 x1 short1 true tail1 m1 K0
      (fun (x3 : (List Int)) (short3 : Bool) (m5 : (List Int)) (m6 : (List Int)) =>
      R12_Frame_j3 x3 short3 m5 m6
        (fun (m44 : (List Int)) (m45 : (List Int)) =>
        K1 m45 m44)))
    (R10_Right x1 33554432
      (fun (r1 : Bool) =>
      Br (!r1)
        (R12_Frame_j2 x1 short1 true tail1 m1 K0
          (fun (x4 : (List Int)) (short4 : Bool) (m8 : (List Int)) (m9 : (List Int)) =>
          R12_Frame_j3 x4 short4 m8 m9
            (fun (m46 : (List Int)) (m47 : (List Int)) =>
            K1 m47 m46)))
        (Br (decide (8 ≤ (List.length tail1)))
          (R01_Within (List.take 8 (List.drop 0 tail1)) (-35184372088832) 35184372088832
            (fun (r2 : Bool) =>
            R12_Frame_j2 x1 short1 (!r2) tail1 m1 K0
              (fun (x5 : (List Int)) (short5 : Bool) (m11 : (List Int)) (m12 : (List Int)) =>
              R12_Frame_j3 x5 short5 m11 m12
                (fun (m48 : (List Int)) (m49 : (List Int)) =>
                K1 m49 m48))))
          (False))))

noncomputable def R12_Frame : (List Int) → (List Int) → Bool → ((List Int) → Prop) → ((List Int) → (List Int) → Prop) → Prop := Classical.choose (⟨R12_Frame_u, rfl⟩ : ∃ q, q = R12_Frame_u)

theorem R12_Frame_def (tail1 : (List Int)) (x1 : (List Int)) (short1 : Bool) (K0 : ((List Int) → Prop)) (K1 : ((List Int) → (List Int) → Prop)) : R12_Frame tail1 x1 short1 K0 K1 =
  (let m1 : (List Int) := (List.replicate 8 0)
  Br (!(decide ((x1.length : Int) = (64 : Int))))
    (R12_Frame_j2 x1 short1 true tail1 m1 K0
      (fun (x3 : (List Int)) (short3 : Bool) (m5 : (List Int)) (m6 : (List Int)) =>
      R12_Frame_j3 x3 short3 m5 m6
        (fun (m44 : (List Int)) (m45 : (List Int)) =>
        K1 m45 m44)))
    (R10_Right x1 33554432
      (fun (r1 : Bool) =>
      Br (!r1)
        (R12_Frame_j2 x1 short1 true tail1 m1 K0
          (fun (x4 : (List Int)) (short4 : Bool) (m8 : (List Int)) (m9 : (List Int)) =>
          R12_Frame_j3 x4 short4 m8 m9
            (fun (m46 : (List Int)) (m47 : (List Int)) =>
            K1 m47 m46)))
        (Br (decide (8 ≤ (List.length tail1)))
          (R01_Within (List.take 8 (List.drop 0 tail1)) (-35184372088832) 35184372088832
            (fun (r2 : Bool) =>
            R12_Frame_j2 x1 short1 (!r2) tail1 m1 K0
              (fun (x5 : (List Int)) (short5 : Bool) (m11 : (List Int)) (m12 : (List Int)) =>
              R12_Frame_j3 x5 short5 m11 m12
                (fun (m48 : (List Int)) (m49 : (List Int)) =>
                K1 m49 m48))))
          (False))))) := by
  have e : R12_Frame = R12_Frame_u := Classical.choose_spec (⟨R12_Frame_u, rfl⟩ : ∃ q, q = R12_Frame_u)
  show R12_Frame tail1 x1 short1 K0 K1 = R12_Frame_u tail1 x1 short1 K0 K1
  rw [e]

/- splicer/lap.Frame (13) -/
def lap_Frame__nil0_u (t1 : Unit) (tail1 : (List Int)) (x1 : (List Int)) (short1 : Bool) (K0 : ((List Int) → Prop)) : Prop :=
  K0 (List.replicate 8 0)

noncomputable def lap_Frame__nil0 : Unit → (List Int) → (List Int) → Bool → ((List Int) → Prop) → Prop := Classical.choose (⟨lap_Frame__nil0_u, rfl⟩ : ∃ q, q = lap_Frame__nil0_u)

theorem lap_Frame__nil0_def (t1 : Unit) (tail1 : (List Int)) (x1 : (List Int)) (short1 : Bool) (K0 : ((List Int) → Prop)) : lap_Frame__nil0 t1 tail1 x1 short1 K0 =
  (K0 (List.replicate 8 0)) := by
  have e : lap_Frame__nil0 = lap_Frame__nil0_u := Classical.choose_spec (⟨lap_Frame__nil0_u, rfl⟩ : ∃ q, q = lap_Frame__nil0_u)
  show lap_Frame__nil0 t1 tail1 x1 short1 K0 = lap_Frame__nil0_u t1 tail1 x1 short1 K0
  rw [e]

/- loop of splicer/lap.Lay, region 10 -/
def lap_Lay_l10 : Nat → Int → (List (List Int)) → Int → Int → (List Int) → Int → Int → (List Int) → ((List (List Int)) → Int → Int → (List Int) → Prop) → Prop
  | 0, _, _, _, _, _, _, _, _, _ => False
  | k + 1, b1, v12, v13, v14, v15, v16, v17, m3, K0 => Br (decide (v17 < v16))
      (Br ((decide ((0 : Int) ≤ v17)) && (decide (v17 < (((List.length v15) : Nat) : Int))))
        (let v21 : Int := (iadd .i64 (imul .i64 v17 8) b1)
        Br ((decide ((0 : Int) ≤ v21)) && (decide (v21 < (((List.length m3) : Nat) : Int))))
          (Br (decide ((Int.toNat v21) < (List.length m3)))
            (lap_Lay_l10 k b1 v12 v13 v14 v15 v16 (iadd .i64 v17 1) (List.set m3 (Int.toNat v21) (List.getD v15 (Int.toNat v17) 0)) K0)
            (False))
          (False))
        (False))
      (K0 v12 v13 v14 m3)

/- loop of splicer/lap.Lay, region 5 -/
def lap_Lay_l5 : Nat → (List (List Int)) → Int → Int → (List Int) → (Prop) → ((List Int) → Prop) → Prop
  | 0, _, _, _, _, _, _ => False
  | k + 1, v4, v5, v6, m2, K0, K1 => Br (decide (v6 < v5))
      (Br ((decide ((0 : Int) ≤ v6)) && (decide (v6 < (((List.length v4) : Nat) : Int))))
        (let v8 : (List Int) := (List.getD v4 (Int.toNat v6) [])
        Br (!(decide ((v8.length : Int) = (8 : Int))))
          (K0)
          (∃ q, lap_Lay_l10 q v6 v4 v5 v6 v8 (v8.length : Int) 0 m2
            (fun (v23 : (List (List Int))) (v24 : Int) (v25 : Int) (m5 : (List Int)) =>
            lap_Lay_l5 k v23 v24 (iadd .i64 v25 1) m5 K0 K1)))
        (False))
      (K1 m2)

/- splicer/lap.Lay (15) -/
def lap_Lay_u (l1 : (List (List Int))) (K0 : (Prop)) (K1 : ((List Int) → Prop)) : Prop :=
  Br (!(decide ((l1.length : Int) = (8 : Int))))
    (K0)
    (∃ q, lap_Lay_l5 q l1 (l1.length : Int) 0 (List.replicate 64 0) K0 K1)

noncomputable def lap_Lay : (List (List Int)) → (Prop) → ((List Int) → Prop) → Prop := Classical.choose (⟨lap_Lay_u, rfl⟩ : ∃ q, q = lap_Lay_u)

theorem lap_Lay_def (l1 : (List (List Int))) (K0 : (Prop)) (K1 : ((List Int) → Prop)) : lap_Lay l1 K0 K1 =
  (Br (!(decide ((l1.length : Int) = (8 : Int))))
    (K0)
    (∃ q, lap_Lay_l5 q l1 (l1.length : Int) 0 (List.replicate 64 0) K0 K1)) := by
  have e : lap_Lay = lap_Lay_u := Classical.choose_spec (⟨lap_Lay_u, rfl⟩ : ∃ q, q = lap_Lay_u)
  show lap_Lay l1 K0 K1 = lap_Lay_u l1 K0 K1
  rw [e]

/- loop of splicer/splicerref12.Lay, region 10 -/
def R12_Lay_l10 : Nat → (List (List Int)) → Int → Int → (List Int) → ((List (List Int)) → Int → (List Int) → Prop) → Prop
  | 0, _, _, _, _, _ => False
  | k + 1, l3, b2, k1, m3, K0 => Br (decide (k1 < (8 : Int)))
      (let v9 : Int := (iadd .i64 (imul .i64 8 k1) b2)
      Br ((decide ((0 : Int) ≤ b2)) && (decide (b2 < (((List.length l3) : Nat) : Int))))
        (let v10 : (List Int) := (List.getD l3 (Int.toNat b2) [])
        Br ((decide ((0 : Int) ≤ k1)) && (decide (k1 < (((List.length v10) : Nat) : Int))))
          (Br ((decide ((0 : Int) ≤ v9)) && (decide (v9 < (((List.length m3) : Nat) : Int))))
            (Br (decide ((Int.toNat v9) < (List.length m3)))
              (R12_Lay_l10 k l3 b2 (iadd .i64 k1 1) (List.set m3 (Int.toNat v9) (List.getD v10 (Int.toNat k1) 0)) K0)
              (False))
            (False))
          (False))
        (False))
      (K0 l3 b2 m3)

/- loop of splicer/splicerref12.Lay, region 5 -/
def R12_Lay_l5 : Nat → (List (List Int)) → Int → (List Int) → (Prop) → ((List Int) → Prop) → Prop
  | 0, _, _, _, _, _ => False
  | k + 1, l2, b1, m2, K0, K1 => Br (decide (b1 < (8 : Int)))
      (Br ((decide ((0 : Int) ≤ b1)) && (decide (b1 < (((List.length l2) : Nat) : Int))))
        (Br (!(decide (((List.getD l2 (Int.toNat b1) []).length : Int) = (8 : Int))))
          (K0)
          (∃ q, R12_Lay_l10 q l2 b1 0 m2
            (fun (l4 : (List (List Int))) (b3 : Int) (m5 : (List Int)) =>
            R12_Lay_l5 k l4 (iadd .i64 b3 1) m5 K0 K1)))
        (False))
      (K1 m2)

/- splicer/splicerref12.Lay (16) -/
def R12_Lay_u (l1 : (List (List Int))) (K0 : (Prop)) (K1 : ((List Int) → Prop)) : Prop :=
  Br (!(decide ((l1.length : Int) = (8 : Int))))
    (K0)
    (∃ q, R12_Lay_l5 q l1 0 (List.replicate 64 0) K0 K1)

noncomputable def R12_Lay : (List (List Int)) → (Prop) → ((List Int) → Prop) → Prop := Classical.choose (⟨R12_Lay_u, rfl⟩ : ∃ q, q = R12_Lay_u)

theorem R12_Lay_def (l1 : (List (List Int))) (K0 : (Prop)) (K1 : ((List Int) → Prop)) : R12_Lay l1 K0 K1 =
  (Br (!(decide ((l1.length : Int) = (8 : Int))))
    (K0)
    (∃ q, R12_Lay_l5 q l1 0 (List.replicate 64 0) K0 K1)) := by
  have e : R12_Lay = R12_Lay_u := Classical.choose_spec (⟨R12_Lay_u, rfl⟩ : ∃ q, q = R12_Lay_u)
  show R12_Lay l1 K0 K1 = R12_Lay_u l1 K0 K1
  rw [e]

/- join of splicer/splicerlaw12.LapFrames, region 2 -/
def L12_LapFrames_j2 (x2 : (List Int)) (short2 : Bool) (l2 : (List (List Int))) (v5 : Bool) (m1 : (List Int)) (K0 : (Bool → Prop)) (K1 : ((List Int) → Bool → (List (List Int)) → (List Int) → Prop)) : Prop :=
  Br v5
    (L12_awake K0)
    (K1 x2 short2 l2 m1)

/- loop of splicer/splicerlaw12.LapFrames, region 4 -/
def L12_LapFrames_l4 : Nat → (List Int) → Bool → (List (List Int)) → Int → (List Int) → (Bool → Prop) → ((List Int) → Bool → (List (List Int)) → (List Int) → Prop) → Prop
  | 0, _, _, _, _, _, _, _ => False
  | k + 1, x6, short6, l6, i1, m5, K0, K1 => Br (decide (i1 < (l6.length : Int)))
      (Br ((decide ((0 : Int) ≤ i1)) && (decide (i1 < (((List.length l6) : Nat) : Int))))
        (Br (decide ((10 : Int) < ((List.getD l6 (Int.toNat i1) []).length : Int)))
          (L12_awake K0)
          (L12_LapFrames_l4 k x6 short6 l6 (iadd .i64 i1 1) m5 K0 K1))
        (False))
      (K1 x6 short6 l6 m5)

/- loop of splicer/splicerlaw12.LapFrames, region 15 -/
def L12_LapFrames_l15 : Nat → (List Int) → Int → (Bool → Prop) → (Prop) → Prop
  | 0, _, _, _, _ => False
  | k + 1, x11, k1, K0, K1 => Br (decide (k1 < (9 : Int)))
      (lap_Pick x11 k1
        (R12_Pick x11 k1
          (R01_Same [] []
            (fun (r19 : Bool) =>
            Br (!r19)
              (K0 false)
              (L12_LapFrames_l15 k x11 (iadd .i64 k1 1) K0 K1)))
          (fun (r20 : (List Int)) =>
          R01_Same [] r20
            (fun (r21 : Bool) =>
            Br (!r21)
              (K0 false)
              (L12_LapFrames_l15 k x11 (iadd .i64 k1 1) K0 K1))))
        (fun (r22 : (List Int)) =>
        R12_Pick x11 k1
          (R01_Same r22 []
            (fun (r23 : Bool) =>
            Br (!r23)
              (K0 false)
              (L12_LapFrames_l15 k x11 (iadd .i64 k1 1) K0 K1)))
          (fun (r24 : (List Int)) =>
          R01_Same r22 r24
            (fun (r25 : Bool) =>
            Br (!r25)
              (K0 false)
              (L12_LapFrames_l15 k x11 (iadd .i64 k1 1) K0 K1)))))
      (K1)

/- join of splicer/splicerlaw12.LapFrames, region 14 -/
def L12_LapFrames_j14 (x10 : (List Int)) (K0 : (Bool → Prop)) : Prop :=
  ∃ q, L12_LapFrames_l15 q x10 (-1) K0
    (L12_awake K0)

/- join of splicer/splicerlaw12.LapFrames, region 11 -/
def L12_LapFrames_j11 (x9 : (List Int)) (short9 : Bool) (l9 : (List (List Int))) (m14 : (List Int)) (m15 : (List Int)) (m16 : (List Int)) (m17 : (List Int)) (m18 : (List Int)) (K0 : (Bool → Prop)) : Prop :=
  lap_Frame__nil0 () m14 x9 short9
    (fun (r10 : (List Int)) =>
    R01_Same m15 m17
      (fun (r11 : Bool) =>
      Br (!r11)
        (K0 false)
        (Br (!(eqv ((.arr 8 (.int .i64))) m16 m18))
          (K0 false)
          (lap_Lay l9
            (R12_Lay l9
              (R01_Same [] []
                (fun (r12 : Bool) =>
                Br (!r12)
                  (K0 false)
                  (L12_LapFrames_j14 x9 K0)))
              (fun (r13 : (List Int)) =>
              R01_Same [] r13
                (fun (r14 : Bool) =>
                Br (!r14)
                  (K0 false)
                  (L12_LapFrames_j14 x9 K0))))
            (fun (r15 : (List Int)) =>
            R12_Lay l9
              (R01_Same r15 []
                (fun (r16 : Bool) =>
                Br (!r16)
                  (K0 false)
                  (L12_LapFrames_j14 x9 K0)))
              (fun (r17 : (List Int)) =>
              R01_Same r15 r17
                (fun (r18 : Bool) =>
                Br (!r18)
                  (K0 false)
                  (L12_LapFrames_j14 x9 K0))))))))

/- join of splicer/splicerlaw12.LapFrames, region 10 -/
def L12_LapFrames_j10 (x8 : (List Int)) (short8 : Bool) (l8 : (List (List Int))) (m9 : (List Int)) (m10 : (List Int)) (m11 : (List Int)) (K0 : (Bool → Prop)) : Prop :=
  R12_Frame m9 x8 short8
    (fun (r7 : (List Int)) =>
    L12_LapFrames_j11 x8 short8 l8 m9 m10 m11 [] r7 K0)
    (fun (r8 : (List Int)) (r9 : (List Int)) =>
    L12_LapFrames_j11 x8 short8 l8 m9 m10 m11 r9 r8 K0)

/- join of splicer/splicerlaw12.LapFrames, region 3 -/
def L12_LapFrames_j3 (x5 : (List Int)) (short5 : Bool) (l5 : (List (List Int))) (m4 : (List Int)) (K0 : (Bool → Prop)) : Prop :=
  ∃ q, L12_LapFrames_l4 q x5 short5 l5 0 m4 K0
    (fun (x7 : (List Int)) (short7 : Bool) (l7 : (List (List Int))) (m6 : (List Int)) =>
    trig_Make
      (fun (r3 : (List Int)) =>
      lap_Frame r3 m6 x7 short7
        (fun (r4 : (List Int)) =>
        L12_LapFrames_j10 x7 short7 l7 m6 [] r4 K0)
        (fun (r5 : (List Int)) (r6 : (List Int)) =>
        L12_LapFrames_j10 x7 short7 l7 m6 r6 r5 K0)))

/- splicer/splicerlaw12.LapFrames (4) -/
def L12_LapFrames_u (tail1 : (List Int)) (x1 : (List Int)) (short1 : Bool) (l1 : (List (List Int))) (K0 : (Bool → Prop)) : Prop :=
  Br (decide ((70 : Int) < (x1.length : Int)))
    (L12_LapFrames_j2 x1 short1 l1 true tail1 K0
      (fun (x3 : (List Int)) (short3 : Bool) (l3 : (List (List Int))) (m2 : (List Int)) =>
      L12_LapFrames_j3 x3 short3 l3 m2 K0))
    (L12_LapFrames_j2 x1 short1 l1 (decide ((10 : Int) < (l1.length : Int))) tail1 K0
      (fun (x4 : (List Int)) (short4 : Bool) (l4 : (List (List Int))) (m3 : (List Int)) =>
      L12_LapFrames_j3 x4 short4 l4 m3 K0))

noncomputable def L12_LapFrames : (List Int) → (List Int) → Bool → (List (List Int)) → (Bool → Prop) → Prop := Classical.choose (⟨L12_LapFrames_u, rfl⟩ : ∃ q, q = L12_LapFrames_u)

theorem L12_LapFrames_def (tail1 : (List Int)) (x1 : (List Int)) (short1 : Bool) (l1 : (List (List Int))) (K0 : (Bool → Prop)) : L12_LapFrames tail1 x1 short1 l1 K0 =
  (Br (decide ((70 : Int) < (x1.length : Int)))
    (L12_LapFrames_j2 x1 short1 l1 true tail1 K0
      (fun (x3 : (List Int)) (short3 : Bool) (l3 : (List (List Int))) (m2 : (List Int)) =>
      L12_LapFrames_j3 x3 short3 l3 m2 K0))
    (L12_LapFrames_j2 x1 short1 l1 (decide ((10 : Int) < (l1.length : Int))) tail1 K0
      (fun (x4 : (List Int)) (short4 : Bool) (l4 : (List (List Int))) (m3 : (List Int)) =>
      L12_LapFrames_j3 x4 short4 l4 m3 K0))) := by
  have e : L12_LapFrames = L12_LapFrames_u := Classical.choose_spec (⟨L12_LapFrames_u, rfl⟩ : ∃ q, q = L12_LapFrames_u)
  show L12_LapFrames tail1 x1 short1 l1 K0 = L12_LapFrames_u tail1 x1 short1 l1 K0
  rw [e]

end Go.Eng.A
