/- The functions that LapNear reaches, as plain ones: printed by program. -/
import Derived.Test.YtniabjhjpkkllaaEngA
set_option linter.unusedVariables false
set_option maxRecDepth 100000
namespace Go.Eng.A
open Go Go.Eng

/- loop of splicer/splicerref01.Within, region 2 -/
def R01_Within_l2 : Nat → (List Int) → Int → Int → Int → (Bool → Prop) → (Prop) → Prop
  | 0, _, _, _, _, _, _ => False
  | k + 1, l2, low2, high2, i1, K0, K1 => Br (decide (i1 < (l2.length : Int)))
      (Br ((decide ((0 : Int) ≤ i1)) && (decide (i1 < (((List.length l2) : Nat) : Int))))
        (Br (decide ((List.getD l2 (Int.toNat i1) 0) < low2))
          (K0 false)
          (Br ((decide ((0 : Int) ≤ i1)) && (decide (i1 < (((List.length l2) : Nat) : Int))))
            (Br (decide (high2 < (List.getD l2 (Int.toNat i1) 0)))
              (K0 false)
              (R01_Within_l2 k l2 low2 high2 (iadd .i64 i1 1) K0 K1))
            (False)))
        (False))
      (K1)

/- splicer/splicerref01.Within (40) -/
def R01_Within_u (l1 : (List Int)) (low1 : Int) (high1 : Int) (K0 : (Bool → Prop)) : Prop :=
  ∃ q, R01_Within_l2 q l1 low1 high1 0 K0
    (K0 true)

noncomputable def R01_Within : (List Int) → Int → Int → (Bool → Prop) → Prop := Classical.choose (⟨R01_Within_u, rfl⟩ : ∃ q, q = R01_Within_u)

theorem R01_Within_def (l1 : (List Int)) (low1 : Int) (high1 : Int) (K0 : (Bool → Prop)) : R01_Within l1 low1 high1 K0 =
  (∃ q, R01_Within_l2 q l1 low1 high1 0 K0
    (K0 true)) := by
  have e : R01_Within = R01_Within_u := Classical.choose_spec (⟨R01_Within_u, rfl⟩ : ∃ q, q = R01_Within_u)
  show R01_Within l1 low1 high1 K0 = R01_Within_u l1 low1 high1 K0
  rw [e]

/- splicer/splicerref10.Right (11) -/
def R10_Right_u (u1 : (List Int)) (wide1 : Int) (K0 : (Bool → Prop)) : Prop :=
  Br (decide ((u1.length : Int) = (8 : Int)))
    (R01_Within u1 (isub .i64 0 wide1) wide1 K0)
    (Br (decide ((u1.length : Int) = (64 : Int)))
      (R01_Within u1 (isub .i64 0 wide1) wide1 K0)
      (K0 false))

noncomputable def R10_Right : (List Int) → Int → (Bool → Prop) → Prop := Classical.choose (⟨R10_Right_u, rfl⟩ : ∃ q, q = R10_Right_u)

theorem R10_Right_def (u1 : (List Int)) (wide1 : Int) (K0 : (Bool → Prop)) : R10_Right u1 wide1 K0 =
  (Br (decide ((u1.length : Int) = (8 : Int)))
    (R01_Within u1 (isub .i64 0 wide1) wide1 K0)
    (Br (decide ((u1.length : Int) = (64 : Int)))
      (R01_Within u1 (isub .i64 0 wide1) wide1 K0)
      (K0 false))) := by
  have e : R10_Right = R10_Right_u := Classical.choose_spec (⟨R10_Right_u, rfl⟩ : ∃ q, q = R10_Right_u)
  show R10_Right u1 wide1 K0 = R10_Right_u u1 wide1 K0
  rw [e]

/- splicer/trig.first (41) -/
def trig_first_u  (K0 : ((List Int) → Prop)) : Prop :=
  K0 [16777216, 16775953, 16772163, 16765847, 16757007, 16745643, 16731757, 16715352, 16696429, 16674992, 16651044, 16624588, 16595628, 16564169, 16530216, 16493773, 16454846, 16413442, 16369565, 16323224, 16274424, 16223173, 16169479, 16113350, 16054795, 15993821, 15930439, 15864658, 15796488, 15725939, 15653022, 15577747, 15500126, 15420172, 15337895, 15253308, 15166424, 15077256, 14985817, 14892122, 14796184, 14698017, 14597637, 14495059, 14390298, 14283370, 14174291, 14063077, 13949745, 13834313, 13716797, 13597215, 13475586, 13351928, 13226258, 13098597, 12968963, 12837376, 12703856, 12568423, 12431097, 12291899, 12150850, 12007971, 11863283, 11716809, 11568571, 11418590, 11266890, 11113493, 10958422, 10801701, 10643353, 10483403, 10321873, 10158790, 9994176, 9828057, 9660458, 9491405, 9320922, 9149035, 8975771, 8801154, 8625213, 8447972, 8269459, 8089701, 7908725, 7726557, 7543226, 7358759, 7173184, 6986529, 6798821, 6610090, 6420363, 6229669, 6038037, 5845495, 5652074, 5457801, 5262706, 5066819, 4870169, 4672785, 4474698, 4275936, 4076531, 3876512, 3675909, 3474752, 3273072, 3070900, 2868265, 2665197, 2461729, 2257890, 2053710, 1849222, 1644455, 1439440, 1234209, 1028791, 823219, 617523, 411733, 205882, 0]

noncomputable def trig_first : ((List Int) → Prop) → Prop := Classical.choose (⟨trig_first_u, rfl⟩ : ∃ q, q = trig_first_u)

theorem trig_first_def  (K0 : ((List Int) → Prop)) : trig_first K0 =
  (K0 [16777216, 16775953, 16772163, 16765847, 16757007, 16745643, 16731757, 16715352, 16696429, 16674992, 16651044, 16624588, 16595628, 16564169, 16530216, 16493773, 16454846, 16413442, 16369565, 16323224, 16274424, 16223173, 16169479, 16113350, 16054795, 15993821, 15930439, 15864658, 15796488, 15725939, 15653022, 15577747, 15500126, 15420172, 15337895, 15253308, 15166424, 15077256, 14985817, 14892122, 14796184, 14698017, 14597637, 14495059, 14390298, 14283370, 14174291, 14063077, 13949745, 13834313, 13716797, 13597215, 13475586, 13351928, 13226258, 13098597, 12968963, 12837376, 12703856, 12568423, 12431097, 12291899, 12150850, 12007971, 11863283, 11716809, 11568571, 11418590, 11266890, 11113493, 10958422, 10801701, 10643353, 10483403, 10321873, 10158790, 9994176, 9828057, 9660458, 9491405, 9320922, 9149035, 8975771, 8801154, 8625213, 8447972, 8269459, 8089701, 7908725, 7726557, 7543226, 7358759, 7173184, 6986529, 6798821, 6610090, 6420363, 6229669, 6038037, 5845495, 5652074, 5457801, 5262706, 5066819, 4870169, 4672785, 4474698, 4275936, 4076531, 3876512, 3675909, 3474752, 3273072, 3070900, 2868265, 2665197, 2461729, 2257890, 2053710, 1849222, 1644455, 1439440, 1234209, 1028791, 823219, 617523, 411733, 205882, 0]) := by
  have e : trig_first = trig_first_u := Classical.choose_spec (⟨trig_first_u, rfl⟩ : ∃ q, q = trig_first_u)
  show trig_first K0 = trig_first_u K0
  rw [e]

/- loop of splicer/trig.Make, region 3 -/
def trig_Make_l3 : Nat → Int → (List Int) → (List Int) → ((List Int) → Prop) → Prop
  | 0, _, _, _, _ => False
  | k + 1, v2, m2, m3, K0 => Br (decide (v2 < (129 : Int)))
      (Br ((decide ((0 : Int) ≤ v2)) && (decide (v2 < (129 : Int))))
        (Br (decide ((Int.toNat v2) < (List.length m3)))
          (Br ((decide ((0 : Int) ≤ v2)) && (decide (v2 < (512 : Int))))
            (Br (decide ((Int.toNat v2) < (List.length m2)))
              (let m4 : (List Int) := (List.set m2 (Int.toNat v2) (List.getD m3 (Int.toNat v2) 0))
              let v5 : Int := (isub .i64 256 v2)
              Br ((decide ((0 : Int) ≤ v2)) && (decide (v2 < (129 : Int))))
                (Br (decide ((Int.toNat v2) < (List.length m3)))
                  (Br ((decide ((0 : Int) ≤ v5)) && (decide (v5 < (512 : Int))))
                    (Br (decide ((Int.toNat v5) < (List.length m4)))
                      (let m5 : (List Int) := (List.set m4 (Int.toNat v5) (isub .i64 0 (List.getD m3 (Int.toNat v2) 0)))
                      let v9 : Int := (irem .i64 (iadd .i64 256 v2) 512)
                      Br ((decide ((0 : Int) ≤ v2)) && (decide (v2 < (129 : Int))))
                        (Br (decide ((Int.toNat v2) < (List.length m3)))
                          (Br ((decide ((0 : Int) ≤ v9)) && (decide (v9 < (512 : Int))))
                            (Br (decide ((Int.toNat v9) < (List.length m5)))
                              (let m6 : (List Int) := (List.set m5 (Int.toNat v9) (isub .i64 0 (List.getD m3 (Int.toNat v2) 0)))
                              let v13 : Int := (irem .i64 (isub .i64 512 v2) 512)
                              Br ((decide ((0 : Int) ≤ v2)) && (decide (v2 < (129 : Int))))
                                (Br (decide ((Int.toNat v2) < (List.length m3)))
                                  (Br ((decide ((0 : Int) ≤ v13)) && (decide (v13 < (512 : Int))))
                                    (Br (decide ((Int.toNat v13) < (List.length m6)))
                                      (trig_Make_l3 k (iadd .i64 v2 1) (List.set m6 (Int.toNat v13) (List.getD m3 (Int.toNat v2) 0)) m3 K0)
                                      (False))
                                    (False))
                                  (False))
                                (False))
                              (False))
                            (False))
                          (False))
                        (False))
                      (False))
                    (False))
                  (False))
                (False))
              (False))
            (False))
          (False))
        (False))
      (K0 m2)

/- splicer/trig.Make (13) -/
def trig_Make_u  (K0 : ((List Int) → Prop)) : Prop :=
  trig_first
    (fun (r1 : (List Int)) =>
    ∃ q, trig_Make_l3 q 0 (List.replicate 512 0) r1 K0)

noncomputable def trig_Make : ((List Int) → Prop) → Prop := Classical.choose (⟨trig_Make_u, rfl⟩ : ∃ q, q = trig_Make_u)

theorem trig_Make_def  (K0 : ((List Int) → Prop)) : trig_Make K0 =
  (trig_first
    (fun (r1 : (List Int)) =>
    ∃ q, trig_Make_l3 q 0 (List.replicate 512 0) r1 K0)) := by
  have e : trig_Make = trig_Make_u := Classical.choose_spec (⟨trig_Make_u, rfl⟩ : ∃ q, q = trig_Make_u)
  show trig_Make K0 = trig_Make_u K0
  rw [e]

/- loop of splicer/lap.right, region 2 -/
def lap_right_l2 : Nat → (List Int) → (List Int) → Int → Int → (List Int) → (Bool → Prop) → ((List Int) → (List Int) → Prop) → Prop
  | 0, _, _, _, _, _, _, _ => False
  | k + 1, x2, v2, v3, v4, m1, K0, K1 => Br (decide (v4 < v3))
      (Br ((decide ((0 : Int) ≤ v4)) && (decide (v4 < (((List.length v2) : Nat) : Int))))
        (let v6 : Int := (List.getD v2 (Int.toNat v4) 0)
        Br (decide (v6 < (-33554432 : Int)))
          (K0 false)
          (Br (decide ((33554432 : Int) < v6))
            (K0 false)
            (lap_right_l2 k x2 v2 v3 (iadd .i64 v4 1) m1 K0 K1)))
        (False))
      (K1 x2 m1)

/- loop of splicer/lap.right, region 8 -/
def lap_right_l8 : Nat → (List Int) → (List Int) → Int → (Bool → Prop) → ((List Int) → Prop) → Prop
  | 0, _, _, _, _, _ => False
  | k + 1, x4, v11, v12, K0, K1 => Br (decide (v12 < (8 : Int)))
      (Br ((decide ((0 : Int) ≤ v12)) && (decide (v12 < (8 : Int))))
        (let v14 : Int := (List.getD v11 (Int.toNat v12) 0)
        Br (decide (v14 < (-35184372088832 : Int)))
          (K0 false)
          (Br (decide ((35184372088832 : Int) < v14))
            (K0 false)
            (lap_right_l8 k x4 v11 (iadd .i64 v12 1) K0 K1)))
        (False))
      (K1 x4)

/- splicer/lap.right (64) -/
def lap_right_u (x1 : (List Int)) (tail1 : (List Int)) (K0 : (Bool → Prop)) : Prop :=
  ∃ q, lap_right_l2 q x1 x1 (x1.length : Int) 0 tail1 K0
    (fun (x3 : (List Int)) (m2 : (List Int)) =>
    ∃ q, lap_right_l8 q x3 m2 0 K0
      (fun (x5 : (List Int)) =>
      K0 (decide ((x5.length : Int) = (64 : Int)))))

noncomputable def lap_right : (List Int) → (List Int) → (Bool → Prop) → Prop := Classical.choose (⟨lap_right_u, rfl⟩ : ∃ q, q = lap_right_u)

theorem lap_right_def (x1 : (List Int)) (tail1 : (List Int)) (K0 : (Bool → Prop)) : lap_right x1 tail1 K0 =
  (∃ q, lap_right_l2 q x1 x1 (x1.length : Int) 0 tail1 K0
    (fun (x3 : (List Int)) (m2 : (List Int)) =>
    ∃ q, lap_right_l8 q x3 m2 0 K0
      (fun (x5 : (List Int)) =>
      K0 (decide ((x5.length : Int) = (64 : Int)))))) := by
  have e : lap_right = lap_right_u := Classical.choose_spec (⟨lap_right_u, rfl⟩ : ∃ q, q = lap_right_u)
  show lap_right x1 tail1 K0 = lap_right_u x1 tail1 K0
  rw [e]

/- splicer/lap.blocks (65) -/
def lap_blocks_u (t1 : (List Int)) (x1 : (List Int)) (short1 : Bool) (K0 : (Bool → (List Int) → (List Int) → Prop)) : Prop :=
  K0 short1 t1 x1

noncomputable def lap_blocks : (List Int) → (List Int) → Bool → (Bool → (List Int) → (List Int) → Prop) → Prop := Classical.choose (⟨lap_blocks_u, rfl⟩ : ∃ q, q = lap_blocks_u)

theorem lap_blocks_def (t1 : (List Int)) (x1 : (List Int)) (short1 : Bool) (K0 : (Bool → (List Int) → (List Int) → Prop)) : lap_blocks t1 x1 short1 K0 =
  (K0 short1 t1 x1) := by
  have e : lap_blocks = lap_blocks_u := Classical.choose_spec (⟨lap_blocks_u, rfl⟩ : ∃ q, q = lap_blocks_u)
  show lap_blocks t1 x1 short1 K0 = lap_blocks_u t1 x1 short1 K0
  rw [e]

/- loop of splicer/dct.right, region 4 -/
def dct_right_l4 : Nat → Int → (List Int) → Int → Int → (Bool → Prop) → (Prop) → Prop
  | 0, _, _, _, _, _, _ => False
  | k + 1, wide3, v6, v7, v8, K0, K1 => Br (decide (v8 < v7))
      (Br ((decide ((0 : Int) ≤ v8)) && (decide (v8 < (((List.length v6) : Nat) : Int))))
        (let v10 : Int := (List.getD v6 (Int.toNat v8) 0)
        Br (decide (v10 < (isub .i64 0 wide3)))
          (K0 false)
          (Br (decide (wide3 < v10))
            (K0 false)
            (dct_right_l4 k wide3 v6 v7 (iadd .i64 v8 1) K0 K1)))
        (False))
      (K1)

/- join of splicer/dct.right, region 3 -/
def dct_right_j3 (u2 : (List Int)) (wide2 : Int) (K0 : (Bool → Prop)) : Prop :=
  ∃ q, dct_right_l4 q wide2 u2 (u2.length : Int) 0 K0
    (K0 true)

/- splicer/dct.right (42) -/
def dct_right_u (u1 : (List Int)) (wide1 : Int) (K0 : (Bool → Prop)) : Prop :=
  Br (!(decide ((u1.length : Int) = (64 : Int))))
    (Br (!(decide ((u1.length : Int) = (8 : Int))))
      (K0 false)
      (dct_right_j3 u1 wide1 K0))
    (dct_right_j3 u1 wide1 K0)

noncomputable def dct_right : (List Int) → Int → (Bool → Prop) → Prop := Classical.choose (⟨dct_right_u, rfl⟩ : ∃ q, q = dct_right_u)

theorem dct_right_def (u1 : (List Int)) (wide1 : Int) (K0 : (Bool → Prop)) : dct_right u1 wide1 K0 =
  (Br (!(decide ((u1.length : Int) = (64 : Int))))
    (Br (!(decide ((u1.length : Int) = (8 : Int))))
      (K0 false)
      (dct_right_j3 u1 wide1 K0))
    (dct_right_j3 u1 wide1 K0)) := by
  have e : dct_right = dct_right_u := Classical.choose_spec (⟨dct_right_u, rfl⟩ : ∃ q, q = dct_right_u)
  show dct_right u1 wide1 K0 = dct_right_u u1 wide1 K0
  rw [e]

/- splicer/dct.angles (79) -/
def dct_angles_u (l1 : (List Int)) (k1 : Int) (K0 : ((List Int) → Int → Prop)) : Prop :=
  K0 l1 k1

noncomputable def dct_angles : (List Int) → Int → ((List Int) → Int → Prop) → Prop := Classical.choose (⟨dct_angles_u, rfl⟩ : ∃ q, q = dct_angles_u)

theorem dct_angles_def (l1 : (List Int)) (k1 : Int) (K0 : ((List Int) → Int → Prop)) : dct_angles l1 k1 K0 =
  (K0 l1 k1) := by
  have e : dct_angles = dct_angles_u := Classical.choose_spec (⟨dct_angles_u, rfl⟩ : ∃ q, q = dct_angles_u)
  show dct_angles l1 k1 K0 = dct_angles_u l1 k1 K0
  rw [e]

/- loop of splicer/dct.angles$1, region 3 -/
def It_dct_angles_1_l3 (S : Type) (rd : ((Int × Int × Unit) → S → (Bool → S → Prop) → Prop)) : Nat → Int → Int → (List Int) → Int → Int → S → (S → Prop) → (S → Prop) → Prop
  | 0, _, _, _, _, _, _, _, _ => False
  | k + 1, step1, at_1, v7, v8, v9, s1, K0, K1 => Br (decide (v9 < v8))
      (Br ((decide ((0 : Int) ≤ v9)) && (decide (v9 < (((List.length v7) : Nat) : Int))))
        (rd ((List.getD v7 (Int.toNat v9) 0), at_1, ()) s1 fun (b1 : Bool) (s2 : S) =>
        Br (!b1)
          (K0 s2)
          (It_dct_angles_1_l3 S rd k step1 (iadd .i64 at_1 (imul .i64 2 step1)) v7 v8 (iadd .i64 v9 1) s2 K0 K1))
        (False))
      (K1 s1)

/- splicer/dct.angles$1 (96) -/
def It_dct_angles_1_u (c1 : (List Int)) (c2 : Int) (S : Type) (rd : ((Int × Int × Unit) → S → (Bool → S → Prop) → Prop)) (s : S) (K0 : S → Prop) : Prop :=
  Br (decide ((c1.length : Int) = (0 : Int)))
    (False)
    (let v5 : Int := (imul .i64 (iquo .i64 64 (c1.length : Int)) (iadd .i64 (imul .i64 2 c2) 1))
    ∃ q, It_dct_angles_1_l3 S rd q v5 v5 c1 (c1.length : Int) 0 s K0 K0)

noncomputable def It_dct_angles_1 : (List Int) → Int → (S : Type) → ((Int × Int × Unit) → S → (Bool → S → Prop) → Prop) → S → (S → Prop) → Prop := Classical.choose (⟨It_dct_angles_1_u, rfl⟩ : ∃ q, q = It_dct_angles_1_u)

theorem It_dct_angles_1_def (c1 : (List Int)) (c2 : Int) (S : Type) (rd : ((Int × Int × Unit) → S → (Bool → S → Prop) → Prop)) (s : S) (K0 : S → Prop) : It_dct_angles_1 c1 c2 S rd s K0 =
  (Br (decide ((c1.length : Int) = (0 : Int)))
    (False)
    (let v5 : Int := (imul .i64 (iquo .i64 64 (c1.length : Int)) (iadd .i64 (imul .i64 2 c2) 1))
    ∃ q, It_dct_angles_1_l3 S rd q v5 v5 c1 (c1.length : Int) 0 s K0 K0)) := by
  have e : It_dct_angles_1 = It_dct_angles_1_u := Classical.choose_spec (⟨It_dct_angles_1_u, rfl⟩ : ∃ q, q = It_dct_angles_1_u)
  show It_dct_angles_1 c1 c2 S rd s K0 = It_dct_angles_1_u c1 c2 S rd s K0
  rw [e]

/- (*splicer/trig.Table).Cos (80) -/
def trig_Table__Cos_u (t1 : (List Int)) (k1 : Int) (K0 : (Int → Prop)) : Prop :=
  Br (decide (k1 < (-1152921504606846976 : Int)))
    (K0 0)
    (Br (decide ((1152921504606846976 : Int) < k1))
      (K0 0)
      (let v3 : Int := (iand .i64 k1 511)
      Br ((decide ((0 : Int) ≤ v3)) && (decide (v3 < (512 : Int))))
        (K0 (List.getD t1 (Int.toNat v3) 0))
        (False)))

noncomputable def trig_Table__Cos : (List Int) → Int → (Int → Prop) → Prop := Classical.choose (⟨trig_Table__Cos_u, rfl⟩ : ∃ q, q = trig_Table__Cos_u)

theorem trig_Table__Cos_def (t1 : (List Int)) (k1 : Int) (K0 : (Int → Prop)) : trig_Table__Cos t1 k1 K0 =
  (Br (decide (k1 < (-1152921504606846976 : Int)))
    (K0 0)
    (Br (decide ((1152921504606846976 : Int) < k1))
      (K0 0)
      (let v3 : Int := (iand .i64 k1 511)
      Br ((decide ((0 : Int) ≤ v3)) && (decide (v3 < (512 : Int))))
        (K0 (List.getD t1 (Int.toNat v3) 0))
        (False)))) := by
  have e : trig_Table__Cos = trig_Table__Cos_u := Classical.choose_spec (⟨trig_Table__Cos_u, rfl⟩ : ∃ q, q = trig_Table__Cos_u)
  show trig_Table__Cos t1 k1 K0 = trig_Table__Cos_u t1 k1 K0
  rw [e]

/- loop of splicer/num.within, region 2 -/
def num_within_l2 : Nat → Int → (List Int) → Int → Int → (Bool → Prop) → (Prop) → Prop
  | 0, _, _, _, _, _, _ => False
  | k + 1, most2, v2, v3, v4, K0, K1 => Br (decide (v4 < v3))
      (Br ((decide ((0 : Int) ≤ v4)) && (decide (v4 < (((List.length v2) : Nat) : Int))))
        (let v6 : Int := (List.getD v2 (Int.toNat v4) 0)
        Br (decide (v6 < (isub .i64 0 most2)))
          (K0 false)
          (Br (decide (most2 < v6))
            (K0 false)
            (num_within_l2 k most2 v2 v3 (iadd .i64 v4 1) K0 K1)))
        (False))
      (K1)

/- splicer/num.within (90) -/
def num_within_u (most1 : Int) (l1 : (List Int)) (K0 : (Bool → Prop)) : Prop :=
  ∃ q, num_within_l2 q most1 l1 (l1.length : Int) 0 K0
    (K0 true)

noncomputable def num_within : Int → (List Int) → (Bool → Prop) → Prop := Classical.choose (⟨num_within_u, rfl⟩ : ∃ q, q = num_within_u)

theorem num_within_def (most1 : Int) (l1 : (List Int)) (K0 : (Bool → Prop)) : num_within most1 l1 K0 =
  (∃ q, num_within_l2 q most1 l1 (l1.length : Int) 0 K0
    (K0 true)) := by
  have e : num_within = num_within_u := Classical.choose_spec (⟨num_within_u, rfl⟩ : ∃ q, q = num_within_u)
  show num_within most1 l1 K0 = num_within_u most1 l1 K0
  rw [e]

/- join of splicer/num.Shr, region 2 -/
def num_Shr_j2 (x2 : Int) (n2 : Int) (v4 : Bool) (K0 : (Int → Prop)) (K1 : (Int → Int → Prop)) : Prop :=
  Br v4
    (K0 0)
    (Br (decide (n2 = (0 : Int)))
      (K0 x2)
      (K1 x2 n2))

/- join of splicer/num.Shr, region 5 -/
def num_Shr_j5 (x6 : Int) (n6 : Int) (K0 : (Int → Prop)) : Prop :=
  let v9 : Int := (isub .i64 n6 1)
  Br (decide (v9 < (0 : Int)))
    (False)
    (Br (decide (n6 < (0 : Int)))
      (False)
      (K0 (ishr .i64 (iadd .i64 x6 (ishl .i64 1 v9)) n6)))

/- splicer/num.Shr (81) -/
def num_Shr_u (x1 : Int) (n1 : Int) (K0 : (Int → Prop)) : Prop :=
  Br (decide (n1 < (0 : Int)))
    (num_Shr_j2 x1 n1 true K0
      (fun (x3 : Int) (n3 : Int) =>
      num_Shr_j5 x3 n3 K0))
    (Br (decide ((60 : Int) < n1))
      (num_Shr_j2 x1 n1 true K0
        (fun (x4 : Int) (n4 : Int) =>
        num_Shr_j5 x4 n4 K0))
      (num_within 2305843009213693952 [x1]
        (fun (r1 : Bool) =>
        num_Shr_j2 x1 n1 (!r1) K0
          (fun (x5 : Int) (n5 : Int) =>
          num_Shr_j5 x5 n5 K0))))

noncomputable def num_Shr : Int → Int → (Int → Prop) → Prop := Classical.choose (⟨num_Shr_u, rfl⟩ : ∃ q, q = num_Shr_u)

theorem num_Shr_def (x1 : Int) (n1 : Int) (K0 : (Int → Prop)) : num_Shr x1 n1 K0 =
  (Br (decide (n1 < (0 : Int)))
    (num_Shr_j2 x1 n1 true K0
      (fun (x3 : Int) (n3 : Int) =>
      num_Shr_j5 x3 n3 K0))
    (Br (decide ((60 : Int) < n1))
      (num_Shr_j2 x1 n1 true K0
        (fun (x4 : Int) (n4 : Int) =>
        num_Shr_j5 x4 n4 K0))
      (num_within 2305843009213693952 [x1]
        (fun (r1 : Bool) =>
        num_Shr_j2 x1 n1 (!r1) K0
          (fun (x5 : Int) (n5 : Int) =>
          num_Shr_j5 x5 n5 K0))))) := by
  have e : num_Shr = num_Shr_u := Classical.choose_spec (⟨num_Shr_u, rfl⟩ : ∃ q, q = num_Shr_u)
  show num_Shr x1 n1 K0 = num_Shr_u x1 n1 K0
  rw [e]

/- range, region 7 -/
def dct_shifted_r7b (x1 : Int) (x2 : Int) (l3 : (List Int)) (by_3 : Int) (k1 : Int) (v6 : Int) (v7 : Int) (m4 : (List Int)) (m5 : (List Int)) (m6 : Int) (K0 : ((List Int) → Int → Int → Int → Int → (List Int) → (List Int) → Int → Prop)) : Prop :=
  trig_Table__Cos m4 x2
    (fun (r3 : Int) =>
    K0 l3 by_3 k1 v6 v7 m4 m5 (iadd .i64 m6 (imul .i64 x1 r3)))
def dct_shifted_r7 (c0_ : (List Int)) (c1_ : Int) (l3 : (List Int)) (by_3 : Int) (k1 : Int) (v6 : Int) (v7 : Int) (m4 : (List Int)) (m5 : (List Int)) (m6 : Int) (K0 : ((List Int) → Int → Int → Int → Int → (List Int) → (List Int) → Int → Prop)) : Prop :=
  It_dct_angles_1 c0_ c1_ (Rs (((List Int) × Int × Int × Int × Int × Unit) × ((List Int) × (List Int) × Int × Unit)) (Empty))
    (fun x s Kb => s.on fun (v : ((List Int) × Int × Int × Int × Int × Unit) × ((List Int) × (List Int) × Int × Unit)) => dct_shifted_r7b x.1 x.2.1 v.1.1 v.1.2.1 v.1.2.2.1 v.1.2.2.2.1 v.1.2.2.2.2.1 v.2.1 v.2.2.1 v.2.2.2.1 (fun (y0 : (List Int)) (y1 : Int) (y2 : Int) (y3 : Int) (y4 : Int) (y5 : (List Int)) (y6 : (List Int)) (y7 : Int) => Kb true (.go ((y0, y1, y2, y3, y4, ()), (y5, y6, y7, ())))))
    (.go ((l3, by_3, k1, v6, v7, ()), (m4, m5, m6, ())))
    (fun s => s.fin (fun (v : ((List Int) × Int × Int × Int × Int × Unit) × ((List Int) × (List Int) × Int × Unit)) => K0 v.1.1 v.1.2.1 v.1.2.2.1 v.1.2.2.2.1 v.1.2.2.2.2.1 v.2.1 v.2.2.1 v.2.2.2.1) (fun _ => False))

/- loop of splicer/dct.shifted, region 3 -/
def dct_shifted_l3 : Nat → (List Int) → Int → Int → Int → (List Int) → (List Int) → ((List Int) → Prop) → Prop
  | 0, _, _, _, _, _, _, _ => False
  | k + 1, l2, by_2, v3, v4, m2, m3, K0 => Br (decide (v4 < v3))
      (dct_angles l2 v4
        (fun (r1 : (List Int)) (r2 : Int) =>
        dct_shifted_r7 r1 r2 l2 by_2 v4 v3 v4 m2 m3 0
          (fun (l4 : (List Int)) (by_4 : Int) (k2 : Int) (v10 : Int) (v11 : Int) (m7 : (List Int)) (m8 : (List Int)) (m9 : Int) =>
          num_Shr m9 by_4
            (fun (r4 : Int) =>
            Br ((decide ((0 : Int) ≤ k2)) && (decide (k2 < (((List.length m8) : Nat) : Int))))
              (Br (decide ((Int.toNat k2) < (List.length m8)))
                (dct_shifted_l3 k l4 by_4 v10 (iadd .i64 v11 1) m7 (List.set m8 (Int.toNat k2) r4) K0)
                (False))
              (False)))))
      (K0 m3)

/- splicer/dct.shifted (43) -/
def dct_shifted_u (t1 : (List Int)) (l1 : (List Int)) (by_1 : Int) (K0 : ((List Int) → Prop)) : Prop :=
  Br (((decide ((0 : Int) ≤ (l1.length : Int))) && (decide ((l1.length : Int) ≤ (l1.length : Int)))) && (decide (((l1.length : Int) * (8 : Int)) ≤ (140737488355328 : Int))))
    (let m1 : (List Int) := (List.replicate (Int.toNat (l1.length : Int)) 0)
    ∃ q, dct_shifted_l3 q l1 by_1 (m1.length : Int) 0 t1 m1 K0)
    (False)

noncomputable def dct_shifted : (List Int) → (List Int) → Int → ((List Int) → Prop) → Prop := Classical.choose (⟨dct_shifted_u, rfl⟩ : ∃ q, q = dct_shifted_u)

theorem dct_shifted_def (t1 : (List Int)) (l1 : (List Int)) (by_1 : Int) (K0 : ((List Int) → Prop)) : dct_shifted t1 l1 by_1 K0 =
  (Br (((decide ((0 : Int) ≤ (l1.length : Int))) && (decide ((l1.length : Int) ≤ (l1.length : Int)))) && (decide (((l1.length : Int) * (8 : Int)) ≤ (140737488355328 : Int))))
    (let m1 : (List Int) := (List.replicate (Int.toNat (l1.length : Int)) 0)
    ∃ q, dct_shifted_l3 q l1 by_1 (m1.length : Int) 0 t1 m1 K0)
    (False)) := by
  have e : dct_shifted = dct_shifted_u := Classical.choose_spec (⟨dct_shifted_u, rfl⟩ : ∃ q, q = dct_shifted_u)
  show dct_shifted t1 l1 by_1 K0 = dct_shifted_u t1 l1 by_1 K0
  rw [e]

/- splicer/dct.Back (15) -/
def dct_Back_u (t1 : (List Int)) (x1 : (List Int)) (K0 : (Prop)) (K1 : ((List Int) → Prop)) : Prop :=
  dct_right x1 33554432
    (fun (r1 : Bool) =>
    Br (!r1)
      (K0)
      (Br (decide ((x1.length : Int) = (8 : Int)))
        (dct_shifted t1 x1 26 K1)
        (dct_shifted t1 x1 29 K1)))

noncomputable def dct_Back : (List Int) → (List Int) → (Prop) → ((List Int) → Prop) → Prop := Classical.choose (⟨dct_Back_u, rfl⟩ : ∃ q, q = dct_Back_u)

theorem dct_Back_def (t1 : (List Int)) (x1 : (List Int)) (K0 : (Prop)) (K1 : ((List Int) → Prop)) : dct_Back t1 x1 K0 K1 =
  (dct_right x1 33554432
    (fun (r1 : Bool) =>
    Br (!r1)
      (K0)
      (Br (decide ((x1.length : Int) = (8 : Int)))
        (dct_shifted t1 x1 26 K1)
        (dct_shifted t1 x1 29 K1)))) := by
  have e : dct_Back = dct_Back_u := Classical.choose_spec (⟨dct_Back_u, rfl⟩ : ∃ q, q = dct_Back_u)
  show dct_Back t1 x1 K0 K1 = dct_Back_u t1 x1 K0 K1
  rw [e]

/- loop of splicer/lap.Pick, region 5 -/
def lap_Pick_l5 : Nat → (List Int) → Int → Int → Int → (List Int) → ((List Int) → Prop) → Prop
  | 0, _, _, _, _, _, _ => False
  | k + 1, x2, b2, v6, v7, m2, K0 => Br (decide (v7 < v6))
      (let v10 : Int := (iadd .i64 (imul .i64 v7 8) b2)
      Br ((decide ((0 : Int) ≤ v10)) && (decide (v10 < (((List.length x2) : Nat) : Int))))
        (Br ((decide ((0 : Int) ≤ v7)) && (decide (v7 < (((List.length m2) : Nat) : Int))))
          (Br (decide ((Int.toNat v7) < (List.length m2)))
            (lap_Pick_l5 k x2 b2 v6 (iadd .i64 v7 1) (List.set m2 (Int.toNat v7) (List.getD x2 (Int.toNat v10) 0)) K0)
            (False))
          (False))
        (False))
      (K0 m2)

/- splicer/lap.Pick (93) -/
def lap_Pick_u (x1 : (List Int)) (b1 : Int) (K0 : (Prop)) (K1 : ((List Int) → Prop)) : Prop :=
  Br (!(decide ((x1.length : Int) = (64 : Int))))
    (K0)
    (Br (decide (b1 < (0 : Int)))
      (K0)
      (Br (decide ((8 : Int) ≤ b1))
        (K0)
        (let m1 : (List Int) := (List.replicate 8 0)
        ∃ q, lap_Pick_l5 q x1 b1 (m1.length : Int) 0 m1 K1)))

noncomputable def lap_Pick : (List Int) → Int → (Prop) → ((List Int) → Prop) → Prop := Classical.choose (⟨lap_Pick_u, rfl⟩ : ∃ q, q = lap_Pick_u)

theorem lap_Pick_def (x1 : (List Int)) (b1 : Int) (K0 : (Prop)) (K1 : ((List Int) → Prop)) : lap_Pick x1 b1 K0 K1 =
  (Br (!(decide ((x1.length : Int) = (64 : Int))))
    (K0)
    (Br (decide (b1 < (0 : Int)))
      (K0)
      (Br (decide ((8 : Int) ≤ b1))
        (K0)
        (let m1 : (List Int) := (List.replicate 8 0)
        ∃ q, lap_Pick_l5 q x1 b1 (m1.length : Int) 0 m1 K1)))) := by
  have e : lap_Pick = lap_Pick_u := Classical.choose_spec (⟨lap_Pick_u, rfl⟩ : ∃ q, q = lap_Pick_u)
  show lap_Pick x1 b1 K0 K1 = lap_Pick_u x1 b1 K0 K1
  rw [e]

/- loop of splicer/lap.blocks$1, region 3 -/
def It_lap_blocks_1_l3 (S : Type) (rd : (((List Int) × Unit) → S → (Bool → S → Prop) → Prop)) : Nat → (List Int) → (List Int) → Int → S → (S → Prop) → (S → Prop) → Prop
  | 0, _, _, _, _, _, _ => False
  | k + 1, v2, v3, v4, s3, K0, K1 => Br (decide (v4 < (8 : Int)))
      (lap_Pick v3 v4
        (dct_Back v2 []
          (rd ([], ()) s3 fun (b3 : Bool) (s4 : S) =>
          Br (!b3)
            (K0 s4)
            (It_lap_blocks_1_l3 S rd k v2 v3 (iadd .i64 v4 1) s4 K0 K1))
          (fun (r2 : (List Int)) =>
          rd (r2, ()) s3 fun (b4 : Bool) (s5 : S) =>
          Br (!b4)
            (K0 s5)
            (It_lap_blocks_1_l3 S rd k v2 v3 (iadd .i64 v4 1) s5 K0 K1)))
        (fun (r3 : (List Int)) =>
        dct_Back v2 r3
          (rd ([], ()) s3 fun (b5 : Bool) (s6 : S) =>
          Br (!b5)
            (K0 s6)
            (It_lap_blocks_1_l3 S rd k v2 v3 (iadd .i64 v4 1) s6 K0 K1))
          (fun (r4 : (List Int)) =>
          rd (r4, ()) s3 fun (b6 : Bool) (s7 : S) =>
          Br (!b6)
            (K0 s7)
            (It_lap_blocks_1_l3 S rd k v2 v3 (iadd .i64 v4 1) s7 K0 K1))))
      (K1 s3)

/- splicer/lap.blocks$1 (92) -/
def It_lap_blocks_1_u (c1 : Bool) (c2 : (List Int)) (c3 : (List Int)) (S : Type) (rd : (((List Int) × Unit) → S → (Bool → S → Prop) → Prop)) (s : S) (K0 : S → Prop) : Prop :=
  Br (!c1)
    (dct_Back c2 c3
      (rd ([], ()) s fun (b1 : Bool) (s1 : S) =>
      K0 s1)
      (fun (r1 : (List Int)) =>
      rd (r1, ()) s fun (b2 : Bool) (s2 : S) =>
      K0 s2))
    (∃ q, It_lap_blocks_1_l3 S rd q c2 c3 0 s K0 K0)

noncomputable def It_lap_blocks_1 : Bool → (List Int) → (List Int) → (S : Type) → (((List Int) × Unit) → S → (Bool → S → Prop) → Prop) → S → (S → Prop) → Prop := Classical.choose (⟨It_lap_blocks_1_u, rfl⟩ : ∃ q, q = It_lap_blocks_1_u)

theorem It_lap_blocks_1_def (c1 : Bool) (c2 : (List Int)) (c3 : (List Int)) (S : Type) (rd : (((List Int) × Unit) → S → (Bool → S → Prop) → Prop)) (s : S) (K0 : S → Prop) : It_lap_blocks_1 c1 c2 c3 S rd s K0 =
  (Br (!c1)
    (dct_Back c2 c3
      (rd ([], ()) s fun (b1 : Bool) (s1 : S) =>
      K0 s1)
      (fun (r1 : (List Int)) =>
      rd (r1, ()) s fun (b2 : Bool) (s2 : S) =>
      K0 s2))
    (∃ q, It_lap_blocks_1_l3 S rd q c2 c3 0 s K0 K0)) := by
  have e : It_lap_blocks_1 = It_lap_blocks_1_u := Classical.choose_spec (⟨It_lap_blocks_1_u, rfl⟩ : ∃ q, q = It_lap_blocks_1_u)
  show It_lap_blocks_1 c1 c2 c3 S rd s K0 = It_lap_blocks_1_u c1 c2 c3 S rd s K0
  rw [e]

/- loop of splicer/window.within, region 5 -/
def window_within_l5 : Nat → Int → (List Int) → Int → Int → (Bool → Prop) → (Prop) → Prop
  | 0, _, _, _, _, _, _ => False
  | k + 1, wide3, v6, v7, v8, K0, K1 => Br (decide (v8 < v7))
      (Br ((decide ((0 : Int) ≤ v8)) && (decide (v8 < (((List.length v6) : Nat) : Int))))
        (let v10 : Int := (List.getD v6 (Int.toNat v8) 0)
        Br (decide (v10 < (isub .i64 0 wide3)))
          (K0 false)
          (Br (decide (wide3 < v10))
            (K0 false)
            (window_within_l5 k wide3 v6 v7 (iadd .i64 v8 1) K0 K1)))
        (False))
      (K1)

/- join of splicer/window.within, region 4 -/
def window_within_j4 (l2 : (List Int)) (wide2 : Int) (K0 : (Bool → Prop)) : Prop :=
  ∃ q, window_within_l5 q wide2 l2 (l2.length : Int) 0 K0
    (K0 true)

/- splicer/window.within (94) -/
def window_within_u (l1 : (List Int)) (more1 : Int) (wide1 : Int) (K0 : (Bool → Prop)) : Prop :=
  let v2 : Int := (isub .i64 (l1.length : Int) more1)
  Br (!(decide (v2 = (64 : Int))))
    (Br (!(decide (v2 = (8 : Int))))
      (K0 false)
      (window_within_j4 l1 wide1 K0))
    (window_within_j4 l1 wide1 K0)

noncomputable def window_within : (List Int) → Int → Int → (Bool → Prop) → Prop := Classical.choose (⟨window_within_u, rfl⟩ : ∃ q, q = window_within_u)

theorem window_within_def (l1 : (List Int)) (more1 : Int) (wide1 : Int) (K0 : (Bool → Prop)) : window_within l1 more1 wide1 K0 =
  (let v2 : Int := (isub .i64 (l1.length : Int) more1)
  Br (!(decide (v2 = (64 : Int))))
    (Br (!(decide (v2 = (8 : Int))))
      (K0 false)
      (window_within_j4 l1 wide1 K0))
    (window_within_j4 l1 wide1 K0)) := by
  have e : window_within = window_within_u := Classical.choose_spec (⟨window_within_u, rfl⟩ : ∃ q, q = window_within_u)
  show window_within l1 more1 wide1 K0 = window_within_u l1 more1 wide1 K0
  rw [e]

/- splicer/window.Slope (95) -/
def window_Slope_u  (K0 : ((List Int) → Prop)) : Prop :=
  K0 [494, 4325, 11207, 19363, 26435, 30792, 32481, 32764]

noncomputable def window_Slope : ((List Int) → Prop) → Prop := Classical.choose (⟨window_Slope_u, rfl⟩ : ∃ q, q = window_Slope_u)

theorem window_Slope_def  (K0 : ((List Int) → Prop)) : window_Slope K0 =
  (K0 [494, 4325, 11207, 19363, 26435, 30792, 32481, 32764]) := by
  have e : window_Slope = window_Slope_u := Classical.choose_spec (⟨window_Slope_u, rfl⟩ : ∃ q, q = window_Slope_u)
  show window_Slope K0 = window_Slope_u K0
  rw [e]

/- loop of splicer/window.Left, region 6 -/
def window_Left_l6 : Nat → (List Int) → Int → (List Int) → (List Int) → (List Int) → ((List Int) → (List Int) → Prop) → Prop
  | 0, _, _, _, _, _, _ => False
  | k + 1, u2, v2, m4, m5, m6, K0 => Br (decide (v2 < (4 : Int)))
      (let v4 : Int := (iadd .i64 4 v2)
      let v5 : Int := (iadd .i64 4 v2)
      Br ((decide ((0 : Int) ≤ v5)) && (decide (v5 < (8 : Int))))
        (Br (decide ((Int.toNat v5) < (List.length m6)))
          (Br ((decide ((0 : Int) ≤ v2)) && (decide (v2 < (((List.length u2) : Nat) : Int))))
            (Br ((decide ((0 : Int) ≤ v4)) && (decide (v4 < (8 : Int))))
              (Br (decide ((Int.toNat v4) < (List.length m5)))
                (let m7 : (List Int) := (List.set m5 (Int.toNat v4) (imul .i64 (List.getD m6 (Int.toNat v5) 0) (List.getD u2 (Int.toNat v2) 0)))
                let v9 : Int := (isub .i64 3 v2)
                let v10 : Int := (isub .i64 3 v2)
                Br ((decide ((0 : Int) ≤ v10)) && (decide (v10 < (8 : Int))))
                  (Br (decide ((Int.toNat v10) < (List.length m6)))
                    (Br ((decide ((0 : Int) ≤ v2)) && (decide (v2 < (((List.length u2) : Nat) : Int))))
                      (Br ((decide ((0 : Int) ≤ v9)) && (decide (v9 < (8 : Int))))
                        (Br (decide ((Int.toNat v9) < (List.length m7)))
                          (window_Left_l6 k u2 (iadd .i64 v2 1) m4 (List.set m7 (Int.toNat v9) (imul .i64 (List.getD m6 (Int.toNat v10) 0) (List.getD u2 (Int.toNat v2) 0))) m6 K0)
                          (False))
                        (False))
                      (False))
                    (False))
                  (False))
                (False))
              (False))
            (False))
          (False))
        (False))
      (K0 m4 m5)

/- splicer/window.Left (67) -/
def window_Left_u (u1 : (List Int)) (K0 : ((List Int) → Prop)) : Prop :=
  let m2 : (List Int) := (List.replicate 8 0)
  window_within u1 0 1073741824
    (fun (r1 : Bool) =>
    Br (!r1)
      (K0 m2)
      (window_Slope
        (fun (r2 : (List Int)) =>
        ∃ q, window_Left_l6 q u1 0 (List.replicate 8 0) m2 r2
          (fun (m9 : (List Int)) (m10 : (List Int)) =>
          K0 m10))))

noncomputable def window_Left : (List Int) → ((List Int) → Prop) → Prop := Classical.choose (⟨window_Left_u, rfl⟩ : ∃ q, q = window_Left_u)

theorem window_Left_def (u1 : (List Int)) (K0 : ((List Int) → Prop)) : window_Left u1 K0 =
  (let m2 : (List Int) := (List.replicate 8 0)
  window_within u1 0 1073741824
    (fun (r1 : Bool) =>
    Br (!r1)
      (K0 m2)
      (window_Slope
        (fun (r2 : (List Int)) =>
        ∃ q, window_Left_l6 q u1 0 (List.replicate 8 0) m2 r2
          (fun (m9 : (List Int)) (m10 : (List Int)) =>
          K0 m10))))) := by
  have e : window_Left = window_Left_u := Classical.choose_spec (⟨window_Left_u, rfl⟩ : ∃ q, q = window_Left_u)
  show window_Left u1 K0 = window_Left_u u1 K0
  rw [e]

/- join of splicer/window.Meet, region 6 -/
def window_Meet_j6 (j1 : Int) (v11 : Int) (v12 : Bool) (m7 : (List Int)) (m8 : (List Int)) (m9 : (List Int)) (m10 : (List Int)) (K0 : (Int → (List Int) → (List Int) → (List Int) → (List Int) → Prop)) : Prop :=
  Br v12
    (Br ((decide ((0 : Int) ≤ j1)) && (decide (j1 < (8 : Int))))
      (Br (decide ((Int.toNat j1) < (List.length m7)))
        (Br ((decide ((0 : Int) ≤ j1)) && (decide (j1 < (8 : Int))))
          (Br (decide ((Int.toNat j1) < (List.length m8)))
            (num_Shr (iadd .i64 (List.getD m7 (Int.toNat j1) 0) (List.getD m8 (Int.toNat j1) 0)) 15
              (fun (r1 : Int) =>
              Br ((decide ((0 : Int) ≤ j1)) && (decide (j1 < (8 : Int))))
                (Br (decide ((Int.toNat j1) < (List.length m10)))
                  (K0 v11 m7 m8 m9 (List.set m10 (Int.toNat j1) r1))
                  (False))
                (False)))
            (False))
          (False))
        (False))
      (False))
    (K0 v11 m7 m8 m9 m10)

/- loop of splicer/window.Meet, region 3 -/
def window_Meet_l3 : Nat → Int → (List Int) → (List Int) → (List Int) → (List Int) → ((List Int) → (List Int) → Prop) → Prop
  | 0, _, _, _, _, _, _ => False
  | k + 1, v1, m3, m4, m5, m6, K0 => Br (decide (v1 < (8 : Int)))
      (Br ((decide ((0 : Int) ≤ v1)) && (decide (v1 < (8 : Int))))
        (Br (decide ((Int.toNat v1) < (List.length m3)))
          (Br ((decide ((0 : Int) ≤ v1)) && (decide (v1 < (8 : Int))))
            (Br (decide ((Int.toNat v1) < (List.length m4)))
              (Br (decide ((-70368744177664 : Int) ≤ (imin (List.getD m3 (Int.toNat v1) 0) (List.getD m4 (Int.toNat v1) 0))))
                (Br ((decide ((0 : Int) ≤ v1)) && (decide (v1 < (8 : Int))))
                  (Br (decide ((Int.toNat v1) < (List.length m3)))
                    (Br ((decide ((0 : Int) ≤ v1)) && (decide (v1 < (8 : Int))))
                      (Br (decide ((Int.toNat v1) < (List.length m4)))
                        (window_Meet_j6 v1 v1 (decide ((imax (List.getD m3 (Int.toNat v1) 0) (List.getD m4 (Int.toNat v1) 0)) ≤ (70368744177664 : Int))) m3 m4 m5 m6
                          (fun (v16 : Int) (m12 : (List Int)) (m13 : (List Int)) (m14 : (List Int)) (m15 : (List Int)) =>
                          window_Meet_l3 k (iadd .i64 v16 1) m12 m13 m14 m15 K0))
                        (False))
                      (False))
                    (False))
                  (False))
                (window_Meet_j6 v1 v1 false m3 m4 m5 m6
                  (fun (v17 : Int) (m16 : (List Int)) (m17 : (List Int)) (m18 : (List Int)) (m19 : (List Int)) =>
                  window_Meet_l3 k (iadd .i64 v17 1) m16 m17 m18 m19 K0)))
              (False))
            (False))
          (False))
        (False))
      (K0 m5 m6)

/- splicer/window.Meet (66) -/
def window_Meet_u (left1 : (List Int)) (right1 : (List Int)) (K0 : ((List Int) → Prop)) : Prop :=
  ∃ q, window_Meet_l3 q 0 left1 right1 (List.replicate 8 0) (List.replicate 8 0)
    (fun (m20 : (List Int)) (m21 : (List Int)) =>
    K0 m21)

noncomputable def window_Meet : (List Int) → (List Int) → ((List Int) → Prop) → Prop := Classical.choose (⟨window_Meet_u, rfl⟩ : ∃ q, q = window_Meet_u)

theorem window_Meet_def (left1 : (List Int)) (right1 : (List Int)) (K0 : ((List Int) → Prop)) : window_Meet left1 right1 K0 =
  (∃ q, window_Meet_l3 q 0 left1 right1 (List.replicate 8 0) (List.replicate 8 0)
    (fun (m20 : (List Int)) (m21 : (List Int)) =>
    K0 m21)) := by
  have e : window_Meet = window_Meet_u := Classical.choose_spec (⟨window_Meet_u, rfl⟩ : ∃ q, q = window_Meet_u)
  show window_Meet left1 right1 K0 = window_Meet_u left1 right1 K0
  rw [e]

/- loop of splicer/window.Right, region 6 -/
def window_Right_l6 : Nat → (List Int) → Int → (List Int) → (List Int) → (List Int) → ((List Int) → (List Int) → Prop) → Prop
  | 0, _, _, _, _, _, _ => False
  | k + 1, u2, v2, m4, m5, m6, K0 => Br (decide (v2 < (4 : Int)))
      (let v6 : Int := (isub .i64 (isub .i64 (u2.length : Int) 1) v2)
      Br ((decide ((0 : Int) ≤ v6)) && (decide (v6 < (((List.length u2) : Nat) : Int))))
        (let v7 : Int := (List.getD u2 (Int.toNat v6) 0)
        let v8 : Int := (isub .i64 3 v2)
        let v9 : Int := (iadd .i64 4 v2)
        Br ((decide ((0 : Int) ≤ v9)) && (decide (v9 < (8 : Int))))
          (Br (decide ((Int.toNat v9) < (List.length m6)))
            (Br ((decide ((0 : Int) ≤ v8)) && (decide (v8 < (8 : Int))))
              (Br (decide ((Int.toNat v8) < (List.length m5)))
                (let m7 : (List Int) := (List.set m5 (Int.toNat v8) (imul .i64 (List.getD m6 (Int.toNat v9) 0) v7))
                let v12 : Int := (iadd .i64 4 v2)
                let v13 : Int := (isub .i64 3 v2)
                Br ((decide ((0 : Int) ≤ v13)) && (decide (v13 < (8 : Int))))
                  (Br (decide ((Int.toNat v13) < (List.length m6)))
                    (Br ((decide ((0 : Int) ≤ v12)) && (decide (v12 < (8 : Int))))
                      (Br (decide ((Int.toNat v12) < (List.length m7)))
                        (window_Right_l6 k u2 (iadd .i64 v2 1) m4 (List.set m7 (Int.toNat v12) (imul .i64 (isub .i64 0 (List.getD m6 (Int.toNat v13) 0)) v7)) m6 K0)
                        (False))
                      (False))
                    (False))
                  (False))
                (False))
              (False))
            (False))
          (False))
        (False))
      (K0 m4 m5)

/- splicer/window.Right (68) -/
def window_Right_u (u1 : (List Int)) (K0 : ((List Int) → Prop)) : Prop :=
  let m2 : (List Int) := (List.replicate 8 0)
  window_within u1 0 1073741824
    (fun (r1 : Bool) =>
    Br (!r1)
      (K0 m2)
      (window_Slope
        (fun (r2 : (List Int)) =>
        ∃ q, window_Right_l6 q u1 0 (List.replicate 8 0) m2 r2
          (fun (m9 : (List Int)) (m10 : (List Int)) =>
          K0 m10))))

noncomputable def window_Right : (List Int) → ((List Int) → Prop) → Prop := Classical.choose (⟨window_Right_u, rfl⟩ : ∃ q, q = window_Right_u)

theorem window_Right_def (u1 : (List Int)) (K0 : ((List Int) → Prop)) : window_Right u1 K0 =
  (let m2 : (List Int) := (List.replicate 8 0)
  window_within u1 0 1073741824
    (fun (r1 : Bool) =>
    Br (!r1)
      (K0 m2)
      (window_Slope
        (fun (r2 : (List Int)) =>
        ∃ q, window_Right_l6 q u1 0 (List.replicate 8 0) m2 r2
          (fun (m9 : (List Int)) (m10 : (List Int)) =>
          K0 m10))))) := by
  have e : window_Right = window_Right_u := Classical.choose_spec (⟨window_Right_u, rfl⟩ : ∃ q, q = window_Right_u)
  show window_Right u1 K0 = window_Right_u u1 K0
  rw [e]

/- splicer/num.Sat (69) -/
def num_Sat_u (x1 : Int) (K0 : (Int → Prop)) : Prop :=
  K0 (imin (imax x1 (-32768)) 32767)

noncomputable def num_Sat : Int → (Int → Prop) → Prop := Classical.choose (⟨num_Sat_u, rfl⟩ : ∃ q, q = num_Sat_u)

theorem num_Sat_def (x1 : Int) (K0 : (Int → Prop)) : num_Sat x1 K0 =
  (K0 (imin (imax x1 (-32768)) 32767)) := by
  have e : num_Sat = num_Sat_u := Classical.choose_spec (⟨num_Sat_u, rfl⟩ : ∃ q, q = num_Sat_u)
  show num_Sat x1 K0 = num_Sat_u x1 K0
  rw [e]

/- range, region 5 -/
def lap_Frame_r5b (x2 : (List Int)) (m3 : (List Int)) (m4 : (List Int)) (m5 : (List Int)) (K0 : ((List Int) → (List Int) → (List Int) → Prop)) : Prop :=
  window_Left x2
    (fun (r5 : (List Int)) =>
    window_Meet m3 r5
      (fun (r6 : (List Int)) =>
      Br (decide (8 ≤ (List.length r6)))
        (Br (decide ((((List.length m5) + (List.length (List.take 8 (List.drop 0 r6)))) * 8) ≤ 140737488355328))
          (let m7 : (List Int) := (m5 ++ (List.take 8 (List.drop 0 r6)))
          let v4 : Int := (isub .i64 (x2.length : Int) 4)
          Br ((decide ((0 : Int) ≤ v4)) && (decide (v4 ≤ (((List.length x2) : Nat) : Int))))
            (Br (decide ((4 : Int) ≤ (((Int.toNat v4) : Nat) : Int)))
              (let v5 : (List Int) := (List.take ((Int.toNat v4) - 4) (List.drop 4 x2))
              Br (decide ((((List.length m7) + (List.length v5)) * 8) ≤ 140737488355328))
                (window_Right x2
                  (fun (r7 : (List Int)) =>
                  K0 r7 m4 (m7 ++ v5)))
                (False))
              (False))
            (False))
          (False))
        (False)))
def lap_Frame_r5 (c0_ : Bool) (c1_ : (List Int)) (c2_ : (List Int)) (m3 : (List Int)) (m4 : (List Int)) (m5 : (List Int)) (K0 : ((List Int) → (List Int) → (List Int) → Prop)) : Prop :=
  It_lap_blocks_1 c0_ c1_ c2_ (Rs ((Unit) × ((List Int) × (List Int) × (List Int) × Unit)) (Empty))
    (fun x s Kb => s.on fun (v : (Unit) × ((List Int) × (List Int) × (List Int) × Unit)) => lap_Frame_r5b x.1 v.2.1 v.2.2.1 v.2.2.2.1 (fun (y0 : (List Int)) (y1 : (List Int)) (y2 : (List Int)) => Kb true (.go ((()), (y0, y1, y2, ())))))
    (.go ((()), (m3, m4, m5, ())))
    (fun s => s.fin (fun (v : (Unit) × ((List Int) × (List Int) × (List Int) × Unit)) => K0 v.2.1 v.2.2.1 v.2.2.2.1) (fun _ => False))

/- loop of splicer/lap.Frame, region 11 -/
def lap_Frame_l11 : Nat → Int → Int → (List Int) → (List Int) → (List Int) → ((List Int) → (List Int) → (List Int) → Prop) → Prop
  | 0, _, _, _, _, _, _ => False
  | k + 1, v7, v8, m12, m13, m14, K0 => Br (decide (v8 < v7))
      (Br ((decide ((0 : Int) ≤ v8)) && (decide (v8 < (((List.length m14) : Nat) : Int))))
        (Br (decide ((Int.toNat v8) < (List.length m14)))
          (num_Sat (List.getD m14 (Int.toNat v8) 0)
            (fun (r8 : Int) =>
            Br ((decide ((0 : Int) ≤ v8)) && (decide (v8 < (((List.length m14) : Nat) : Int))))
              (Br (decide ((Int.toNat v8) < (List.length m14)))
                (lap_Frame_l11 k v7 (iadd .i64 v8 1) m12 m13 (List.set m14 (Int.toNat v8) r8) K0)
                (False))
              (False)))
          (False))
        (False))
      (K0 m12 m13 m14)

/- splicer/lap.Frame (33) -/
def lap_Frame_u (t1 : (List Int)) (tail1 : (List Int)) (x1 : (List Int)) (short1 : Bool) (K0 : ((List Int) → Prop)) (K1 : ((List Int) → (List Int) → Prop)) : Prop :=
  lap_right x1 tail1
    (fun (r1 : Bool) =>
    Br (!r1)
      (K0 (List.replicate 8 0))
      (lap_blocks t1 x1 short1
        (fun (r2 : Bool) (r3 : (List Int)) (r4 : (List Int)) =>
        lap_Frame_r5 r2 r3 r4 tail1 (List.replicate 8 0) (List.replicate 0 0)
          (fun (m9 : (List Int)) (m10 : (List Int)) (m11 : (List Int)) =>
          ∃ q, lap_Frame_l11 q (m11.length : Int) 0 m9 m10 m11
            (fun (m16 : (List Int)) (m17 : (List Int)) (m18 : (List Int)) =>
            K1 m16 m18)))))

noncomputable def lap_Frame : (List Int) → (List Int) → (List Int) → Bool → ((List Int) → Prop) → ((List Int) → (List Int) → Prop) → Prop := Classical.choose (⟨lap_Frame_u, rfl⟩ : ∃ q, q = lap_Frame_u)

theorem lap_Frame_def (t1 : (List Int)) (tail1 : (List Int)) (x1 : (List Int)) (short1 : Bool) (K0 : ((List Int) → Prop)) (K1 : ((List Int) → (List Int) → Prop)) : lap_Frame t1 tail1 x1 short1 K0 K1 =
  (lap_right x1 tail1
    (fun (r1 : Bool) =>
    Br (!r1)
      (K0 (List.replicate 8 0))
      (lap_blocks t1 x1 short1
        (fun (r2 : Bool) (r3 : (List Int)) (r4 : (List Int)) =>
        lap_Frame_r5 r2 r3 r4 tail1 (List.replicate 8 0) (List.replicate 0 0)
          (fun (m9 : (List Int)) (m10 : (List Int)) (m11 : (List Int)) =>
          ∃ q, lap_Frame_l11 q (m11.length : Int) 0 m9 m10 m11
            (fun (m16 : (List Int)) (m17 : (List Int)) (m18 : (List Int)) =>
            K1 m16 m18)))))) := by
  have e : lap_Frame = lap_Frame_u := Classical.choose_spec (⟨lap_Frame_u, rfl⟩ : ∃ q, q = lap_Frame_u)
  show lap_Frame t1 tail1 x1 short1 K0 K1 = lap_Frame_u t1 tail1 x1 short1 K0 K1
  rw [e]

/- loop of splicer/splicerref01.Same, region 4 -/
def R01_Same_l4 : Nat → (List Int) → (List Int) → Int → (Bool → Prop) → (Prop) → Prop
  | 0, _, _, _, _, _ => False
  | k + 1, a2, b2, i1, K0, K1 => Br (decide (i1 < (a2.length : Int)))
      (Br ((decide ((0 : Int) ≤ i1)) && (decide (i1 < (((List.length a2) : Nat) : Int))))
        (Br ((decide ((0 : Int) ≤ i1)) && (decide (i1 < (((List.length b2) : Nat) : Int))))
          (Br (!(decide ((List.getD a2 (Int.toNat i1) 0) = (List.getD b2 (Int.toNat i1) 0))))
            (K0 false)
            (R01_Same_l4 k a2 b2 (iadd .i64 i1 1) K0 K1))
          (False))
        (False))
      (K1)

/- splicer/splicerref01.Same (19) -/
def R01_Same_u (a1 : (List Int)) (b1 : (List Int)) (K0 : (Bool → Prop)) : Prop :=
  Br (!(decide ((a1.length : Int) = (b1.length : Int))))
    (K0 false)
    (∃ q, R01_Same_l4 q a1 b1 0 K0
      (K0 true))

noncomputable def R01_Same : (List Int) → (List Int) → (Bool → Prop) → Prop := Classical.choose (⟨R01_Same_u, rfl⟩ : ∃ q, q = R01_Same_u)

theorem R01_Same_def (a1 : (List Int)) (b1 : (List Int)) (K0 : (Bool → Prop)) : R01_Same a1 b1 K0 =
  (Br (!(decide ((a1.length : Int) = (b1.length : Int))))
    (K0 false)
    (∃ q, R01_Same_l4 q a1 b1 0 K0
      (K0 true))) := by
  have e : R01_Same = R01_Same_u := Classical.choose_spec (⟨R01_Same_u, rfl⟩ : ∃ q, q = R01_Same_u)
  show R01_Same a1 b1 K0 = R01_Same_u a1 b1 K0
  rw [e]

/- join of splicer/splicerlaw12.awake, region 6 -/
def L12_awake_j6 (m10 : (List Int)) (m11 : (List Int)) (m12 : (List Int)) (m13 : (List Int)) (K0 : (Bool → Prop)) : Prop :=
  Br (decide ((m10.length : Int) = (64 : Int)))
    (R01_Same m10 (List.replicate 64 0)
      (fun (r8 : Bool) =>
      Br r8
        (Br (eqv ((.arr 8 (.int .i64))) m11 (List.replicate 8 0))
          (Br (decide ((m12.length : Int) = (64 : Int)))
            (Br (decide ((10 : Int) < (((List.length m12) : Nat) : Int)))
              (Br (decide (10 < (List.length m12)))
                (Br (decide ((900 : Int) < (List.getD m12 10 0)))
                  (Br (decide ((10 : Int) < (((List.length m12) : Nat) : Int)))
                    (Br (decide (10 < (List.length m12)))
                      (Br (decide ((List.getD m12 10 0) < (1000 : Int)))
                        (K0 (!(eqv ((.arr 8 (.int .i64))) m13 (List.replicate 8 0))))
                        (K0 false))
                      (False))
                    (False))
                  (K0 false))
                (False))
              (False))
            (K0 false))
          (K0 false))
        (K0 false)))
    (K0 false)

/- join of splicer/splicerlaw12.awake, region 4 -/
def L12_awake_j4 (t1 : (List Int)) (m4 : (List Int)) (m5 : (List Int)) (m6 : (List Int)) (K0 : (Bool → Prop)) : Prop :=
  Br (decide ((0 : Int) < (((List.length m4) : Nat) : Int)))
    (Br (decide (0 < (List.length m4)))
      (lap_Frame t1 (List.replicate 8 0) (List.set m4 0 32000) false
        (fun (r5 : (List Int)) =>
        L12_awake_j6 m5 m6 [] r5 K0)
        (fun (r6 : (List Int)) (r7 : (List Int)) =>
        L12_awake_j6 m5 m6 r7 r6 K0))
      (False))
    (False)

/- splicer/splicerlaw12.awake (32) -/
def L12_awake_u  (K0 : (Bool → Prop)) : Prop :=
  trig_Make
    (fun (r1 : (List Int)) =>
    let m1 : (List Int) := (List.replicate 64 0)
    lap_Frame r1 (List.replicate 8 0) m1 true
      (fun (r2 : (List Int)) =>
      L12_awake_j4 r1 m1 [] r2 K0)
      (fun (r3 : (List Int)) (r4 : (List Int)) =>
      L12_awake_j4 r1 m1 r4 r3 K0))

noncomputable def L12_awake : (Bool → Prop) → Prop := Classical.choose (⟨L12_awake_u, rfl⟩ : ∃ q, q = L12_awake_u)

theorem L12_awake_def  (K0 : (Bool → Prop)) : L12_awake K0 =
  (trig_Make
    (fun (r1 : (List Int)) =>
    let m1 : (List Int) := (List.replicate 64 0)
    lap_Frame r1 (List.replicate 8 0) m1 true
      (fun (r2 : (List Int)) =>
      L12_awake_j4 r1 m1 [] r2 K0)
      (fun (r3 : (List Int)) (r4 : (List Int)) =>
      L12_awake_j4 r1 m1 r4 r3 K0))) := by
  have e : L12_awake = L12_awake_u := Classical.choose_spec (⟨L12_awake_u, rfl⟩ : ∃ q, q = L12_awake_u)
  show L12_awake K0 = L12_awake_u K0
  rw [e]

/- loop of splicer/splicerref12.Pick, region 5 -/
def R12_Pick_l5 : Nat → (List Int) → Int → Int → (List Int) → ((List Int) → Prop) → Prop
  | 0, _, _, _, _, _ => False
  | k + 1, x2, b2, k1, m1, K0 => Br (decide (k1 < (8 : Int)))
      (let v7 : Int := (iadd .i64 (imul .i64 8 k1) b2)
      Br ((decide ((0 : Int) ≤ v7)) && (decide (v7 < (((List.length x2) : Nat) : Int))))
        (let m2 : (List Int) := [(List.getD x2 (Int.toNat v7) 0)]
        Br (decide ((((List.length m1) + (List.length m2)) * 8) ≤ 140737488355328))
          (R12_Pick_l5 k x2 b2 (iadd .i64 k1 1) (m1 ++ m2) K0)
          (False))
        (False))
      (K0 m1)

/- splicer/splicerref12.Pick (70) -/
def R12_Pick_u (x1 : (List Int)) (b1 : Int) (K0 : (Prop)) (K1 : ((List Int) → Prop)) : Prop :=
  Br (!(decide ((x1.length : Int) = (64 : Int))))
    (K0)
    (Br (decide (b1 < (0 : Int)))
      (K0)
      (Br (decide ((7 : Int) < b1))
        (K0)
        (∃ q, R12_Pick_l5 q x1 b1 0 [] K1)))

noncomputable def R12_Pick : (List Int) → Int → (Prop) → ((List Int) → Prop) → Prop := Classical.choose (⟨R12_Pick_u, rfl⟩ : ∃ q, q = R12_Pick_u)

theorem R12_Pick_def (x1 : (List Int)) (b1 : Int) (K0 : (Prop)) (K1 : ((List Int) → Prop)) : R12_Pick x1 b1 K0 K1 =
  (Br (!(decide ((x1.length : Int) = (64 : Int))))
    (K0)
    (Br (decide (b1 < (0 : Int)))
      (K0)
      (Br (decide ((7 : Int) < b1))
        (K0)
        (∃ q, R12_Pick_l5 q x1 b1 0 [] K1)))) := by
  have e : R12_Pick = R12_Pick_u := Classical.choose_spec (⟨R12_Pick_u, rfl⟩ : ∃ q, q = R12_Pick_u)
  show R12_Pick x1 b1 K0 K1 = R12_Pick_u x1 b1 K0 K1
  rw [e]

/- loop of splicer/splicerref12.Spectra, region 5 -/
def R12_Spectra_l5 : Nat → (List Int) → Int → (List (List Int)) → ((List (List Int)) → Prop) → Prop
  | 0, _, _, _, _ => False
  | k + 1, x2, b1, m2, K0 => Br (decide (b1 < (8 : Int)))
      (R12_Pick x2 b1
        (let m3 : (List (List Int)) := [[]]
        Br (decide ((((List.length m2) + (List.length m3)) * 24) ≤ 140737488355328))
          (R12_Spectra_l5 k x2 (iadd .i64 b1 1) (m2 ++ m3) K0)
          (False))
        (fun (r1 : (List Int)) =>
        let m5 : (List (List Int)) := [r1]
        Br (decide ((((List.length m2) + (List.length m5)) * 24) ≤ 140737488355328))
          (R12_Spectra_l5 k x2 (iadd .i64 b1 1) (m2 ++ m5) K0)
          (False)))
      (K0 m2)

/- splicer/splicerref12.Spectra (34) -/
def R12_Spectra_u (x1 : (List Int)) (short1 : Bool) (K0 : ((List (List Int)) → Prop)) (K1 : ((List (List Int)) → Prop)) : Prop :=
  Br (!short1)
    (K0 [x1])
    (∃ q, R12_Spectra_l5 q x1 0 [] K1)

noncomputable def R12_Spectra : (List Int) → Bool → ((List (List Int)) → Prop) → ((List (List Int)) → Prop) → Prop := Classical.choose (⟨R12_Spectra_u, rfl⟩ : ∃ q, q = R12_Spectra_u)

theorem R12_Spectra_def (x1 : (List Int)) (short1 : Bool) (K0 : ((List (List Int)) → Prop)) (K1 : ((List (List Int)) → Prop)) : R12_Spectra x1 short1 K0 K1 =
  (Br (!short1)
    (K0 [x1])
    (∃ q, R12_Spectra_l5 q x1 0 [] K1)) := by
  have e : R12_Spectra = R12_Spectra_u := Classical.choose_spec (⟨R12_Spectra_u, rfl⟩ : ∃ q, q = R12_Spectra_u)
  show R12_Spectra x1 short1 K0 K1 = R12_Spectra_u x1 short1 K0 K1
  rw [e]

/- splicer/splicerref07.quarter (88) -/
def R07_quarter_u  (K0 : ((List Int) → Prop)) : Prop :=
  K0 [16777216, 16775953, 16772163, 16765847, 16757007, 16745643, 16731757, 16715352, 16696429, 16674992, 16651044, 16624588, 16595628, 16564169, 16530216, 16493773, 16454846, 16413442, 16369565, 16323224, 16274424, 16223173, 16169479, 16113350, 16054795, 15993821, 15930439, 15864658, 15796488, 15725939, 15653022, 15577747, 15500126, 15420172, 15337895, 15253308, 15166424, 15077256, 14985817, 14892122, 14796184, 14698017, 14597637, 14495059, 14390298, 14283370, 14174291, 14063077, 13949745, 13834313, 13716797, 13597215, 13475586, 13351928, 13226258, 13098597, 12968963, 12837376, 12703856, 12568423, 12431097, 12291899, 12150850, 12007971, 11863283, 11716809, 11568571, 11418590, 11266890, 11113493, 10958422, 10801701, 10643353, 10483403, 10321873, 10158790, 9994176, 9828057, 9660458, 9491405, 9320922, 9149035, 8975771, 8801154, 8625213, 8447972, 8269459, 8089701, 7908725, 7726557, 7543226, 7358759, 7173184, 6986529, 6798821, 6610090, 6420363, 6229669, 6038037, 5845495, 5652074, 5457801, 5262706, 5066819, 4870169, 4672785, 4474698, 4275936, 4076531, 3876512, 3675909, 3474752, 3273072, 3070900, 2868265, 2665197, 2461729, 2257890, 2053710, 1849222, 1644455, 1439440, 1234209, 1028791, 823219, 617523, 411733, 205882, 0]

noncomputable def R07_quarter : ((List Int) → Prop) → Prop := Classical.choose (⟨R07_quarter_u, rfl⟩ : ∃ q, q = R07_quarter_u)

theorem R07_quarter_def  (K0 : ((List Int) → Prop)) : R07_quarter K0 =
  (K0 [16777216, 16775953, 16772163, 16765847, 16757007, 16745643, 16731757, 16715352, 16696429, 16674992, 16651044, 16624588, 16595628, 16564169, 16530216, 16493773, 16454846, 16413442, 16369565, 16323224, 16274424, 16223173, 16169479, 16113350, 16054795, 15993821, 15930439, 15864658, 15796488, 15725939, 15653022, 15577747, 15500126, 15420172, 15337895, 15253308, 15166424, 15077256, 14985817, 14892122, 14796184, 14698017, 14597637, 14495059, 14390298, 14283370, 14174291, 14063077, 13949745, 13834313, 13716797, 13597215, 13475586, 13351928, 13226258, 13098597, 12968963, 12837376, 12703856, 12568423, 12431097, 12291899, 12150850, 12007971, 11863283, 11716809, 11568571, 11418590, 11266890, 11113493, 10958422, 10801701, 10643353, 10483403, 10321873, 10158790, 9994176, 9828057, 9660458, 9491405, 9320922, 9149035, 8975771, 8801154, 8625213, 8447972, 8269459, 8089701, 7908725, 7726557, 7543226, 7358759, 7173184, 6986529, 6798821, 6610090, 6420363, 6229669, 6038037, 5845495, 5652074, 5457801, 5262706, 5066819, 4870169, 4672785, 4474698, 4275936, 4076531, 3876512, 3675909, 3474752, 3273072, 3070900, 2868265, 2665197, 2461729, 2257890, 2053710, 1849222, 1644455, 1439440, 1234209, 1028791, 823219, 617523, 411733, 205882, 0]) := by
  have e : R07_quarter = R07_quarter_u := Classical.choose_spec (⟨R07_quarter_u, rfl⟩ : ∃ q, q = R07_quarter_u)
  show R07_quarter K0 = R07_quarter_u K0
  rw [e]

/- loop of splicer/splicerref07.Make, region 4 -/
def R07_Make_l4 : Nat → Int → (List Int) → (List Int) → ((List Int) → Prop) → Prop
  | 0, _, _, _, _ => False
  | k + 1, k1, m1, m2, K0 => Br (decide (k1 < (512 : Int)))
      (let v3 : Int := (imin k1 (isub .i64 512 k1))
      Br (decide ((128 : Int) < v3))
        (let v5 : Int := (isub .i64 256 v3)
        Br ((decide ((0 : Int) ≤ v5)) && (decide (v5 < (((List.length m1) : Nat) : Int))))
          (Br (decide ((Int.toNat v5) < (List.length m1)))
            (let m3 : (List Int) := [(isub .i64 0 (List.getD m1 (Int.toNat v5) 0))]
            Br (decide ((((List.length m2) + (List.length m3)) * 8) ≤ 140737488355328))
              (R07_Make_l4 k (iadd .i64 k1 1) m1 (m2 ++ m3) K0)
              (False))
            (False))
          (False))
        (Br ((decide ((0 : Int) ≤ v3)) && (decide (v3 < (((List.length m1) : Nat) : Int))))
          (Br (decide ((Int.toNat v3) < (List.length m1)))
            (let m5 : (List Int) := [(List.getD m1 (Int.toNat v3) 0)]
            Br (decide ((((List.length m2) + (List.length m5)) * 8) ≤ 140737488355328))
              (R07_Make_l4 k (iadd .i64 k1 1) m1 (m2 ++ m5) K0)
              (False))
            (False))
          (False)))
      (K0 m2)

/- splicer/splicerref07.Make (76) -/
def R07_Make_u  (K0 : ((List Int) → Prop)) : Prop :=
  R07_quarter
    (fun (r1 : (List Int)) =>
    ∃ q, R07_Make_l4 q 0 r1 [] K0)

noncomputable def R07_Make : ((List Int) → Prop) → Prop := Classical.choose (⟨R07_Make_u, rfl⟩ : ∃ q, q = R07_Make_u)

theorem R07_Make_def  (K0 : ((List Int) → Prop)) : R07_Make K0 =
  (R07_quarter
    (fun (r1 : (List Int)) =>
    ∃ q, R07_Make_l4 q 0 r1 [] K0)) := by
  have e : R07_Make = R07_Make_u := Classical.choose_spec (⟨R07_Make_u, rfl⟩ : ∃ q, q = R07_Make_u)
  show R07_Make K0 = R07_Make_u K0
  rw [e]

/- loop of splicer/splicerref10.sum, region 4 -/
def R10_sum_l4 : Nat → (List Int) → (List Int) → Int → Int → Int → Int → (Int → Prop) → Prop
  | 0, _, _, _, _, _, _, _ => False
  | k + 1, c2, l2, k2, n1, a1, i1, K0 => Br (decide (i1 < (l2.length : Int)))
      (Br ((decide ((0 : Int) ≤ i1)) && (decide (i1 < (((List.length l2) : Nat) : Int))))
        (let v12 : Int := (irem .i64 (imul .i64 (imul .i64 a1 (iadd .i64 (imul .i64 2 i1) 1)) (iadd .i64 (imul .i64 2 k2) 1)) 512)
        Br ((decide ((0 : Int) ≤ v12)) && (decide (v12 < (((List.length c2) : Nat) : Int))))
          (R10_sum_l4 k c2 l2 k2 (iadd .i64 n1 (imul .i64 (List.getD l2 (Int.toNat i1) 0) (List.getD c2 (Int.toNat v12) 0))) a1 (iadd .i64 i1 1) K0)
          (False))
        (False))
      (K0 n1)

/- splicer/splicerref10.sum (77) -/
def R10_sum_u (c1 : (List Int)) (l1 : (List Int)) (k1 : Int) (K0 : (Int → Prop)) : Prop :=
  Br (decide ((l1.length : Int) = (0 : Int)))
    (False)
    (∃ q, R10_sum_l4 q c1 l1 k1 0 (iquo .i64 64 (l1.length : Int)) 0 K0)

noncomputable def R10_sum : (List Int) → (List Int) → Int → (Int → Prop) → Prop := Classical.choose (⟨R10_sum_u, rfl⟩ : ∃ q, q = R10_sum_u)

theorem R10_sum_def (c1 : (List Int)) (l1 : (List Int)) (k1 : Int) (K0 : (Int → Prop)) : R10_sum c1 l1 k1 K0 =
  (Br (decide ((l1.length : Int) = (0 : Int)))
    (False)
    (∃ q, R10_sum_l4 q c1 l1 k1 0 (iquo .i64 64 (l1.length : Int)) 0 K0)) := by
  have e : R10_sum = R10_sum_u := Classical.choose_spec (⟨R10_sum_u, rfl⟩ : ∃ q, q = R10_sum_u)
  show R10_sum c1 l1 k1 K0 = R10_sum_u c1 l1 k1 K0
  rw [e]

/- loop of splicer/splicerref10.Sums, region 4 -/
def R10_Sums_l4 : Nat → (List Int) → Int → (List Int) → (List Int) → ((List Int) → Prop) → Prop
  | 0, _, _, _, _, _ => False
  | k + 1, x2, i1, m1, m2, K0 => Br (decide (i1 < (x2.length : Int)))
      (R10_sum m1 x2 i1
        (fun (r2 : Int) =>
        let m3 : (List Int) := [r2]
        Br (decide ((((List.length m2) + (List.length m3)) * 8) ≤ 140737488355328))
          (R10_Sums_l4 k x2 (iadd .i64 i1 1) m1 (m2 ++ m3) K0)
          (False)))
      (K0 m2)

/- splicer/splicerref10.Sums (78) -/
def R10_Sums_u (x1 : (List Int)) (K0 : ((List Int) → Prop)) : Prop :=
  R07_Make
    (fun (r1 : (List Int)) =>
    ∃ q, R10_Sums_l4 q x1 0 r1 [] K0)

noncomputable def R10_Sums : (List Int) → ((List Int) → Prop) → Prop := Classical.choose (⟨R10_Sums_u, rfl⟩ : ∃ q, q = R10_Sums_u)

theorem R10_Sums_def (x1 : (List Int)) (K0 : ((List Int) → Prop)) : R10_Sums x1 K0 =
  (R07_Make
    (fun (r1 : (List Int)) =>
    ∃ q, R10_Sums_l4 q x1 0 r1 [] K0)) := by
  have e : R10_Sums = R10_Sums_u := Classical.choose_spec (⟨R10_Sums_u, rfl⟩ : ∃ q, q = R10_Sums_u)
  show R10_Sums x1 K0 = R10_Sums_u x1 K0
  rw [e]

/- splicer/splicerref12.sums (71) -/
def R12_sums_u (x1 : (List Int)) (K0 : (Int → (List Int) → Prop)) : Prop :=
  Br (decide ((x1.length : Int) = (8 : Int)))
    (R10_Sums x1
      (fun (r1 : (List Int)) =>
      K0 26 r1))
    (R10_Sums x1
      (fun (r2 : (List Int)) =>
      K0 29 r2))

noncomputable def R12_sums : (List Int) → (Int → (List Int) → Prop) → Prop := Classical.choose (⟨R12_sums_u, rfl⟩ : ∃ q, q = R12_sums_u)

theorem R12_sums_def (x1 : (List Int)) (K0 : (Int → (List Int) → Prop)) : R12_sums x1 K0 =
  (Br (decide ((x1.length : Int) = (8 : Int)))
    (R10_Sums x1
      (fun (r1 : (List Int)) =>
      K0 26 r1))
    (R10_Sums x1
      (fun (r2 : (List Int)) =>
      K0 29 r2))) := by
  have e : R12_sums = R12_sums_u := Classical.choose_spec (⟨R12_sums_u, rfl⟩ : ∃ q, q = R12_sums_u)
  show R12_sums x1 K0 = R12_sums_u x1 K0
  rw [e]

/- splicer/splicerref11.W (72) -/
def R11_W_u  (K0 : ((List Int) → Prop)) : Prop :=
  K0 [494, 4325, 11207, 19363, 26435, 30792, 32481, 32764]

noncomputable def R11_W : ((List Int) → Prop) → Prop := Classical.choose (⟨R11_W_u, rfl⟩ : ∃ q, q = R11_W_u)

theorem R11_W_def  (K0 : ((List Int) → Prop)) : R11_W K0 =
  (K0 [494, 4325, 11207, 19363, 26435, 30792, 32481, 32764]) := by
  have e : R11_W = R11_W_u := Classical.choose_spec (⟨R11_W_u, rfl⟩ : ∃ q, q = R11_W_u)
  show R11_W K0 = R11_W_u K0
  rw [e]

/- splicer/splicerref01.Mod (74) -/
def R01_Mod_u (a1 : Int) (b1 : Int) (K0 : (Int → Int → Prop)) : Prop :=
  Br (decide (b1 < (1 : Int)))
    (K0 0 0)
    (Br (decide (b1 = (0 : Int)))
      (False)
      (let v2 : Int := (iquo .i64 a1 b1)
      Br (decide (b1 = (0 : Int)))
        (False)
        (let v3 : Int := (irem .i64 a1 b1)
        Br (decide (v3 < (0 : Int)))
          (K0 (isub .i64 v2 1) (iadd .i64 v3 b1))
          (K0 v2 v3))))

noncomputable def R01_Mod : Int → Int → (Int → Int → Prop) → Prop := Classical.choose (⟨R01_Mod_u, rfl⟩ : ∃ q, q = R01_Mod_u)

theorem R01_Mod_def (a1 : Int) (b1 : Int) (K0 : (Int → Int → Prop)) : R01_Mod a1 b1 K0 =
  (Br (decide (b1 < (1 : Int)))
    (K0 0 0)
    (Br (decide (b1 = (0 : Int)))
      (False)
      (let v2 : Int := (iquo .i64 a1 b1)
      Br (decide (b1 = (0 : Int)))
        (False)
        (let v3 : Int := (irem .i64 a1 b1)
        Br (decide (v3 < (0 : Int)))
          (K0 (isub .i64 v2 1) (iadd .i64 v3 b1))
          (K0 v2 v3))))) := by
  have e : R01_Mod = R01_Mod_u := Classical.choose_spec (⟨R01_Mod_u, rfl⟩ : ∃ q, q = R01_Mod_u)
  show R01_Mod a1 b1 K0 = R01_Mod_u a1 b1 K0
  rw [e]

/- splicer/splicerref12.parts (73) -/
def R12_parts_u (w1 : Int) (s1 : Int) (by_1 : Int) (K0 : (Int → Prop)) : Prop :=
  R01_Mod s1 1048576
    (fun (r1 : Int) (r2 : Int) =>
    let v2 : Int := (isub .i64 by_1 5)
    Br (decide (v2 < (0 : Int)))
      (False)
      (R01_Mod (imul .i64 w1 r1) (ishl .i64 1 v2)
        (fun (r3 : Int) (r4 : Int) =>
        let v7 : Int := (isub .i64 by_1 5)
        Br (decide (v7 < (0 : Int)))
          (False)
          (R01_Mod (iadd .i64 (imul .i64 r4 1048576) (imul .i64 w1 r2)) (ishl .i64 1 v7)
            (fun (r5 : Int) (r6 : Int) =>
            K0 (iadd .i64 (imul .i64 r3 1048576) r5))))))

noncomputable def R12_parts : Int → Int → Int → (Int → Prop) → Prop := Classical.choose (⟨R12_parts_u, rfl⟩ : ∃ q, q = R12_parts_u)

theorem R12_parts_def (w1 : Int) (s1 : Int) (by_1 : Int) (K0 : (Int → Prop)) : R12_parts w1 s1 by_1 K0 =
  (R01_Mod s1 1048576
    (fun (r1 : Int) (r2 : Int) =>
    let v2 : Int := (isub .i64 by_1 5)
    Br (decide (v2 < (0 : Int)))
      (False)
      (R01_Mod (imul .i64 w1 r1) (ishl .i64 1 v2)
        (fun (r3 : Int) (r4 : Int) =>
        let v7 : Int := (isub .i64 by_1 5)
        Br (decide (v7 < (0 : Int)))
          (False)
          (R01_Mod (iadd .i64 (imul .i64 r4 1048576) (imul .i64 w1 r2)) (ishl .i64 1 v7)
            (fun (r5 : Int) (r6 : Int) =>
            K0 (iadd .i64 (imul .i64 r3 1048576) r5))))))) := by
  have e : R12_parts = R12_parts_u := Classical.choose_spec (⟨R12_parts_u, rfl⟩ : ∃ q, q = R12_parts_u)
  show R12_parts w1 s1 by_1 K0 = R12_parts_u w1 s1 by_1 K0
  rw [e]

/- loop of splicer/splicerref12.Exact, region 6 -/
def R12_Exact_l6 : Nat → (List Int) → (List Int) → Int → Int → Int → (List Int) → (List Int) → (List Int) → (List Int) → ((List Int) → (List Int) → Int → Int → (List Int) → (List Int) → (List Int) → (List Int) → Prop) → Prop
  | 0, _, _, _, _, _, _, _, _, _, _ => False
  | k + 1, x2, y2, by_1, bz1, j1, m1, m2, m3, m4, K0 => Br (decide (j1 < (4 : Int)))
      (let v2 : Int := (isub .i64 7 j1)
      Br ((decide ((0 : Int) ≤ v2)) && (decide (v2 < (((List.length m3) : Nat) : Int))))
        (Br (decide ((Int.toNat v2) < (List.length m3)))
          (let v6 : Int := (iadd .i64 (isub .i64 (x2.length : Int) 4) j1)
          Br ((decide ((0 : Int) ≤ v6)) && (decide (v6 < (((List.length m1) : Nat) : Int))))
            (Br (decide ((Int.toNat v6) < (List.length m1)))
              (R12_parts (List.getD m3 (Int.toNat v2) 0) (List.getD m1 (Int.toNat v6) 0) by_1
                (fun (r6 : Int) =>
                Br ((decide ((0 : Int) ≤ j1)) && (decide (j1 < (((List.length m3) : Nat) : Int))))
                  (Br (decide ((Int.toNat j1) < (List.length m3)))
                    (let v9 : Int := (isub .i64 3 j1)
                    Br ((decide ((0 : Int) ≤ v9)) && (decide (v9 < (((List.length m2) : Nat) : Int))))
                      (Br (decide ((Int.toNat v9) < (List.length m2)))
                        (R12_parts (List.getD m3 (Int.toNat j1) 0) (List.getD m2 (Int.toNat v9) 0) bz1
                          (fun (r7 : Int) =>
                          let m5 : (List Int) := [(iadd .i64 r6 r7)]
                          Br (decide ((((List.length m4) + (List.length m5)) * 8) ≤ 140737488355328))
                            (R12_Exact_l6 k x2 y2 by_1 bz1 (iadd .i64 j1 1) m1 m2 m3 (m4 ++ m5) K0)
                            (False)))
                        (False))
                      (False))
                    (False))
                  (False)))
              (False))
            (False))
          (False))
        (False))
      (K0 x2 y2 by_1 bz1 m1 m2 m3 m4)

/- loop of splicer/splicerref12.Exact, region 10 -/
def R12_Exact_l10 : Nat → (List Int) → (List Int) → Int → Int → Int → (List Int) → (List Int) → (List Int) → (List Int) → ((List Int) → Int → (List Int) → (List Int) → Prop) → Prop
  | 0, _, _, _, _, _, _, _, _, _, _ => False
  | k + 1, x4, y4, by_3, bz3, j2, m11, m12, m13, m14, K0 => Br (decide (j2 < (8 : Int)))
      (let v14 : Int := (isub .i64 7 j2)
      Br ((decide ((0 : Int) ≤ v14)) && (decide (v14 < (((List.length m13) : Nat) : Int))))
        (Br (decide ((Int.toNat v14) < (List.length m13)))
          (let v19 : Int := (isub .i64 (iadd .i64 (x4.length : Int) 3) j2)
          Br ((decide ((0 : Int) ≤ v19)) && (decide (v19 < (((List.length m11) : Nat) : Int))))
            (Br (decide ((Int.toNat v19) < (List.length m11)))
              (R12_parts (isub .i64 0 (List.getD m13 (Int.toNat v14) 0)) (List.getD m11 (Int.toNat v19) 0) by_3
                (fun (r8 : Int) =>
                Br ((decide ((0 : Int) ≤ j2)) && (decide (j2 < (((List.length m13) : Nat) : Int))))
                  (Br (decide ((Int.toNat j2) < (List.length m13)))
                    (let v22 : Int := (isub .i64 j2 4)
                    Br ((decide ((0 : Int) ≤ v22)) && (decide (v22 < (((List.length m12) : Nat) : Int))))
                      (Br (decide ((Int.toNat v22) < (List.length m12)))
                        (R12_parts (List.getD m13 (Int.toNat j2) 0) (List.getD m12 (Int.toNat v22) 0) bz3
                          (fun (r9 : Int) =>
                          let m15 : (List Int) := [(iadd .i64 r8 r9)]
                          Br (decide ((((List.length m14) + (List.length m15)) * 8) ≤ 140737488355328))
                            (R12_Exact_l10 k x4 y4 by_3 bz3 (iadd .i64 j2 1) m11 m12 m13 (m14 ++ m15) K0)
                            (False)))
                        (False))
                      (False))
                    (False))
                  (False)))
              (False))
            (False))
          (False))
        (False))
      (K0 y4 bz3 m12 m14)

/- loop of splicer/splicerref12.Exact, region 14 -/
def R12_Exact_l14 : Nat → (List Int) → Int → Int → (List Int) → (List Int) → ((List Int) → Prop) → Prop
  | 0, _, _, _, _, _, _ => False
  | k + 1, y6, bz5, k1, m19, m20, K0 => Br (decide (k1 < (isub .i64 (y6.length : Int) 4)))
      (Br ((decide ((0 : Int) ≤ k1)) && (decide (k1 < (((List.length m19) : Nat) : Int))))
        (Br (decide ((Int.toNat k1) < (List.length m19)))
          (R12_parts 32768 (List.getD m19 (Int.toNat k1) 0) bz5
            (fun (r10 : Int) =>
            let m21 : (List Int) := [r10]
            Br (decide ((((List.length m20) + (List.length m21)) * 8) ≤ 140737488355328))
              (R12_Exact_l14 k y6 bz5 (iadd .i64 k1 1) m19 (m20 ++ m21) K0)
              (False)))
          (False))
        (False))
      (K0 m20)

/- splicer/splicerref12.Exact (35) -/
def R12_Exact_u (x1 : (List Int)) (y1 : (List Int)) (K0 : ((List Int) → Prop)) : Prop :=
  R12_sums x1
    (fun (r1 : Int) (r2 : (List Int)) =>
    R12_sums y1
      (fun (r3 : Int) (r4 : (List Int)) =>
      R11_W
        (fun (r5 : (List Int)) =>
        ∃ q, R12_Exact_l6 q x1 y1 r1 r3 0 r2 r4 r5 []
          (fun (x3 : (List Int)) (y3 : (List Int)) (by_2 : Int) (bz2 : Int) (m7 : (List Int)) (m8 : (List Int)) (m9 : (List Int)) (m10 : (List Int)) =>
          ∃ q, R12_Exact_l10 q x3 y3 by_2 bz2 4 m7 m8 m9 m10
            (fun (y5 : (List Int)) (bz4 : Int) (m17 : (List Int)) (m18 : (List Int)) =>
            ∃ q, R12_Exact_l14 q y5 bz4 4 m17 m18 K0)))))

noncomputable def R12_Exact : (List Int) → (List Int) → ((List Int) → Prop) → Prop := Classical.choose (⟨R12_Exact_u, rfl⟩ : ∃ q, q = R12_Exact_u)

theorem R12_Exact_def (x1 : (List Int)) (y1 : (List Int)) (K0 : ((List Int) → Prop)) : R12_Exact x1 y1 K0 =
  (R12_sums x1
    (fun (r1 : Int) (r2 : (List Int)) =>
    R12_sums y1
      (fun (r3 : Int) (r4 : (List Int)) =>
      R11_W
        (fun (r5 : (List Int)) =>
        ∃ q, R12_Exact_l6 q x1 y1 r1 r3 0 r2 r4 r5 []
          (fun (x3 : (List Int)) (y3 : (List Int)) (by_2 : Int) (bz2 : Int) (m7 : (List Int)) (m8 : (List Int)) (m9 : (List Int)) (m10 : (List Int)) =>
          ∃ q, R12_Exact_l10 q x3 y3 by_2 bz2 4 m7 m8 m9 m10
            (fun (y5 : (List Int)) (bz4 : Int) (m17 : (List Int)) (m18 : (List Int)) =>
            ∃ q, R12_Exact_l14 q y5 bz4 4 m17 m18 K0)))))) := by
  have e : R12_Exact = R12_Exact_u := Classical.choose_spec (⟨R12_Exact_u, rfl⟩ : ∃ q, q = R12_Exact_u)
  show R12_Exact x1 y1 K0 = R12_Exact_u x1 y1 K0
  rw [e]

/- splicer/splicerref01.Sat (75) -/
def R01_Sat_u (x1 : Int) (K0 : (Int → Prop)) : Prop :=
  K0 (imax (-32768) (imin 32767 x1))

noncomputable def R01_Sat : Int → (Int → Prop) → Prop := Classical.choose (⟨R01_Sat_u, rfl⟩ : ∃ q, q = R01_Sat_u)

theorem R01_Sat_def (x1 : Int) (K0 : (Int → Prop)) : R01_Sat x1 K0 =
  (K0 (imax (-32768) (imin 32767 x1))) := by
  have e : R01_Sat = R01_Sat_u := Classical.choose_spec (⟨R01_Sat_u, rfl⟩ : ∃ q, q = R01_Sat_u)
  show R01_Sat x1 K0 = R01_Sat_u x1 K0
  rw [e]

/- loop of splicer/splicerlaw12.near, region 4 -/
def L12_near_l4 : Nat → (List Int) → (List Int) → Int → (Bool → Prop) → (Prop) → Prop
  | 0, _, _, _, _, _ => False
  | k + 1, out2, exact2, i1, K0, K1 => Br (decide (i1 < (out2.length : Int)))
      (Br ((decide ((0 : Int) ≤ i1)) && (decide (i1 < (((List.length exact2) : Nat) : Int))))
        (R01_Mod (List.getD exact2 (Int.toNat i1) 0) 1048576
          (fun (r1 : Int) (r2 : Int) =>
          Br ((decide ((0 : Int) ≤ i1)) && (decide (i1 < (((List.length out2) : Nat) : Int))))
            (R01_Sat r1
              (fun (r3 : Int) =>
              let v8 : Int := (isub .i64 (List.getD out2 (Int.toNat i1) 0) r3)
              Br (decide ((2 : Int) < v8))
                (K0 false)
                (Br (decide (v8 < (-2 : Int)))
                  (K0 false)
                  (L12_near_l4 k out2 exact2 (iadd .i64 i1 1) K0 K1))))
            (False)))
        (False))
      (K1)

/- splicer/splicerlaw12.near (36) -/
def L12_near_u (out1 : (List Int)) (exact1 : (List Int)) (K0 : (Bool → Prop)) : Prop :=
  Br (!(decide ((out1.length : Int) = (exact1.length : Int))))
    (K0 false)
    (∃ q, L12_near_l4 q out1 exact1 0 K0
      (K0 true))

noncomputable def L12_near : (List Int) → (List Int) → (Bool → Prop) → Prop := Classical.choose (⟨L12_near_u, rfl⟩ : ∃ q, q = L12_near_u)

theorem L12_near_def (out1 : (List Int)) (exact1 : (List Int)) (K0 : (Bool → Prop)) : L12_near out1 exact1 K0 =
  (Br (!(decide ((out1.length : Int) = (exact1.length : Int))))
    (K0 false)
    (∃ q, L12_near_l4 q out1 exact1 0 K0
      (K0 true))) := by
  have e : L12_near = L12_near_u := Classical.choose_spec (⟨L12_near_u, rfl⟩ : ∃ q, q = L12_near_u)
  show L12_near out1 exact1 K0 = L12_near_u out1 exact1 K0
  rw [e]

/- join of splicer/splicerlaw12.LapNear, region 2 -/
def L12_LapNear_j2 (x2 : (List Int)) (y2 : (List Int)) (sx2 : Bool) (sy2 : Bool) (v7 : Bool) (K0 : (Bool → Prop)) (K1 : ((List Int) → (List Int) → Bool → Bool → Prop)) : Prop :=
  Br v7
    (L12_awake K0)
    (K1 x2 y2 sx2 sy2)

/- loop of splicer/splicerlaw12.LapNear, region 13 -/
def L12_LapNear_l13 : Nat → (List Int) → Int → Int → (List Int) → (List (List Int)) → (Bool → Prop) → (Int → Prop) → Prop
  | 0, _, _, _, _, _, _, _ => False
  | k + 1, last2, at_1, b1, m11, m12, K0, K1 => Br (decide (b1 < (m12.length : Int)))
      (Br ((decide ((0 : Int) ≤ b1)) && (decide (b1 < (((List.length m12) : Nat) : Int))))
        (Br (decide ((Int.toNat b1) < (List.length m12)))
          (R12_Exact last2 (List.getD m12 (Int.toNat b1) [])
            (fun (r15 : (List Int)) =>
            Br (decide ((64 : Int) < (iadd .i64 at_1 (r15.length : Int))))
              (K0 false)
              (let v25 : Int := (iadd .i64 at_1 (r15.length : Int))
              Br ((decide ((0 : Int) ≤ v25)) && (decide (v25 ≤ (((List.length m11) : Nat) : Int))))
                (Br ((decide ((0 : Int) ≤ at_1)) && (decide (at_1 ≤ (((Int.toNat v25) : Nat) : Int))))
                  (Br ((decide ((Int.toNat at_1) ≤ (Int.toNat v25))) && (decide ((Int.toNat v25) ≤ (List.length m11))))
                    (L12_near (List.take ((Int.toNat v25) - (Int.toNat at_1)) (List.drop (Int.toNat at_1) m11)) r15
                      (fun (r16 : Bool) =>
                      Br (!r16)
                        (K0 false)
                        (Br ((decide ((0 : Int) ≤ b1)) && (decide (b1 < (((List.length m12) : Nat) : Int))))
                          (Br (decide ((Int.toNat b1) < (List.length m12)))
                            (L12_LapNear_l13 k (List.getD m12 (Int.toNat b1) []) (iadd .i64 at_1 (r15.length : Int)) (iadd .i64 b1 1) m11 m12 K0 K1)
                            (False))
                          (False))))
                    (False))
                  (False))
                (False))))
          (False))
        (False))
      (K1 at_1)

/- join of splicer/splicerlaw12.LapNear, region 11 -/
def L12_LapNear_j11 (last1 : (List Int)) (m9 : (List Int)) (m10 : (List (List Int))) (K0 : (Bool → Prop)) : Prop :=
  ∃ q, L12_LapNear_l13 q last1 0 0 m9 m10 K0
    (fun (at_2 : Int) =>
    Br (decide (at_2 = (64 : Int)))
      (L12_awake K0)
      (K0 false))

/- join of splicer/splicerlaw12.LapNear, region 9 -/
def L12_LapNear_j9 (y10 : (List Int)) (sy10 : Bool) (m7 : (List Int)) (m8 : (List (List Int))) (K0 : (Bool → Prop)) : Prop :=
  let v16 : Int := (isub .i64 (m8.length : Int) 1)
  Br ((decide ((0 : Int) ≤ v16)) && (decide (v16 < (((List.length m8) : Nat) : Int))))
    (Br (decide ((Int.toNat v16) < (List.length m8)))
      (let v17 : (List Int) := (List.getD m8 (Int.toNat v16) [])
      R12_Spectra y10 sy10
        (fun (r13 : (List (List Int))) =>
        L12_LapNear_j11 v17 m7 r13 K0)
        (fun (r14 : (List (List Int))) =>
        L12_LapNear_j11 v17 m7 r14 K0))
      (False))
    (False)

/- join of splicer/splicerlaw12.LapNear, region 6 -/
def L12_LapNear_j6 (x9 : (List Int)) (y9 : (List Int)) (sx9 : Bool) (sy9 : Bool) (m6 : (List Int)) (K0 : (Bool → Prop)) : Prop :=
  Br (!(decide ((m6.length : Int) = (64 : Int))))
    (K0 false)
    (R12_Spectra x9 sx9
      (fun (r11 : (List (List Int))) =>
      L12_LapNear_j9 y9 sy9 m6 r11 K0)
      (fun (r12 : (List (List Int))) =>
      L12_LapNear_j9 y9 sy9 m6 r12 K0))

/- join of splicer/splicerlaw12.LapNear, region 5 -/
def L12_LapNear_j5 (x8 : (List Int)) (y8 : (List Int)) (sx8 : Bool) (sy8 : Bool) (t1 : (List Int)) (m3 : (List Int)) (K0 : (Bool → Prop)) : Prop :=
  lap_Frame t1 m3 y8 sy8
    (fun (r8 : (List Int)) =>
    L12_LapNear_j6 x8 y8 sx8 sy8 [] K0)
    (fun (r9 : (List Int)) (r10 : (List Int)) =>
    L12_LapNear_j6 x8 y8 sx8 sy8 r10 K0)

/- join of splicer/splicerlaw12.LapNear, region 3 -/
def L12_LapNear_j3 (x7 : (List Int)) (y7 : (List Int)) (sx7 : Bool) (sy7 : Bool) (K0 : (Bool → Prop)) : Prop :=
  trig_Make
    (fun (r4 : (List Int)) =>
    lap_Frame r4 (List.replicate 8 0) x7 sx7
      (fun (r5 : (List Int)) =>
      L12_LapNear_j5 x7 y7 sx7 sy7 r4 r5 K0)
      (fun (r6 : (List Int)) (r7 : (List Int)) =>
      L12_LapNear_j5 x7 y7 sx7 sy7 r4 r6 K0))

/- splicer/splicerlaw12.LapNear (9) -/
def L12_LapNear_u (x1 : (List Int)) (y1 : (List Int)) (sx1 : Bool) (sy1 : Bool) (K0 : (Bool → Prop)) : Prop :=
  Br (!(decide ((x1.length : Int) = (64 : Int))))
    (L12_LapNear_j2 x1 y1 sx1 sy1 true K0
      (fun (x3 : (List Int)) (y3 : (List Int)) (sx3 : Bool) (sy3 : Bool) =>
      L12_LapNear_j3 x3 y3 sx3 sy3 K0))
    (Br (!(decide ((y1.length : Int) = (64 : Int))))
      (L12_LapNear_j2 x1 y1 sx1 sy1 true K0
        (fun (x4 : (List Int)) (y4 : (List Int)) (sx4 : Bool) (sy4 : Bool) =>
        L12_LapNear_j3 x4 y4 sx4 sy4 K0))
      (R10_Right x1 33554432
        (fun (r1 : Bool) =>
        Br (!r1)
          (L12_LapNear_j2 x1 y1 sx1 sy1 true K0
            (fun (x5 : (List Int)) (y5 : (List Int)) (sx5 : Bool) (sy5 : Bool) =>
            L12_LapNear_j3 x5 y5 sx5 sy5 K0))
          (R10_Right y1 33554432
            (fun (r2 : Bool) =>
            L12_LapNear_j2 x1 y1 sx1 sy1 (!r2) K0
              (fun (x6 : (List Int)) (y6 : (List Int)) (sx6 : Bool) (sy6 : Bool) =>
              L12_LapNear_j3 x6 y6 sx6 sy6 K0))))))

noncomputable def L12_LapNear : (List Int) → (List Int) → Bool → Bool → (Bool → Prop) → Prop := Classical.choose (⟨L12_LapNear_u, rfl⟩ : ∃ q, q = L12_LapNear_u)

theorem L12_LapNear_def (x1 : (List Int)) (y1 : (List Int)) (sx1 : Bool) (sy1 : Bool) (K0 : (Bool → Prop)) : L12_LapNear x1 y1 sx1 sy1 K0 =
  (Br (!(decide ((x1.length : Int) = (64 : Int))))
    (L12_LapNear_j2 x1 y1 sx1 sy1 true K0
      (fun (x3 : (List Int)) (y3 : (List Int)) (sx3 : Bool) (sy3 : Bool) =>
      L12_LapNear_j3 x3 y3 sx3 sy3 K0))
    (Br (!(decide ((y1.length : Int) = (64 : Int))))
      (L12_LapNear_j2 x1 y1 sx1 sy1 true K0
        (fun (x4 : (List Int)) (y4 : (List Int)) (sx4 : Bool) (sy4 : Bool) =>
        L12_LapNear_j3 x4 y4 sx4 sy4 K0))
      (R10_Right x1 33554432
        (fun (r1 : Bool) =>
        Br (!r1)
          (L12_LapNear_j2 x1 y1 sx1 sy1 true K0
            (fun (x5 : (List Int)) (y5 : (List Int)) (sx5 : Bool) (sy5 : Bool) =>
            L12_LapNear_j3 x5 y5 sx5 sy5 K0))
          (R10_Right y1 33554432
            (fun (r2 : Bool) =>
            L12_LapNear_j2 x1 y1 sx1 sy1 (!r2) K0
              (fun (x6 : (List Int)) (y6 : (List Int)) (sx6 : Bool) (sy6 : Bool) =>
              L12_LapNear_j3 x6 y6 sx6 sy6 K0))))))) := by
  have e : L12_LapNear = L12_LapNear_u := Classical.choose_spec (⟨L12_LapNear_u, rfl⟩ : ∃ q, q = L12_LapNear_u)
  show L12_LapNear x1 y1 sx1 sy1 K0 = L12_LapNear_u x1 y1 sx1 sy1 K0
  rw [e]

end Go.Eng.A
