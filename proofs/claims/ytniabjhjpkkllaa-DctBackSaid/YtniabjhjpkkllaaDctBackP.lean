/- The functions that DctBack reaches, as plain ones: printed by program. -/
import Derived.Test.YtniabjhjpkkllaaEngA
set_option linter.unusedVariables false
set_option maxRecDepth 100000
namespace Go.Eng.A
open Go Go.Eng

/- loop of splicer/splicerref01.Within, region 2 -/
def R01_Within_l2 : Nat → (List Int) → Int → Int → Int → (Bool → Prop) → (Prop) → Prop
  | 0, _, _, _, _, _, _ => False
  | k + 1, l2, low2, high2, i1, K0, K1 => Br (decide (i1 < (l2.length : Int)))
      (Br ((decide ((0 : Int) ≤ i1)) && (decide (i1 < (((List.length l2) : Nat) : Int))))
        (Br (decide ((List.getD l2 (Int.toNat i1) 0) < low2))
          (K0 false)
          (Br ((decide ((0 : Int) ≤ i1)) && (decide (i1 < (((List.length l2) : Nat) : Int))))
            (Br (decide (high2 < (List.getD l2 (Int.toNat i1) 0)))
              (K0 false)
              (R01_Within_l2 k l2 low2 high2 (iadd .i64 i1 1) K0 K1))
            (False)))
        (False))
      (K1)

/- splicer/splicerref01.Within (40) -/
def R01_Within_u (l1 : (List Int)) (low1 : Int) (high1 : Int) (K0 : (Bool → Prop)) : Prop :=
  ∃ q, R01_Within_l2 q l1 low1 high1 0 K0
    (K0 true)

noncomputable def R01_Within : (List Int) → Int → Int → (Bool → Prop) → Prop := Classical.choose (⟨R01_Within_u, rfl⟩ : ∃ q, q = R01_Within_u)

theorem R01_Within_def (l1 : (List Int)) (low1 : Int) (high1 : Int) (K0 : (Bool → Prop)) : R01_Within l1 low1 high1 K0 =
  (∃ q, R01_Within_l2 q l1 low1 high1 0 K0
    (K0 true)) := by
  have e : R01_Within = R01_Within_u := Classical.choose_spec (⟨R01_Within_u, rfl⟩ : ∃ q, q = R01_Within_u)
  show R01_Within l1 low1 high1 K0 = R01_Within_u l1 low1 high1 K0
  rw [e]

/- splicer/splicerref10.Right (11) -/
def R10_Right_u (u1 : (List Int)) (wide1 : Int) (K0 : (Bool → Prop)) : Prop :=
  Br (decide ((u1.length : Int) = (8 : Int)))
    (R01_Within u1 (isub .i64 0 wide1) wide1 K0)
    (Br (decide ((u1.length : Int) = (64 : Int)))
      (R01_Within u1 (isub .i64 0 wide1) wide1 K0)
      (K0 false))

noncomputable def R10_Right : (List Int) → Int → (Bool → Prop) → Prop := Classical.choose (⟨R10_Right_u, rfl⟩ : ∃ q, q = R10_Right_u)

theorem R10_Right_def (u1 : (List Int)) (wide1 : Int) (K0 : (Bool → Prop)) : R10_Right u1 wide1 K0 =
  (Br (decide ((u1.length : Int) = (8 : Int)))
    (R01_Within u1 (isub .i64 0 wide1) wide1 K0)
    (Br (decide ((u1.length : Int) = (64 : Int)))
      (R01_Within u1 (isub .i64 0 wide1) wide1 K0)
      (K0 false))) := by
  have e : R10_Right = R10_Right_u := Classical.choose_spec (⟨R10_Right_u, rfl⟩ : ∃ q, q = R10_Right_u)
  show R10_Right u1 wide1 K0 = R10_Right_u u1 wide1 K0
  rw [e]

/- splicer/trig.first (41) -/
def trig_first_u  (K0 : ((List Int) → Prop)) : Prop :=
  K0 [16777216, 16775953, 16772163, 16765847, 16757007, 16745643, 16731757, 16715352, 16696429, 16674992, 16651044, 16624588, 16595628, 16564169, 16530216, 16493773, 16454846, 16413442, 16369565, 16323224, 16274424, 16223173, 16169479, 16113350, 16054795, 15993821, 15930439, 15864658, 15796488, 15725939, 15653022, 15577747, 15500126, 15420172, 15337895, 15253308, 15166424, 15077256, 14985817, 14892122, 14796184, 14698017, 14597637, 14495059, 14390298, 14283370, 14174291, 14063077, 13949745, 13834313, 13716797, 13597215, 13475586, 13351928, 13226258, 13098597, 12968963, 12837376, 12703856, 12568423, 12431097, 12291899, 12150850, 12007971, 11863283, 11716809, 11568571, 11418590, 11266890, 11113493, 10958422, 10801701, 10643353, 10483403, 10321873, 10158790, 9994176, 9828057, 9660458, 9491405, 9320922, 9149035, 8975771, 8801154, 8625213, 8447972, 8269459, 8089701, 7908725, 7726557, 7543226, 7358759, 7173184, 6986529, 6798821, 6610090, 6420363, 6229669, 6038037, 5845495, 5652074, 5457801, 5262706, 5066819, 4870169, 4672785, 4474698, 4275936, 4076531, 3876512, 3675909, 3474752, 3273072, 3070900, 2868265, 2665197, 2461729, 2257890, 2053710, 1849222, 1644455, 1439440, 1234209, 1028791, 823219, 617523, 411733, 205882, 0]

noncomputable def trig_first : ((List Int) → Prop) → Prop := Classical.choose (⟨trig_first_u, rfl⟩ : ∃ q, q = trig_first_u)

theorem trig_first_def  (K0 : ((List Int) → Prop)) : trig_first K0 =
  (K0 [16777216, 16775953, 16772163, 16765847, 16757007, 16745643, 16731757, 16715352, 16696429, 16674992, 16651044, 16624588, 16595628, 16564169, 16530216, 16493773, 16454846, 16413442, 16369565, 16323224, 16274424, 16223173, 16169479, 16113350, 16054795, 15993821, 15930439, 15864658, 15796488, 15725939, 15653022, 15577747, 15500126, 15420172, 15337895, 15253308, 15166424, 15077256, 14985817, 14892122, 14796184, 14698017, 14597637, 14495059, 14390298, 14283370, 14174291, 14063077, 13949745, 13834313, 13716797, 13597215, 13475586, 13351928, 13226258, 13098597, 12968963, 12837376, 12703856, 12568423, 12431097, 12291899, 12150850, 12007971, 11863283, 11716809, 11568571, 11418590, 11266890, 11113493, 10958422, 10801701, 10643353, 10483403, 10321873, 10158790, 9994176, 9828057, 9660458, 9491405, 9320922, 9149035, 8975771, 8801154, 8625213, 8447972, 8269459, 8089701, 7908725, 7726557, 7543226, 7358759, 7173184, 6986529, 6798821, 6610090, 6420363, 6229669, 6038037, 5845495, 5652074, 5457801, 5262706, 5066819, 4870169, 4672785, 4474698, 4275936, 4076531, 3876512, 3675909, 3474752, 3273072, 3070900, 2868265, 2665197, 2461729, 2257890, 2053710, 1849222, 1644455, 1439440, 1234209, 1028791, 823219, 617523, 411733, 205882, 0]) := by
  have e : trig_first = trig_first_u := Classical.choose_spec (⟨trig_first_u, rfl⟩ : ∃ q, q = trig_first_u)
  show trig_first K0 = trig_first_u K0
  rw [e]

/- loop of splicer/trig.Make, region 3 -/
def trig_Make_l3 : Nat → Int → (List Int) → (List Int) → ((List Int) → Prop) → Prop
  | 0, _, _, _, _ => False
  | k + 1, v2, m2, m3, K0 => Br (decide (v2 < (129 : Int)))
      (Br ((decide ((0 : Int) ≤ v2)) && (decide (v2 < (129 : Int))))
        (Br (decide ((Int.toNat v2) < (List.length m3)))
          (Br ((decide ((0 : Int) ≤ v2)) && (decide (v2 < (512 : Int))))
            (Br (decide ((Int.toNat v2) < (List.length m2)))
              (let m4 : (List Int) := (List.set m2 (Int.toNat v2) (List.getD m3 (Int.toNat v2) 0))
              let v5 : Int := (isub .i64 256 v2)
              Br ((decide ((0 : Int) ≤ v2)) && (decide (v2 < (129 : Int))))
                (Br (decide ((Int.toNat v2) < (List.length m3)))
                  (Br ((decide ((0 : Int) ≤ v5)) && (decide (v5 < (512 : Int))))
                    (Br (decide ((Int.toNat v5) < (List.length m4)))
                      (let m5 : (List Int) := (List.set m4 (Int.toNat v5) (isub .i64 0 (List.getD m3 (Int.toNat v2) 0)))
                      let v9 : Int := (irem .i64 (iadd .i64 256 v2) 512)
                      Br ((decide ((0 : Int) ≤ v2)) && (decide (v2 < (129 : Int))))
                        (Br (decide ((Int.toNat v2) < (List.length m3)))
                          (Br ((decide ((0 : Int) ≤ v9)) && (decide (v9 < (512 : Int))))
                            (Br (decide ((Int.toNat v9) < (List.length m5)))
                              (let m6 : (List Int) := (List.set m5 (Int.toNat v9) (isub .i64 0 (List.getD m3 (Int.toNat v2) 0)))
                              let v13 : Int := (irem .i64 (isub .i64 512 v2) 512)
                              Br ((decide ((0 : Int) ≤ v2)) && (decide (v2 < (129 : Int))))
                                (Br (decide ((Int.toNat v2) < (List.length m3)))
                                  (Br ((decide ((0 : Int) ≤ v13)) && (decide (v13 < (512 : Int))))
                                    (Br (decide ((Int.toNat v13) < (List.length m6)))
                                      (trig_Make_l3 k (iadd .i64 v2 1) (List.set m6 (Int.toNat v13) (List.getD m3 (Int.toNat v2) 0)) m3 K0)
                                      (False))
                                    (False))
                                  (False))
                                (False))
                              (False))
                            (False))
                          (False))
                        (False))
                      (False))
                    (False))
                  (False))
                (False))
              (False))
            (False))
          (False))
        (False))
      (K0 m2)

/- splicer/trig.Make (13) -/
def trig_Make_u  (K0 : ((List Int) → Prop)) : Prop :=
  trig_first
    (fun (r1 : (List Int)) =>
    ∃ q, trig_Make_l3 q 0 (List.replicate 512 0) r1 K0)

noncomputable def trig_Make : ((List Int) → Prop) → Prop := Classical.choose (⟨trig_Make_u, rfl⟩ : ∃ q, q = trig_Make_u)

theorem trig_Make_def  (K0 : ((List Int) → Prop)) : trig_Make K0 =
  (trig_first
    (fun (r1 : (List Int)) =>
    ∃ q, trig_Make_l3 q 0 (List.replicate 512 0) r1 K0)) := by
  have e : trig_Make = trig_Make_u := Classical.choose_spec (⟨trig_Make_u, rfl⟩ : ∃ q, q = trig_Make_u)
  show trig_Make K0 = trig_Make_u K0
  rw [e]

/- loop of splicer/dct.right, region 4 -/
def dct_right_l4 : Nat → Int → (List Int) → Int → Int → (Bool → Prop) → (Prop) → Prop
  | 0, _, _, _, _, _, _ => False
  | k + 1, wide3, v6, v7, v8, K0, K1 => Br (decide (v8 < v7))
      (Br ((decide ((0 : Int) ≤ v8)) && (decide (v8 < (((List.length v6) : Nat) : Int))))
        (let v10 : Int := (List.getD v6 (Int.toNat v8) 0)
        Br (decide (v10 < (isub .i64 0 wide3)))
          (K0 false)
          (Br (decide (wide3 < v10))
            (K0 false)
            (dct_right_l4 k wide3 v6 v7 (iadd .i64 v8 1) K0 K1)))
        (False))
      (K1)

/- join of splicer/dct.right, region 3 -/
def dct_right_j3 (u2 : (List Int)) (wide2 : Int) (K0 : (Bool → Prop)) : Prop :=
  ∃ q, dct_right_l4 q wide2 u2 (u2.length : Int) 0 K0
    (K0 true)

/- splicer/dct.right (42) -/
def dct_right_u (u1 : (List Int)) (wide1 : Int) (K0 : (Bool → Prop)) : Prop :=
  Br (!(decide ((u1.length : Int) = (64 : Int))))
    (Br (!(decide ((u1.length : Int) = (8 : Int))))
      (K0 false)
      (dct_right_j3 u1 wide1 K0))
    (dct_right_j3 u1 wide1 K0)

noncomputable def dct_right : (List Int) → Int → (Bool → Prop) → Prop := Classical.choose (⟨dct_right_u, rfl⟩ : ∃ q, q = dct_right_u)

theorem dct_right_def (u1 : (List Int)) (wide1 : Int) (K0 : (Bool → Prop)) : dct_right u1 wide1 K0 =
  (Br (!(decide ((u1.length : Int) = (64 : Int))))
    (Br (!(decide ((u1.length : Int) = (8 : Int))))
      (K0 false)
      (dct_right_j3 u1 wide1 K0))
    (dct_right_j3 u1 wide1 K0)) := by
  have e : dct_right = dct_right_u := Classical.choose_spec (⟨dct_right_u, rfl⟩ : ∃ q, q = dct_right_u)
  show dct_right u1 wide1 K0 = dct_right_u u1 wide1 K0
  rw [e]

/- splicer/dct.angles (79) -/
def dct_angles_u (l1 : (List Int)) (k1 : Int) (K0 : ((List Int) → Int → Prop)) : Prop :=
  K0 l1 k1

noncomputable def dct_angles : (List Int) → Int → ((List Int) → Int → Prop) → Prop := Classical.choose (⟨dct_angles_u, rfl⟩ : ∃ q, q = dct_angles_u)

theorem dct_angles_def (l1 : (List Int)) (k1 : Int) (K0 : ((List Int) → Int → Prop)) : dct_angles l1 k1 K0 =
  (K0 l1 k1) := by
  have e : dct_angles = dct_angles_u := Classical.choose_spec (⟨dct_angles_u, rfl⟩ : ∃ q, q = dct_angles_u)
  show dct_angles l1 k1 K0 = dct_angles_u l1 k1 K0
  rw [e]

/- loop of splicer/dct.angles$1, region 3 -/
def It_dct_angles_1_l3 (S : Type) (rd : ((Int × Int × Unit) → S → (Bool → S → Prop) → Prop)) : Nat → Int → Int → (List Int) → Int → Int → S → (S → Prop) → (S → Prop) → Prop
  | 0, _, _, _, _, _, _, _, _ => False
  | k + 1, step1, at_1, v7, v8, v9, s1, K0, K1 => Br (decide (v9 < v8))
      (Br ((decide ((0 : Int) ≤ v9)) && (decide (v9 < (((List.length v7) : Nat) : Int))))
        (rd ((List.getD v7 (Int.toNat v9) 0), at_1, ()) s1 fun (b1 : Bool) (s2 : S) =>
        Br (!b1)
          (K0 s2)
          (It_dct_angles_1_l3 S rd k step1 (iadd .i64 at_1 (imul .i64 2 step1)) v7 v8 (iadd .i64 v9 1) s2 K0 K1))
        (False))
      (K1 s1)

/- splicer/dct.angles$1 (96) -/
def It_dct_angles_1_u (c1 : (List Int)) (c2 : Int) (S : Type) (rd : ((Int × Int × Unit) → S → (Bool → S → Prop) → Prop)) (s : S) (K0 : S → Prop) : Prop :=
  Br (decide ((c1.length : Int) = (0 : Int)))
    (False)
    (let v5 : Int := (imul .i64 (iquo .i64 64 (c1.length : Int)) (iadd .i64 (imul .i64 2 c2) 1))
    ∃ q, It_dct_angles_1_l3 S rd q v5 v5 c1 (c1.length : Int) 0 s K0 K0)

noncomputable def It_dct_angles_1 : (List Int) → Int → (S : Type) → ((Int × Int × Unit) → S → (Bool → S → Prop) → Prop) → S → (S → Prop) → Prop := Classical.choose (⟨It_dct_angles_1_u, rfl⟩ : ∃ q, q = It_dct_angles_1_u)

theorem It_dct_angles_1_def (c1 : (List Int)) (c2 : Int) (S : Type) (rd : ((Int × Int × Unit) → S → (Bool → S → Prop) → Prop)) (s : S) (K0 : S → Prop) : It_dct_angles_1 c1 c2 S rd s K0 =
  (Br (decide ((c1.length : Int) = (0 : Int)))
    (False)
    (let v5 : Int := (imul .i64 (iquo .i64 64 (c1.length : Int)) (iadd .i64 (imul .i64 2 c2) 1))
    ∃ q, It_dct_angles_1_l3 S rd q v5 v5 c1 (c1.length : Int) 0 s K0 K0)) := by
  have e : It_dct_angles_1 = It_dct_angles_1_u := Classical.choose_spec (⟨It_dct_angles_1_u, rfl⟩ : ∃ q, q = It_dct_angles_1_u)
  show It_dct_angles_1 c1 c2 S rd s K0 = It_dct_angles_1_u c1 c2 S rd s K0
  rw [e]

/- (*splicer/trig.Table).Cos (80) -/
def trig_Table__Cos_u (t1 : (List Int)) (k1 : Int) (K0 : (Int → Prop)) : Prop :=
  Br (decide (k1 < (-1152921504606846976 : Int)))
    (K0 0)
    (Br (decide ((1152921504606846976 : Int) < k1))
      (K0 0)
      (let v3 : Int := (iand .i64 k1 511)
      Br ((decide ((0 : Int) ≤ v3)) && (decide (v3 < (512 : Int))))
        (K0 (List.getD t1 (Int.toNat v3) 0))
        (False)))

noncomputable def trig_Table__Cos : (List Int) → Int → (Int → Prop) → Prop := Classical.choose (⟨trig_Table__Cos_u, rfl⟩ : ∃ q, q = trig_Table__Cos_u)

theorem trig_Table__Cos_def (t1 : (List Int)) (k1 : Int) (K0 : (Int → Prop)) : trig_Table__Cos t1 k1 K0 =
  (Br (decide (k1 < (-1152921504606846976 : Int)))
    (K0 0)
    (Br (decide ((1152921504606846976 : Int) < k1))
      (K0 0)
      (let v3 : Int := (iand .i64 k1 511)
      Br ((decide ((0 : Int) ≤ v3)) && (decide (v3 < (512 : Int))))
        (K0 (List.getD t1 (Int.toNat v3) 0))
        (False)))) := by
  have e : trig_Table__Cos = trig_Table__Cos_u := Classical.choose_spec (⟨trig_Table__Cos_u, rfl⟩ : ∃ q, q = trig_Table__Cos_u)
  show trig_Table__Cos t1 k1 K0 = trig_Table__Cos_u t1 k1 K0
  rw [e]

/- loop of splicer/num.within, region 2 -/
def num_within_l2 : Nat → Int → (List Int) → Int → Int → (Bool → Prop) → (Prop) → Prop
  | 0, _, _, _, _, _, _ => False
  | k + 1, most2, v2, v3, v4, K0, K1 => Br (decide (v4 < v3))
      (Br ((decide ((0 : Int) ≤ v4)) && (decide (v4 < (((List.length v2) : Nat) : Int))))
        (let v6 : Int := (List.getD v2 (Int.toNat v4) 0)
        Br (decide (v6 < (isub .i64 0 most2)))
          (K0 false)
          (Br (decide (most2 < v6))
            (K0 false)
            (num_within_l2 k most2 v2 v3 (iadd .i64 v4 1) K0 K1)))
        (False))
      (K1)

/- splicer/num.within (90) -/
def num_within_u (most1 : Int) (l1 : (List Int)) (K0 : (Bool → Prop)) : Prop :=
  ∃ q, num_within_l2 q most1 l1 (l1.length : Int) 0 K0
    (K0 true)

noncomputable def num_within : Int → (List Int) → (Bool → Prop) → Prop := Classical.choose (⟨num_within_u, rfl⟩ : ∃ q, q = num_within_u)

theorem num_within_def (most1 : Int) (l1 : (List Int)) (K0 : (Bool → Prop)) : num_within most1 l1 K0 =
  (∃ q, num_within_l2 q most1 l1 (l1.length : Int) 0 K0
    (K0 true)) := by
  have e : num_within = num_within_u := Classical.choose_spec (⟨num_within_u, rfl⟩ : ∃ q, q = num_within_u)
  show num_within most1 l1 K0 = num_within_u most1 l1 K0
  rw [e]

/- join of splicer/num.Shr, region 2 -/
def num_Shr_j2 (x2 : Int) (n2 : Int) (v4 : Bool) (K0 : (Int → Prop)) (K1 : (Int → Int → Prop)) : Prop :=
  Br v4
    (K0 0)
    (Br (decide (n2 = (0 : Int)))
      (K0 x2)
      (K1 x2 n2))

/- join of splicer/num.Shr, region 5 -/
def num_Shr_j5 (x6 : Int) (n6 : Int) (K0 : (Int → Prop)) : Prop :=
  let v9 : Int := (isub .i64 n6 1)
  Br (decide (v9 < (0 : Int)))
    (False)
    (Br (decide (n6 < (0 : Int)))
      (False)
      (K0 (ishr .i64 (iadd .i64 x6 (ishl .i64 1 v9)) n6)))

/- splicer/num.Shr (81) -/
def num_Shr_u (x1 : Int) (n1 : Int) (K0 : (Int → Prop)) : Prop :=
  Br (decide (n1 < (0 : Int)))
    (num_Shr_j2 x1 n1 true K0
      (fun (x3 : Int) (n3 : Int) =>
      num_Shr_j5 x3 n3 K0))
    (Br (decide ((60 : Int) < n1))
      (num_Shr_j2 x1 n1 true K0
        (fun (x4 : Int) (n4 : Int) =>
        num_Shr_j5 x4 n4 K0))
      (num_within 2305843009213693952 [x1]
        (fun (r1 : Bool) =>
        num_Shr_j2 x1 n1 (!r1) K0
          (fun (x5 : Int) (n5 : Int) =>
          num_Shr_j5 x5 n5 K0))))

noncomputable def num_Shr : Int → Int → (Int → Prop) → Prop := Classical.choose (⟨num_Shr_u, rfl⟩ : ∃ q, q = num_Shr_u)

theorem num_Shr_def (x1 : Int) (n1 : Int) (K0 : (Int → Prop)) : num_Shr x1 n1 K0 =
  (Br (decide (n1 < (0 : Int)))
    (num_Shr_j2 x1 n1 true K0
      (fun (x3 : Int) (n3 : Int) =>
      num_Shr_j5 x3 n3 K0))
    (Br (decide ((60 : Int) < n1))
      (num_Shr_j2 x1 n1 true K0
        (fun (x4 : Int) (n4 : Int) =>
        num_Shr_j5 x4 n4 K0))
      (num_within 2305843009213693952 [x1]
        (fun (r1 : Bool) =>
        num_Shr_j2 x1 n1 (!r1) K0
          (fun (x5 : Int) (n5 : Int) =>
          num_Shr_j5 x5 n5 K0))))) := by
  have e : num_Shr = num_Shr_u := Classical.choose_spec (⟨num_Shr_u, rfl⟩ : ∃ q, q = num_Shr_u)
  show num_Shr x1 n1 K0 = num_Shr_u x1 n1 K0
  rw [e]

/- range, region 7 -/
def dct_shifted_r7b (x1 : Int) (x2 : Int) (l3 : (List Int)) (by_3 : Int) (k1 : Int) (v6 : Int) (v7 : Int) (m4 : (List Int)) (m5 : (List Int)) (m6 : Int) (K0 : ((List Int) → Int → Int → Int → Int → (List Int) → (List Int) → Int → Prop)) : Prop :=
  trig_Table__Cos m4 x2
    (fun (r3 : Int) =>
    K0 l3 by_3 k1 v6 v7 m4 m5 (iadd .i64 m6 (imul .i64 x1 r3)))
def dct_shifted_r7 (c0_ : (List Int)) (c1_ : Int) (l3 : (List Int)) (by_3 : Int) (k1 : Int) (v6 : Int) (v7 : Int) (m4 : (List Int)) (m5 : (List Int)) (m6 : Int) (K0 : ((List Int) → Int → Int → Int → Int → (List Int) → (List Int) → Int → Prop)) : Prop :=
  It_dct_angles_1 c0_ c1_ (Rs (((List Int) × Int × Int × Int × Int × Unit) × ((List Int) × (List Int) × Int × Unit)) (Empty))
    (fun x s Kb => s.on fun (v : ((List Int) × Int × Int × Int × Int × Unit) × ((List Int) × (List Int) × Int × Unit)) => dct_shifted_r7b x.1 x.2.1 v.1.1 v.1.2.1 v.1.2.2.1 v.1.2.2.2.1 v.1.2.2.2.2.1 v.2.1 v.2.2.1 v.2.2.2.1 (fun (y0 : (List Int)) (y1 : Int) (y2 : Int) (y3 : Int) (y4 : Int) (y5 : (List Int)) (y6 : (List Int)) (y7 : Int) => Kb true (.go ((y0, y1, y2, y3, y4, ()), (y5, y6, y7, ())))))
    (.go ((l3, by_3, k1, v6, v7, ()), (m4, m5, m6, ())))
    (fun s => s.fin (fun (v : ((List Int) × Int × Int × Int × Int × Unit) × ((List Int) × (List Int) × Int × Unit)) => K0 v.1.1 v.1.2.1 v.1.2.2.1 v.1.2.2.2.1 v.1.2.2.2.2.1 v.2.1 v.2.2.1 v.2.2.2.1) (fun _ => False))

/- loop of splicer/dct.shifted, region 3 -/
def dct_shifted_l3 : Nat → (List Int) → Int → Int → Int → (List Int) → (List Int) → ((List Int) → Prop) → Prop
  | 0, _, _, _, _, _, _, _ => False
  | k + 1, l2, by_2, v3, v4, m2, m3, K0 => Br (decide (v4 < v3))
      (dct_angles l2 v4
        (fun (r1 : (List Int)) (r2 : Int) =>
        dct_shifted_r7 r1 r2 l2 by_2 v4 v3 v4 m2 m3 0
          (fun (l4 : (List Int)) (by_4 : Int) (k2 : Int) (v10 : Int) (v11 : Int) (m7 : (List Int)) (m8 : (List Int)) (m9 : Int) =>
          num_Shr m9 by_4
            (fun (r4 : Int) =>
            Br ((decide ((0 : Int) ≤ k2)) && (decide (k2 < (((List.length m8) : Nat) : Int))))
              (Br (decide ((Int.toNat k2) < (List.length m8)))
                (dct_shifted_l3 k l4 by_4 v10 (iadd .i64 v11 1) m7 (List.set m8 (Int.toNat k2) r4) K0)
                (False))
              (False)))))
      (K0 m3)

/- splicer/dct.shifted (43) -/
def dct_shifted_u (t1 : (List Int)) (l1 : (List Int)) (by_1 : Int) (K0 : ((List Int) → Prop)) : Prop :=
  Br (((decide ((0 : Int) ≤ (l1.length : Int))) && (decide ((l1.length : Int) ≤ (l1.length : Int)))) && (decide (((l1.length : Int) * (8 : Int)) ≤ (140737488355328 : Int))))
    (let m1 : (List Int) := (List.replicate (Int.toNat (l1.length : Int)) 0)
    ∃ q, dct_shifted_l3 q l1 by_1 (m1.length : Int) 0 t1 m1 K0)
    (False)

noncomputable def dct_shifted : (List Int) → (List Int) → Int → ((List Int) → Prop) → Prop := Classical.choose (⟨dct_shifted_u, rfl⟩ : ∃ q, q = dct_shifted_u)

theorem dct_shifted_def (t1 : (List Int)) (l1 : (List Int)) (by_1 : Int) (K0 : ((List Int) → Prop)) : dct_shifted t1 l1 by_1 K0 =
  (Br (((decide ((0 : Int) ≤ (l1.length : Int))) && (decide ((l1.length : Int) ≤ (l1.length : Int)))) && (decide (((l1.length : Int) * (8 : Int)) ≤ (140737488355328 : Int))))
    (let m1 : (List Int) := (List.replicate (Int.toNat (l1.length : Int)) 0)
    ∃ q, dct_shifted_l3 q l1 by_1 (m1.length : Int) 0 t1 m1 K0)
    (False)) := by
  have e : dct_shifted = dct_shifted_u := Classical.choose_spec (⟨dct_shifted_u, rfl⟩ : ∃ q, q = dct_shifted_u)
  show dct_shifted t1 l1 by_1 K0 = dct_shifted_u t1 l1 by_1 K0
  rw [e]

/- splicer/dct.Four (14) -/
def dct_Four_u (t1 : (List Int)) (u1 : (List Int)) (K0 : (Prop)) (K1 : ((List Int) → Prop)) : Prop :=
  dct_right u1 33554432
    (fun (r1 : Bool) =>
    Br (!r1)
      (K0)
      (dct_shifted t1 u1 24 K1))

noncomputable def dct_Four : (List Int) → (List Int) → (Prop) → ((List Int) → Prop) → Prop := Classical.choose (⟨dct_Four_u, rfl⟩ : ∃ q, q = dct_Four_u)

theorem dct_Four_def (t1 : (List Int)) (u1 : (List Int)) (K0 : (Prop)) (K1 : ((List Int) → Prop)) : dct_Four t1 u1 K0 K1 =
  (dct_right u1 33554432
    (fun (r1 : Bool) =>
    Br (!r1)
      (K0)
      (dct_shifted t1 u1 24 K1))) := by
  have e : dct_Four = dct_Four_u := Classical.choose_spec (⟨dct_Four_u, rfl⟩ : ∃ q, q = dct_Four_u)
  show dct_Four t1 u1 K0 K1 = dct_Four_u t1 u1 K0 K1
  rw [e]

/- splicer/dct.Back (15) -/
def dct_Back_u (t1 : (List Int)) (x1 : (List Int)) (K0 : (Prop)) (K1 : ((List Int) → Prop)) : Prop :=
  dct_right x1 33554432
    (fun (r1 : Bool) =>
    Br (!r1)
      (K0)
      (Br (decide ((x1.length : Int) = (8 : Int)))
        (dct_shifted t1 x1 26 K1)
        (dct_shifted t1 x1 29 K1)))

noncomputable def dct_Back : (List Int) → (List Int) → (Prop) → ((List Int) → Prop) → Prop := Classical.choose (⟨dct_Back_u, rfl⟩ : ∃ q, q = dct_Back_u)

theorem dct_Back_def (t1 : (List Int)) (x1 : (List Int)) (K0 : (Prop)) (K1 : ((List Int) → Prop)) : dct_Back t1 x1 K0 K1 =
  (dct_right x1 33554432
    (fun (r1 : Bool) =>
    Br (!r1)
      (K0)
      (Br (decide ((x1.length : Int) = (8 : Int)))
        (dct_shifted t1 x1 26 K1)
        (dct_shifted t1 x1 29 K1)))) := by
  have e : dct_Back = dct_Back_u := Classical.choose_spec (⟨dct_Back_u, rfl⟩ : ∃ q, q = dct_Back_u)
  show dct_Back t1 x1 K0 K1 = dct_Back_u t1 x1 K0 K1
  rw [e]

/- loop of splicer/splicerref01.Same, region 4 -/
def R01_Same_l4 : Nat → (List Int) → (List Int) → Int → (Bool → Prop) → (Prop) → Prop
  | 0, _, _, _, _, _ => False
  | k + 1, a2, b2, i1, K0, K1 => Br (decide (i1 < (a2.length : Int)))
      (Br ((decide ((0 : Int) ≤ i1)) && (decide (i1 < (((List.length a2) : Nat) : Int))))
        (Br ((decide ((0 : Int) ≤ i1)) && (decide (i1 < (((List.length b2) : Nat) : Int))))
          (Br (!(decide ((List.getD a2 (Int.toNat i1) 0) = (List.getD b2 (Int.toNat i1) 0))))
            (K0 false)
            (R01_Same_l4 k a2 b2 (iadd .i64 i1 1) K0 K1))
          (False))
        (False))
      (K1)

/- splicer/splicerref01.Same (19) -/
def R01_Same_u (a1 : (List Int)) (b1 : (List Int)) (K0 : (Bool → Prop)) : Prop :=
  Br (!(decide ((a1.length : Int) = (b1.length : Int))))
    (K0 false)
    (∃ q, R01_Same_l4 q a1 b1 0 K0
      (K0 true))

noncomputable def R01_Same : (List Int) → (List Int) → (Bool → Prop) → Prop := Classical.choose (⟨R01_Same_u, rfl⟩ : ∃ q, q = R01_Same_u)

theorem R01_Same_def (a1 : (List Int)) (b1 : (List Int)) (K0 : (Bool → Prop)) : R01_Same a1 b1 K0 =
  (Br (!(decide ((a1.length : Int) = (b1.length : Int))))
    (K0 false)
    (∃ q, R01_Same_l4 q a1 b1 0 K0
      (K0 true))) := by
  have e : R01_Same = R01_Same_u := Classical.choose_spec (⟨R01_Same_u, rfl⟩ : ∃ q, q = R01_Same_u)
  show R01_Same a1 b1 K0 = R01_Same_u a1 b1 K0
  rw [e]

/- splicer/splicerref07.quarter (88) -/
def R07_quarter_u  (K0 : ((List Int) → Prop)) : Prop :=
  K0 [16777216, 16775953, 16772163, 16765847, 16757007, 16745643, 16731757, 16715352, 16696429, 16674992, 16651044, 16624588, 16595628, 16564169, 16530216, 16493773, 16454846, 16413442, 16369565, 16323224, 16274424, 16223173, 16169479, 16113350, 16054795, 15993821, 15930439, 15864658, 15796488, 15725939, 15653022, 15577747, 15500126, 15420172, 15337895, 15253308, 15166424, 15077256, 14985817, 14892122, 14796184, 14698017, 14597637, 14495059, 14390298, 14283370, 14174291, 14063077, 13949745, 13834313, 13716797, 13597215, 13475586, 13351928, 13226258, 13098597, 12968963, 12837376, 12703856, 12568423, 12431097, 12291899, 12150850, 12007971, 11863283, 11716809, 11568571, 11418590, 11266890, 11113493, 10958422, 10801701, 10643353, 10483403, 10321873, 10158790, 9994176, 9828057, 9660458, 9491405, 9320922, 9149035, 8975771, 8801154, 8625213, 8447972, 8269459, 8089701, 7908725, 7726557, 7543226, 7358759, 7173184, 6986529, 6798821, 6610090, 6420363, 6229669, 6038037, 5845495, 5652074, 5457801, 5262706, 5066819, 4870169, 4672785, 4474698, 4275936, 4076531, 3876512, 3675909, 3474752, 3273072, 3070900, 2868265, 2665197, 2461729, 2257890, 2053710, 1849222, 1644455, 1439440, 1234209, 1028791, 823219, 617523, 411733, 205882, 0]

noncomputable def R07_quarter : ((List Int) → Prop) → Prop := Classical.choose (⟨R07_quarter_u, rfl⟩ : ∃ q, q = R07_quarter_u)

theorem R07_quarter_def  (K0 : ((List Int) → Prop)) : R07_quarter K0 =
  (K0 [16777216, 16775953, 16772163, 16765847, 16757007, 16745643, 16731757, 16715352, 16696429, 16674992, 16651044, 16624588, 16595628, 16564169, 16530216, 16493773, 16454846, 16413442, 16369565, 16323224, 16274424, 16223173, 16169479, 16113350, 16054795, 15993821, 15930439, 15864658, 15796488, 15725939, 15653022, 15577747, 15500126, 15420172, 15337895, 15253308, 15166424, 15077256, 14985817, 14892122, 14796184, 14698017, 14597637, 14495059, 14390298, 14283370, 14174291, 14063077, 13949745, 13834313, 13716797, 13597215, 13475586, 13351928, 13226258, 13098597, 12968963, 12837376, 12703856, 12568423, 12431097, 12291899, 12150850, 12007971, 11863283, 11716809, 11568571, 11418590, 11266890, 11113493, 10958422, 10801701, 10643353, 10483403, 10321873, 10158790, 9994176, 9828057, 9660458, 9491405, 9320922, 9149035, 8975771, 8801154, 8625213, 8447972, 8269459, 8089701, 7908725, 7726557, 7543226, 7358759, 7173184, 6986529, 6798821, 6610090, 6420363, 6229669, 6038037, 5845495, 5652074, 5457801, 5262706, 5066819, 4870169, 4672785, 4474698, 4275936, 4076531, 3876512, 3675909, 3474752, 3273072, 3070900, 2868265, 2665197, 2461729, 2257890, 2053710, 1849222, 1644455, 1439440, 1234209, 1028791, 823219, 617523, 411733, 205882, 0]) := by
  have e : R07_quarter = R07_quarter_u := Classical.choose_spec (⟨R07_quarter_u, rfl⟩ : ∃ q, q = R07_quarter_u)
  show R07_quarter K0 = R07_quarter_u K0
  rw [e]

/- loop of splicer/splicerref07.Make, region 4 -/
def R07_Make_l4 : Nat → Int → (List Int) → (List Int) → ((List Int) → Prop) → Prop
  | 0, _, _, _, _ => False
  | k + 1, k1, m1, m2, K0 => Br (decide (k1 < (512 : Int)))
      (let v3 : Int := (imin k1 (isub .i64 512 k1))
      Br (decide ((128 : Int) < v3))
        (let v5 : Int := (isub .i64 256 v3)
        Br ((decide ((0 : Int) ≤ v5)) && (decide (v5 < (((List.length m1) : Nat) : Int))))
          (Br (decide ((Int.toNat v5) < (List.length m1)))
            (let m3 : (List Int) := [(isub .i64 0 (List.getD m1 (Int.toNat v5) 0))]
            Br (decide ((((List.length m2) + (List.length m3)) * 8) ≤ 140737488355328))
              (R07_Make_l4 k (iadd .i64 k1 1) m1 (m2 ++ m3) K0)
              (False))
            (False))
          (False))
        (Br ((decide ((0 : Int) ≤ v3)) && (decide (v3 < (((List.length m1) : Nat) : Int))))
          (Br (decide ((Int.toNat v3) < (List.length m1)))
            (let m5 : (List Int) := [(List.getD m1 (Int.toNat v3) 0)]
            Br (decide ((((List.length m2) + (List.length m5)) * 8) ≤ 140737488355328))
              (R07_Make_l4 k (iadd .i64 k1 1) m1 (m2 ++ m5) K0)
              (False))
            (False))
          (False)))
      (K0 m2)

/- splicer/splicerref07.Make (76) -/
def R07_Make_u  (K0 : ((List Int) → Prop)) : Prop :=
  R07_quarter
    (fun (r1 : (List Int)) =>
    ∃ q, R07_Make_l4 q 0 r1 [] K0)

noncomputable def R07_Make : ((List Int) → Prop) → Prop := Classical.choose (⟨R07_Make_u, rfl⟩ : ∃ q, q = R07_Make_u)

theorem R07_Make_def  (K0 : ((List Int) → Prop)) : R07_Make K0 =
  (R07_quarter
    (fun (r1 : (List Int)) =>
    ∃ q, R07_Make_l4 q 0 r1 [] K0)) := by
  have e : R07_Make = R07_Make_u := Classical.choose_spec (⟨R07_Make_u, rfl⟩ : ∃ q, q = R07_Make_u)
  show R07_Make K0 = R07_Make_u K0
  rw [e]

/- loop of splicer/splicerref10.sum, region 4 -/
def R10_sum_l4 : Nat → (List Int) → (List Int) → Int → Int → Int → Int → (Int → Prop) → Prop
  | 0, _, _, _, _, _, _, _ => False
  | k + 1, c2, l2, k2, n1, a1, i1, K0 => Br (decide (i1 < (l2.length : Int)))
      (Br ((decide ((0 : Int) ≤ i1)) && (decide (i1 < (((List.length l2) : Nat) : Int))))
        (let v12 : Int := (irem .i64 (imul .i64 (imul .i64 a1 (iadd .i64 (imul .i64 2 i1) 1)) (iadd .i64 (imul .i64 2 k2) 1)) 512)
        Br ((decide ((0 : Int) ≤ v12)) && (decide (v12 < (((List.length c2) : Nat) : Int))))
          (R10_sum_l4 k c2 l2 k2 (iadd .i64 n1 (imul .i64 (List.getD l2 (Int.toNat i1) 0) (List.getD c2 (Int.toNat v12) 0))) a1 (iadd .i64 i1 1) K0)
          (False))
        (False))
      (K0 n1)

/- splicer/splicerref10.sum (77) -/
def R10_sum_u (c1 : (List Int)) (l1 : (List Int)) (k1 : Int) (K0 : (Int → Prop)) : Prop :=
  Br (decide ((l1.length : Int) = (0 : Int)))
    (False)
    (∃ q, R10_sum_l4 q c1 l1 k1 0 (iquo .i64 64 (l1.length : Int)) 0 K0)

noncomputable def R10_sum : (List Int) → (List Int) → Int → (Int → Prop) → Prop := Classical.choose (⟨R10_sum_u, rfl⟩ : ∃ q, q = R10_sum_u)

theorem R10_sum_def (c1 : (List Int)) (l1 : (List Int)) (k1 : Int) (K0 : (Int → Prop)) : R10_sum c1 l1 k1 K0 =
  (Br (decide ((l1.length : Int) = (0 : Int)))
    (False)
    (∃ q, R10_sum_l4 q c1 l1 k1 0 (iquo .i64 64 (l1.length : Int)) 0 K0)) := by
  have e : R10_sum = R10_sum_u := Classical.choose_spec (⟨R10_sum_u, rfl⟩ : ∃ q, q = R10_sum_u)
  show R10_sum c1 l1 k1 K0 = R10_sum_u c1 l1 k1 K0
  rw [e]

/- loop of splicer/splicerref10.Sums, region 4 -/
def R10_Sums_l4 : Nat → (List Int) → Int → (List Int) → (List Int) → ((List Int) → Prop) → Prop
  | 0, _, _, _, _, _ => False
  | k + 1, x2, i1, m1, m2, K0 => Br (decide (i1 < (x2.length : Int)))
      (R10_sum m1 x2 i1
        (fun (r2 : Int) =>
        let m3 : (List Int) := [r2]
        Br (decide ((((List.length m2) + (List.length m3)) * 8) ≤ 140737488355328))
          (R10_Sums_l4 k x2 (iadd .i64 i1 1) m1 (m2 ++ m3) K0)
          (False)))
      (K0 m2)

/- splicer/splicerref10.Sums (78) -/
def R10_Sums_u (x1 : (List Int)) (K0 : ((List Int) → Prop)) : Prop :=
  R07_Make
    (fun (r1 : (List Int)) =>
    ∃ q, R10_Sums_l4 q x1 0 r1 [] K0)

noncomputable def R10_Sums : (List Int) → ((List Int) → Prop) → Prop := Classical.choose (⟨R10_Sums_u, rfl⟩ : ∃ q, q = R10_Sums_u)

theorem R10_Sums_def (x1 : (List Int)) (K0 : ((List Int) → Prop)) : R10_Sums x1 K0 =
  (R07_Make
    (fun (r1 : (List Int)) =>
    ∃ q, R10_Sums_l4 q x1 0 r1 [] K0)) := by
  have e : R10_Sums = R10_Sums_u := Classical.choose_spec (⟨R10_Sums_u, rfl⟩ : ∃ q, q = R10_Sums_u)
  show R10_Sums x1 K0 = R10_Sums_u x1 K0
  rw [e]

/- splicer/splicerref01.Mod (74) -/
def R01_Mod_u (a1 : Int) (b1 : Int) (K0 : (Int → Int → Prop)) : Prop :=
  Br (decide (b1 < (1 : Int)))
    (K0 0 0)
    (Br (decide (b1 = (0 : Int)))
      (False)
      (let v2 : Int := (iquo .i64 a1 b1)
      Br (decide (b1 = (0 : Int)))
        (False)
        (let v3 : Int := (irem .i64 a1 b1)
        Br (decide (v3 < (0 : Int)))
          (K0 (isub .i64 v2 1) (iadd .i64 v3 b1))
          (K0 v2 v3))))

noncomputable def R01_Mod : Int → Int → (Int → Int → Prop) → Prop := Classical.choose (⟨R01_Mod_u, rfl⟩ : ∃ q, q = R01_Mod_u)

theorem R01_Mod_def (a1 : Int) (b1 : Int) (K0 : (Int → Int → Prop)) : R01_Mod a1 b1 K0 =
  (Br (decide (b1 < (1 : Int)))
    (K0 0 0)
    (Br (decide (b1 = (0 : Int)))
      (False)
      (let v2 : Int := (iquo .i64 a1 b1)
      Br (decide (b1 = (0 : Int)))
        (False)
        (let v3 : Int := (irem .i64 a1 b1)
        Br (decide (v3 < (0 : Int)))
          (K0 (isub .i64 v2 1) (iadd .i64 v3 b1))
          (K0 v2 v3))))) := by
  have e : R01_Mod = R01_Mod_u := Classical.choose_spec (⟨R01_Mod_u, rfl⟩ : ∃ q, q = R01_Mod_u)
  show R01_Mod a1 b1 K0 = R01_Mod_u a1 b1 K0
  rw [e]

/- splicer/splicerref01.Shr (50) -/
def R01_Shr_u (x1 : Int) (n1 : Int) (K0 : (Int → Prop)) : Prop :=
  Br (decide (x1 < (-2305843009213693952 : Int)))
    (K0 0)
    (Br (decide ((2305843009213693952 : Int) < x1))
      (K0 0)
      (Br (decide (n1 < (0 : Int)))
        (K0 0)
        (Br (decide ((60 : Int) < n1))
          (K0 0)
          (Br (decide (n1 < (0 : Int)))
            (False)
            (R01_Mod x1 (ishl .i64 1 n1)
              (fun (r1 : Int) (r2 : Int) =>
              Br (decide (n1 < (0 : Int)))
                (False)
                (Br (decide ((ishl .i64 1 n1) ≤ (imul .i64 2 r2)))
                  (K0 (iadd .i64 r1 1))
                  (K0 r1))))))))

noncomputable def R01_Shr : Int → Int → (Int → Prop) → Prop := Classical.choose (⟨R01_Shr_u, rfl⟩ : ∃ q, q = R01_Shr_u)

theorem R01_Shr_def (x1 : Int) (n1 : Int) (K0 : (Int → Prop)) : R01_Shr x1 n1 K0 =
  (Br (decide (x1 < (-2305843009213693952 : Int)))
    (K0 0)
    (Br (decide ((2305843009213693952 : Int) < x1))
      (K0 0)
      (Br (decide (n1 < (0 : Int)))
        (K0 0)
        (Br (decide ((60 : Int) < n1))
          (K0 0)
          (Br (decide (n1 < (0 : Int)))
            (False)
            (R01_Mod x1 (ishl .i64 1 n1)
              (fun (r1 : Int) (r2 : Int) =>
              Br (decide (n1 < (0 : Int)))
                (False)
                (Br (decide ((ishl .i64 1 n1) ≤ (imul .i64 2 r2)))
                  (K0 (iadd .i64 r1 1))
                  (K0 r1))))))))) := by
  have e : R01_Shr = R01_Shr_u := Classical.choose_spec (⟨R01_Shr_u, rfl⟩ : ∃ q, q = R01_Shr_u)
  show R01_Shr x1 n1 K0 = R01_Shr_u x1 n1 K0
  rw [e]

/- loop of splicer/splicerref10.Back, region 9 -/
def R10_Back_l9 : Nat → Int → Int → (List Int) → (List Int) → ((List Int) → Prop) → Prop
  | 0, _, _, _, _, _ => False
  | k + 1, by_2, i1, m1, m2, K0 => Br (decide (i1 < (m1.length : Int)))
      (Br ((decide ((0 : Int) ≤ i1)) && (decide (i1 < (((List.length m1) : Nat) : Int))))
        (Br (decide ((Int.toNat i1) < (List.length m1)))
          (R01_Shr (List.getD m1 (Int.toNat i1) 0) by_2
            (fun (r3 : Int) =>
            let m3 : (List Int) := [r3]
            Br (decide ((((List.length m2) + (List.length m3)) * 8) ≤ 140737488355328))
              (R10_Back_l9 k by_2 (iadd .i64 i1 1) m1 (m2 ++ m3) K0)
              (False)))
          (False))
        (False))
      (K0 m2)

/- join of splicer/splicerref10.Back, region 6 -/
def R10_Back_j6 (x2 : (List Int)) (by_1 : Int) (K0 : ((List Int) → Prop)) : Prop :=
  R10_Sums x2
    (fun (r2 : (List Int)) =>
    ∃ q, R10_Back_l9 q by_1 0 r2 [] K0)

/- splicer/splicerref10.Back (38) -/
def R10_Back_u (x1 : (List Int)) (K0 : (Prop)) (K1 : ((List Int) → Prop)) : Prop :=
  R10_Right x1 33554432
    (fun (r1 : Bool) =>
    Br (!r1)
      (K0)
      (Br (decide ((x1.length : Int) = (8 : Int)))
        (R10_Back_j6 x1 26 K1)
        (R10_Back_j6 x1 29 K1)))

noncomputable def R10_Back : (List Int) → (Prop) → ((List Int) → Prop) → Prop := Classical.choose (⟨R10_Back_u, rfl⟩ : ∃ q, q = R10_Back_u)

theorem R10_Back_def (x1 : (List Int)) (K0 : (Prop)) (K1 : ((List Int) → Prop)) : R10_Back x1 K0 K1 =
  (R10_Right x1 33554432
    (fun (r1 : Bool) =>
    Br (!r1)
      (K0)
      (Br (decide ((x1.length : Int) = (8 : Int)))
        (R10_Back_j6 x1 26 K1)
        (R10_Back_j6 x1 29 K1)))) := by
  have e : R10_Back = R10_Back_u := Classical.choose_spec (⟨R10_Back_u, rfl⟩ : ∃ q, q = R10_Back_u)
  show R10_Back x1 K0 K1 = R10_Back_u x1 K0 K1
  rw [e]

/- join of splicer/splicerlaw10.awake, region 4 -/
def L10_awake_j4 (m4 : (List Int)) (m5 : (List Int)) (K0 : (Bool → Prop)) : Prop :=
  R01_Same m4 (List.replicate 8 0)
    (fun (r4 : Bool) =>
    Br r4
      (Br (decide ((m4.length : Int) = (8 : Int)))
        (R10_Back [32, 0, 0, 0, 0, 0, 0, 0]
          (R01_Same m5 []
            (fun (r5 : Bool) =>
            Br r5
              (Br (decide ((m5.length : Int) = (8 : Int)))
                (Br (decide ((0 : Int) < (((List.length m5) : Nat) : Int)))
                  (Br (decide (0 < (List.length m5)))
                    (K0 (decide ((List.getD m5 0 0) = (8 : Int))))
                    (False))
                  (False))
                (K0 false))
              (K0 false)))
          (fun (r6 : (List Int)) =>
          R01_Same m5 r6
            (fun (r7 : Bool) =>
            Br r7
              (Br (decide ((m5.length : Int) = (8 : Int)))
                (Br (decide ((0 : Int) < (((List.length m5) : Nat) : Int)))
                  (Br (decide (0 < (List.length m5)))
                    (K0 (decide ((List.getD m5 0 0) = (8 : Int))))
                    (False))
                  (False))
                (K0 false))
              (K0 false))))
        (K0 false))
      (K0 false))

/- join of splicer/splicerlaw10.awake, region 3 -/
def L10_awake_j3 (t1 : (List Int)) (m2 : (List Int)) (K0 : (Bool → Prop)) : Prop :=
  dct_Back t1 [32, 0, 0, 0, 0, 0, 0, 0]
    (L10_awake_j4 m2 [] K0)
    (fun (r3 : (List Int)) =>
    L10_awake_j4 m2 r3 K0)

/- splicer/splicerlaw10.awake (12) -/
def L10_awake_u  (K0 : (Bool → Prop)) : Prop :=
  trig_Make
    (fun (r1 : (List Int)) =>
    dct_Four r1 (List.replicate 8 0)
      (L10_awake_j3 r1 [] K0)
      (fun (r2 : (List Int)) =>
      L10_awake_j3 r1 r2 K0))

noncomputable def L10_awake : (Bool → Prop) → Prop := Classical.choose (⟨L10_awake_u, rfl⟩ : ∃ q, q = L10_awake_u)

theorem L10_awake_def  (K0 : (Bool → Prop)) : L10_awake K0 =
  (trig_Make
    (fun (r1 : (List Int)) =>
    dct_Four r1 (List.replicate 8 0)
      (L10_awake_j3 r1 [] K0)
      (fun (r2 : (List Int)) =>
      L10_awake_j3 r1 r2 K0))) := by
  have e : L10_awake = L10_awake_u := Classical.choose_spec (⟨L10_awake_u, rfl⟩ : ∃ q, q = L10_awake_u)
  show L10_awake K0 = L10_awake_u K0
  rw [e]

/- loop of splicer/splicerlaw10.DctBack, region 9 -/
def L10_DctBack_l9 : Nat → (List Int) → Int → (List Int) → (Bool → Prop) → (Prop) → Prop
  | 0, _, _, _, _, _ => False
  | k + 1, u4, i1, m4, K0, K1 => Br (decide (i1 < (u4.length : Int)))
      (Br ((decide ((0 : Int) ≤ i1)) && (decide (i1 < (((List.length m4) : Nat) : Int))))
        (Br (decide ((Int.toNat i1) < (List.length m4)))
          (Br ((decide ((0 : Int) ≤ i1)) && (decide (i1 < (((List.length u4) : Nat) : Int))))
            (Br (decide ((8 : Int) < (isub .i64 (List.getD m4 (Int.toNat i1) 0) (List.getD u4 (Int.toNat i1) 0))))
              (K0 false)
              (Br ((decide ((0 : Int) ≤ i1)) && (decide (i1 < (((List.length u4) : Nat) : Int))))
                (Br ((decide ((0 : Int) ≤ i1)) && (decide (i1 < (((List.length m4) : Nat) : Int))))
                  (Br (decide ((Int.toNat i1) < (List.length m4)))
                    (Br (decide ((8 : Int) < (isub .i64 (List.getD u4 (Int.toNat i1) 0) (List.getD m4 (Int.toNat i1) 0))))
                      (K0 false)
                      (L10_DctBack_l9 k u4 (iadd .i64 i1 1) m4 K0 K1))
                    (False))
                  (False))
                (False)))
            (False))
          (False))
        (False))
      (K1)

/- join of splicer/splicerlaw10.DctBack, region 6 -/
def L10_DctBack_j6 (u3 : (List Int)) (m2 : (List Int)) (m3 : (List Int)) (K0 : (Bool → Prop)) : Prop :=
  Br (!(decide ((m2.length : Int) = (u3.length : Int))))
    (K0 false)
    (Br (!(decide ((m3.length : Int) = (u3.length : Int))))
      (K0 false)
      (∃ q, L10_DctBack_l9 q u3 0 m3 K0
        (L10_awake K0)))

/- join of splicer/splicerlaw10.DctBack, region 5 -/
def L10_DctBack_j5 (u2 : (List Int)) (t1 : (List Int)) (m1 : (List Int)) (K0 : (Bool → Prop)) : Prop :=
  dct_Back t1 m1
    (L10_DctBack_j6 u2 m1 [] K0)
    (fun (r5 : (List Int)) =>
    L10_DctBack_j6 u2 m1 r5 K0)

/- splicer/splicerlaw10.DctBack (3) -/
def L10_DctBack_u (u1 : (List Int)) (K0 : (Bool → Prop)) : Prop :=
  R10_Right u1 131072
    (fun (r1 : Bool) =>
    Br (!r1)
      (L10_awake K0)
      (trig_Make
        (fun (r3 : (List Int)) =>
        dct_Four r3 u1
          (L10_DctBack_j5 u1 r3 [] K0)
          (fun (r4 : (List Int)) =>
          L10_DctBack_j5 u1 r3 r4 K0))))

noncomputable def L10_DctBack : (List Int) → (Bool → Prop) → Prop := Classical.choose (⟨L10_DctBack_u, rfl⟩ : ∃ q, q = L10_DctBack_u)

theorem L10_DctBack_def (u1 : (List Int)) (K0 : (Bool → Prop)) : L10_DctBack u1 K0 =
  (R10_Right u1 131072
    (fun (r1 : Bool) =>
    Br (!r1)
      (L10_awake K0)
      (trig_Make
        (fun (r3 : (List Int)) =>
        dct_Four r3 u1
          (L10_DctBack_j5 u1 r3 [] K0)
          (fun (r4 : (List Int)) =>
          L10_DctBack_j5 u1 r3 r4 K0))))) := by
  have e : L10_DctBack = L10_DctBack_u := Classical.choose_spec (⟨L10_DctBack_u, rfl⟩ : ∃ q, q = L10_DctBack_u)
  show L10_DctBack u1 K0 = L10_DctBack_u u1 K0
  rw [e]

end Go.Eng.A
