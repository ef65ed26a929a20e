/- The functions that TrigQuarter reaches, as plain ones: printed by program. -/
import Derived.Test.YtjfnkbbcnllfiabEngA
set_option linter.unusedVariables false
set_option maxRecDepth 100000
namespace Go.Eng.A
open Go Go.Eng

/- splicer/trig.first (42) -/
def trig_first_u  (K0 : ((List Int) → Prop)) : Prop :=
  K0 [16777216, 16775953, 16772163, 16765847, 16757007, 16745643, 16731757, 16715352, 16696429, 16674992, 16651044, 16624588, 16595628, 16564169, 16530216, 16493773, 16454846, 16413442, 16369565, 16323224, 16274424, 16223173, 16169479, 16113350, 16054795, 15993821, 15930439, 15864658, 15796488, 15725939, 15653022, 15577747, 15500126, 15420172, 15337895, 15253308, 15166424, 15077256, 14985817, 14892122, 14796184, 14698017, 14597637, 14495059, 14390298, 14283370, 14174291, 14063077, 13949745, 13834313, 13716797, 13597215, 13475586, 13351928, 13226258, 13098597, 12968963, 12837376, 12703856, 12568423, 12431097, 12291899, 12150850, 12007971, 11863283, 11716809, 11568571, 11418590, 11266890, 11113493, 10958422, 10801701, 10643353, 10483403, 10321873, 10158790, 9994176, 9828057, 9660458, 9491405, 9320922, 9149035, 8975771, 8801154, 8625213, 8447972, 8269459, 8089701, 7908725, 7726557, 7543226, 7358759, 7173184, 6986529, 6798821, 6610090, 6420363, 6229669, 6038037, 5845495, 5652074, 5457801, 5262706, 5066819, 4870169, 4672785, 4474698, 4275936, 4076531, 3876512, 3675909, 3474752, 3273072, 3070900, 2868265, 2665197, 2461729, 2257890, 2053710, 1849222, 1644455, 1439440, 1234209, 1028791, 823219, 617523, 411733, 205882, 0]

noncomputable def trig_first : ((List Int) → Prop) → Prop := Classical.choose (⟨trig_first_u, rfl⟩ : ∃ q, q = trig_first_u)

theorem trig_first_def  (K0 : ((List Int) → Prop)) : trig_first K0 =
  (K0 [16777216, 16775953, 16772163, 16765847, 16757007, 16745643, 16731757, 16715352, 16696429, 16674992, 16651044, 16624588, 16595628, 16564169, 16530216, 16493773, 16454846, 16413442, 16369565, 16323224, 16274424, 16223173, 16169479, 16113350, 16054795, 15993821, 15930439, 15864658, 15796488, 15725939, 15653022, 15577747, 15500126, 15420172, 15337895, 15253308, 15166424, 15077256, 14985817, 14892122, 14796184, 14698017, 14597637, 14495059, 14390298, 14283370, 14174291, 14063077, 13949745, 13834313, 13716797, 13597215, 13475586, 13351928, 13226258, 13098597, 12968963, 12837376, 12703856, 12568423, 12431097, 12291899, 12150850, 12007971, 11863283, 11716809, 11568571, 11418590, 11266890, 11113493, 10958422, 10801701, 10643353, 10483403, 10321873, 10158790, 9994176, 9828057, 9660458, 9491405, 9320922, 9149035, 8975771, 8801154, 8625213, 8447972, 8269459, 8089701, 7908725, 7726557, 7543226, 7358759, 7173184, 6986529, 6798821, 6610090, 6420363, 6229669, 6038037, 5845495, 5652074, 5457801, 5262706, 5066819, 4870169, 4672785, 4474698, 4275936, 4076531, 3876512, 3675909, 3474752, 3273072, 3070900, 2868265, 2665197, 2461729, 2257890, 2053710, 1849222, 1644455, 1439440, 1234209, 1028791, 823219, 617523, 411733, 205882, 0]) := by
  have e : trig_first = trig_first_u := Classical.choose_spec (⟨trig_first_u, rfl⟩ : ∃ q, q = trig_first_u)
  show trig_first K0 = trig_first_u K0
  rw [e]

/- loop of splicer/trig.Make, region 3 -/
def trig_Make_l3 : Nat → Int → (List Int) → (List Int) → ((List Int) → Prop) → Prop
  | 0, _, _, _, _ => False
  | k + 1, v2, m2, m3, K0 => Br (decide (v2 < (129 : Int)))
      (Br ((decide ((0 : Int) ≤ v2)) && (decide (v2 < (129 : Int))))
        (Br (decide ((Int.toNat v2) < (List.length m3)))
          (Br ((decide ((0 : Int) ≤ v2)) && (decide (v2 < (512 : Int))))
            (Br (decide ((Int.toNat v2) < (List.length m2)))
              (let m4 : (List Int) := (List.set m2 (Int.toNat v2) (List.getD m3 (Int.toNat v2) 0))
              let v5 : Int := (isub .i64 256 v2)
              Br ((decide ((0 : Int) ≤ v2)) && (decide (v2 < (129 : Int))))
                (Br (decide ((Int.toNat v2) < (List.length m3)))
                  (Br ((decide ((0 : Int) ≤ v5)) && (decide (v5 < (512 : Int))))
                    (Br (decide ((Int.toNat v5) < (List.length m4)))
                      (let m5 : (List Int) := (List.set m4 (Int.toNat v5) (isub .i64 0 (List.getD m3 (Int.toNat v2) 0)))
                      let v9 : Int := (irem .i64 (iadd .i64 256 v2) 512)
                      Br ((decide ((0 : Int) ≤ v2)) && (decide (v2 < (129 : Int))))
                        (Br (decide ((Int.toNat v2) < (List.length m3)))
                          (Br ((decide ((0 : Int) ≤ v9)) && (decide (v9 < (512 : Int))))
                            (Br (decide ((Int.toNat v9) < (List.length m5)))
                              (let m6 : (List Int) := (List.set m5 (Int.toNat v9) (isub .i64 0 (List.getD m3 (Int.toNat v2) 0)))
                              let v13 : Int := (irem .i64 (isub .i64 512 v2) 512)
                              Br ((decide ((0 : Int) ≤ v2)) && (decide (v2 < (129 : Int))))
                                (Br (decide ((Int.toNat v2) < (List.length m3)))
                                  (Br ((decide ((0 : Int) ≤ v13)) && (decide (v13 < (512 : Int))))
                                    (Br (decide ((Int.toNat v13) < (List.length m6)))
                                      (trig_Make_l3 k (iadd .i64 v2 1) (List.set m6 (Int.toNat v13) (List.getD m3 (Int.toNat v2) 0)) m3 K0)
                                      (False))
                                    (False))
                                  (False))
                                (False))
                              (False))
                            (False))
                          (False))
                        (False))
                      (False))
                    (False))
                  (False))
                (False))
              (False))
            (False))
          (False))
        (False))
      (K0 m2)

/- splicer/trig.Make (23) -/
def trig_Make_u  (K0 : ((List Int) → Prop)) : Prop :=
  trig_first
    (fun (r1 : (List Int)) =>
    ∃ q, trig_Make_l3 q 0 (List.replicate 512 0) r1 K0)

noncomputable def trig_Make : ((List Int) → Prop) → Prop := Classical.choose (⟨trig_Make_u, rfl⟩ : ∃ q, q = trig_Make_u)

theorem trig_Make_def  (K0 : ((List Int) → Prop)) : trig_Make K0 =
  (trig_first
    (fun (r1 : (List Int)) =>
    ∃ q, trig_Make_l3 q 0 (List.replicate 512 0) r1 K0)) := by
  have e : trig_Make = trig_Make_u := Classical.choose_spec (⟨trig_Make_u, rfl⟩ : ∃ q, q = trig_Make_u)
  show trig_Make K0 = trig_Make_u K0
  rw [e]

/- (*splicer/trig.Table).Cos (26) -/
def trig_Table__Cos_u (t1 : (List Int)) (k1 : Int) (K0 : (Int → Prop)) : Prop :=
  Br (decide (k1 < (-1152921504606846976 : Int)))
    (K0 0)
    (Br (decide ((1152921504606846976 : Int) < k1))
      (K0 0)
      (let v3 : Int := (iand .i64 k1 511)
      Br ((decide ((0 : Int) ≤ v3)) && (decide (v3 < (512 : Int))))
        (K0 (List.getD t1 (Int.toNat v3) 0))
        (False)))

noncomputable def trig_Table__Cos : (List Int) → Int → (Int → Prop) → Prop := Classical.choose (⟨trig_Table__Cos_u, rfl⟩ : ∃ q, q = trig_Table__Cos_u)

theorem trig_Table__Cos_def (t1 : (List Int)) (k1 : Int) (K0 : (Int → Prop)) : trig_Table__Cos t1 k1 K0 =
  (Br (decide (k1 < (-1152921504606846976 : Int)))
    (K0 0)
    (Br (decide ((1152921504606846976 : Int) < k1))
      (K0 0)
      (let v3 : Int := (iand .i64 k1 511)
      Br ((decide ((0 : Int) ≤ v3)) && (decide (v3 < (512 : Int))))
        (K0 (List.getD t1 (Int.toNat v3) 0))
        (False)))) := by
  have e : trig_Table__Cos = trig_Table__Cos_u := Classical.choose_spec (⟨trig_Table__Cos_u, rfl⟩ : ∃ q, q = trig_Table__Cos_u)
  show trig_Table__Cos t1 k1 K0 = trig_Table__Cos_u t1 k1 K0
  rw [e]

/- (*splicer/trig.Table).Sin (28) -/
def trig_Table__Sin_u (t1 : (List Int)) (k1 : Int) (K0 : (Int → Prop)) : Prop :=
  Br (decide (k1 < (-1152921504606846976 : Int)))
    (K0 0)
    (Br (decide ((1152921504606846976 : Int) < k1))
      (K0 0)
      (trig_Table__Cos t1 (isub .i64 (iand .i64 k1 511) 128) K0))

noncomputable def trig_Table__Sin : (List Int) → Int → (Int → Prop) → Prop := Classical.choose (⟨trig_Table__Sin_u, rfl⟩ : ∃ q, q = trig_Table__Sin_u)

theorem trig_Table__Sin_def (t1 : (List Int)) (k1 : Int) (K0 : (Int → Prop)) : trig_Table__Sin t1 k1 K0 =
  (Br (decide (k1 < (-1152921504606846976 : Int)))
    (K0 0)
    (Br (decide ((1152921504606846976 : Int) < k1))
      (K0 0)
      (trig_Table__Cos t1 (isub .i64 (iand .i64 k1 511) 128) K0))) := by
  have e : trig_Table__Sin = trig_Table__Sin_u := Classical.choose_spec (⟨trig_Table__Sin_u, rfl⟩ : ∃ q, q = trig_Table__Sin_u)
  show trig_Table__Sin t1 k1 K0 = trig_Table__Sin_u t1 k1 K0
  rw [e]

/- loop of splicer/num.within, region 2 -/
def num_within_l2 : Nat → Int → (List Int) → Int → Int → (Bool → Prop) → (Prop) → Prop
  | 0, _, _, _, _, _, _ => False
  | k + 1, most2, v2, v3, v4, K0, K1 => Br (decide (v4 < v3))
      (Br ((decide ((0 : Int) ≤ v4)) && (decide (v4 < (((List.length v2) : Nat) : Int))))
        (let v6 : Int := (List.getD v2 (Int.toNat v4) 0)
        Br (decide (v6 < (isub .i64 0 most2)))
          (K0 false)
          (Br (decide (most2 < v6))
            (K0 false)
            (num_within_l2 k most2 v2 v3 (iadd .i64 v4 1) K0 K1)))
        (False))
      (K1)

/- splicer/num.within (48) -/
def num_within_u (most1 : Int) (l1 : (List Int)) (K0 : (Bool → Prop)) : Prop :=
  ∃ q, num_within_l2 q most1 l1 (l1.length : Int) 0 K0
    (K0 true)

noncomputable def num_within : Int → (List Int) → (Bool → Prop) → Prop := Classical.choose (⟨num_within_u, rfl⟩ : ∃ q, q = num_within_u)

theorem num_within_def (most1 : Int) (l1 : (List Int)) (K0 : (Bool → Prop)) : num_within most1 l1 K0 =
  (∃ q, num_within_l2 q most1 l1 (l1.length : Int) 0 K0
    (K0 true)) := by
  have e : num_within = num_within_u := Classical.choose_spec (⟨num_within_u, rfl⟩ : ∃ q, q = num_within_u)
  show num_within most1 l1 K0 = num_within_u most1 l1 K0
  rw [e]

/- join of splicer/num.Shr, region 2 -/
def num_Shr_j2 (x2 : Int) (n2 : Int) (v4 : Bool) (K0 : (Int → Prop)) (K1 : (Int → Int → Prop)) : Prop :=
  Br v4
    (K0 0)
    (Br (decide (n2 = (0 : Int)))
      (K0 x2)
      (K1 x2 n2))

/- join of splicer/num.Shr, region 5 -/
def num_Shr_j5 (x6 : Int) (n6 : Int) (K0 : (Int → Prop)) : Prop :=
  let v9 : Int := (isub .i64 n6 1)
  Br (decide (v9 < (0 : Int)))
    (False)
    (Br (decide (n6 < (0 : Int)))
      (False)
      (K0 (ishr .i64 (iadd .i64 x6 (ishl .i64 1 v9)) n6)))

/- splicer/num.Shr (38) -/
def num_Shr_u (x1 : Int) (n1 : Int) (K0 : (Int → Prop)) : Prop :=
  Br (decide (n1 < (0 : Int)))
    (num_Shr_j2 x1 n1 true K0
      (fun (x3 : Int) (n3 : Int) =>
      num_Shr_j5 x3 n3 K0))
    (Br (decide ((60 : Int) < n1))
      (num_Shr_j2 x1 n1 true K0
        (fun (x4 : Int) (n4 : Int) =>
        num_Shr_j5 x4 n4 K0))
      (num_within 2305843009213693952 [x1]
        (fun (r1 : Bool) =>
        num_Shr_j2 x1 n1 (!r1) K0
          (fun (x5 : Int) (n5 : Int) =>
          num_Shr_j5 x5 n5 K0))))

noncomputable def num_Shr : Int → Int → (Int → Prop) → Prop := Classical.choose (⟨num_Shr_u, rfl⟩ : ∃ q, q = num_Shr_u)

theorem num_Shr_def (x1 : Int) (n1 : Int) (K0 : (Int → Prop)) : num_Shr x1 n1 K0 =
  (Br (decide (n1 < (0 : Int)))
    (num_Shr_j2 x1 n1 true K0
      (fun (x3 : Int) (n3 : Int) =>
      num_Shr_j5 x3 n3 K0))
    (Br (decide ((60 : Int) < n1))
      (num_Shr_j2 x1 n1 true K0
        (fun (x4 : Int) (n4 : Int) =>
        num_Shr_j5 x4 n4 K0))
      (num_within 2305843009213693952 [x1]
        (fun (r1 : Bool) =>
        num_Shr_j2 x1 n1 (!r1) K0
          (fun (x5 : Int) (n5 : Int) =>
          num_Shr_j5 x5 n5 K0))))) := by
  have e : num_Shr = num_Shr_u := Classical.choose_spec (⟨num_Shr_u, rfl⟩ : ∃ q, q = num_Shr_u)
  show num_Shr x1 n1 K0 = num_Shr_u x1 n1 K0
  rw [e]

/- join of (*splicer/trig.Table).Turn, region 2 -/
def trig_Table__Turn_j2 (t2 : (List Int)) (re2 : Int) (im2 : Int) (k2 : Int) (v7 : Bool) (K0 : (Int → Int → Prop)) (K1 : ((List Int) → Int → Int → Int → Prop)) : Prop :=
  Br v7
    (K0 0 0)
    (K1 t2 re2 im2 k2)

/- join of (*splicer/trig.Table).Turn, region 3 -/
def trig_Table__Turn_j3 (t7 : (List Int)) (re7 : Int) (im7 : Int) (k7 : Int) (K0 : (Int → Int → Prop)) : Prop :=
  trig_Table__Cos t7 k7
    (fun (r1 : Int) =>
    trig_Table__Sin t7 k7
      (fun (r2 : Int) =>
      num_Shr (iadd .i64 (imul .i64 re7 r1) (imul .i64 im7 r2)) 24
        (fun (r3 : Int) =>
        num_Shr (isub .i64 (imul .i64 im7 r1) (imul .i64 re7 r2)) 24
          (fun (r4 : Int) =>
          K0 r3 r4))))

/- (*splicer/trig.Table).Turn (24) -/
def trig_Table__Turn_u (t1 : (List Int)) (re1 : Int) (im1 : Int) (k1 : Int) (K0 : (Int → Int → Prop)) : Prop :=
  Br (decide ((imin re1 im1) < (-34359738368 : Int)))
    (trig_Table__Turn_j2 t1 re1 im1 k1 true K0
      (fun (t3 : (List Int)) (re3 : Int) (im3 : Int) (k3 : Int) =>
      trig_Table__Turn_j3 t3 re3 im3 k3 K0))
    (Br (decide ((34359738368 : Int) < (imax re1 im1)))
      (trig_Table__Turn_j2 t1 re1 im1 k1 true K0
        (fun (t4 : (List Int)) (re4 : Int) (im4 : Int) (k4 : Int) =>
        trig_Table__Turn_j3 t4 re4 im4 k4 K0))
      (Br (decide (k1 < (-1152921504606846976 : Int)))
        (trig_Table__Turn_j2 t1 re1 im1 k1 true K0
          (fun (t5 : (List Int)) (re5 : Int) (im5 : Int) (k5 : Int) =>
          trig_Table__Turn_j3 t5 re5 im5 k5 K0))
        (trig_Table__Turn_j2 t1 re1 im1 k1 (decide ((1152921504606846976 : Int) < k1)) K0
          (fun (t6 : (List Int)) (re6 : Int) (im6 : Int) (k6 : Int) =>
          trig_Table__Turn_j3 t6 re6 im6 k6 K0))))

noncomputable def trig_Table__Turn : (List Int) → Int → Int → Int → (Int → Int → Prop) → Prop := Classical.choose (⟨trig_Table__Turn_u, rfl⟩ : ∃ q, q = trig_Table__Turn_u)

theorem trig_Table__Turn_def (t1 : (List Int)) (re1 : Int) (im1 : Int) (k1 : Int) (K0 : (Int → Int → Prop)) : trig_Table__Turn t1 re1 im1 k1 K0 =
  (Br (decide ((imin re1 im1) < (-34359738368 : Int)))
    (trig_Table__Turn_j2 t1 re1 im1 k1 true K0
      (fun (t3 : (List Int)) (re3 : Int) (im3 : Int) (k3 : Int) =>
      trig_Table__Turn_j3 t3 re3 im3 k3 K0))
    (Br (decide ((34359738368 : Int) < (imax re1 im1)))
      (trig_Table__Turn_j2 t1 re1 im1 k1 true K0
        (fun (t4 : (List Int)) (re4 : Int) (im4 : Int) (k4 : Int) =>
        trig_Table__Turn_j3 t4 re4 im4 k4 K0))
      (Br (decide (k1 < (-1152921504606846976 : Int)))
        (trig_Table__Turn_j2 t1 re1 im1 k1 true K0
          (fun (t5 : (List Int)) (re5 : Int) (im5 : Int) (k5 : Int) =>
          trig_Table__Turn_j3 t5 re5 im5 k5 K0))
        (trig_Table__Turn_j2 t1 re1 im1 k1 (decide ((1152921504606846976 : Int) < k1)) K0
          (fun (t6 : (List Int)) (re6 : Int) (im6 : Int) (k6 : Int) =>
          trig_Table__Turn_j3 t6 re6 im6 k6 K0))))) := by
  have e : trig_Table__Turn = trig_Table__Turn_u := Classical.choose_spec (⟨trig_Table__Turn_u, rfl⟩ : ∃ q, q = trig_Table__Turn_u)
  show trig_Table__Turn t1 re1 im1 k1 K0 = trig_Table__Turn_u t1 re1 im1 k1 K0
  rw [e]

/- splicer/splicerlaw07.awake (30) -/
def L07_awake_u  (K0 : (Bool → Prop)) : Prop :=
  trig_Make
    (fun (r1 : (List Int)) =>
    trig_Table__Turn r1 100 0 128
      (fun (r2 : Int) (r3 : Int) =>
      trig_Table__Cos r1 0
        (fun (r4 : Int) =>
        Br (decide (r4 = (16777216 : Int)))
          (trig_Table__Cos r1 128
            (fun (r5 : Int) =>
            Br (decide (r5 = (0 : Int)))
              (trig_Table__Cos r1 256
                (fun (r6 : Int) =>
                Br (decide (r6 = (-16777216 : Int)))
                  (trig_Table__Sin r1 128
                    (fun (r7 : Int) =>
                    Br (decide (r7 = (16777216 : Int)))
                      (Br (decide (r2 = (0 : Int)))
                        (K0 (decide (r3 = (-100 : Int))))
                        (K0 false))
                      (K0 false)))
                  (K0 false)))
              (K0 false)))
          (K0 false))))

noncomputable def L07_awake : (Bool → Prop) → Prop := Classical.choose (⟨L07_awake_u, rfl⟩ : ∃ q, q = L07_awake_u)

theorem L07_awake_def  (K0 : (Bool → Prop)) : L07_awake K0 =
  (trig_Make
    (fun (r1 : (List Int)) =>
    trig_Table__Turn r1 100 0 128
      (fun (r2 : Int) (r3 : Int) =>
      trig_Table__Cos r1 0
        (fun (r4 : Int) =>
        Br (decide (r4 = (16777216 : Int)))
          (trig_Table__Cos r1 128
            (fun (r5 : Int) =>
            Br (decide (r5 = (0 : Int)))
              (trig_Table__Cos r1 256
                (fun (r6 : Int) =>
                Br (decide (r6 = (-16777216 : Int)))
                  (trig_Table__Sin r1 128
                    (fun (r7 : Int) =>
                    Br (decide (r7 = (16777216 : Int)))
                      (Br (decide (r2 = (0 : Int)))
                        (K0 (decide (r3 = (-100 : Int))))
                        (K0 false))
                      (K0 false)))
                  (K0 false)))
              (K0 false)))
          (K0 false))))) := by
  have e : L07_awake = L07_awake_u := Classical.choose_spec (⟨L07_awake_u, rfl⟩ : ∃ q, q = L07_awake_u)
  show L07_awake K0 = L07_awake_u K0
  rw [e]

/- join of splicer/splicerlaw07.TrigQuarter, region 2 -/
def L07_TrigQuarter_j2 (re2 : Int) (im2 : Int) (k2 : Int) (v7 : Bool) (K0 : (Bool → Prop)) (K1 : (Int → Int → Int → Prop)) : Prop :=
  Br v7
    (L07_awake K0)
    (K1 re2 im2 k2)

/- loop of splicer/splicerlaw07.TrigQuarter, region 6 -/
def L07_TrigQuarter_l6 : Nat → Int → Int → Int → Int → Int → Int → (List Int) → (Int → Int → Int → Int → Int → (List Int) → Prop) → Prop
  | 0, _, _, _, _, _, _, _, _ => False
  | k + 1, re10, im10, k10, a1, b1, i1, m1, K0 => Br (decide (i1 < (4 : Int)))
      (trig_Table__Turn m1 a1 b1 128
        (fun (r3 : Int) (r4 : Int) =>
        L07_TrigQuarter_l6 k re10 im10 k10 r3 r4 (iadd .i64 i1 1) m1 K0))
      (K0 re10 im10 k10 a1 b1 m1)

/- join of splicer/splicerlaw07.TrigQuarter, region 3 -/
def L07_TrigQuarter_j3 (re9 : Int) (im9 : Int) (k9 : Int) (K0 : (Bool → Prop)) : Prop :=
  trig_Make
    (fun (r2 : (List Int)) =>
    ∃ q, L07_TrigQuarter_l6 q re9 im9 k9 re9 im9 0 r2
      (fun (re11 : Int) (im11 : Int) (k11 : Int) (a2 : Int) (b2 : Int) (m2 : (List Int)) =>
      trig_Table__Turn m2 re11 im11 0
        (fun (r5 : Int) (r6 : Int) =>
        trig_Table__Turn m2 re11 im11 k11
          (fun (r7 : Int) (r8 : Int) =>
          trig_Table__Turn m2 r7 r8 (isub .i64 0 k11)
            (fun (r9 : Int) (r10 : Int) =>
            let v23 : Int := (iadd .i64 (ishr .i64 (iadd .i64 (imax re11 (isub .i64 0 re11)) (imax im11 (isub .i64 0 im11))) 20) 2)
            Br (decide (a2 = re11))
              (Br (decide (b2 = im11))
                (Br (decide (r5 = re11))
                  (Br (decide (r6 = im11))
                    (Br (decide ((isub .i64 r9 re11) ≤ v23))
                      (Br (decide ((isub .i64 re11 r9) ≤ v23))
                        (Br (decide ((isub .i64 r10 im11) ≤ v23))
                          (Br (decide ((isub .i64 im11 r10) ≤ v23))
                            (L07_awake K0)
                            (K0 false))
                          (K0 false))
                        (K0 false))
                      (K0 false))
                    (K0 false))
                  (K0 false))
                (K0 false))
              (K0 false))))))

/- splicer/splicerlaw07.TrigQuarter (8) -/
def L07_TrigQuarter_u (re1 : Int) (im1 : Int) (k1 : Int) (K0 : (Bool → Prop)) : Prop :=
  Br (decide (re1 < (-1073741824 : Int)))
    (L07_TrigQuarter_j2 re1 im1 k1 true K0
      (fun (re3 : Int) (im3 : Int) (k3 : Int) =>
      L07_TrigQuarter_j3 re3 im3 k3 K0))
    (Br (decide ((1073741824 : Int) < re1))
      (L07_TrigQuarter_j2 re1 im1 k1 true K0
        (fun (re4 : Int) (im4 : Int) (k4 : Int) =>
        L07_TrigQuarter_j3 re4 im4 k4 K0))
      (Br (decide (im1 < (-1073741824 : Int)))
        (L07_TrigQuarter_j2 re1 im1 k1 true K0
          (fun (re5 : Int) (im5 : Int) (k5 : Int) =>
          L07_TrigQuarter_j3 re5 im5 k5 K0))
        (Br (decide ((1073741824 : Int) < im1))
          (L07_TrigQuarter_j2 re1 im1 k1 true K0
            (fun (re6 : Int) (im6 : Int) (k6 : Int) =>
            L07_TrigQuarter_j3 re6 im6 k6 K0))
          (Br (decide (k1 < (-1073741824 : Int)))
            (L07_TrigQuarter_j2 re1 im1 k1 true K0
              (fun (re7 : Int) (im7 : Int) (k7 : Int) =>
              L07_TrigQuarter_j3 re7 im7 k7 K0))
            (L07_TrigQuarter_j2 re1 im1 k1 (decide ((1073741824 : Int) < k1)) K0
              (fun (re8 : Int) (im8 : Int) (k8 : Int) =>
              L07_TrigQuarter_j3 re8 im8 k8 K0))))))

noncomputable def L07_TrigQuarter : Int → Int → Int → (Bool → Prop) → Prop := Classical.choose (⟨L07_TrigQuarter_u, rfl⟩ : ∃ q, q = L07_TrigQuarter_u)

theorem L07_TrigQuarter_def (re1 : Int) (im1 : Int) (k1 : Int) (K0 : (Bool → Prop)) : L07_TrigQuarter re1 im1 k1 K0 =
  (Br (decide (re1 < (-1073741824 : Int)))
    (L07_TrigQuarter_j2 re1 im1 k1 true K0
      (fun (re3 : Int) (im3 : Int) (k3 : Int) =>
      L07_TrigQuarter_j3 re3 im3 k3 K0))
    (Br (decide ((1073741824 : Int) < re1))
      (L07_TrigQuarter_j2 re1 im1 k1 true K0
        (fun (re4 : Int) (im4 : Int) (k4 : Int) =>
        L07_TrigQuarter_j3 re4 im4 k4 K0))
      (Br (decide (im1 < (-1073741824 : Int)))
        (L07_TrigQuarter_j2 re1 im1 k1 true K0
          (fun (re5 : Int) (im5 : Int) (k5 : Int) =>
          L07_TrigQuarter_j3 re5 im5 k5 K0))
        (Br (decide ((1073741824 : Int) < im1))
          (L07_TrigQuarter_j2 re1 im1 k1 true K0
            (fun (re6 : Int) (im6 : Int) (k6 : Int) =>
            L07_TrigQuarter_j3 re6 im6 k6 K0))
          (Br (decide (k1 < (-1073741824 : Int)))
            (L07_TrigQuarter_j2 re1 im1 k1 true K0
              (fun (re7 : Int) (im7 : Int) (k7 : Int) =>
              L07_TrigQuarter_j3 re7 im7 k7 K0))
            (L07_TrigQuarter_j2 re1 im1 k1 (decide ((1073741824 : Int) < k1)) K0
              (fun (re8 : Int) (im8 : Int) (k8 : Int) =>
              L07_TrigQuarter_j3 re8 im8 k8 K0))))))) := by
  have e : L07_TrigQuarter = L07_TrigQuarter_u := Classical.choose_spec (⟨L07_TrigQuarter_u, rfl⟩ : ∃ q, q = L07_TrigQuarter_u)
  show L07_TrigQuarter re1 im1 k1 K0 = L07_TrigQuarter_u re1 im1 k1 K0
  rw [e]

/- splicer/splicerref01.Mod (43) -/
def R01_Mod_u (a1 : Int) (b1 : Int) (K0 : (Int → Int → Prop)) : Prop :=
  Br (decide (b1 < (1 : Int)))
    (K0 0 0)
    (Br (decide (b1 = (0 : Int)))
      (False)
      (let v2 : Int := (iquo .i64 a1 b1)
      Br (decide (b1 = (0 : Int)))
        (False)
        (let v3 : Int := (irem .i64 a1 b1)
        Br (decide (v3 < (0 : Int)))
          (K0 (isub .i64 v2 1) (iadd .i64 v3 b1))
          (K0 v2 v3))))

noncomputable def R01_Mod : Int → Int → (Int → Int → Prop) → Prop := Classical.choose (⟨R01_Mod_u, rfl⟩ : ∃ q, q = R01_Mod_u)

theorem R01_Mod_def (a1 : Int) (b1 : Int) (K0 : (Int → Int → Prop)) : R01_Mod a1 b1 K0 =
  (Br (decide (b1 < (1 : Int)))
    (K0 0 0)
    (Br (decide (b1 = (0 : Int)))
      (False)
      (let v2 : Int := (iquo .i64 a1 b1)
      Br (decide (b1 = (0 : Int)))
        (False)
        (let v3 : Int := (irem .i64 a1 b1)
        Br (decide (v3 < (0 : Int)))
          (K0 (isub .i64 v2 1) (iadd .i64 v3 b1))
          (K0 v2 v3))))) := by
  have e : R01_Mod = R01_Mod_u := Classical.choose_spec (⟨R01_Mod_u, rfl⟩ : ∃ q, q = R01_Mod_u)
  show R01_Mod a1 b1 K0 = R01_Mod_u a1 b1 K0
  rw [e]

/- splicer/splicerref07.quarter (44) -/
def R07_quarter_u  (K0 : ((List Int) → Prop)) : Prop :=
  K0 [16777216, 16775953, 16772163, 16765847, 16757007, 16745643, 16731757, 16715352, 16696429, 16674992, 16651044, 16624588, 16595628, 16564169, 16530216, 16493773, 16454846, 16413442, 16369565, 16323224, 16274424, 16223173, 16169479, 16113350, 16054795, 15993821, 15930439, 15864658, 15796488, 15725939, 15653022, 15577747, 15500126, 15420172, 15337895, 15253308, 15166424, 15077256, 14985817, 14892122, 14796184, 14698017, 14597637, 14495059, 14390298, 14283370, 14174291, 14063077, 13949745, 13834313, 13716797, 13597215, 13475586, 13351928, 13226258, 13098597, 12968963, 12837376, 12703856, 12568423, 12431097, 12291899, 12150850, 12007971, 11863283, 11716809, 11568571, 11418590, 11266890, 11113493, 10958422, 10801701, 10643353, 10483403, 10321873, 10158790, 9994176, 9828057, 9660458, 9491405, 9320922, 9149035, 8975771, 8801154, 8625213, 8447972, 8269459, 8089701, 7908725, 7726557, 7543226, 7358759, 7173184, 6986529, 6798821, 6610090, 6420363, 6229669, 6038037, 5845495, 5652074, 5457801, 5262706, 5066819, 4870169, 4672785, 4474698, 4275936, 4076531, 3876512, 3675909, 3474752, 3273072, 3070900, 2868265, 2665197, 2461729, 2257890, 2053710, 1849222, 1644455, 1439440, 1234209, 1028791, 823219, 617523, 411733, 205882, 0]

noncomputable def R07_quarter : ((List Int) → Prop) → Prop := Classical.choose (⟨R07_quarter_u, rfl⟩ : ∃ q, q = R07_quarter_u)

theorem R07_quarter_def  (K0 : ((List Int) → Prop)) : R07_quarter K0 =
  (K0 [16777216, 16775953, 16772163, 16765847, 16757007, 16745643, 16731757, 16715352, 16696429, 16674992, 16651044, 16624588, 16595628, 16564169, 16530216, 16493773, 16454846, 16413442, 16369565, 16323224, 16274424, 16223173, 16169479, 16113350, 16054795, 15993821, 15930439, 15864658, 15796488, 15725939, 15653022, 15577747, 15500126, 15420172, 15337895, 15253308, 15166424, 15077256, 14985817, 14892122, 14796184, 14698017, 14597637, 14495059, 14390298, 14283370, 14174291, 14063077, 13949745, 13834313, 13716797, 13597215, 13475586, 13351928, 13226258, 13098597, 12968963, 12837376, 12703856, 12568423, 12431097, 12291899, 12150850, 12007971, 11863283, 11716809, 11568571, 11418590, 11266890, 11113493, 10958422, 10801701, 10643353, 10483403, 10321873, 10158790, 9994176, 9828057, 9660458, 9491405, 9320922, 9149035, 8975771, 8801154, 8625213, 8447972, 8269459, 8089701, 7908725, 7726557, 7543226, 7358759, 7173184, 6986529, 6798821, 6610090, 6420363, 6229669, 6038037, 5845495, 5652074, 5457801, 5262706, 5066819, 4870169, 4672785, 4474698, 4275936, 4076531, 3876512, 3675909, 3474752, 3273072, 3070900, 2868265, 2665197, 2461729, 2257890, 2053710, 1849222, 1644455, 1439440, 1234209, 1028791, 823219, 617523, 411733, 205882, 0]) := by
  have e : R07_quarter = R07_quarter_u := Classical.choose_spec (⟨R07_quarter_u, rfl⟩ : ∃ q, q = R07_quarter_u)
  show R07_quarter K0 = R07_quarter_u K0
  rw [e]

/- join of splicer/splicerref07.Cos, region 6 -/
def R07_Cos_j6 (m1 : Int) (K0 : (Int → Prop)) : Prop :=
  Br (decide ((128 : Int) < m1))
    (R07_quarter
      (fun (r3 : (List Int)) =>
      let v6 : Int := (isub .i64 256 m1)
      Br ((decide ((0 : Int) ≤ v6)) && (decide (v6 < (((List.length r3) : Nat) : Int))))
        (Br (decide ((Int.toNat v6) < (List.length r3)))
          (K0 (isub .i64 0 (List.getD r3 (Int.toNat v6) 0)))
          (False))
        (False)))
    (R07_quarter
      (fun (r4 : (List Int)) =>
      Br ((decide ((0 : Int) ≤ m1)) && (decide (m1 < (((List.length r4) : Nat) : Int))))
        (Br (decide ((Int.toNat m1) < (List.length r4)))
          (K0 (List.getD r4 (Int.toNat m1) 0))
          (False))
        (False)))

/- splicer/splicerref07.Cos (27) -/
def R07_Cos_u (k1 : Int) (K0 : (Int → Prop)) : Prop :=
  Br (decide (k1 < (-1152921504606846976 : Int)))
    (K0 0)
    (Br (decide ((1152921504606846976 : Int) < k1))
      (K0 0)
      (R01_Mod k1 512
        (fun (r1 : Int) (r2 : Int) =>
        Br (decide ((256 : Int) < r2))
          (R07_Cos_j6 (isub .i64 512 r2) K0)
          (R07_Cos_j6 r2 K0))))

noncomputable def R07_Cos : Int → (Int → Prop) → Prop := Classical.choose (⟨R07_Cos_u, rfl⟩ : ∃ q, q = R07_Cos_u)

theorem R07_Cos_def (k1 : Int) (K0 : (Int → Prop)) : R07_Cos k1 K0 =
  (Br (decide (k1 < (-1152921504606846976 : Int)))
    (K0 0)
    (Br (decide ((1152921504606846976 : Int) < k1))
      (K0 0)
      (R01_Mod k1 512
        (fun (r1 : Int) (r2 : Int) =>
        Br (decide ((256 : Int) < r2))
          (R07_Cos_j6 (isub .i64 512 r2) K0)
          (R07_Cos_j6 r2 K0))))) := by
  have e : R07_Cos = R07_Cos_u := Classical.choose_spec (⟨R07_Cos_u, rfl⟩ : ∃ q, q = R07_Cos_u)
  show R07_Cos k1 K0 = R07_Cos_u k1 K0
  rw [e]

/- splicer/splicerref07.Sin (29) -/
def R07_Sin_u (k1 : Int) (K0 : (Int → Prop)) : Prop :=
  Br (decide (k1 < (-1152921504606846976 : Int)))
    (K0 0)
    (Br (decide ((1152921504606846976 : Int) < k1))
      (K0 0)
      (R01_Mod k1 512
        (fun (r1 : Int) (r2 : Int) =>
        R07_Cos (isub .i64 r2 128) K0)))

noncomputable def R07_Sin : Int → (Int → Prop) → Prop := Classical.choose (⟨R07_Sin_u, rfl⟩ : ∃ q, q = R07_Sin_u)

theorem R07_Sin_def (k1 : Int) (K0 : (Int → Prop)) : R07_Sin k1 K0 =
  (Br (decide (k1 < (-1152921504606846976 : Int)))
    (K0 0)
    (Br (decide ((1152921504606846976 : Int) < k1))
      (K0 0)
      (R01_Mod k1 512
        (fun (r1 : Int) (r2 : Int) =>
        R07_Cos (isub .i64 r2 128) K0)))) := by
  have e : R07_Sin = R07_Sin_u := Classical.choose_spec (⟨R07_Sin_u, rfl⟩ : ∃ q, q = R07_Sin_u)
  show R07_Sin k1 K0 = R07_Sin_u k1 K0
  rw [e]

/- splicer/splicerref01.Shr (39) -/
def R01_Shr_u (x1 : Int) (n1 : Int) (K0 : (Int → Prop)) : Prop :=
  Br (decide (x1 < (-2305843009213693952 : Int)))
    (K0 0)
    (Br (decide ((2305843009213693952 : Int) < x1))
      (K0 0)
      (Br (decide (n1 < (0 : Int)))
        (K0 0)
        (Br (decide ((60 : Int) < n1))
          (K0 0)
          (Br (decide (n1 < (0 : Int)))
            (False)
            (R01_Mod x1 (ishl .i64 1 n1)
              (fun (r1 : Int) (r2 : Int) =>
              Br (decide (n1 < (0 : Int)))
                (False)
                (Br (decide ((ishl .i64 1 n1) ≤ (imul .i64 2 r2)))
                  (K0 (iadd .i64 r1 1))
                  (K0 r1))))))))

noncomputable def R01_Shr : Int → Int → (Int → Prop) → Prop := Classical.choose (⟨R01_Shr_u, rfl⟩ : ∃ q, q = R01_Shr_u)

theorem R01_Shr_def (x1 : Int) (n1 : Int) (K0 : (Int → Prop)) : R01_Shr x1 n1 K0 =
  (Br (decide (x1 < (-2305843009213693952 : Int)))
    (K0 0)
    (Br (decide ((2305843009213693952 : Int) < x1))
      (K0 0)
      (Br (decide (n1 < (0 : Int)))
        (K0 0)
        (Br (decide ((60 : Int) < n1))
          (K0 0)
          (Br (decide (n1 < (0 : Int)))
            (False)
            (R01_Mod x1 (ishl .i64 1 n1)
              (fun (r1 : Int) (r2 : Int) =>
              Br (decide (n1 < (0 : Int)))
                (False)
                (Br (decide ((ishl .i64 1 n1) ≤ (imul .i64 2 r2)))
                  (K0 (iadd .i64 r1 1))
                  (K0 r1))))))))) := by
  have e : R01_Shr = R01_Shr_u := Classical.choose_spec (⟨R01_Shr_u, rfl⟩ : ∃ q, q = R01_Shr_u)
  show R01_Shr x1 n1 K0 = R01_Shr_u x1 n1 K0
  rw [e]

/- join of splicer/splicerref07.Turn, region 2 -/
def R07_Turn_j2 (re2 : Int) (im2 : Int) (k2 : Int) (v7 : Bool) (K0 : (Int → Int → Prop)) (K1 : (Int → Int → Int → Prop)) : Prop :=
  Br v7
    (K0 0 0)
    (K1 re2 im2 k2)

/- join of splicer/splicerref07.Turn, region 3 -/
def R07_Turn_j3 (re9 : Int) (im9 : Int) (k9 : Int) (K0 : (Int → Int → Prop)) : Prop :=
  R07_Cos k9
    (fun (r1 : Int) =>
    R07_Sin k9
      (fun (r2 : Int) =>
      R01_Shr (iadd .i64 (imul .i64 re9 r1) (imul .i64 im9 r2)) 24
        (fun (r3 : Int) =>
        R01_Shr (isub .i64 (imul .i64 im9 r1) (imul .i64 re9 r2)) 24
          (fun (r4 : Int) =>
          K0 r3 r4))))

/- splicer/splicerref07.Turn (25) -/
def R07_Turn_u (re1 : Int) (im1 : Int) (k1 : Int) (K0 : (Int → Int → Prop)) : Prop :=
  Br (decide (re1 < (-34359738368 : Int)))
    (R07_Turn_j2 re1 im1 k1 true K0
      (fun (re3 : Int) (im3 : Int) (k3 : Int) =>
      R07_Turn_j3 re3 im3 k3 K0))
    (Br (decide ((34359738368 : Int) < re1))
      (R07_Turn_j2 re1 im1 k1 true K0
        (fun (re4 : Int) (im4 : Int) (k4 : Int) =>
        R07_Turn_j3 re4 im4 k4 K0))
      (Br (decide (im1 < (-34359738368 : Int)))
        (R07_Turn_j2 re1 im1 k1 true K0
          (fun (re5 : Int) (im5 : Int) (k5 : Int) =>
          R07_Turn_j3 re5 im5 k5 K0))
        (Br (decide ((34359738368 : Int) < im1))
          (R07_Turn_j2 re1 im1 k1 true K0
            (fun (re6 : Int) (im6 : Int) (k6 : Int) =>
            R07_Turn_j3 re6 im6 k6 K0))
          (Br (decide (k1 < (-1152921504606846976 : Int)))
            (R07_Turn_j2 re1 im1 k1 true K0
              (fun (re7 : Int) (im7 : Int) (k7 : Int) =>
              R07_Turn_j3 re7 im7 k7 K0))
            (R07_Turn_j2 re1 im1 k1 (decide ((1152921504606846976 : Int) < k1)) K0
              (fun (re8 : Int) (im8 : Int) (k8 : Int) =>
              R07_Turn_j3 re8 im8 k8 K0))))))

noncomputable def R07_Turn : Int → Int → Int → (Int → Int → Prop) → Prop := Classical.choose (⟨R07_Turn_u, rfl⟩ : ∃ q, q = R07_Turn_u)

theorem R07_Turn_def (re1 : Int) (im1 : Int) (k1 : Int) (K0 : (Int → Int → Prop)) : R07_Turn re1 im1 k1 K0 =
  (Br (decide (re1 < (-34359738368 : Int)))
    (R07_Turn_j2 re1 im1 k1 true K0
      (fun (re3 : Int) (im3 : Int) (k3 : Int) =>
      R07_Turn_j3 re3 im3 k3 K0))
    (Br (decide ((34359738368 : Int) < re1))
      (R07_Turn_j2 re1 im1 k1 true K0
        (fun (re4 : Int) (im4 : Int) (k4 : Int) =>
        R07_Turn_j3 re4 im4 k4 K0))
      (Br (decide (im1 < (-34359738368 : Int)))
        (R07_Turn_j2 re1 im1 k1 true K0
          (fun (re5 : Int) (im5 : Int) (k5 : Int) =>
          R07_Turn_j3 re5 im5 k5 K0))
        (Br (decide ((34359738368 : Int) < im1))
          (R07_Turn_j2 re1 im1 k1 true K0
            (fun (re6 : Int) (im6 : Int) (k6 : Int) =>
            R07_Turn_j3 re6 im6 k6 K0))
          (Br (decide (k1 < (-1152921504606846976 : Int)))
            (R07_Turn_j2 re1 im1 k1 true K0
              (fun (re7 : Int) (im7 : Int) (k7 : Int) =>
              R07_Turn_j3 re7 im7 k7 K0))
            (R07_Turn_j2 re1 im1 k1 (decide ((1152921504606846976 : Int) < k1)) K0
              (fun (re8 : Int) (im8 : Int) (k8 : Int) =>
              R07_Turn_j3 re8 im8 k8 K0))))))) := by
  have e : R07_Turn = R07_Turn_u := Classical.choose_spec (⟨R07_Turn_u, rfl⟩ : ∃ q, q = R07_Turn_u)
  show R07_Turn re1 im1 k1 K0 = R07_Turn_u re1 im1 k1 K0
  rw [e]

/- splicer/splicerlaw07.TrigTells (6) -/
def L07_TrigTells_u (k1 : Int) (re1 : Int) (im1 : Int) (K0 : (Bool → Prop)) : Prop :=
  trig_Make
    (fun (r1 : (List Int)) =>
    trig_Table__Turn r1 re1 im1 k1
      (fun (r2 : Int) (r3 : Int) =>
      R07_Turn re1 im1 k1
        (fun (r4 : Int) (r5 : Int) =>
        trig_Table__Cos r1 k1
          (fun (r6 : Int) =>
          R07_Cos k1
            (fun (r7 : Int) =>
            Br (decide (r6 = r7))
              (trig_Table__Sin r1 k1
                (fun (r8 : Int) =>
                R07_Sin k1
                  (fun (r9 : Int) =>
                  Br (decide (r8 = r9))
                    (Br (decide (r2 = r4))
                      (Br (decide (r3 = r5))
                        (L07_awake K0)
                        (K0 false))
                      (K0 false))
                    (K0 false))))
              (K0 false))))))

noncomputable def L07_TrigTells : Int → Int → Int → (Bool → Prop) → Prop := Classical.choose (⟨L07_TrigTells_u, rfl⟩ : ∃ q, q = L07_TrigTells_u)

theorem L07_TrigTells_def (k1 : Int) (re1 : Int) (im1 : Int) (K0 : (Bool → Prop)) : L07_TrigTells k1 re1 im1 K0 =
  (trig_Make
    (fun (r1 : (List Int)) =>
    trig_Table__Turn r1 re1 im1 k1
      (fun (r2 : Int) (r3 : Int) =>
      R07_Turn re1 im1 k1
        (fun (r4 : Int) (r5 : Int) =>
        trig_Table__Cos r1 k1
          (fun (r6 : Int) =>
          R07_Cos k1
            (fun (r7 : Int) =>
            Br (decide (r6 = r7))
              (trig_Table__Sin r1 k1
                (fun (r8 : Int) =>
                R07_Sin k1
                  (fun (r9 : Int) =>
                  Br (decide (r8 = r9))
                    (Br (decide (r2 = r4))
                      (Br (decide (r3 = r5))
                        (L07_awake K0)
                        (K0 false))
                      (K0 false))
                    (K0 false))))
              (K0 false))))))) := by
  have e : L07_TrigTells = L07_TrigTells_u := Classical.choose_spec (⟨L07_TrigTells_u, rfl⟩ : ∃ q, q = L07_TrigTells_u)
  show L07_TrigTells k1 re1 im1 K0 = L07_TrigTells_u k1 re1 im1 K0
  rw [e]

/- join of splicer/splicerlaw07.TrigSquares, region 2 -/
def L07_TrigSquares_j2 (k2 : Int) (v3 : Bool) (K0 : (Bool → Prop)) (K1 : (Int → Prop)) : Prop :=
  Br v3
    (L07_awake K0)
    (K1 k2)

/- join of splicer/splicerlaw07.TrigSquares, region 3 -/
def L07_TrigSquares_j3 (k5 : Int) (K0 : (Bool → Prop)) : Prop :=
  trig_Make
    (fun (r2 : (List Int)) =>
    trig_Table__Cos r2 k5
      (fun (r3 : Int) =>
      trig_Table__Sin r2 k5
        (fun (r4 : Int) =>
        let v9 : Int := (isub .i64 (iadd .i64 (imul .i64 r3 r3) (imul .i64 r4 r4)) 281474976710656)
        Br (decide (v9 ≤ (33554432 : Int)))
          (Br (decide ((-33554432 : Int) ≤ v9))
            (trig_Table__Cos r2 (isub .i64 0 k5)
              (fun (r5 : Int) =>
              Br (decide (r5 = r3))
                (trig_Table__Sin r2 (isub .i64 0 k5)
                  (fun (r6 : Int) =>
                  Br (decide (r6 = (isub .i64 0 r4)))
                    (trig_Table__Cos r2 (iadd .i64 k5 256)
                      (fun (r7 : Int) =>
                      Br (decide (r7 = (isub .i64 0 r3)))
                        (trig_Table__Sin r2 (iadd .i64 k5 256)
                          (fun (r8 : Int) =>
                          Br (decide (r8 = (isub .i64 0 r4)))
                            (trig_Table__Cos r2 (iadd .i64 k5 512)
                              (fun (r9 : Int) =>
                              Br (decide (r9 = r3))
                                (L07_awake K0)
                                (K0 false)))
                            (K0 false)))
                        (K0 false)))
                    (K0 false)))
                (K0 false)))
            (K0 false))
          (K0 false))))

/- splicer/splicerlaw07.TrigSquares (7) -/
def L07_TrigSquares_u (k1 : Int) (K0 : (Bool → Prop)) : Prop :=
  Br (decide (k1 < (-576460752303423488 : Int)))
    (L07_TrigSquares_j2 k1 true K0
      (fun (k3 : Int) =>
      L07_TrigSquares_j3 k3 K0))
    (L07_TrigSquares_j2 k1 (decide ((576460752303423488 : Int) < k1)) K0
      (fun (k4 : Int) =>
      L07_TrigSquares_j3 k4 K0))

noncomputable def L07_TrigSquares : Int → (Bool → Prop) → Prop := Classical.choose (⟨L07_TrigSquares_u, rfl⟩ : ∃ q, q = L07_TrigSquares_u)

theorem L07_TrigSquares_def (k1 : Int) (K0 : (Bool → Prop)) : L07_TrigSquares k1 K0 =
  (Br (decide (k1 < (-576460752303423488 : Int)))
    (L07_TrigSquares_j2 k1 true K0
      (fun (k3 : Int) =>
      L07_TrigSquares_j3 k3 K0))
    (L07_TrigSquares_j2 k1 (decide ((576460752303423488 : Int) < k1)) K0
      (fun (k4 : Int) =>
      L07_TrigSquares_j3 k4 K0))) := by
  have e : L07_TrigSquares = L07_TrigSquares_u := Classical.choose_spec (⟨L07_TrigSquares_u, rfl⟩ : ∃ q, q = L07_TrigSquares_u)
  show L07_TrigSquares k1 K0 = L07_TrigSquares_u k1 K0
  rw [e]

/- loop of splicer/splicerref07.Make, region 4 -/
def R07_Make_l4 : Nat → Int → (List Int) → (List Int) → ((List Int) → Prop) → Prop
  | 0, _, _, _, _ => False
  | k + 1, k1, m1, m2, K0 => Br (decide (k1 < (512 : Int)))
      (let v3 : Int := (imin k1 (isub .i64 512 k1))
      Br (decide ((128 : Int) < v3))
        (let v5 : Int := (isub .i64 256 v3)
        Br ((decide ((0 : Int) ≤ v5)) && (decide (v5 < (((List.length m1) : Nat) : Int))))
          (Br (decide ((Int.toNat v5) < (List.length m1)))
            (let m3 : (List Int) := [(isub .i64 0 (List.getD m1 (Int.toNat v5) 0))]
            Br (decide ((((List.length m2) + (List.length m3)) * 8) ≤ 140737488355328))
              (R07_Make_l4 k (iadd .i64 k1 1) m1 (m2 ++ m3) K0)
              (False))
            (False))
          (False))
        (Br ((decide ((0 : Int) ≤ v3)) && (decide (v3 < (((List.length m1) : Nat) : Int))))
          (Br (decide ((Int.toNat v3) < (List.length m1)))
            (let m5 : (List Int) := [(List.getD m1 (Int.toNat v3) 0)]
            Br (decide ((((List.length m2) + (List.length m5)) * 8) ≤ 140737488355328))
              (R07_Make_l4 k (iadd .i64 k1 1) m1 (m2 ++ m5) K0)
              (False))
            (False))
          (False)))
      (K0 m2)

/- splicer/splicerref07.Make (31) -/
def R07_Make_u  (K0 : ((List Int) → Prop)) : Prop :=
  R07_quarter
    (fun (r1 : (List Int)) =>
    ∃ q, R07_Make_l4 q 0 r1 [] K0)

noncomputable def R07_Make : ((List Int) → Prop) → Prop := Classical.choose (⟨R07_Make_u, rfl⟩ : ∃ q, q = R07_Make_u)

theorem R07_Make_def  (K0 : ((List Int) → Prop)) : R07_Make K0 =
  (R07_quarter
    (fun (r1 : (List Int)) =>
    ∃ q, R07_Make_l4 q 0 r1 [] K0)) := by
  have e : R07_Make = R07_Make_u := Classical.choose_spec (⟨R07_Make_u, rfl⟩ : ∃ q, q = R07_Make_u)
  show R07_Make K0 = R07_Make_u K0
  rw [e]

/- (*splicer/trig.Table).Cos (26) -/
def trig_Table__Cos__nil0_u (t1 : Unit) (k1 : Int) (K0 : (Int → Prop)) : Prop :=
  K0 0

noncomputable def trig_Table__Cos__nil0 : Unit → Int → (Int → Prop) → Prop := Classical.choose (⟨trig_Table__Cos__nil0_u, rfl⟩ : ∃ q, q = trig_Table__Cos__nil0_u)

theorem trig_Table__Cos__nil0_def (t1 : Unit) (k1 : Int) (K0 : (Int → Prop)) : trig_Table__Cos__nil0 t1 k1 K0 =
  (K0 0) := by
  have e : trig_Table__Cos__nil0 = trig_Table__Cos__nil0_u := Classical.choose_spec (⟨trig_Table__Cos__nil0_u, rfl⟩ : ∃ q, q = trig_Table__Cos__nil0_u)
  show trig_Table__Cos__nil0 t1 k1 K0 = trig_Table__Cos__nil0_u t1 k1 K0
  rw [e]

/- (*splicer/trig.Table).Sin (28) -/
def trig_Table__Sin__nil0_u (t1 : Unit) (k1 : Int) (K0 : (Int → Prop)) : Prop :=
  Br (decide (k1 < (-1152921504606846976 : Int)))
    (K0 0)
    (Br (decide ((1152921504606846976 : Int) < k1))
      (K0 0)
      (trig_Table__Cos__nil0 () (isub .i64 (iand .i64 k1 511) 128) K0))

noncomputable def trig_Table__Sin__nil0 : Unit → Int → (Int → Prop) → Prop := Classical.choose (⟨trig_Table__Sin__nil0_u, rfl⟩ : ∃ q, q = trig_Table__Sin__nil0_u)

theorem trig_Table__Sin__nil0_def (t1 : Unit) (k1 : Int) (K0 : (Int → Prop)) : trig_Table__Sin__nil0 t1 k1 K0 =
  (Br (decide (k1 < (-1152921504606846976 : Int)))
    (K0 0)
    (Br (decide ((1152921504606846976 : Int) < k1))
      (K0 0)
      (trig_Table__Cos__nil0 () (isub .i64 (iand .i64 k1 511) 128) K0))) := by
  have e : trig_Table__Sin__nil0 = trig_Table__Sin__nil0_u := Classical.choose_spec (⟨trig_Table__Sin__nil0_u, rfl⟩ : ∃ q, q = trig_Table__Sin__nil0_u)
  show trig_Table__Sin__nil0 t1 k1 K0 = trig_Table__Sin__nil0_u t1 k1 K0
  rw [e]

/- join of (*splicer/trig.Table).Turn, region 2 -/
def trig_Table__Turn__nil0_j2 (t2 : Unit) (re2 : Int) (im2 : Int) (k2 : Int) (v7 : Bool) (K0 : (Int → Int → Prop)) (K1 : (Unit → Int → Int → Int → Prop)) : Prop :=
  Br v7
    (K0 0 0)
    (K1 t2 re2 im2 k2)

/- join of (*splicer/trig.Table).Turn, region 3 -/
def trig_Table__Turn__nil0_j3 (t7 : Unit) (re7 : Int) (im7 : Int) (k7 : Int) (K0 : (Int → Int → Prop)) : Prop :=
  trig_Table__Cos__nil0 () k7
    (fun (r1 : Int) =>
    trig_Table__Sin__nil0 () k7
      (fun (r2 : Int) =>
      num_Shr (iadd .i64 (imul .i64 re7 r1) (imul .i64 im7 r2)) 24
        (fun (r3 : Int) =>
        num_Shr (isub .i64 (imul .i64 im7 r1) (imul .i64 re7 r2)) 24
          (fun (r4 : Int) =>
          K0 r3 r4))))

/- (*splicer/trig.Table).Turn (24) -/
def trig_Table__Turn__nil0_u (t1 : Unit) (re1 : Int) (im1 : Int) (k1 : Int) (K0 : (Int → Int → Prop)) : Prop :=
  Br (decide ((imin re1 im1) < (-34359738368 : Int)))
    (trig_Table__Turn__nil0_j2 t1 re1 im1 k1 true K0
      (fun (t3 : Unit) (re3 : Int) (im3 : Int) (k3 : Int) =>
      trig_Table__Turn__nil0_j3 t3 re3 im3 k3 K0))
    (Br (decide ((34359738368 : Int) < (imax re1 im1)))
      (trig_Table__Turn__nil0_j2 t1 re1 im1 k1 true K0
        (fun (t4 : Unit) (re4 : Int) (im4 : Int) (k4 : Int) =>
        trig_Table__Turn__nil0_j3 t4 re4 im4 k4 K0))
      (Br (decide (k1 < (-1152921504606846976 : Int)))
        (trig_Table__Turn__nil0_j2 t1 re1 im1 k1 true K0
          (fun (t5 : Unit) (re5 : Int) (im5 : Int) (k5 : Int) =>
          trig_Table__Turn__nil0_j3 t5 re5 im5 k5 K0))
        (trig_Table__Turn__nil0_j2 t1 re1 im1 k1 (decide ((1152921504606846976 : Int) < k1)) K0
          (fun (t6 : Unit) (re6 : Int) (im6 : Int) (k6 : Int) =>
          trig_Table__Turn__nil0_j3 t6 re6 im6 k6 K0))))

noncomputable def trig_Table__Turn__nil0 : Unit → Int → Int → Int → (Int → Int → Prop) → Prop := Classical.choose (⟨trig_Table__Turn__nil0_u, rfl⟩ : ∃ q, q = trig_Table__Turn__nil0_u)

theorem trig_Table__Turn__nil0_def (t1 : Unit) (re1 : Int) (im1 : Int) (k1 : Int) (K0 : (Int → Int → Prop)) : trig_Table__Turn__nil0 t1 re1 im1 k1 K0 =
  (Br (decide ((imin re1 im1) < (-34359738368 : Int)))
    (trig_Table__Turn__nil0_j2 t1 re1 im1 k1 true K0
      (fun (t3 : Unit) (re3 : Int) (im3 : Int) (k3 : Int) =>
      trig_Table__Turn__nil0_j3 t3 re3 im3 k3 K0))
    (Br (decide ((34359738368 : Int) < (imax re1 im1)))
      (trig_Table__Turn__nil0_j2 t1 re1 im1 k1 true K0
        (fun (t4 : Unit) (re4 : Int) (im4 : Int) (k4 : Int) =>
        trig_Table__Turn__nil0_j3 t4 re4 im4 k4 K0))
      (Br (decide (k1 < (-1152921504606846976 : Int)))
        (trig_Table__Turn__nil0_j2 t1 re1 im1 k1 true K0
          (fun (t5 : Unit) (re5 : Int) (im5 : Int) (k5 : Int) =>
          trig_Table__Turn__nil0_j3 t5 re5 im5 k5 K0))
        (trig_Table__Turn__nil0_j2 t1 re1 im1 k1 (decide ((1152921504606846976 : Int) < k1)) K0
          (fun (t6 : Unit) (re6 : Int) (im6 : Int) (k6 : Int) =>
          trig_Table__Turn__nil0_j3 t6 re6 im6 k6 K0))))) := by
  have e : trig_Table__Turn__nil0 = trig_Table__Turn__nil0_u := Classical.choose_spec (⟨trig_Table__Turn__nil0_u, rfl⟩ : ∃ q, q = trig_Table__Turn__nil0_u)
  show trig_Table__Turn__nil0 t1 re1 im1 k1 K0 = trig_Table__Turn__nil0_u t1 re1 im1 k1 K0
  rw [e]

/- loop of splicer/splicerlaw07.TrigWhole, region 6 -/
def L07_TrigWhole_l6 : Nat → Int → Int → (List Int) → (List Int) → (Bool → Prop) → (Int → Prop) → Prop
  | 0, _, _, _, _, _, _ => False
  | k + 1, k2, i1, m1, m2, K0, K1 => Br (decide (i1 < (512 : Int)))
      (Br ((decide ((0 : Int) ≤ i1)) && (decide (i1 < (512 : Int))))
        (Br (decide ((Int.toNat i1) < (List.length m1)))
          (Br ((decide ((0 : Int) ≤ i1)) && (decide (i1 < (((List.length m2) : Nat) : Int))))
            (Br (decide ((Int.toNat i1) < (List.length m2)))
              (Br (!(decide ((List.getD m1 (Int.toNat i1) 0) = (List.getD m2 (Int.toNat i1) 0))))
                (K0 false)
                (L07_TrigWhole_l6 k k2 (iadd .i64 i1 1) m1 m2 K0 K1))
              (False))
            (False))
          (False))
        (False))
      (K1 k2)

/- splicer/splicerlaw07.TrigWhole (9) -/
def L07_TrigWhole_u (k1 : Int) (K0 : (Bool → Prop)) : Prop :=
  trig_Make
    (fun (r1 : (List Int)) =>
    R07_Make
      (fun (r2 : (List Int)) =>
      Br (!(decide ((r2.length : Int) = (512 : Int))))
        (K0 false)
        (∃ q, L07_TrigWhole_l6 q k1 0 r1 r2 K0
          (fun (k3 : Int) =>
          trig_Table__Turn__nil0 () k3 k3 k3
            (fun (r3 : Int) (r4 : Int) =>
            trig_Table__Cos__nil0 () k3
              (fun (r5 : Int) =>
              Br (decide (r5 = (0 : Int)))
                (trig_Table__Sin__nil0 () k3
                  (fun (r6 : Int) =>
                  Br (decide (r6 = (0 : Int)))
                    (Br (decide (r3 = (0 : Int)))
                      (Br (decide (r4 = (0 : Int)))
                        (L07_awake K0)
                        (K0 false))
                      (K0 false))
                    (K0 false)))
                (K0 false)))))))

noncomputable def L07_TrigWhole : Int → (Bool → Prop) → Prop := Classical.choose (⟨L07_TrigWhole_u, rfl⟩ : ∃ q, q = L07_TrigWhole_u)

theorem L07_TrigWhole_def (k1 : Int) (K0 : (Bool → Prop)) : L07_TrigWhole k1 K0 =
  (trig_Make
    (fun (r1 : (List Int)) =>
    R07_Make
      (fun (r2 : (List Int)) =>
      Br (!(decide ((r2.length : Int) = (512 : Int))))
        (K0 false)
        (∃ q, L07_TrigWhole_l6 q k1 0 r1 r2 K0
          (fun (k3 : Int) =>
          trig_Table__Turn__nil0 () k3 k3 k3
            (fun (r3 : Int) (r4 : Int) =>
            trig_Table__Cos__nil0 () k3
              (fun (r5 : Int) =>
              Br (decide (r5 = (0 : Int)))
                (trig_Table__Sin__nil0 () k3
                  (fun (r6 : Int) =>
                  Br (decide (r6 = (0 : Int)))
                    (Br (decide (r3 = (0 : Int)))
                      (Br (decide (r4 = (0 : Int)))
                        (L07_awake K0)
                        (K0 false))
                      (K0 false))
                    (K0 false)))
                (K0 false)))))))) := by
  have e : L07_TrigWhole = L07_TrigWhole_u := Classical.choose_spec (⟨L07_TrigWhole_u, rfl⟩ : ∃ q, q = L07_TrigWhole_u)
  show L07_TrigWhole k1 K0 = L07_TrigWhole_u k1 K0
  rw [e]

end Go.Eng.A
