/- The abstract evaluator: regions; layouts. -/
import Derived.Test.YtjfnkbbcnllfiaaEngM
namespace Go.Eng
open Go Go.RowKit

section
variable {P : Program} {X : Ctx} {ρ : Nat → Value} {H : List Blk} {w : World}

theorem HF_len {ops : Array Oper} : ∀ (l : List Oper) (T rs : List AV) (Ts : List (List AV)) (Te : List AV), HF P X ρ H ops l T rs Ts Te → Te.length = T.length
  | [], _, _, _, _, ⟨_, _, e⟩ => by rw [e]
  | _ :: l, T, rs, Ts, Te, ⟨r, rs', T', Ts', _, _, hl, _, _, hf⟩ => by rw [HF_len l _ rs' Ts' Te hf, length_putT, hl]

theorem listed_eq {md : Region.Mode} {ops : Array Oper} {n : Nat} {listed : Array Bool} (hi : HeadInv md ops n listed) (hc : cnt n listed = 0) (_hn : n ≤ ops.size) : listed = listedHead n ops.size := by
  apply Array.ext
  · simp [listedHead, hi.size]
  · intro i h1 h2
    have hsz : i < ops.size := by simpa [listedHead] using h2
    by_cases h : i < n
    · have := cnt_zero hc i h
      simp [h1] at this
      simp [listedHead, h, this]
    · have := hi.tail i (by omega) hsz
      simp [h1] at this
      simp [listedHead, h, this]

theorem evRegion_spec {C : Cfg} (hC : CfgOK P C) (hS : ∀ f e, C.fn f = some e → SelE e) (hm : P.follows .mixedOrders = true) {id : Nat} {ops : Array Oper} {draw : Bool} (hd : draw = true → drawOK ops = true) {σ : St} {a : Act}
    (h : RH X ρ σ.H w) (ht : TR (hlen σ.H) X.B ρ σ.H w σ.tmps a) (hdf : a.defers = []) {K : St → Prop} (he : evRegion C ops.toList draw σ K) {Q : Exit → Act → World → Prop}
    (hQ : ∀ σ' ρ' a' w', K σ' → Ext X.B ρ σ.H w ρ' σ'.H w' → RH X ρ' σ'.H w' → TR (hlen σ'.H) X.B ρ' σ'.H w' σ'.tmps a' → a'.defers = [] → a'.tmps.size = a.tmps.size → Q .normal a' w') :
    (Code.region id ops draw).wp P Q a w := by
  cases draw with
  | false =>
    refine wp_region_list ?_
    exact evOps_spec hC ops.toList σ.tmps ρ σ.H a w _ h ht hdf he fun t ρ' H' a' w' hK e h' ht' hd' hs' => hQ ⟨t, H'⟩ ρ' a' w' hK e h' ht' hd' hs'
  | true =>
    have hdo := hd rfl
    simp only [drawOK, Bool.and_eq_true] at hdo
    obtain ⟨⟨hE, hP⟩, hT⟩ := hdo
    simp only [evRegion] at he
    have hn : headLen ops.toList ≤ ops.size := by simpa using headLen_le ops.toList
    generalize hnn : headLen ops.toList = n at *
    rw [takeL_eq, dropL_eq] at he
    obtain ⟨rs, Ts, Te, hK, hf⟩ := head_facts (X := X) (ρ := ρ) hC hS (ops.toList.take n) σ.tmps _ he
    refine wp_region_any hm ?_
    obtain ⟨e1, h1⟩ := h.grow (w' := { w with drawn := w.drawn + 1 }) rfl rfl rfl (Nat.le_refl _) (fun _ _ => rfl)
    have ht1 := ht.ext e1 rfl
    have inv0 : HeadInv .any ops n (Array.replicate ops.size false) :=
      ⟨by simp, fun j oj _ hl => (by rw [getD_replicate_false] at hl; cases hl), fun t _ ht => getD_in (by simpa using ht) (getD_replicate_false _ _)⟩
    have hrf : ∀ j, (Array.replicate ops.size false).getD j false = false := getD_replicate_false _
    generalize Array.replicate ops.size false = l0 at hrf inv0 ⊢
    have hcnt : cnt n l0 = n := by
      unfold cnt
      rw [List.countP_eq_length.2 (fun i _ => by rw [hrf]; rfl)]
      simp
    have hlast0 : ∀ t k, lastW ops (fun j => l0.getD j false) t k = none := by
      intro t k
      induction k with
      | zero => rfl
      | succ k ih => simp only [lastW]; rw [if_neg (by rw [hrf]; simp), ih]
    have hT' : n = ops.size ∨ (n < ops.size ∧ Region.sinkB .any ops n = true ∧ Region.chainB .any ops n = true ∧ Region.seqB .any ops (ops.size - n) n (listedHead n ops.size) = true) := by
      by_cases e : n = ops.size
      · exact .inl e
      · simp only [Bool.or_eq_true, Bool.and_eq_true] at hT
        rcases hT with hT | hT
        · exact absurd (Nat.eq_of_beq_eq_true hT) e
        · exact .inr ⟨by omega, hT.1.1, hT.1.2, hT.2⟩
    have hch := HF_chain (T0 := σ.tmps) (rs0 := rs) _ 0 _ _ _ _ hf (fun j hj => by
      have hj' : j < n := by simp at hj; omega
      simp [hj']) (fun j => by simp) (fun w t u _ hv => by simpa [lastW, cv] using hv)
    have hlent : (ops.toList.take n).length = n := by simp; omega
    have := head_any (Q := Q) (ws := w) (N := a.tmps.size) hn hE hP (hT'.imp (fun h => h) fun h => ⟨h.1, h.2.1, h.2.2.1⟩) hf (fun listed a' w' hi hc hrh hs hd' he0 hN => by
      have hTR : TR (hlen σ.H) X.B ρ σ.H w' Te a' := by
        refine ⟨by rw [HF_len _ _ _ _ _ hf]; exact hs.1, fun t => ?_⟩
        by_cases htl : t < σ.tmps.length
        · have h2 := hs.2 t htl
          have e2 : lastW ops (fun j => listed.getD j false) t n = lastW ops (fun j => decide (j < n)) t n := lastW_congr n fun j hj _ => by rw [cnt_zero hc j hj]; simp [hj]
          rw [e2] at h2
          have := hch.2 w' t (a'.tmps.getD t undef) htl
          rw [hlent, Nat.zero_add] at this
          exact this h2
        · rw [lk_ge Te t (by rw [HF_len _ _ _ _ _ hf]; exact Nat.le_of_not_lt htl)]; simp [VR]
      have htail : wpList P ops Q (ops.toList.drop n) a' w' := evOps_spec hC _ Te ρ σ.H a' w' _ hrh hTR hd' hK fun t ρ' H' a2 w2 hK2 e2 h2 ht2 hd2 hs2 => hQ ⟨t, H'⟩ ρ' a2 w2 hK2 (he0.trans e2) h2 ht2 hd2 (hs2.trans hN)
      have hdl : (ops.toList.drop n).length = ops.size - n := by simp
      rcases hT' with e | ⟨h1, h2, h3, h4⟩
      · have hnil : ops.toList.drop n = [] := List.drop_eq_nil_of_le (by simp [e])
        rw [hnil] at htail
        rw [show ops.size - n = 0 by omega]
        refine ⟨?_, by simpa only [wpList] using htail⟩
        rw [List.eq_nil_iff_forall_not_mem]
        intro i hir
        obtain ⟨hun, o, ho, _⟩ := mem_ready.1 hir
        have hlt : i < ops.size := (Array.getElem?_eq_some_iff.1 ho).1
        have := cnt_zero hc i (by omega)
        rw [getD_both hun] at this; cases this
      · have := wpAny_of_seq (md := .any) (Q' := Q) (ops.toList.drop n) n listed a' w' (fun j => by simp [List.getElem?_drop]) (by rw [hdl, listed_eq hi hc hn]; exact h4) htail
        rwa [hdl] at this) n _ a _ hcnt inv0 h1 ⟨ht1.1, fun t htl => by rw [hlast0]; exact ht1.2 t⟩ hdf e1 rfl
    rw [show n + (ops.size - n) = ops.size by omega] at this
    exact this

end
end Go.Eng
