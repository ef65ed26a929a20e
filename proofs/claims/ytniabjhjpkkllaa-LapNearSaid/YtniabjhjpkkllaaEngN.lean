/- The abstract evaluator: regions; layouts. -/
import Derived.Test.YtniabjhjpkkllaaEngM
set_option linter.unusedVariables false
set_option linter.unusedSimpArgs false
namespace Go.Eng
open Go Go.RowKit

section
variable {P : Program} {X : Ctx} {ρ : Nat → Value} {H : List Blk} {w : World}

theorem HF_len {ro : Option Nat} {ops : Array Oper} : ∀ (l : List Oper) (T : List AV) (s : Nat) (rs : List AV) (Ts : List (List AV)) (sb : List (Nat × List Blk)) (Te : List AV), HF ro P X H ops l T s rs Ts sb Te → Te.length = T.length
  | [], _, _, _, _, _, _, ⟨_, _, _, e⟩ => by rw [e]
  | _ :: l, T, s, rs, Ts, sb, Te, ⟨r, bl, rs', T', Ts', sb', _, _, _, hl, _, _, _, hf⟩ => by rw [HF_len l _ _ rs' Ts' sb' Te hf, length_putT, hl]

theorem listed_eq {md : Region.Mode} {ops : Array Oper} {n : Nat} {listed : Array Bool} (hi : HeadInv md ops n listed) (hc : cnt n listed = 0) (_hn : n ≤ ops.size) : listed = listedHead n ops.size := by
  apply Array.ext
  · simp [listedHead, hi.size]
  · intro i h1 h2
    have hsz : i < ops.size := by simpa [listedHead] using h2
    by_cases h : i < n
    · have := cnt_zero hc i h
      simp [h1] at this
      simp [listedHead, h, this]
    · have := hi.tail i (by omega) hsz
      simp [h1] at this
      simp [listedHead, h, this]

theorem hext : ∀ {H K : List Blk}, hlen H = hlen K → (∀ r, r < hlen H → hk H r = hk K r) → H = K
  | [], [], _, _ => rfl
  | [], _ :: _, h, _ => by simp [hlen] at h
  | _ :: _, [], h, _ => by simp [hlen] at h
  | a :: H, b :: K, h, hk' => by
    have h0 := hk' 0 (by simp [hlen])
    simp only [hk] at h0
    have e : H = K := hext (by simpa [hlen] using h) fun r hr => by have := hk' (r + 1) (by simp [hlen]; omega); simpa only [hk] using this
    rw [h0, e]

def deadsL (H : List Blk) (m : Nat) : List Blk := happ H (deads m)

/-- Places kept free. -/
theorem RH.room (h : RH X ρ H w) (m : Nat) : Ext X.B ρ H w ρ (happ H (deads m)) w ∧ RH X ρ (happ H (deads m)) w ∧ Begins H (happ H (deads m)) := by
  have hl : hlen (happ H (deads m)) = hlen H + m := by rw [hlen_happ, hlen_deads]
  have hlo : ∀ r, r < hlen H → hk (happ H (deads m)) r = hk H r := fun r hr => by rw [hk_happ, if_pos hr]
  have hhi : ∀ r, hlen H ≤ r → hk (happ H (deads m)) r = .dead := fun r hr => by rw [hk_happ, if_neg (by omega), hk_deads]
  have hdl : ∀ r, dead (hk (happ H (deads m)) r) = false → r < hlen H := fun r hd => by
    apply Classical.byContradiction
    intro hr
    rw [hhi r (by omega)] at hd; simp [dead] at hd
  have hown : ∀ b, Own ρ (happ H (deads m)) b → Own ρ H b := by
    rintro b ⟨r, hr, hlv, hb⟩
    have hr' := hdl r (live_dead hlv)
    exact ⟨r, hr', by rw [← hlo r hr']; exact hlv, hb⟩
  have ext : Ext X.B ρ H w ρ (happ H (deads m)) w := ⟨by omega, fun _ _ => rfl, Nat.le_refl _, fun b _ hn => ⟨fun ho => hn (hown b ho), rfl⟩⟩
  refine ⟨ext, h.step ext rfl rfl rfl (fun r hr => ?_) (fun r r' b hr hr' hd hd' hb hb' => ?_) (fun r b hr hd hb => ?_) (fun b _ ho => hown b ho), by omega, hlo, fun r a hr e => ?_, fun r h1 h2 => .inl (hhi r h1)⟩
  · by_cases hlt : r < hlen H
    · rw [hlo r hlt]; exact (h.blk r hlt).ext ext fun _ _ _ => rfl
    · rw [hhi r (by omega)]; trivial
  · have g1 := hdl r hd; have g2 := hdl r' hd'
    rw [hlo r g1] at hd; rw [hlo r' g2] at hd'
    exact h.inj r r' b g1 g2 hd hd' hb hb'
  · have g1 := hdl r hd
    rw [hlo r g1] at hd
    exact h.new r b g1 hd hb
  · have := h.blk r hr
    rw [e] at this
    obtain ⟨_, _, u, _, _, _, hv⟩ := this
    exact arefs_of_VR hv

/-- What a region whose order is open must be like, its head n operations. -/
def drawOKn (n : Nat) (ops : Array Oper) : Bool := edgesB ops && pairsB ops n && (Nat.beq n ops.size || (Region.sinkB .any ops n && Region.chainB .any ops n && Region.seqB .any ops (ops.size - n) n (listedHead n ops.size)))

theorem evHead_spec {ro : Option Nat} {C : Cfg} (hC : CfgOK P C) (hS : ∀ f e, C.fn f = some e → SelE e) (hm : P.follows .mixedOrders = true) {id : Nat} {ops : Array Oper} {n : Nat} (hn : n ≤ ops.size) (hdo : drawOKn n ops = true) {σ : St} {a : Act} {D : List Deferred}
    {J : Array Bool → Array Value → Prop} (hJ : ∀ (i : Nat) (o : Oper) (listed : Array Bool) (a : Act) (u : Value), i < n → ops[i]? = some o → J listed a.tmps → (o.op = .move (.tmp 0) → o.guard = none → u = a.tmps.getD 0 undef) → J (listed.setIfInBounds i true) (a.put o.dst u).tmps)
    (hj : J (Array.replicate ops.size false) a.tmps) (h : RH X ρ σ.H w) (ht : TR (hlen σ.H) X.B ρ σ.H w σ.tmps a) (hdf : a.defers = D) {Kh : List AV → List Blk → Prop} (he : evHead C ops.toList (ops.toList.take n) σ.tmps σ.H [] Kh) {Q : Exit → Act → World → Prop}
    (hQ : ∀ t M ρ' a' w' listed, Kh t M → (∀ i, i < n → listed.getD i false = true) → J listed a'.tmps → Ext X.B ρ σ.H w ρ' (happ σ.H M) w' → RH X ρ' (happ σ.H M) w' → TR (hlen (happ σ.H M)) X.B ρ' (happ σ.H M) w' t a' → a'.defers = D → wpListIn (FW ro) 0 P ops Q (ops.toList.drop n) a' w') :
    (Code.region id ops true).wpIn (FW ro) 0 P Q a w := by
  simp only [drawOKn, Bool.and_eq_true] at hdo
  obtain ⟨⟨hE, hP⟩, hT⟩ := hdo
  obtain ⟨rs, Ts, sb, Te, hK, hf⟩ := head_facts (ro := ro) (X := X) hC hS (ops.toList.take n) σ.tmps [] _ he
  simp only [happ] at hK
  replace hf : HF ro P X σ.H ops (ops.toList.take n) σ.tmps 0 rs Ts sb Te := hf
  refine wpIn_region_any hm ?_
  obtain ⟨e1, h1⟩ := h.grow (w' := { w with drawn := w.drawn + 1 }) rfl rfl rfl (Nat.le_refl _) (fun _ _ => rfl)
  have ht1 := ht.ext e1 rfl
  obtain ⟨e2, h2, hbeg⟩ := h1.room (hlen (cat sb))
  have inv0 : HeadInv .any ops n (Array.replicate ops.size false) :=
    ⟨by simp, fun j oj _ hl => (by rw [getD_replicate_false] at hl; cases hl), fun t _ ht => getD_in (by simpa using ht) (getD_replicate_false _ _)⟩
  have hrf : ∀ j, (Array.replicate ops.size false).getD j false = false := getD_replicate_false _
  generalize Array.replicate ops.size false = l0 at hrf inv0 hj ⊢
  have hcnt : cnt n l0 = n := by
    unfold cnt
    rw [List.countP_eq_length.2 (fun i _ => by rw [hrf]; rfl)]
    simp
  have hlast0 : ∀ t k, lastW ops (fun j => l0.getD j false) t k = none := by
    intro t k
    induction k with
    | zero => rfl
    | succ k ih => simp only [lastW]; rw [if_neg (by rw [hrf]; simp), ih]
  have hT' : n = ops.size ∨ (n < ops.size ∧ Region.sinkB .any ops n = true ∧ Region.chainB .any ops n = true ∧ Region.seqB .any ops (ops.size - n) n (listedHead n ops.size) = true) := by
    by_cases e : n = ops.size
    · exact .inl e
    · simp only [Bool.or_eq_true, Bool.and_eq_true] at hT
      rcases hT with hT | hT
      · exact absurd (Nat.eq_of_beq_eq_true hT) e
      · exact .inr ⟨by omega, hT.1.1, hT.1.2, hT.2⟩
  have hch := HF_chain (T0 := σ.tmps) (rs0 := rs) _ 0 _ _ _ _ _ _ hf (fun j hj => by
    have hj' : j < n := by simp at hj; omega
    simp [hj']) (fun j => by simp) (fun t _ => by simpa [lastW, cv] using Wk.refl _)
  obtain ⟨hsl, hsb1, _, hsb3⟩ := HF_sb _ _ _ _ _ _ _ hf
  have hlent : (ops.toList.take n).length = n := by simp; omega
  have := head_any (Q := Q) (ws := w) (ρ0 := ρ) (D := D) hn hE hP (hT'.imp (fun h => h) fun h => ⟨h.1, h.2.1, h.2.2.1⟩) hf (J := J) hJ (fun listed a' w' ρ' Hc hi hc hrh hH hs hd' he0 hN => by
    have hHc : Hc = happ σ.H (cat sb) := by
      refine hext (by rw [hH.len, hlen_happ]) fun r hr => ?_
      rw [hH.len] at hr
      by_cases hlt : r < hlen σ.H
      · rw [hH.beg.low r hlt, hk_happ, if_pos hlt]
      · obtain ⟨k, sk, bl, g1, g2, g3⟩ := hsb3 (r - hlen σ.H) (by omega)
        obtain ⟨_, _, _, g4⟩ := hsb1 k sk bl g1
        have hkn : k < n := by
          have := (List.getElem?_eq_some_iff.1 g1).1
          omega
        have g5 := hH.mid k sk bl g1 (r - hlen σ.H - sk) (by omega)
        rw [show hlen σ.H + sk + (r - hlen σ.H - sk) = r by omega, cnt_zero hc k hkn] at g5
        simp only [if_true] at g5
        have g6 := g4 (r - hlen σ.H - sk) (by omega)
        rw [g5, ← g6, hk_happ, if_neg hlt]
        congr 1; omega
    subst hHc
    have hTR : TR (hlen (happ σ.H (cat sb))) X.B ρ' (happ σ.H (cat sb)) w' Te a' := by
      refine ⟨by rw [HF_len _ _ _ _ _ _ _ hf]; exact hs.1, fun t => ?_⟩
      by_cases htl : t < σ.tmps.length
      · have h2 := (hs.2 t htl).1
        have e2 : lastW ops (fun j => listed.getD j false) t n = lastW ops (fun j => decide (j < n)) t n := lastW_congr n fun j hj _ => by rw [cnt_zero hc j hj]; simp [hj]
        rw [e2] at h2
        have := hch.2 t htl
        rw [hlent, Nat.zero_add] at this
        exact this.vr _ _ _ _ _ _ h2
      · rw [lk_ge Te t (by rw [HF_len _ _ _ _ _ _ _ hf]; exact Nat.le_of_not_lt htl)]; simp [VR]
    have htail : wpListIn (FW ro) 0 P ops Q (ops.toList.drop n) a' w' := hQ _ _ ρ' a' w' listed hK (cnt_zero hc) hN he0 hrh hTR hd'
    have hdl : (ops.toList.drop n).length = ops.size - n := by simp
    rcases hT' with e | ⟨h1, h2, h3, h4⟩
    · have hnil : ops.toList.drop n = [] := List.drop_eq_nil_of_le (by simp [e])
      rw [hnil] at htail
      rw [show ops.size - n = 0 by omega]
      refine ⟨?_, by simpa only [wpListIn] using htail⟩
      rw [List.eq_nil_iff_forall_not_mem]
      intro i hir
      obtain ⟨hun, o, ho, _⟩ := mem_ready.1 hir
      have hlt : i < ops.size := (Array.getElem?_eq_some_iff.1 ho).1
      have := cnt_zero hc i (by omega)
      rw [getD_both hun] at this; cases this
    · have := wpAnyIn_of_seq (md := .any) (Q' := Q) (ops.toList.drop n) n listed a' w' (fun j => by simp [List.getElem?_drop]) (by rw [hdl, listed_eq hi hc hn]; exact h4) htail
      rwa [hdl] at this) n _ a _ ρ (happ σ.H (deads (hlen (cat sb)))) hcnt inv0 h2
    ⟨by rw [hlen_happ, hlen_deads], hbeg, fun _ _ => rfl, fun k sk bl hk1 j hj => by
      rw [hrf]
      rw [hk_happ, if_neg (by omega), hk_deads]; rfl⟩
    ⟨ht1.1, fun t htl => by rw [hlast0]; exact ⟨VR.ext e2 (ht1.2 t), arefs_mono (fun _ h => .inl h) (arefs_of_VR (ht1.2 t))⟩⟩ hdf (e1.trans e2) hj
  rw [show n + (ops.size - n) = ops.size by omega] at this
  exact this

theorem evRegion_spec {ro : Option Nat} {C : Cfg} (hC : CfgOK P C) (hS : ∀ f e, C.fn f = some e → SelE e) (hm : P.follows .mixedOrders = true) {id : Nat} {ops : Array Oper} {draw : Bool} (hd : draw = true → drawOK ops = true) {σ : St} {a : Act} {D : List Deferred} {J : Array Value → Prop} (hJ : ∀ o ∈ ops.toList, StJ J o.dst) (hj : J a.tmps)
    (h : RH X ρ σ.H w) (ht : TR (hlen σ.H) X.B ρ σ.H w σ.tmps a) (hdf : a.defers = D) {K : St → Prop} (he : evRegion C ops.toList draw σ K) {Q : Exit → Act → World → Prop}
    (hQ : ∀ σ' ρ' a' w', K σ' → Ext X.B ρ σ.H w ρ' σ'.H w' → RH X ρ' σ'.H w' → TR (hlen σ'.H) X.B ρ' σ'.H w' σ'.tmps a' → a'.defers = D → J a'.tmps → Q .normal a' w') :
    (Code.region id ops draw).wpIn (FW ro) 0 P Q a w := by
  cases draw with
  | false =>
    refine wpIn_region_list ?_
    have := evOps_spec (ro := ro) (rest := []) (Q := Q) hC ops.toList hJ σ.tmps ρ σ.H a w _ h ht hdf hj he fun t ρ' H' a' w' hK e h' ht' hd' hs' => by
      simp only [wpListIn]; exact hQ ⟨t, H'⟩ ρ' a' w' hK e h' ht' hd' hs'
    rwa [List.append_nil] at this
  | true =>
    simp only [evRegion] at he
    rw [takeL_eq, dropL_eq] at he
    have hn : headLen ops.toList ≤ ops.size := by simpa using headLen_le ops.toList
    refine evHead_spec hC hS hm hn (hd rfl) (J := fun _ t => J t) (fun i o listed a u hi ho hj _ => hJ o (List.mem_of_getElem? (show ops.toList[i]? = some o by simpa using ho)) a u hj) hj h ht hdf he fun t M ρ' a' w' listed hK _ hj' hext h' ht' hd' => ?_
    have := evOps_spec (ro := ro) (rest := []) (Q := Q) hC (ops.toList.drop (headLen ops.toList)) (fun o ho => hJ o (List.mem_of_mem_drop ho)) t ρ' (happ σ.H M) a' w' _ h' ht' hd' hj' hK fun t ρ2 H' a2 w2 hK2 e2 h2 ht2 hd2 hs2 => by
      simp only [wpListIn]; exact hQ ⟨t, H'⟩ ρ2 a2 w2 hK2 (hext.trans e2) h2 ht2 hd2 hs2
    rwa [List.append_nil] at this

end
end Go.Eng
