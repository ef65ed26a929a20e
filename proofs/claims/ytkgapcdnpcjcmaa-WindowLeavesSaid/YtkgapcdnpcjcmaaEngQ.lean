/- The abstract evaluator: it is right. -/
import Derived.Test.YtkgapcdnpcjcmaaEngP
import Derived.LoopNIn
set_option linter.unusedVariables false
set_option linter.unusedSimpArgs false
namespace Go.Eng
open Go Go.RowKit

section
variable {P : Program} {X : Ctx} {C : Cfg} {L : Cuts}

section
variable {F : Fence} {n : Nat} {b : Frame} {a : Act} {k : List Item} {cs : List Frame} {w : World} {Q : Exit → Act → World → Prop}
theorem stepR_scope {c : Code} : step P (lone (b.atR a (.code (.scope c) :: k)) cs w) = .next (lone (b.atR a (.code c :: .inScope c :: k)) cs w) :=
  step_lone_go (by simp [stepG, stepG.exec, Frame.atR])
theorem stepR_inScope {c : Code} : step P (lone (b.atR a (.inScope c :: k)) cs w) = .next (lone (b.atR a k) cs w) :=
  step_lone_go (by simp [stepG, stepG.exec, Frame.atR])
theorem wpIn_scope_straight {c : Code} (h : c.wpIn F n P (Exit.noGoto Q) a w) : (Code.scope c).wpIn F n P Q a w := by
  intro b k cs hro hb hr
  obtain ⟨e, a₁, w₁, hq, harr⟩ := h b (.inScope c :: k) cs hro hb hr
  have s0 : StepsIn (Machine.fenced P F) P (lone (b.atR a (.code (.scope c) :: k)) cs w) (lone (b.atR a (.code c :: .inScope c :: k)) cs w) := .one (fenced_calm hb hr rfl) stepR_scope
  cases e with
  | normal => exact ⟨.normal, a₁, w₁, hq, .of_steps s0 (StepsIn.trans harr (.one (fenced_calm hb hr rfl) stepR_inScope))⟩
  | exit id => exact ⟨.exit id, a₁, w₁, hq, .of_steps s0 ⟨fun k' hk => harr.1 k' (by simp [exitTo, hk]), fun hs hk => harr.2 hs (by simp [exitTo, hk])⟩⟩
  | goto l => exact hq.elim
  | ret => exact ⟨_, a₁, w₁, hq, .of_steps s0 harr⟩
  | panic ch => exact ⟨_, a₁, w₁, hq, .of_steps s0 harr⟩
  | outgrown => exact ⟨_, a₁, w₁, hq, .of_steps s0 harr⟩
end

/-- What is known at a place. -/
structure At (X : Ctx) (N : Nat) (D : List Deferred) (σ : St) (a : Act) (w : World) : Prop where
  ex : ∃ ρ, RH X ρ σ.H w ∧ TR (hlen σ.H) X.B ρ σ.H w σ.tmps a
  df : a.defers = D
  sz : a.tmps.size = N

theorem At.dec {N : Nat} {D : List Deferred} {σ : St} {a : Act} {w : World} (h : At X N D σ a w) {l : Lay} {J : Vals l → Prop} (hd : dec l σ J) : ∃ v, J v ∧ At X N D (st l v) a w := by
  obtain ⟨⟨ρ, h1, h2⟩, h3, h4⟩ := h
  obtain ⟨v, hJ, ρ', h5, h6⟩ := dec_spec h1 h2 hd
  exact ⟨v, hJ, ⟨ρ', h5, h6⟩, h3, h4⟩

/-- A post: some outcome that the evaluator goes on with. -/
def Post (X : Ctx) (N : Nat) (D : List Deferred) (K : KK) : Exit → Act → World → Prop := fun e a w => ∃ o σ, e = toExit o ∧ K o σ ∧ At X N D σ a w

theorem evCode_spec (hC : CfgOK P C) (hS : ∀ f e, C.fn f = some e → SelE e) (hm : P.follows .mixedOrders = true) {ro : Option Nat} {N : Nat} {D : List Deferred} : ∀ (c : Code) (_ : CodeOK C L c) (σ : St) (a : Act) (w : World) (K : KK), At X N D σ a w → evCode C L c σ K →
    c.wpIn (FW ro) 0 P (Post X N D K) a w
  | .skip, _, σ, a, w, K, h, he => by simp only [evCode] at he; exact wpIn_skip ⟨.nrm, σ, rfl, he, h⟩
  | .label _, _, σ, a, w, K, h, he => by simp only [evCode] at he; exact wpIn_label ⟨.nrm, σ, rfl, he, h⟩
  | .region id ops d, hok, σ, a, w, K, h, he => by
    simp only [evCode] at he
    obtain ⟨⟨ρ, h1, h2⟩, h3, h4⟩ := h
    have hd : d = true → drawOK ops = true := fun e => by have := hok.draws; simp only [drawsB, e] at this; simpa using this
    exact evRegion_spec hC hS hm hd h1 h2 h3 he fun σ' ρ' a' w' hK _ h' ht' hd' hs' => ⟨.nrm, σ', rfl, hK, ⟨ρ', h', ht'⟩, hd', hs'.trans h4⟩
  | .seq x y, hok, σ, a, w, K, h, he => by
    obtain ⟨hx, hy, hj⟩ := hok.seq
    simp only [evCode] at he
    refine wpIn_seq (wpIn_mono (evCode_spec hC hS hm x hx σ a w _ h he) fun e a' w' hp => ?_)
    obtain ⟨o, σ', rfl, hK, h'⟩ := hp
    cases o with
    | nrm =>
      simp only [toExit, Exit.then] at hK ⊢
      split at hK
      · rename_i c hc
        obtain ⟨v, hF, hat⟩ := h'.dec hK
        rw [hj _ c hc] at hF
        refine wpIn_mono (evCode_spec hC hS hm y hy _ a' w' _ hat hF) fun e2 a2 w2 hp => ?_
        obtain ⟨o2, σ2, rfl, hK2, h2⟩ := hp
        simp only [joinK, outK] at hK2
        split at hK2
        · obtain ⟨v2, hK2, h2⟩ := h2.dec hK2
          exact ⟨o2, _, rfl, hK2, h2⟩
        · exact hK2.elim
      · exact evCode_spec hC hS hm y hy σ' a' w' K h' hK
    | exit i => exact ⟨.exit i, σ', rfl, hK, h'⟩
    | ret => exact ⟨.ret, σ', rfl, hK, h'⟩
  | .cond x b c, hok, σ, a, w, K, h, he => by
    obtain ⟨hb, hc⟩ := hok.cond
    simp only [evCode] at he
    obtain ⟨⟨ρ, h1, h2⟩, h3, h4⟩ := h
    split at he
    · rename_i fr t hx
      have hv := opv_spec h2 x
      rw [hx] at hv
      have hv := VR_bool hv
      have hlearn : At X N D ⟨learn σ.tmps x t, σ.H⟩ a w := by
        refine ⟨⟨ρ, h1, ?_⟩, h3, h4⟩
        cases x with
        | tmp s => exact h2.up (by simp only [Act.eval] at hv; rw [hv]; exact VR_bB _)
        | _ => exact h2
      refine wpIn_cond hv ?_
      rcases Br_cases he with ⟨rfl, he⟩ | ⟨rfl, he⟩
      · exact evCode_spec hC hS hm b hb _ a w K hlearn he
      · exact evCode_spec hC hS hm c hc _ a w K hlearn he
    · exact he.elim
  | .block id b, hok, σ, a, w, K, h, he => by
    simp only [evCode] at he
    refine wpIn_block (wpIn_mono (evCode_spec hC hS hm b hok.block σ a w _ h he) fun e a' w' hp => ?_)
    obtain ⟨o, σ', rfl, hK, h'⟩ := hp
    cases o with
    | nrm => exact ⟨.nrm, σ', rfl, hK, h'⟩
    | ret => exact ⟨.ret, σ', rfl, hK, h'⟩
    | exit j =>
      simp only [toExit, Exit.inBlock]
      rcases Br_cases hK with ⟨e, hK⟩ | ⟨e, hK⟩
      · rw [if_pos (Nat.eq_of_beq_eq_true e)]
        exact ⟨.nrm, σ', rfl, hK, h'⟩
      · rw [if_neg (Nat.ne_of_beq_eq_false e)]
        exact ⟨.exit j, σ', rfl, hK, h'⟩
  | .scope b, hok, σ, a, w, K, h, he => by
    simp only [evCode] at he
    refine wpIn_scope_straight (wpIn_mono (evCode_spec hC hS hm b hok.scope σ a w _ h he) fun e a' w' hp => ?_)
    obtain ⟨o, σ', rfl, hK, h'⟩ := hp
    cases o with
    | nrm => exact ⟨.nrm, σ', rfl, hK, h'⟩
    | ret => exact ⟨.ret, σ', rfl, hK, h'⟩
    | exit j => exact ⟨.exit j, σ', rfl, hK, h'⟩
  | .loop b, hok, σ, a, w, K, h, he => by
    obtain ⟨hb, hl⟩ := hok.loop
    simp only [evCode] at he
    split at he
    · rename_i c hc
      obtain ⟨v, hF, hat⟩ := h.dec he
      obtain ⟨Fk, hF1, hF0, hFs⟩ := hl _ c hc
      rw [hF1] at hF
      obtain ⟨k, hk⟩ := hF
      -- the fuel tells how many rounds are left at most
      have key : ∀ k v a w, Fk k v K → At X N D (st c.lay v) a w → Code.roundsIn (FW ro) 0 P b (Post X N D K) k a w := by
        intro k
        induction k with
        | zero => intro v a w hk _; rw [hF0] at hk; exact hk.elim
        | succ k ih =>
          intro v a w hk hat
          rw [roundsIn_succ]
          rw [hFs] at hk
          refine wpIn_mono (evCode_spec hC hS hm b hb _ a w _ hat hk) fun e a' w' hp => ?_
          obtain ⟨o, σ', rfl, hK, h'⟩ := hp
          cases o with
          | nrm =>
            simp only [loopK] at hK
            obtain ⟨v', hF', hat'⟩ := h'.dec hK
            exact ih v' a' w' hF' hat'
          | exit i =>
            simp only [loopK, outK] at hK
            split at hK
            · obtain ⟨v2, hK2, h2⟩ := h'.dec hK
              exact ⟨.exit i, _, rfl, hK2, h2⟩
            · exact hK.elim
          | ret =>
            simp only [loopK, outK] at hK
            split at hK
            · obtain ⟨v2, hK2, h2⟩ := h'.dec hK
              exact ⟨.ret, _, rfl, hK2, h2⟩
            · exact hK.elim
      exact wpIn_loop_rounds k (key k v a w hk hat)
    · exact he.elim
  | .exit id, _, σ, a, w, K, h, he => by simp only [evCode] at he; exact wpIn_exit ⟨.exit id, σ, rfl, he, h⟩
  | .ret, _, σ, a, w, K, h, he => by simp only [evCode] at he; exact wpIn_ret ⟨.ret, σ, rfl, he, h⟩
  | .rangeFunc _ _ _ _, _, σ, a, w, K, h, he => by simp [evCode] at he
  | .goto _, _, σ, a, w, K, h, he => by simp [evCode] at he
  | .refuse _, _, σ, a, w, K, h, he => by simp [evCode] at he


/-! ### Functions -/

theorem resV_spec {σ : St} {a : Act} {w : World} {ρ : Nat → Value} (hC : CfgOK P C) (h : RH X ρ σ.H w) (ht : TR (hlen σ.H) X.B ρ σ.H w σ.tmps a) : ∀ (rs : List ResultVar) (K : List AV → Prop), resV C σ rs K →
    ∃ vs us, K vs ∧ VRs (hlen σ.H) X.B ρ σ.H w vs us ∧ (rs.mapM fun (x : ResultVar) => (match x with
      | .tmp t => pure (a.tmps.getD t undef)
      | .cell b t => do loadVar t (← asAddr (a.tmps.getD b undef)) : Sem Value)).run P w = .ok us w
  | [], K, he => ⟨[], [], by simpa only [resV] using he, by simp only [VRs], by simp⟩
  | .tmp t :: rs, K, he => by
    simp only [resV] at he
    obtain ⟨vs, us, hK, hv, hr⟩ := resV_spec hC h ht rs _ he
    exact ⟨_, _, hK, by simp only [VRs]; exact ⟨_, us, rfl, ht.2 t, hv⟩, by simp only [List.mapM_cons, Sem.run_bind, Sem.run_pure, Result.andThen_ok, hr]⟩
  | .cell b t :: rs, K, he => by
    simp only [resV] at he
    obtain ⟨r, v, hl, he, hv1⟩ := evLoad_spec h (hC.ty t) (ht.2 b) he
    obtain ⟨vs, us, hK, hv, hr⟩ := resV_spec hC h ht rs _ he
    refine ⟨_, _, hK, by simp only [VRs]; exact ⟨r, us, rfl, hv1, hv⟩, ?_⟩
    have hl' : (do loadVar t (← asAddr (a.tmps.getD b undef)) : Sem Value).run P w = .ok r w := by
      generalize a.tmps.getD b undef = u at hl
      cases u with
      | pointer ad =>
        cases ad with
        | some ad => simpa [Instr.loadAt, Instr.sureAddr, asAddr] using hl
        | none => simp [Instr.loadAt, Instr.sureAddr, stuck] at hl
      | _ => simp [Instr.loadAt, Instr.sureAddr, stuck] at hl
    simp only [List.mapM_cons, Sem.run_bind, hl', Result.andThen_ok, hr]
    rfl


/-! ### Handing back -/

theorem pos_lt : ∀ {r : Nat} {l : List Nat}, r ∈ l → pos r l < l.length ∧ l[pos r l]? = some r
  | r, [], h => by cases h
  | r, x :: l, h => by
    simp only [pos]
    split
    · rename_i e
      have := Nat.eq_of_beq_eq_true e
      exact ⟨by simp, by simp [this]⟩
    · rename_i e
      rcases List.mem_cons.1 h with h | h
      · subst h; simp at e
      · obtain ⟨h1, h2⟩ := pos_lt h
        exact ⟨by simpa using h1, by simpa using h2⟩

theorem not_nmem {n : Nat} : ∀ {l : List Nat}, nmem n l = false → n ∉ l
  | [], _, h => by cases h
  | x :: l, h, hm => by
    simp only [nmem, Bool.or_eq_false_iff] at h
    rcases List.mem_cons.1 hm with e | hm
    · subst e; simp at h
    · exact not_nmem h.2 hm

theorem pickB_spec {H : List Blk} : ∀ (l : List Nat) (K : List Blk → Prop), pickB H l K → ∃ bs, K bs ∧ hlen bs = l.length ∧ allVal bs ∧ ∀ i r, l[i]? = some r → hk bs i = hk H r
  | [], K, h => ⟨[], h, rfl, trivial, fun i r hi => by simp at hi⟩
  | r :: l, K, h => by
    simp only [pickB] at h
    replace h := Br_tf h
    obtain ⟨bs, hK, hl, hv, hb⟩ := pickB_spec l _ h.2
    refine ⟨_, hK, by simp [hlen, hl], ⟨h.1, hv⟩, fun i r' hi => ?_⟩
    cases i with
    | zero => simp at hi; subst hi; rfl
    | succ i => simpa [hk] using hb i r' (by simpa using hi)

/-- Where the references of a result lead. -/
def eρ (ρ : Nat → Value) (n : Nat) (l : List Nat) (r : Nat) : Value := match l[r - n]? with
  | some s => ρ s
  | none => undef

theorem eρ_pos {ρ : Nat → Value} {n : Nat} {l : List Nat} {r : Nat} (h : r ∈ l) : eρ ρ n l (n + pos r l) = ρ r := by
  unfold eρ; rw [Nat.add_sub_cancel_left, (pos_lt h).2]

theorem mem_add {r s : Nat} {l : List Nat} (h : s ∈ l) : s ∈ (if nmem r l = true then l else l ++ [r]) := by
  split
  · exact h
  · simp [h]
theorem mem_add_self {r : Nat} {l : List Nat} : r ∈ (if nmem r l = true then l else l ++ [r]) := by
  split
  · rename_i h
    apply Classical.byContradiction
    intro hn
    have : ∀ l : List Nat, nmem r l = true → r ∈ l := by
      intro l
      induction l with
      | nil => intro h; simp [nmem] at h
      | cons x l ih =>
        intro h
        simp only [nmem, Bool.or_eq_true] at h
        rcases h with h | h
        · rw [Nat.eq_of_beq_eq_true h]; simp
        · simp [ih h]
    exact hn (this l h)
  · simp
theorem nodup_add {r : Nat} {l : List Nat} (h : l.Nodup) : (if nmem r l = true then l else l ++ [r]).Nodup := by
  split
  · exact h
  · rename_i hn
    have := not_nmem (by simpa using hn)
    rw [List.nodup_append]
    exact ⟨h, by simp, by simp; intro a ha e; subst e; exact this ha⟩

mutual
theorem refs_mem : ∀ (v : AV) (l : List Nat) (s : Nat), s ∈ l → s ∈ refs v l
  | .os _, _, _, h => by simp only [refs]; exact mem_add h
  | .ox _ _ _ _, _, _, h => by simp only [refs]; exact mem_add h
  | .op _ _ _, _, _, h => by simp only [refs]; exact mem_add h
  | .fn _ vs, l, s, h => by simp only [refs]; exact refsL_mem vs l s h
  | .tu vs, l, s, h => by simp only [refs]; exact refsL_mem vs l s h
  | .any, _, _, h => by simpa only [refs] using h
  | .ns, _, _, h => by simpa only [refs] using h
  | .t _ _ _, _, _, h => by simpa only [refs] using h
theorem refsL_mem : ∀ (vs : List AV) (l : List Nat) (s : Nat), s ∈ l → s ∈ refsL vs l
  | [], _, _, h => by simpa only [refsL] using h
  | v :: vs, l, s, h => by simp only [refsL]; exact refsL_mem vs _ s (refs_mem v l s h)
end
mutual
theorem refs_nodup' : ∀ (v : AV) (l : List Nat), l.Nodup → (refs v l).Nodup
  | .os _, _, h => by simp only [refs]; exact nodup_add h
  | .ox _ _ _ _, _, h => by simp only [refs]; exact nodup_add h
  | .op _ _ _, _, h => by simp only [refs]; exact nodup_add h
  | .fn _ vs, l, h => by simp only [refs]; exact refsL_nodup vs l h
  | .tu vs, l, h => by simp only [refs]; exact refsL_nodup vs l h
  | .any, _, h => by simpa only [refs] using h
  | .ns, _, h => by simpa only [refs] using h
  | .t _ _ _, _, h => by simpa only [refs] using h
theorem refsL_nodup : ∀ (vs : List AV) (l : List Nat), l.Nodup → (refsL vs l).Nodup
  | [], _, h => by simpa only [refsL] using h
  | v :: vs, l, h => by simp only [refsL]; exact refsL_nodup vs _ (refs_nodup' v l h)
end
theorem refs_nodup (v : AV) : (refs v []).Nodup := refs_nodup' v [] List.nodup_nil

section
variable {ρ : Nat → Value} {H H' : List Blk} {w : World} {Z : Nat → Prop} {w0 : World} {n m : Nat} {l : List Nat}

mutual
theorem ren_spec (hz : ∀ fr b, Zn X.B ρ H fr b → Zn X.B (eρ ρ n l) H' fr b) (hm : ∀ r, r ∈ l → n + pos r l < m) : ∀ (v : AV) (u : Value) (K : AV → Prop) (l0 : List Nat), (∀ s, s ∈ refs v l0 → s ∈ l) → VH X ρ H w v u →
    ren n l v K → ∃ v', K v' ∧ VR m X.B (eρ ρ n l) H' w v' u ∧ rge n v'
  | .any, _, _, _, _, _, he => by simp [ren] at he
  | .t fr c x, u, K, _, _, hv, he => by
    simp only [ren] at he
    obtain ⟨cs, h1, h2⟩ := VR.len_t hv
    exact ⟨_, he, by simp only [VR]; exact ⟨cs, h1.mono (fun b _ hb => ⟨hz fr b hb, rfl⟩) (Nat.le_refl _), h2⟩, by simp [rge]⟩
  | .ns, u, K, _, _, hv, he => by
    simp only [ren] at he
    simp only [VH, VR] at hv
    exact ⟨_, he, by simp only [VR]; exact hv, by simp [rge]⟩
  | .os r, u, K, l0, hl, hv, he => by
    simp only [ren] at he
    have hr := hl r (by simp only [refs]; exact mem_add_self)
    simp only [VH, VR] at hv
    exact ⟨_, he, by simp only [VR]; rw [eρ_pos hr]; exact ⟨hm r hr, hv.2⟩, by simp [rge]⟩
  | .ox r c a b, u, K, l0, hl, hv, he => by
    simp only [ren] at he
    have hr := hl r (by simp only [refs]; exact mem_add_self)
    simp only [VH, VR] at hv
    exact ⟨_, he, by simp only [VR]; rw [eρ_pos hr]; exact ⟨hm r hr, hv.2⟩, by simp [rge]⟩
  | .op r c p, u, K, l0, hl, hv, he => by
    simp only [ren] at he
    have hr := hl r (by simp only [refs]; exact mem_add_self)
    simp only [VH, VR] at hv
    exact ⟨_, he, by simp only [VR]; rw [eρ_pos hr]; exact ⟨hm r hr, hv.2⟩, by simp [rge]⟩
  | .fn f vs, u, K, l0, hl, hv, he => by
    simp only [ren] at he
    simp only [VH, VR] at hv
    obtain ⟨us, rfl, hs⟩ := hv
    obtain ⟨ws, hK, h1, h2⟩ := renL_spec hz hm vs us _ l0 (fun s hs => hl s (by simpa only [refs] using hs)) hs he
    exact ⟨_, hK, by simp only [VR]; exact ⟨us, rfl, h1⟩, by simp only [rge]; exact h2⟩
  | .tu vs, u, K, l0, hl, hv, he => by
    simp only [ren] at he
    simp only [VH, VR] at hv
    obtain ⟨us, rfl, hs⟩ := hv
    obtain ⟨ws, hK, h1, h2⟩ := renL_spec hz hm vs us _ l0 (fun s hs => hl s (by simpa only [refs] using hs)) hs he
    exact ⟨_, hK, by simp only [VR]; exact ⟨us, rfl, h1⟩, by simp only [rge]; exact h2⟩
theorem renL_spec (hz : ∀ fr b, Zn X.B ρ H fr b → Zn X.B (eρ ρ n l) H' fr b) (hm : ∀ r, r ∈ l → n + pos r l < m) : ∀ (vs : List AV) (us : List Value) (K : List AV → Prop) (l0 : List Nat), (∀ s, s ∈ refsL vs l0 → s ∈ l) → VRs (hlen H) X.B ρ H w vs us →
    renL n l vs K → ∃ ws, K ws ∧ VRs m X.B (eρ ρ n l) H' w ws us ∧ rges n ws
  | [], us, K, l0, _, hv, he => by
    simp only [renL] at he
    simp only [VRs] at hv
    exact ⟨[], he, by simp only [VRs]; exact hv, by simp [rges]⟩
  | v :: vs, us, K, l0, hl, hv, he => by
    simp only [VRs] at hv
    obtain ⟨u, r, rfl, h1, h2⟩ := hv
    simp only [renL] at he
    simp only [refsL] at hl
    obtain ⟨v', he, hv', hr'⟩ := ren_spec hz hm v u _ l0 (fun s hs => hl s (refsL_mem vs _ s hs)) h1 he
    obtain ⟨ws, hK, hw1, hw2⟩ := renL_spec hz hm vs r _ _ hl h2 he
    exact ⟨_, hK, by simp only [VRs]; exact ⟨u, r, rfl, hv', hw1⟩, by simp only [rges]; exact ⟨hr', hw2⟩⟩
end

end

theorem export_spec {w0 w : World} {Z : Nat → Prop} {ρ : Nat → Value} {H : List Blk} (h : RH (sub0 w0 Z) ρ H w) {v : AV} {u : Value} {n : Nat} {K : AV → List Blk → Prop} (hv : VH (sub0 w0 Z) ρ H w v u) (hrf : ∀ r, r ∈ refs v [] → r < hlen H) (he : export_ v H n K) :
    ∃ v' bl, K v' bl ∧ ResR w0 Z n w v' bl u := by
  unfold export_ at he
  obtain ⟨bs, he, hbl, hval, hbs⟩ := pickB_spec _ _ he
  have hnd := refs_nodup v
  generalize hl : refs v [] = l at *
  have hlen' : hlen (happ (deads n) bs) = n + l.length := by rw [hlen_happ, hlen_deads, hbl]
  -- each block of the answer is one of ours
  have hfrom : ∀ r, r < n + l.length → dead (hk (happ (deads n) bs) r) = false → ∃ s, l[r - n]? = some s ∧ n ≤ r ∧ s < hlen H ∧ hk (happ (deads n) bs) r = hk H s ∧ eρ ρ n l r = ρ s := by
    intro r hr hd
    by_cases hlt : r < n
    · rw [hk_happ, hlen_deads, if_pos hlt, hk_deads] at hd; simp [dead] at hd
    · have hge : n ≤ r := Nat.le_of_not_lt hlt
      have hlt2 : r - n < l.length := by omega
      have e : l[r - n]? = some l[r - n] := by simp [hlt2]
      exact ⟨_, e, hge, hrf _ (List.mem_of_getElem? e), by rw [hk_pad bs hge]; exact hbs _ _ e, by simp only [eρ, e]⟩
  have hown : ∀ b, Own (eρ ρ n l) (happ (deads n) bs) b → Own ρ H b := by
    rintro b ⟨r, hr, hlv, hb⟩
    rw [hlen'] at hr
    obtain ⟨s, _, _, hs, e1, e2⟩ := hfrom r hr (live_dead hlv)
    exact ⟨s, hs, by rw [← e1]; exact hlv, by rw [← e2]; exact hb⟩
  have hz : ∀ fr b, Zn (sub0 w0 Z).B ρ H fr b → Zn (sub0 w0 Z).B (eρ ρ n l) (happ (deads n) bs) fr b := fun fr b hb => ⟨fun ho => hb.1 (hown b ho), hb.2⟩
  have hRH : RH (sub0 w0 Z) (eρ ρ n l) (happ (deads n) bs) w := by
    refine ⟨fun r hr => ?_, fun r r' b hr hr' hd hd' hb hb' => ?_, fun r b hr hd hb => ?_, h.os, h.tape, h.output, h.size, h.keep, fun b hb ho => h.own b hb (hown b ho), h.bsz⟩
    · rw [hlen'] at hr
      cases hd : dead (hk (happ (deads n) bs) r) with
      | true => cases hk0 : hk (happ (deads n) bs) r <;> rw [hk0] at hd <;> simp [dead] at hd; trivial
      | false =>
        obtain ⟨s, es, hge, hs, e1, e2⟩ := hfrom r hr hd
        have hb := h.blk s hs
        have hv : isVal (hk H s) = true := by rw [← e1, hk_pad bs hge]; exact isVal_hk hval (by omega)
        rw [e1, e2]
        cases hbk : hk H s with
        | dead => rw [hbk] at hv; simp [isVal] at hv
        | av a => rw [hbk] at hv; simp [isVal] at hv
        | val wr fr E c x =>
          rw [hbk] at hb
          have tr : ∀ {d : Cd} {y : El d} {cs : List Value}, VT w (Zn (sub0 w0 Z).B ρ H fr) d y cs → VT w (Zn (sub0 w0 Z).B (eρ ρ n l) (happ (deads n) bs) fr) d y cs := fun hv => hv.mono (fun b _ hb => ⟨hz fr b hb, rfl⟩) (Nat.le_refl _)
          by_cases hc : ∃ d, c = .row d
          · obtain ⟨d, rfl⟩ := hc
            obtain ⟨h1, h2, cells, hown', hf⟩ := hb
            exact ⟨h1, h2, cells, hown', hf.mono fun _ _ hx => tr hx⟩
          · have hc' : ∀ d, c ≠ .row d := fun d e => hc ⟨d, e⟩
            obtain ⟨h1, b, cells, e, hg, hv⟩ := h.val hs hbk hc'
            exact BR_val hc' h1 e hg (tr hv)
    · rw [hlen'] at hr hr'
      obtain ⟨s, es, hge, hs, e1, e2⟩ := hfrom r hr hd
      obtain ⟨s', es', hge', hs', e1', e2'⟩ := hfrom r' hr' hd'
      rw [e2] at hb; rw [e2'] at hb'; rw [e1] at hd; rw [e1'] at hd'
      have := h.inj s s' b hs hs' hd hd' hb hb'
      subst this
      have h1 := (List.getElem?_inj (by omega) hnd).1 (es.trans es'.symm)
      omega
    · rw [hlen'] at hr
      obtain ⟨s, es, hge, hs, e1, e2⟩ := hfrom r hr hd
      rw [e2] at hb; rw [e1] at hd
      exact h.new s b hs hd hb
  have hm : ∀ r, r ∈ l → n + pos r l < n + l.length := fun r hr => by have := (pos_lt hr).1; omega
  have fin : ∃ v', K v' bs ∧ VR (n + l.length) (sub0 w0 Z).B (eρ ρ n l) (happ (deads n) bs) w v' u ∧ rge n v' :=
    ren_spec (X := sub0 w0 Z) hz hm v u _ [] (fun s hs => by rw [← hl]; exact hs) hv he
  obtain ⟨v', hK, h1, h2⟩ := fin
  exact ⟨v', bs, hK, eρ ρ n l, hRH, by rw [hlen']; exact h1, h2, hval⟩

end
end Go.Eng
