/- The abstract evaluator: regions whose order is open. -/
import Derived.Test.YtjfnkbbcnllfiaaEngK
namespace Go.Eng
open Go Go.RowKit

section
variable {P : Program} {X : Ctx} {ρ : Nat → Value} {H : List Blk} {w : World}

/-- Where a longer list of blocks owns more. -/
def OwnLe (ρ : Nat → Value) (H : List Blk) (ρ' : Nat → Value) (H' : List Blk) : Prop := ∀ b, Own ρ H b → Own ρ' H' b

theorem OwnLe.zn {ρ' : Nat → Value} {H' : List Blk} (h : OwnLe ρ H ρ' H') {fr : Bool} {b : Nat} (hz : Zn X.B ρ' H' fr b) : Zn X.B ρ H fr b := ⟨fun ho => hz.1 (h b ho), hz.2⟩

theorem ownLe_happ {ρ' : Nat → Value} {w' : World} {bl : List Blk} (e : Ext X.B ρ H w ρ' (happ H bl) w') : OwnLe ρ H ρ' (happ H bl) := by
  rintro b ⟨r, hr, hl, hb⟩
  exact ⟨r, Nat.lt_of_lt_of_le hr e.hn, by rw [hk_happ, if_pos hr]; exact hl, by rw [e.hρ r hr]; exact hb⟩

mutual
theorem VR.shrink {n' : Nat} {ρ' : Nat → Value} {H' : List Blk} {w' : World} (hρ : ∀ r, r < hlen H → ρ' r = ρ r) (ho : OwnLe ρ H ρ' H') : ∀ {a : AV} {v : Value}, refsLt (hlen H) a = true → VR n' X.B ρ' H' w' a v → VR (hlen H) X.B ρ H w' a v
  | .any, _, _, _ => by simp only [VR]
  | .t fr c x, _, _, hv => by
    simp only [VR] at hv ⊢
    obtain ⟨cs, h1, h2⟩ := hv
    exact ⟨cs, h1.mono (fun b _ hb => ⟨ho.zn hb, rfl⟩) (Nat.le_refl _), h2⟩
  | .ns, _, _, hv => by simp only [VR] at hv ⊢; exact hv
  | .os r, _, hr, hv => by
    have hr : r < hlen H := by simpa [refsLt, Nat.blt, Nat.succ_le_iff] using hr
    simp only [VR] at hv ⊢; rw [← hρ r hr]; exact ⟨hr, hv.2⟩
  | .ox r c lo hi, _, hr, hv => by
    have hr : r < hlen H := by simpa [refsLt, Nat.blt, Nat.succ_le_iff] using hr
    simp only [VR] at hv ⊢; rw [← hρ r hr]; exact ⟨hr, hv.2⟩
  | .op r c p, _, hr, hv => by
    have hr : r < hlen H := by simpa [refsLt, Nat.blt, Nat.succ_le_iff] using hr
    simp only [VR] at hv ⊢; rw [← hρ r hr]; exact ⟨hr, hv.2⟩
  | .fn f vs, _, hr, hv => by
    simp only [refsLt] at hr
    simp only [VR] at hv ⊢
    obtain ⟨us, e, hs⟩ := hv
    exact ⟨us, e, VRs.shrink hρ ho hr hs⟩
  | .tu vs, _, hr, hv => by
    simp only [refsLt] at hr
    simp only [VR] at hv ⊢
    obtain ⟨us, e, hs⟩ := hv
    exact ⟨us, e, VRs.shrink hρ ho hr hs⟩
theorem VRs.shrink {n' : Nat} {ρ' : Nat → Value} {H' : List Blk} {w' : World} (hρ : ∀ r, r < hlen H → ρ' r = ρ r) (ho : OwnLe ρ H ρ' H') : ∀ {as : List AV} {vs : List Value}, refsLtL (hlen H) as = true → VRs n' X.B ρ' H' w' as vs → VRs (hlen H) X.B ρ H w' as vs
  | [], _, _, hv => by simp only [VRs] at hv ⊢; exact hv
  | a :: as, _, hr, hv => by
    simp only [refsLtL, Bool.and_eq_true] at hr
    simp only [VRs] at hv ⊢
    obtain ⟨v, r, e, h1, h2⟩ := hv
    exact ⟨v, r, e, VR.shrink hρ ho hr.1 h1, VRs.shrink hρ ho hr.2 h2⟩
end

theorem settle1_spec {ρ' : Nat → Value} {bl : List Blk} {w' : World} (e : Ext X.B ρ H w ρ' (happ H bl) w') (h' : RH X ρ' (happ H bl) w') {v : AV} {u : Value} {K : AV → Prop} (hv : VH X ρ' (happ H bl) w' v u)
    (he : settle1 (hlen H) (happ H bl) v K) : ∃ v', K v' ∧ VH X ρ H w' v' u := by
  have ho := ownLe_happ e
  unfold settle1 at he
  split at he
  · exact ⟨_, he, VR.shrink e.hρ ho (by simp [refsLt]) hv⟩
  · rename_i r
    rcases Br_cases he with ⟨hr, hK⟩ | ⟨hr, hK⟩
    · exact ⟨_, hK, VR.shrink e.hρ ho (by simpa only [refsLt] using hr) hv⟩
    · have hge : hlen H ≤ r := by
        have : ¬ (r + 1 ≤ hlen H) := by intro h; rw [show Nat.blt r (hlen H) = true from Nat.ble_eq_true_of_le h] at hr; cases hr
        omega
      split at hK
      · rename_i wr fr E c x hb
        simp only [VH, VR] at hv
        obtain ⟨hrl, rfl⟩ := hv
        obtain ⟨_, _, cells, hown, hf⟩ := h'.row hrl hb
        refine ⟨_, hK, ?_⟩
        simp only [VH, VR]
        refine ⟨[ρ' r], ?_, pk_sl⟩
        have hd : dead (hk (happ H bl) r) = false := by rw [hb]; rfl
        have hz : ∀ b, blkOf (ρ' r) = some b → ¬ Own ρ H b ∧ X.B.b ≤ b := fun b hbb => by
          refine ⟨?_, h'.new r b hrl hd hbb⟩
          rintro ⟨r0, hr0, hl0, hb0⟩
          have hr0' : r0 < hlen (happ H bl) := Nat.lt_of_lt_of_le hr0 e.hn
          have : r0 = r := h'.inj r0 r b hr0' hrl (by rw [hk_happ, if_pos hr0]; exact live_dead hl0) hd (by rw [e.hρ r0 hr0]; exact hb0) hbb
          omega
        obtain ⟨a, cap, eu, hc, hr⟩ := own_sl (X := X) hown hf
        rw [eu] at hz ⊢
        refine ⟨a, cap, rfl, hc, hr.imp id fun ⟨b, o, cells, ea, hlt, hm, hf⟩ => ?_⟩
        subst ea
        obtain ⟨z1, z2⟩ := hz b rfl
        exact ⟨b, o, cells, rfl, ⟨z1, .inl z2⟩, hlt, hm, hf.mono fun _ _ hx => hx.mono (fun b _ hb => ⟨ho.zn hb, rfl⟩) (Nat.le_refl _)⟩
      · exact hK.elim
  · replace he := Br_tf he
    exact ⟨_, he.2, VR.shrink e.hρ ho he.1 hv⟩

theorem settleL_spec {ρ' : Nat → Value} {bl : List Blk} {w' : World} (e : Ext X.B ρ H w ρ' (happ H bl) w') (h' : RH X ρ' (happ H bl) w') : ∀ {vs : List AV} {us : List Value} {K : List AV → Prop}, VRs (hlen (happ H bl)) X.B ρ' (happ H bl) w' vs us →
    settleL (hlen H) (happ H bl) vs K → ∃ ws, K ws ∧ VRs (hlen H) X.B ρ H w' ws us
  | [], us, K, hv, he => by simp only [VRs] at hv; exact ⟨[], he, by simpa only [VRs] using hv⟩
  | v :: vs, us, K, hv, he => by
    simp only [VRs] at hv
    obtain ⟨u, r, rfl, h1, h2⟩ := hv
    simp only [settleL] at he
    obtain ⟨v', he, hv'⟩ := settle1_spec e h' h1 he
    obtain ⟨ws, hK, hws⟩ := settleL_spec e h' h2 he
    exact ⟨v' :: ws, hK, by simp only [VRs]; exact ⟨u, r, rfl, hv', hws⟩⟩

theorem settle_spec {ρ' : Nat → Value} {bl : List Blk} {w' : World} (e : Ext X.B ρ H w ρ' (happ H bl) w') (h' : RH X ρ' (happ H bl) w') {v : AV} {u : Value} {K : AV → Prop} (hv : VH X ρ' (happ H bl) w' v u)
    (he : settle (hlen H) (happ H bl) v K) : ∃ v', K v' ∧ VH X ρ H w' v' u := by
  unfold settle at he
  split at he
  · simp only [VH, VR] at hv
    obtain ⟨us, rfl, hs⟩ := hv
    obtain ⟨ws, hK, hws⟩ := settleL_spec e h' hs he
    exact ⟨_, hK, by simp only [VH, VR]; exact ⟨us, rfl, hws⟩⟩
  · exact settle1_spec e h' hv he

/-- The own blocks as they were, in a world that has only grown. -/
theorem RH.grow (h : RH X ρ H w) {w' : World} (hos : w'.os = w.os) (ht : w'.tape = w.tape) (ho : w'.output = w.output) (hs : w.heap.size ≤ w'.heap.size) (hk' : ∀ b, b < w.heap.size → w'.heap[b]? = w.heap[b]?) :
    Ext X.B ρ H w ρ H w' ∧ RH X ρ H w' := by
  have e : Ext X.B ρ H w ρ H w' := ⟨Nat.le_refl _, fun _ _ => rfl, hs, fun b hb hn => ⟨hn, hk' b hb⟩⟩
  exact ⟨e, h.step e hos ht ho (fun r hr => (h.blk r hr).ext e fun k hd hb => hk' k (h.blk_lt hr hd hb)) h.inj h.new (fun _ _ h => h)⟩

/-- What is known of operation o, to be carried out with slots as T says, whenever its turn comes: it comes to r. -/
def OF (P : Program) (X : Ctx) (ρ : Nat → Value) (H : List Blk) (ops : Array Oper) (o : Oper) (T : List AV) (r : AV) : Prop :=
  ∀ (a : Act) (w : World), RH X ρ H w → (∀ t ∈ o.looksAt ops, VR (hlen H) X.B ρ H w (lk T t) (a.tmps.getD t undef)) →
    (Region.wanted o (yielded ops a.tmps) = true ∧ ∀ (next : Act → World → Prop) (Q : Exit → Act → World → Prop),
      (∀ u w', Ext X.B ρ H w ρ H w' → RH X ρ H w' → VR (hlen H) X.B ρ H w' r u → next (a.put o.dst u) w') → o.wp P a w next Q) ∨
    (Region.wanted o (yielded ops a.tmps) = false ∧ r = skp)

def HF (P : Program) (X : Ctx) (ρ : Nat → Value) (H : List Blk) (ops : Array Oper) : List Oper → List AV → List AV → List (List AV) → List AV → Prop
  | [], T, rs, Ts, Te => rs = [] ∧ Ts = [] ∧ Te = T
  | o :: l, T, rs, Ts, Te => ∃ r rs' T' Ts', rs = r :: rs' ∧ Ts = T :: Ts' ∧ T'.length = T.length ∧ (∀ (w : World) t u, VR (hlen H) X.B ρ H w (lk T t) u → VR (hlen H) X.B ρ H w (lk T' t) u) ∧
      OF P X ρ H ops o T r ∧ HF P X ρ H ops l (putT T' o.dst r) rs' Ts' Te

theorem looks_ops {ops : Array Oper} {o : Oper} {tmps : List AV} {a : Act} (hl : ∀ t ∈ o.looksAt ops, VR (hlen H) X.B ρ H w (lk tmps t) (a.tmps.getD t undef)) : OpsR X ρ H w tmps a o.op.operands := by
  intro x hx
  cases x with
  | tmp t => exact hl t (by simp only [Oper.looksAt]; exact List.mem_append.2 (.inl (List.mem_filterMap.2 ⟨.tmp t, by simpa using hx, rfl⟩)))
  | const v => exact cst_spec v
  | global g => simp [VH, opv, VR]
  | func f => simp [VH, opv, VR, VRs, Act.eval]

end
end Go.Eng
