/- The abstract evaluator: regions whose order is open. -/
import Derived.Test.YtniabjhjpkkllaaEngK
set_option linter.unusedVariables false
set_option linter.unusedSimpArgs false
namespace Go.Eng
open Go Go.RowKit

section
variable {P : Program} {X : Ctx} {ρ : Nat → Value} {H : List Blk} {w : World}

/-- Where a longer list of blocks owns more. -/
def OwnLe (ρ : Nat → Value) (H : List Blk) (ρ' : Nat → Value) (H' : List Blk) : Prop := ∀ b, Own ρ H b → Own ρ' H' b

theorem OwnLe.zn {ρ' : Nat → Value} {H' : List Blk} (h : OwnLe ρ H ρ' H') {fr : Bool} {b : Nat} (hz : Zn X.B ρ' H' fr b) : Zn X.B ρ H fr b := ⟨fun ho => hz.1 (h b ho), hz.2⟩

theorem ownLe_happ {ρ' : Nat → Value} {w' : World} {bl : List Blk} (e : Ext X.B ρ H w ρ' (happ H bl) w') : OwnLe ρ H ρ' (happ H bl) := by
  rintro b ⟨r, hr, hl, hb⟩
  exact ⟨r, Nat.lt_of_lt_of_le hr e.hn, by rw [hk_happ, if_pos hr]; exact hl, by rw [e.hρ r hr]; exact hb⟩

mutual
theorem VR.shrink {n' : Nat} {ρ' : Nat → Value} {H' : List Blk} {w' : World} (hρ : ∀ r, r < hlen H → ρ' r = ρ r) (ho : OwnLe ρ H ρ' H') : ∀ {a : AV} {v : Value}, refsLt (hlen H) a = true → VR n' X.B ρ' H' w' a v → VR (hlen H) X.B ρ H w' a v
  | .any, _, _, _ => by simp only [VR]
  | .t fr c x, _, _, hv => by
    simp only [VR] at hv ⊢
    obtain ⟨cs, h1, h2⟩ := hv
    exact ⟨cs, h1.mono (fun b _ hb => ⟨ho.zn hb, rfl⟩) (Nat.le_refl _), h2⟩
  | .ns, _, _, hv => by simp only [VR] at hv ⊢; exact hv
  | .os r, _, hr, hv => by
    have hr : r < hlen H := by simpa [refsLt, Nat.blt, Nat.succ_le_iff] using hr
    simp only [VR] at hv ⊢; rw [← hρ r hr]; exact ⟨hr, hv.2⟩
  | .ox r c lo hi, _, hr, hv => by
    have hr : r < hlen H := by simpa [refsLt, Nat.blt, Nat.succ_le_iff] using hr
    simp only [VR] at hv ⊢; rw [← hρ r hr]; exact ⟨hr, hv.2⟩
  | .op r c p, _, hr, hv => by
    have hr : r < hlen H := by simpa [refsLt, Nat.blt, Nat.succ_le_iff] using hr
    simp only [VR] at hv ⊢; rw [← hρ r hr]; exact ⟨hr, hv.2⟩
  | .fn f vs, _, hr, hv => by
    simp only [refsLt] at hr
    simp only [VR] at hv ⊢
    obtain ⟨us, e, hs⟩ := hv
    exact ⟨us, e, VRs.shrink hρ ho hr hs⟩
  | .tu vs, _, hr, hv => by
    simp only [refsLt] at hr
    simp only [VR] at hv ⊢
    obtain ⟨us, e, hs⟩ := hv
    exact ⟨us, e, VRs.shrink hρ ho hr hs⟩
theorem VRs.shrink {n' : Nat} {ρ' : Nat → Value} {H' : List Blk} {w' : World} (hρ : ∀ r, r < hlen H → ρ' r = ρ r) (ho : OwnLe ρ H ρ' H') : ∀ {as : List AV} {vs : List Value}, refsLtL (hlen H) as = true → VRs n' X.B ρ' H' w' as vs → VRs (hlen H) X.B ρ H w' as vs
  | [], _, _, hv => by simp only [VRs] at hv ⊢; exact hv
  | a :: as, _, hr, hv => by
    simp only [refsLtL, Bool.and_eq_true] at hr
    simp only [VRs] at hv ⊢
    obtain ⟨v, r, e, h1, h2⟩ := hv
    exact ⟨v, r, e, VR.shrink hρ ho hr.1 h1, VRs.shrink hρ ho hr.2 h2⟩
end

theorem settle1_spec {ρ' : Nat → Value} {bl : List Blk} {w' : World} (e : Ext X.B ρ H w ρ' (happ H bl) w') (h' : RH X ρ' (happ H bl) w') {v : AV} {u : Value} {K : AV → Prop} (hv : VH X ρ' (happ H bl) w' v u)
    (he : settle1 (hlen H) (happ H bl) v K) : ∃ v', K v' ∧ VH X ρ H w' v' u := by
  have ho := ownLe_happ e
  unfold settle1 at he
  split at he
  · exact ⟨_, he, VR.shrink e.hρ ho (by simp [refsLt]) hv⟩
  · rename_i r
    rcases Br_cases he with ⟨hr, hK⟩ | ⟨hr, hK⟩
    · exact ⟨_, hK, VR.shrink e.hρ ho (by simpa only [refsLt] using hr) hv⟩
    · have hge : hlen H ≤ r := by
        have : ¬ (r + 1 ≤ hlen H) := by intro h; rw [show Nat.blt r (hlen H) = true from Nat.ble_eq_true_of_le h] at hr; cases hr
        omega
      split at hK
      · rename_i wr fr E c x hb
        simp only [VH, VR] at hv
        obtain ⟨hrl, rfl⟩ := hv
        obtain ⟨_, _, cells, hown, hf⟩ := h'.row hrl hb
        refine ⟨_, hK, ?_⟩
        simp only [VH, VR]
        refine ⟨[ρ' r], ?_, pk_sl⟩
        have hd : dead (hk (happ H bl) r) = false := by rw [hb]; rfl
        have hz : ∀ b, blkOf (ρ' r) = some b → ¬ Own ρ H b ∧ X.B.N b := fun b hbb => by
          refine ⟨?_, h'.new r b hrl hd hbb⟩
          rintro ⟨r0, hr0, hl0, hb0⟩
          have hr0' : r0 < hlen (happ H bl) := Nat.lt_of_lt_of_le hr0 e.hn
          have : r0 = r := h'.inj r0 r b hr0' hrl (by rw [hk_happ, if_pos hr0]; exact live_dead hl0) hd (by rw [e.hρ r0 hr0]; exact hb0) hbb
          omega
        obtain ⟨a, cap, eu, hc, hr⟩ := own_sl (X := X) hown hf
        rw [eu] at hz ⊢
        refine ⟨a, cap, rfl, hc, hr.imp id fun ⟨b, o, cells, ea, hlt, hm, hf⟩ => ?_⟩
        subst ea
        obtain ⟨z1, z2⟩ := hz b rfl
        exact ⟨b, o, cells, rfl, ⟨z1, .inl z2⟩, hlt, hm, hf.mono fun _ _ hx => hx.mono (fun b _ hb => ⟨ho.zn hb, rfl⟩) (Nat.le_refl _)⟩
      · exact hK.elim
  · replace he := Br_tf he
    exact ⟨_, he.2, VR.shrink e.hρ ho he.1 hv⟩

theorem settleL_spec {ρ' : Nat → Value} {bl : List Blk} {w' : World} (e : Ext X.B ρ H w ρ' (happ H bl) w') (h' : RH X ρ' (happ H bl) w') : ∀ {vs : List AV} {us : List Value} {K : List AV → Prop}, VRs (hlen (happ H bl)) X.B ρ' (happ H bl) w' vs us →
    settleL (hlen H) (happ H bl) vs K → ∃ ws, K ws ∧ VRs (hlen H) X.B ρ H w' ws us
  | [], us, K, hv, he => by simp only [VRs] at hv; exact ⟨[], he, by simpa only [VRs] using hv⟩
  | v :: vs, us, K, hv, he => by
    simp only [VRs] at hv
    obtain ⟨u, r, rfl, h1, h2⟩ := hv
    simp only [settleL] at he
    obtain ⟨v', he, hv'⟩ := settle1_spec e h' h1 he
    obtain ⟨ws, hK, hws⟩ := settleL_spec e h' h2 he
    exact ⟨v' :: ws, hK, by simp only [VRs]; exact ⟨u, r, rfl, hv', hws⟩⟩

theorem settle_spec {ρ' : Nat → Value} {bl : List Blk} {w' : World} (e : Ext X.B ρ H w ρ' (happ H bl) w') (h' : RH X ρ' (happ H bl) w') {v : AV} {u : Value} {K : AV → Prop} (hv : VH X ρ' (happ H bl) w' v u)
    (he : settle (hlen H) (happ H bl) v K) : ∃ v', K v' ∧ VH X ρ H w' v' u := by
  unfold settle at he
  split at he
  · simp only [VH, VR] at hv
    obtain ⟨us, rfl, hs⟩ := hv
    obtain ⟨ws, hK, hws⟩ := settleL_spec e h' hs he
    exact ⟨_, hK, by simp only [VH, VR]; exact ⟨us, rfl, hws⟩⟩
  · exact settle1_spec e h' hv he

/-- The own blocks as they were, in a world that has only grown. -/
theorem RH.grow (h : RH X ρ H w) {w' : World} (hos : w'.os = w.os) (ht : w'.tape = w.tape) (ho : w'.output = w.output) (hs : w.heap.size ≤ w'.heap.size) (hk' : ∀ b, b < w.heap.size → w'.heap[b]? = w.heap[b]?) :
    Ext X.B ρ H w ρ H w' ∧ RH X ρ H w' := by
  have e : Ext X.B ρ H w ρ H w' := ⟨Nat.le_refl _, fun _ _ => rfl, hs, fun b hb hn => ⟨hn, hk' b hb⟩⟩
  exact ⟨e, h.step e hos ht ho (fun r hr => (h.blk r hr).ext e fun k hd hb => hk' k (h.blk_lt hr hd hb)) h.inj h.new (fun _ _ h => h)⟩

end

/-! ### Values under another reading -/

mutual
/-- All blocks that it leads to are such. -/
def arefs (p : Nat → Prop) : AV → Prop
  | .os r | .ox r _ _ _ | .op r _ _ => p r
  | .fn _ vs | .tu vs => arefsL p vs
  | _ => True
def arefsL (p : Nat → Prop) : List AV → Prop
  | [] => True
  | v :: vs => arefs p v ∧ arefsL p vs
end

mutual
theorem arefs_of_lt {n : Nat} : ∀ {a : AV}, refsLt n a = true → arefs (· < n) a
  | .os r, h => by simpa [refsLt, arefs, Nat.blt, Nat.succ_le_iff] using h
  | .ox r _ _ _, h => by simpa [refsLt, arefs, Nat.blt, Nat.succ_le_iff] using h
  | .op r _ _, h => by simpa [refsLt, arefs, Nat.blt, Nat.succ_le_iff] using h
  | .fn _ vs, h => by simp only [refsLt] at h; simp only [arefs]; exact arefsL_of_lt h
  | .tu vs, h => by simp only [refsLt] at h; simp only [arefs]; exact arefsL_of_lt h
  | .any, _ => trivial
  | .t _ _ _, _ => trivial
  | .ns, _ => trivial
theorem arefsL_of_lt {n : Nat} : ∀ {as : List AV}, refsLtL n as = true → arefsL (· < n) as
  | [], _ => trivial
  | a :: as, h => by simp only [refsLtL, Bool.and_eq_true] at h; exact ⟨arefs_of_lt h.1, arefsL_of_lt h.2⟩
end
mutual
theorem arefs_mono {p q : Nat → Prop} (h : ∀ r, p r → q r) : ∀ {a : AV}, arefs p a → arefs q a
  | .os r, k => h _ k
  | .ox r _ _ _, k => h _ k
  | .op r _ _, k => h _ k
  | .fn _ vs, k => by simp only [arefs] at k ⊢; exact arefsL_mono h k
  | .tu vs, k => by simp only [arefs] at k ⊢; exact arefsL_mono h k
  | .any, _ => trivial
  | .t _ _ _, _ => trivial
  | .ns, _ => trivial
theorem arefsL_mono {p q : Nat → Prop} (h : ∀ r, p r → q r) : ∀ {as : List AV}, arefsL p as → arefsL q as
  | [], _ => trivial
  | a :: as, k => ⟨arefs_mono h k.1, arefsL_mono h k.2⟩
end
mutual
theorem arefs_amap {p q : Nat → Prop} {f : Nat → Nat} (h : ∀ r, p r → q (f r)) : ∀ {a : AV}, arefs p a → arefs q (amap f a)
  | .os r, k => h _ k
  | .ox r _ _ _, k => h _ k
  | .op r _ _, k => h _ k
  | .fn _ vs, k => by simp only [arefs, amap] at k ⊢; exact arefsL_amap h k
  | .tu vs, k => by simp only [arefs, amap] at k ⊢; exact arefsL_amap h k
  | .any, _ => trivial
  | .t _ _ _, _ => trivial
  | .ns, _ => trivial
theorem arefsL_amap {p q : Nat → Prop} {f : Nat → Nat} (h : ∀ r, p r → q (f r)) : ∀ {as : List AV}, arefsL p as → arefsL q (amapL f as)
  | [], _ => trivial
  | a :: as, k => ⟨arefs_amap h k.1, arefsL_amap h k.2⟩
end
mutual
theorem amap_same {p : Nat → Prop} {f : Nat → Nat} (h : ∀ r, p r → f r = r) : ∀ {a : AV}, arefs p a → amap f a = a
  | .os r, k => by simp only [amap]; rw [h r k]
  | .ox r _ _ _, k => by simp only [amap]; rw [h r k]
  | .op r _ _, k => by simp only [amap]; rw [h r k]
  | .fn _ vs, k => by simp only [arefs] at k; simp only [amap]; rw [amapL_same h k]
  | .tu vs, k => by simp only [arefs] at k; simp only [amap]; rw [amapL_same h k]
  | .any, _ => by simp only [amap]
  | .t _ _ _, _ => by simp only [amap]
  | .ns, _ => by simp only [amap]
theorem amapL_same {p : Nat → Prop} {f : Nat → Nat} (h : ∀ r, p r → f r = r) : ∀ {as : List AV}, arefsL p as → amapL f as = as
  | [], _ => by simp only [amapL]
  | a :: as, k => by simp only [amapL]; rw [amap_same h k.1, amapL_same h k.2]
end

section
variable {B B' : Bz} {ρ ρ' : Nat → Value} {H H' : List Blk} {w w' : World}

mutual
theorem arefs_of_VR {n : Nat} : ∀ {a : AV} {v : Value}, VR n B ρ H w a v → arefs (· < n) a
  | .os r, _, h => by simp only [VR] at h; exact h.1
  | .ox r _ _ _, _, h => by simp only [VR] at h; exact h.1
  | .op r _ _, _, h => by simp only [VR] at h; exact h.1
  | .fn _ vs, _, h => by simp only [VR] at h; obtain ⟨us, _, h⟩ := h; simp only [arefs]; exact arefsL_of_VRs h
  | .tu vs, _, h => by simp only [VR] at h; obtain ⟨us, _, h⟩ := h; simp only [arefs]; exact arefsL_of_VRs h
  | .any, _, _ => trivial
  | .t _ _ _, _, _ => trivial
  | .ns, _, _ => trivial
theorem arefsL_of_VRs {n : Nat} : ∀ {as : List AV} {vs : List Value}, VRs n B ρ H w as vs → arefsL (· < n) as
  | [], _, _ => trivial
  | a :: as, _, h => by simp only [VRs] at h; obtain ⟨v, r, _, h1, h2⟩ := h; exact ⟨arefs_of_VR h1, arefsL_of_VRs h2⟩
end

mutual
theorem VR.amap {n n' : Nat} {p : Nat → Prop} {f : Nat → Nat} (hz : ∀ fr b, CellsAt w b → Zn B ρ H fr b → Zn B' ρ' H' fr b ∧ w'.heap[b]? = w.heap[b]?) (hs : w.heap.size ≤ w'.heap.size)
    (hr : ∀ r, r < n → p r → f r < n' ∧ ρ' (f r) = ρ r) : ∀ {a : AV} {v : Value}, arefs p a → VR n B ρ H w a v → VR n' B' ρ' H' w' (amap f a) v
  | .any, _, _, _ => by simp only [Eng.amap, VR]
  | .t fr c x, _, _, h => by
    simp only [Eng.amap, VR] at h ⊢
    obtain ⟨cs, h1, h2⟩ := h
    exact ⟨cs, h1.mono (hz fr) hs, h2⟩
  | .ns, _, _, h => by simp only [Eng.amap, VR] at h ⊢; exact h
  | .os r, _, k, h => by
    simp only [Eng.amap, VR] at h ⊢
    obtain ⟨h1, h2⟩ := hr r h.1 k
    exact ⟨h1, h.2.trans h2.symm⟩
  | .ox r c lo hi, _, k, h => by
    simp only [Eng.amap, VR] at h ⊢
    obtain ⟨h1, h2⟩ := hr r h.1 k
    rw [h2]; exact ⟨h1, h.2⟩
  | .op r c q, _, k, h => by
    simp only [Eng.amap, VR] at h ⊢
    obtain ⟨h1, h2⟩ := hr r h.1 k
    rw [h2]; exact ⟨h1, h.2⟩
  | .fn g vs, _, k, h => by
    simp only [arefs] at k
    simp only [Eng.amap, VR] at h ⊢
    obtain ⟨us, e, h⟩ := h
    exact ⟨us, e, VRs.amap hz hs hr k h⟩
  | .tu vs, _, k, h => by
    simp only [arefs] at k
    simp only [Eng.amap, VR] at h ⊢
    obtain ⟨us, e, h⟩ := h
    exact ⟨us, e, VRs.amap hz hs hr k h⟩
theorem VRs.amap {n n' : Nat} {p : Nat → Prop} {f : Nat → Nat} (hz : ∀ fr b, CellsAt w b → Zn B ρ H fr b → Zn B' ρ' H' fr b ∧ w'.heap[b]? = w.heap[b]?) (hs : w.heap.size ≤ w'.heap.size)
    (hr : ∀ r, r < n → p r → f r < n' ∧ ρ' (f r) = ρ r) : ∀ {as : List AV} {vs : List Value}, arefsL p as → VRs n B ρ H w as vs → VRs n' B' ρ' H' w' (amapL f as) vs
  | [], _, _, h => by simp only [Eng.amapL, VRs] at h ⊢; exact h
  | a :: as, _, k, h => by
    simp only [Eng.amapL, VRs] at h ⊢
    obtain ⟨v, r, e, h1, h2⟩ := h
    exact ⟨v, r, e, VR.amap hz hs hr k.1 h1, VRs.amap hz hs hr k.2 h2⟩
end

/-- ... no block of another number. -/
theorem VR.conv {n n' : Nat} {p : Nat → Prop} (hz : ∀ fr b, CellsAt w b → Zn B ρ H fr b → Zn B' ρ' H' fr b ∧ w'.heap[b]? = w.heap[b]?) (hs : w.heap.size ≤ w'.heap.size)
    (hr : ∀ r, r < n → p r → r < n' ∧ ρ' r = ρ r) {a : AV} {v : Value} (k : arefs p a) (h : VR n B ρ H w a v) : VR n' B' ρ' H' w' a v := by
  have := VR.amap (f := id) hz hs hr k h
  rwa [amap_same (f := id) (p := p) (fun _ _ => rfl) k] at this

/-- What a block says, under another reading. -/
theorem BR.conv {n n' : Nat} {p : Nat → Prop} (hz : ∀ fr b, CellsAt w b → Zn B ρ H fr b → Zn B' ρ' H' fr b ∧ w'.heap[b]? = w.heap[b]?) (hs : w.heap.size ≤ w'.heap.size)
    (hr : ∀ r, r < n → p r → r < n' ∧ ρ' r = ρ r) {b : Blk} {v : Value} (k : ∀ a, b = .av a → arefs p a) (hb : ∀ j, dead b = false → blkOf v = some j → w'.heap[j]? = w.heap[j]?) (h : BR n B ρ H w b v) : BR n' B' ρ' H' w' b v := by
  cases b with
  | dead => trivial
  | val wr fr E c x =>
    by_cases hc : ∃ d, c = .row d
    · obtain ⟨d, rfl⟩ := hc
      obtain ⟨h1, h2, cells, hown, hf⟩ := h
      exact ⟨h1, h2, cells, ownsRow_of_block hown (fun b => hb b rfl), hf.mono fun _ _ hx => hx.mono (hz fr) hs⟩
    · have h' : norow c = true ∧ ∃ b cells, v = .pointer (some ⟨b, 0, none⟩) ∧ w.heap[b]? = some (.cells (List.toArray cells) E (0, 0)) ∧ VT w (Zn B ρ H fr) c x cells := by
        cases c <;> first | exact h | exact absurd ⟨_, rfl⟩ hc
      obtain ⟨h1, b, cells, rfl, hg, hv⟩ := h'
      have : norow c = true ∧ ∃ b' cells, Value.pointer (some ⟨b, 0, none⟩) = .pointer (some ⟨b', 0, none⟩) ∧ w'.heap[b']? = some (.cells (List.toArray cells) E (0, 0)) ∧ VT w' (Zn B' ρ' H' fr) c x cells :=
        ⟨h1, b, cells, rfl, by rw [hb b rfl rfl]; exact hg, hv.mono (hz fr) hs⟩
      cases c <;> first | exact this | exact absurd ⟨_, rfl⟩ hc
  | av a =>
    obtain ⟨b, E, u, rfl, hg, h1, hv⟩ := h
    exact ⟨b, E, u, rfl, by rw [hb b rfl rfl]; exact hg, h1, hv.conv hz hs hr (k a rfl)⟩
end

/-! ### Blocks that are laid in places kept free -/

def hput : List Blk → Nat → List Blk → List Blk
  | H, _, [] => H
  | H, i, b :: bs => hput (hup H i b) (i + 1) bs
theorem hlen_hput : ∀ (bs H : List Blk) (i : Nat), hlen (hput H i bs) = hlen H
  | [], _, _ => rfl
  | b :: bs, H, i => by simp only [hput]; rw [hlen_hput bs, hlen_hup]
theorem hk_hput : ∀ (bs H : List Blk) (i r : Nat), i + hlen bs ≤ hlen H → hk (hput H i bs) r = if i ≤ r ∧ r < i + hlen bs then hk bs (r - i) else hk H r
  | [], H, i, r, _ => by
    have h0 : hlen [] = 0 := rfl
    rw [if_neg (by omega)]; rfl
  | b :: bs, H, i, r, h => by
    have h0 : hlen (b :: bs) = hlen bs + 1 := rfl
    have h1 : hput H i (b :: bs) = hput (hup H i b) (i + 1) bs := rfl
    rw [h1, hk_hput bs _ _ _ (by rw [hlen_hup]; omega), hk_hup]
    by_cases e : r = i
    · subst e
      rw [if_neg (by omega), if_pos ⟨rfl, by omega⟩, if_pos (by omega), Nat.sub_self]; rfl
    · have e' : ¬ (r = i ∧ i < hlen H) := fun h => e h.1
      rw [if_neg e']
      by_cases h2 : i ≤ r ∧ r < i + hlen (b :: bs)
      · rw [if_pos (by omega), if_pos h2, show r - i = (r - (i + 1)) + 1 by omega]; rfl
      · rw [if_neg (by omega), if_neg h2]
theorem hdrop_happ : ∀ (H bl : List Blk), hdrop (hlen H) (happ H bl) = bl
  | [], bl => by cases bl <;> rfl
  | b :: H, bl => by simp only [hlen, happ, hdrop]; exact hdrop_happ H bl
theorem liveBs_hk : ∀ {bl : List Blk} {j : Nat}, liveBs bl = true → j < hlen bl → ∃ fr E c x, hk bl j = .val true fr E c x
  | [], _, _, h => by simp [hlen] at h
  | .val wr fr E c x :: bl, 0, h, _ => by simp only [liveBs, Bool.and_eq_true] at h; exact ⟨fr, E, c, x, by rw [h.1]; rfl⟩
  | .val wr fr E c x :: bl, j + 1, h, hj => by simp only [liveBs, Bool.and_eq_true] at h; exact liveBs_hk (bl := bl) h.2 (by simpa [hlen] using hj)
  | .av _ :: _, _, h, _ => by simp [liveBs] at h
  | .dead :: _, _, h, _ => by simp [liveBs] at h

section
variable {P : Program} {X : Ctx} {ρ : Nat → Value} {H Hc : List Blk} {w : World}

/-- Blocks from n on. -/
def Beyond (n : Nat) (ρ : Nat → Value) (Hc : List Blk) (b : Nat) : Prop := ∃ r, n ≤ r ∧ r < hlen Hc ∧ live (hk Hc r) = true ∧ blkOf (ρ r) = some b
/-- The first n blocks alone, the others' memory out of reach. -/
def subX (X : Ctx) (ρ : Nat → Value) (H Hc : List Blk) (w : World) : Ctx :=
  ⟨w, ⟨fun b => X.B.N b ∧ ¬ Beyond (hlen H) ρ Hc b, fun b => X.B.Z b ∧ ¬ Beyond (hlen H) ρ Hc b⟩, Own ρ H⟩
/-- Hc begins with H; behind it all that is not given up may be written. -/
structure Begins (H Hc : List Blk) : Prop where
  le : hlen H ≤ hlen Hc
  low : ∀ r, r < hlen H → hk Hc r = hk H r
  av : ∀ r a, r < hlen H → hk H r = .av a → arefs (· < hlen H) a
  up : ∀ r, hlen H ≤ r → r < hlen Hc → hk Hc r = .dead ∨ ∃ fr E c x, hk Hc r = .val true fr E c x

theorem own_iff (hb : Begins H Hc) (b : Nat) : Own ρ Hc b ↔ Own ρ H b ∨ Beyond (hlen H) ρ Hc b := by
  constructor
  · rintro ⟨r, hr, hl, hbb⟩
    by_cases h : r < hlen H
    · exact .inl ⟨r, h, by rw [← hb.low r h]; exact hl, hbb⟩
    · exact .inr ⟨r, by omega, hr, hl, hbb⟩
  · rintro (⟨r, hr, hl, hbb⟩ | ⟨r, _, hr, hl, hbb⟩)
    · exact ⟨r, Nat.lt_of_lt_of_le hr hb.le, by rw [hb.low r hr]; exact hl, hbb⟩
    · exact ⟨r, hr, hl, hbb⟩

theorem zn_sub (hb : Begins H Hc) {fr : Bool} {b : Nat} : Zn (subX X ρ H Hc w).B ρ H fr b ↔ Zn X.B ρ Hc fr b := by
  unfold Zn
  rw [own_iff hb]
  simp only [subX]
  constructor
  · rintro ⟨h1, h2 | ⟨h2, h3⟩⟩
    · exact ⟨fun h => h.elim h1 h2.2, .inl h2.1⟩
    · exact ⟨fun h => h.elim h1 h3.2, .inr ⟨h2, h3.1⟩⟩
  · rintro ⟨h1, h2 | ⟨h2, h3⟩⟩
    · exact ⟨fun h => h1 (.inl h), .inl ⟨h2, fun h => h1 (.inr h)⟩⟩
    · exact ⟨fun h => h1 (.inl h), .inr ⟨h2, h3, fun h => h1 (.inr h)⟩⟩

theorem VR.sub (hb : Begins H Hc) {a : AV} {v : Value} (k : arefs (· < hlen H) a) (h : VR (hlen Hc) X.B ρ Hc w a v) : VR (hlen H) (subX X ρ H Hc w).B ρ H w a v :=
  h.conv (p := (· < hlen H)) (fun fr b _ hz => ⟨(zn_sub hb).2 hz, rfl⟩) (Nat.le_refl _) (fun r _ hr => ⟨hr, rfl⟩) k

theorem RH.sub (h : RH X ρ Hc w) (hb : Begins H Hc) : RH (subX X ρ H Hc w) ρ H w := by
  have hd : ∀ r, r < hlen H → dead (hk H r) = false → dead (hk Hc r) = false := fun r hr hd => by rw [hb.low r hr]; exact hd
  refine ⟨fun r hr => ?_, fun r r' b hr hr' hd1 hd2 hb1 hb2 => h.inj r r' b (Nat.lt_of_lt_of_le hr hb.le) (Nat.lt_of_lt_of_le hr' hb.le) (hd r hr hd1) (hd r' hr' hd2) hb1 hb2, fun r b hr hd1 hb1 => ?_,
    rfl, rfl, rfl, Nat.le_refl _, fun _ _ _ => rfl, fun _ _ h => h, fun b hbs => ?_⟩
  · have := h.blk r (Nat.lt_of_lt_of_le hr hb.le)
    rw [hb.low r hr] at this
    exact this.conv (p := (· < hlen H)) (fun fr b _ hz => ⟨(zn_sub hb).2 hz, rfl⟩) (Nat.le_refl _) (fun r _ hr => ⟨hr, rfl⟩) (fun a e => hb.av r a hr e) (fun _ _ _ => rfl)
  · refine ⟨h.new r b (Nat.lt_of_lt_of_le hr hb.le) (hd r hr hd1) hb1, ?_⟩
    rintro ⟨r', h1, h2, h3, h4⟩
    have := h.inj r r' b (Nat.lt_of_lt_of_le hr hb.le) h2 (hd r hr hd1) (live_dead h3) hb1 h4
    omega
  · refine ⟨h.bsz b (Nat.le_trans h.size hbs), ?_⟩
    rintro ⟨r', h1, h2, h3, h4⟩
    have := h.blk_lt h2 (live_dead h3) h4
    simp only [subX] at hbs
    omega

/-- Blocks made behind the first ones, laid in places kept free. -/
theorem RH.place (h : RH X ρ Hc w) (hb : Begins H Hc) {ρ' : Nat → Value} {bl : List Blk} {w' : World} (e : Ext (subX X ρ H Hc w).B ρ H w ρ' (happ H bl) w') (h' : RH (subX X ρ H Hc w) ρ' (happ H bl) w')
    (hsame : ∀ b, b < w.heap.size → w'.heap[b]? = w.heap[b]?) (hlv : liveBs bl = true) {s : Nat} (hfit : hlen H + s + hlen bl ≤ hlen Hc) (hdead : ∀ j, j < hlen bl → hk Hc (hlen H + s + j) = .dead) :
    ∃ ρ'', (∀ r, ¬ (hlen H + s ≤ r ∧ r < hlen H + s + hlen bl) → ρ'' r = ρ r) ∧ RH X ρ'' (hput Hc (hlen H + s) bl) w' ∧ Begins H (hput Hc (hlen H + s) bl) ∧
      (∀ b, b < w.heap.size → ¬ Own ρ Hc b → ¬ Own ρ'' (hput Hc (hlen H + s) bl) b) ∧
      (∀ a v, arefs (fun r => r < hlen H ∨ dead (hk Hc r) = false) a → VR (hlen Hc) X.B ρ Hc w a v → VR (hlen Hc) X.B ρ'' (hput Hc (hlen H + s) bl) w' a v) ∧
      (∀ a v, VR (hlen (happ H bl)) (subX X ρ H Hc w).B ρ' (happ H bl) w' a v → VR (hlen Hc) X.B ρ'' (hput Hc (hlen H + s) bl) w' (Eng.amap (sh (hlen H) s) a) v ∧
        arefs (fun r => r < hlen H ∨ dead (hk (hput Hc (hlen H + s) bl) r) = false) (Eng.amap (sh (hlen H) s) a)) := by
  have hla : hlen (happ H bl) = hlen H + hlen bl := hlen_happ _ _
  obtain ⟨ρ'', hρ⟩ : ∃ ρ'' : Nat → Value, ρ'' = fun r => if hlen H + s ≤ r ∧ r < hlen H + s + hlen bl then ρ' (r - s) else ρ r := ⟨_, rfl⟩
  have hout : ∀ r, ¬ (hlen H + s ≤ r ∧ r < hlen H + s + hlen bl) → ρ'' r = ρ r := fun r hr => by rw [hρ]; simp only; rw [if_neg hr]
  have hin : ∀ r, hlen H ≤ r → r < hlen H + hlen bl → ρ'' (r + s) = ρ' r := fun r h1 h2 => by rw [hρ]; simp only; rw [if_pos (by omega), Nat.add_sub_cancel]
  have kout : ∀ r, ¬ (hlen H + s ≤ r ∧ r < hlen H + s + hlen bl) → hk (hput Hc (hlen H + s) bl) r = hk Hc r := fun r hr => by rw [hk_hput _ _ _ _ hfit, if_neg hr]
  have kin : ∀ r, hlen H ≤ r → r < hlen H + hlen bl → hk (hput Hc (hlen H + s) bl) (r + s) = hk (happ H bl) r := fun r h1 h2 => by
    rw [hk_hput _ _ _ _ hfit, if_pos (by omega), hk_happ, if_neg (by omega)]; congr 1; omega
  have hlp : hlen (hput Hc (hlen H + s) bl) = hlen Hc := hlen_hput _ _ _
  have hall : ∀ r, hlen H ≤ r → r < hlen H + hlen bl → ∃ fr E c x, hk (happ H bl) r = .val true fr E c x := fun r h1 h2 => by
    rw [hk_happ, if_neg (by omega)]; exact liveBs_hk hlv (by omega)
  -- a new block is new
  have hnew : ∀ r b, hlen H ≤ r → r < hlen H + hlen bl → blkOf (ρ' r) = some b → w.heap.size ≤ b := by
    intro r b h1 h2 hbb
    obtain ⟨fr, E, c, x, hk1⟩ := hall r h1 h2
    apply Classical.byContradiction
    intro hlt
    have hlt : b < w.heap.size := by omega
    have hown' : Own ρ' (happ H bl) b := ⟨r, by omega, by rw [hk1]; rfl, hbb⟩
    by_cases ho : Own ρ H b
    · obtain ⟨r0, hr0, hl0, hb0⟩ := ho
      have hk0 : hk (happ H bl) r0 = hk H r0 := by rw [hk_happ, if_pos hr0]
      have := h'.inj r0 r b (by omega) (by omega) (by rw [hk0]; exact live_dead hl0) (by rw [hk1]; rfl) (by rw [e.hρ r0 hr0]; exact hb0) hbb
      omega
    · exact (e.hz b hlt ho).1 hown'
  have hownc : ∀ b, Own ρ'' (hput Hc (hlen H + s) bl) b → Own ρ Hc b ∨ (w.heap.size ≤ b ∧ Own ρ' (happ H bl) b) := by
    rintro b ⟨r, hr, hl, hbb⟩
    rw [hlp] at hr
    by_cases hi : hlen H + s ≤ r ∧ r < hlen H + s + hlen bl
    · obtain ⟨r0, rfl⟩ : ∃ r0, r = r0 + s := ⟨r - s, by omega⟩
      rw [kin r0 (by omega) (by omega)] at hl
      rw [hin r0 (by omega) (by omega)] at hbb
      exact .inr ⟨hnew r0 b (by omega) (by omega) hbb, r0, by omega, hl, hbb⟩
    · rw [kout r hi] at hl
      rw [hout r hi] at hbb
      exact .inl ⟨r, hr, hl, hbb⟩
  have hno : ∀ b, b < w.heap.size → ¬ Own ρ Hc b → ¬ Own ρ'' (hput Hc (hlen H + s) bl) b := fun b hlt hn ho => by
    rcases hownc b ho with h1 | ⟨h1, _⟩
    · exact hn h1
    · omega
  have hzone : ∀ fr b, Zn (subX X ρ H Hc w).B ρ' (happ H bl) fr b → Zn X.B ρ'' (hput Hc (hlen H + s) bl) fr b := by
    rintro fr b ⟨h1, h2⟩
    have hnb : ¬ Beyond (hlen H) ρ Hc b := by rcases h2 with h2 | ⟨_, h2⟩ <;> exact h2.2
    refine ⟨fun ho => ?_, ?_⟩
    · rcases hownc b ho with h3 | ⟨_, h3⟩
      · rcases (own_iff hb b).1 h3 with ⟨r, hr, hl, hbb⟩ | h4
        · exact h1 ⟨r, by omega, by rw [hk_happ, if_pos hr]; exact hl, by rw [e.hρ r hr]; exact hbb⟩
        · exact hnb h4
      · exact h1 h3
    · rcases h2 with h2 | ⟨hf, h2⟩
      · exact .inl h2.1
      · exact .inr ⟨hf, h2.1⟩
  have hzold : ∀ fr b, CellsAt w b → Zn X.B ρ Hc fr b → Zn X.B ρ'' (hput Hc (hlen H + s) bl) fr b ∧ w'.heap[b]? = w.heap[b]? := fun fr b hc hz => ⟨⟨hno b hc.lt hz.1, hz.2⟩, hsame b hc.lt⟩
  have hkeepref : ∀ r, (r < hlen H ∨ dead (hk Hc r) = false) → ¬ (hlen H + s ≤ r ∧ r < hlen H + s + hlen bl) := by
    rintro r (h1 | h1) ⟨h2, h3⟩
    · omega
    · have := hdead (r - (hlen H + s)) (by omega)
      rw [show hlen H + s + (r - (hlen H + s)) = r by omega] at this
      rw [this] at h1; simp [dead] at h1
  have hbeg : Begins H (hput Hc (hlen H + s) bl) := by
    refine ⟨by rw [hlp]; exact hb.le, fun r hr => ?_, hb.av, fun r h1 h2 => ?_⟩
    · rw [kout r (by omega)]; exact hb.low r hr
    · rw [hlp] at h2
      by_cases hi : hlen H + s ≤ r ∧ r < hlen H + s + hlen bl
      · obtain ⟨r0, rfl⟩ : ∃ r0, r = r0 + s := ⟨r - s, by omega⟩
        rw [kin r0 (by omega) (by omega)]
        exact .inr (hall r0 (by omega) (by omega))
      · rw [kout r hi]; exact hb.up r h1 h2
  have hRH : RH X ρ'' (hput Hc (hlen H + s) bl) w' := by
    refine ⟨fun r hr => ?_, fun r r' b hr hr' hd1 hd2 hb1 hb2 => ?_, fun r b hr hd1 hb1 => ?_, h'.os.trans h.os, h'.tape.trans h.tape, h'.output.trans h.output, Nat.le_trans h.size e.hs, fun b hlt ho => ?_, fun b hlt ho => ?_, h.bsz⟩
    · rw [hlp] at hr ⊢
      by_cases hi : hlen H + s ≤ r ∧ r < hlen H + s + hlen bl
      · obtain ⟨r0, rfl⟩ : ∃ r0, r = r0 + s := ⟨r - s, by omega⟩
        rw [kin r0 (by omega) (by omega), hin r0 (by omega) (by omega)]
        obtain ⟨fr, E, c, x, hk1⟩ := hall r0 (by omega) (by omega)
        have := h'.blk r0 (by omega)
        rw [hk1] at this ⊢
        exact this.conv (p := fun _ => False) (fun fr b _ hz => ⟨hzone fr b hz, rfl⟩) (Nat.le_refl _) (fun _ _ h => h.elim) (fun a e => by cases e) (fun _ _ _ => rfl)
      · rw [kout r hi, hout r hi]
        refine (h.blk r hr).conv (p := (· < hlen H)) hzold e.hs (fun r0 _ hr0 => ⟨Nat.lt_of_lt_of_le hr0 hb.le, hout r0 (by omega)⟩) (fun a ea => ?_) (fun j hd hj => hsame j (h.blk_lt hr hd hj))
        by_cases hlt : r < hlen H
        · rw [hb.low r hlt] at ea; exact hb.av r a hlt ea
        · rcases hb.up r (by omega) hr with h1 | ⟨_, _, _, _, h1⟩ <;> rw [h1] at ea <;> cases ea
    · rw [hlp] at hr hr'
      have half : ∀ r r' b, r < hlen Hc → r' < hlen Hc → (hlen H + s ≤ r ∧ r < hlen H + s + hlen bl) → ¬ (hlen H + s ≤ r' ∧ r' < hlen H + s + hlen bl) → dead (hk Hc r') = false → blkOf (ρ'' r) = some b → blkOf (ρ r') = some b → False := by
        intro r r' b hr hr' hi hi' hd' hb1 hb2
        obtain ⟨r0, rfl⟩ : ∃ r0, r = r0 + s := ⟨r - s, by omega⟩
        rw [hin r0 (by omega) (by omega)] at hb1
        have h1 := hnew r0 b (by omega) (by omega) hb1
        have h2 := h.blk_lt hr' hd' hb2
        omega
      by_cases hi : hlen H + s ≤ r ∧ r < hlen H + s + hlen bl <;> by_cases hi' : hlen H + s ≤ r' ∧ r' < hlen H + s + hlen bl
      · obtain ⟨r0, rfl⟩ : ∃ r0, r = r0 + s := ⟨r - s, by omega⟩
        obtain ⟨r1, rfl⟩ : ∃ r1, r' = r1 + s := ⟨r' - s, by omega⟩
        rw [kin r0 (by omega) (by omega)] at hd1; rw [kin r1 (by omega) (by omega)] at hd2
        rw [hin r0 (by omega) (by omega)] at hb1; rw [hin r1 (by omega) (by omega)] at hb2
        have := h'.inj r0 r1 b (by omega) (by omega) hd1 hd2 hb1 hb2
        omega
      · rw [kout r' hi'] at hd2; rw [hout r' hi'] at hb2
        exact (half r r' b hr hr' hi hi' hd2 hb1 hb2).elim
      · rw [kout r hi] at hd1; rw [hout r hi] at hb1
        exact (half r' r b hr' hr hi' hi hd1 hb2 hb1).elim
      · rw [kout r hi] at hd1; rw [kout r' hi'] at hd2; rw [hout r hi] at hb1; rw [hout r' hi'] at hb2
        exact h.inj r r' b hr hr' hd1 hd2 hb1 hb2
    · rw [hlp] at hr
      by_cases hi : hlen H + s ≤ r ∧ r < hlen H + s + hlen bl
      · obtain ⟨r0, rfl⟩ : ∃ r0, r = r0 + s := ⟨r - s, by omega⟩
        rw [hin r0 (by omega) (by omega)] at hb1
        exact h.bsz b (Nat.le_trans h.size (hnew r0 b (by omega) (by omega) hb1))
      · rw [kout r hi] at hd1; rw [hout r hi] at hb1
        exact h.new r b hr hd1 hb1
    · rw [hsame b (Nat.lt_of_lt_of_le hlt h.size)]; exact h.keep b hlt ho
    · have hlt' := Nat.lt_of_lt_of_le hlt h.size
      rcases hownc b ho with h1 | ⟨h1, _⟩
      · exact h.own b hlt h1
      · omega
  refine ⟨ρ'', hout, hRH, hbeg, hno, fun a v k hv => hv.conv (p := fun r => r < hlen H ∨ dead (hk Hc r) = false) hzold e.hs (fun r hr hp => ⟨hr, hout r (hkeepref r hp)⟩) k, fun a v hv => ?_⟩
  have hsh : ∀ r, r < hlen H + hlen bl → (r < hlen H ∧ sh (hlen H) s r = r) ∨ (hlen H ≤ r ∧ sh (hlen H) s r = r + s) := fun r hr => by
    by_cases hlt : r < hlen H
    · exact .inl ⟨hlt, by unfold sh; rw [show Nat.blt r (hlen H) = true from Nat.ble_eq_true_of_le hlt]⟩
    · refine .inr ⟨by omega, ?_⟩
      unfold sh
      rw [show Nat.blt r (hlen H) = false by
        cases hq : Nat.blt r (hlen H) with
        | false => rfl
        | true => exact absurd (Nat.le_of_ble_eq_true hq) hlt]
  have href := arefs_of_VR hv
  rw [hla] at href
  refine ⟨hv.amap (p := fun _ => True) (fun fr b _ hz => ⟨hzone fr b hz, rfl⟩) (Nat.le_refl _) (fun r hr _ => ?_) (arefs_mono (fun _ _ => trivial) href), arefs_amap (fun r hr => ?_) href⟩
  · rw [hla] at hr
    rcases hsh r hr with ⟨h1, h2⟩ | ⟨h1, h2⟩ <;> rw [h2]
    · exact ⟨Nat.lt_of_lt_of_le h1 hb.le, by rw [hout r (by omega), e.hρ r h1]⟩
    · exact ⟨by omega, hin r h1 hr⟩
  · rcases hsh r hr with ⟨h1, h2⟩ | ⟨h1, h2⟩ <;> rw [h2]
    · exact .inl h1
    · right
      rw [kin r h1 hr]
      obtain ⟨_, _, _, _, hk1⟩ := hall r h1 hr
      rw [hk1]; rfl

/-! ### Facts about the operations of a head -/

/-- b says no more than a. -/
structure Wk (a b : AV) : Prop where
  vr : ∀ (N : Nat) (B : Bz) (ρ : Nat → Value) (H : List Blk) (w : World) (u : Value), VR N B ρ H w a u → VR N B ρ H w b u
  al : ∀ p : Nat → Prop, arefs p a → arefs p b
theorem Wk.refl (a : AV) : Wk a a := ⟨fun _ _ _ _ _ _ h => h, fun _ h => h⟩
theorem Wk.trans {a b c : AV} (h : Wk a b) (k : Wk b c) : Wk a c := ⟨fun N B ρ H w u x => k.vr N B ρ H w u (h.vr N B ρ H w u x), fun p x => k.al p (h.al p x)⟩
theorem Wk.any (a : AV) : Wk a .any := ⟨fun _ _ _ _ _ _ _ => by simp only [VR], fun _ _ => trivial⟩

/-- What is known of operation o, to be carried out with slots as T says, whenever its turn comes: it comes to r; it makes the blocks bl, for the places from s on. -/
def OF (ro : Option Nat) (P : Program) (X : Ctx) (H : List Blk) (ops : Array Oper) (o : Oper) (T : List AV) (r : AV) (s : Nat) (bl : List Blk) : Prop :=
  ∀ (a : Act) (w : World) (ρ : Nat → Value) (Hc : List Blk), RH X ρ Hc w → Begins H Hc → hlen H + s + hlen bl ≤ hlen Hc → (∀ j, j < hlen bl → hk Hc (hlen H + s + j) = .dead) →
    (∀ t ∈ o.looksAt ops, VR (hlen Hc) X.B ρ Hc w (lk T t) (a.tmps.getD t undef) ∧ arefs (fun r => r < hlen H ∨ dead (hk Hc r) = false) (lk T t)) →
    (Region.wanted o (yielded ops a.tmps) = true ∧ ∀ (next : Act → World → Prop) (Q : Exit → Act → World → Prop),
      (∀ u w' ρ'', (∀ i, ¬ (hlen H + s ≤ i ∧ i < hlen H + s + hlen bl) → ρ'' i = ρ i) → RH X ρ'' (hput Hc (hlen H + s) bl) w' → Begins H (hput Hc (hlen H + s) bl) → w.heap.size ≤ w'.heap.size →
        (∀ b, b < w.heap.size → ¬ Own ρ Hc b → ¬ Own ρ'' (hput Hc (hlen H + s) bl) b ∧ w'.heap[b]? = w.heap[b]?) →
        (∀ a v, arefs (fun r => r < hlen H ∨ dead (hk Hc r) = false) a → VR (hlen Hc) X.B ρ Hc w a v → VR (hlen Hc) X.B ρ'' (hput Hc (hlen H + s) bl) w' a v) →
        VR (hlen Hc) X.B ρ'' (hput Hc (hlen H + s) bl) w' r u → arefs (fun i => i < hlen H ∨ dead (hk (hput Hc (hlen H + s) bl) i) = false) r → next (a.put o.dst u) w') → o.wpIn (FW ro) 0 P a w next Q) ∨
    (Region.wanted o (yielded ops a.tmps) = false ∧ r = skp ∧ bl = [])

def HF (ro : Option Nat) (P : Program) (X : Ctx) (H : List Blk) (ops : Array Oper) : List Oper → List AV → Nat → List AV → List (List AV) → List (Nat × List Blk) → List AV → Prop
  | [], T, _, rs, Ts, sb, Te => rs = [] ∧ Ts = [] ∧ sb = [] ∧ Te = T
  | o :: l, T, s, rs, Ts, sb, Te => ∃ r bl rs' T' Ts' sb', rs = r :: rs' ∧ Ts = T :: Ts' ∧ sb = (s, bl) :: sb' ∧ T'.length = T.length ∧ (∀ t, Wk (lk T t) (lk T' t)) ∧ liveBs bl = true ∧
      OF ro P X H ops o T r s bl ∧ HF ro P X H ops l (putT T' o.dst r) (s + hlen bl) rs' Ts' sb' Te

/-- All that was made. -/
def cat : List (Nat × List Blk) → List Blk
  | [] => []
  | (_, bl) :: r => happ bl (cat r)

theorem looks_ops {ops : Array Oper} {o : Oper} {tmps : List AV} {a : Act} (hl : ∀ t ∈ o.looksAt ops, VR (hlen H) X.B ρ H w (lk tmps t) (a.tmps.getD t undef)) : OpsR X ρ H w tmps a o.op.operands := by
  intro x hx
  cases x with
  | tmp t => exact hl t (by simp only [Oper.looksAt]; exact List.mem_append.2 (.inl (List.mem_filterMap.2 ⟨.tmp t, by simpa using hx, rfl⟩)))
  | const v => exact cst_spec v
  | global g => simp [VH, opv, VR]
  | func f => simp [VH, opv, VR, VRs, Act.eval]

end
end Go.Eng
