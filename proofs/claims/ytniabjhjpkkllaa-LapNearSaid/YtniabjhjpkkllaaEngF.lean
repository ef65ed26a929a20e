/- The abstract evaluator: operations that make memory and write to it. -/
import Derived.Test.YtniabjhjpkkllaaEngE
namespace Go.Eng
open Go Go.RowKit

section
variable {P : Program} {X : Ctx} {ρ : Nat → Value} {H : List Blk} {w : World}

/-! ### Memory that is not written any more -/

theorem RH.freeze (h : RH X ρ H w) {r : Nat} {wr fr : Bool} {E : TypeId} {c : Cd} {x : El c} (hb : hk H r = .val wr fr E c x) :
    Ext X.B ρ H w ρ (hup H r (.val false fr E c x)) w ∧ RH X ρ (hup H r (.val false fr E c x)) w ∧ ∀ b, blkOf (ρ r) = some b → ¬ Own ρ (hup H r (.val false fr E c x)) b ∧ X.B.N b := by
  have hr := h.lt hb rfl
  have hbk := h.blk r hr
  obtain ⟨e, h'⟩ := h.change (w' := w) (b := .val false fr E c x) hr rfl rfl rfl (Nat.le_refl _) (fun _ _ => .inl rfl) (by simp [live]) (by rw [hb]; simp [dead]) (fun _ _ _ => rfl) (fun e => by
    rw [hb] at hbk
    refine BR.ext e (b := .val false fr E c x) ?_ (fun _ _ _ => rfl)
    cases c <;> exact hbk)
  refine ⟨e, h', fun b hbb => ⟨?_, h.new r b hr (by rw [hb]; rfl) hbb⟩⟩
  rintro ⟨r', hr', hl, hb'⟩
  rw [hlen_hup] at hr'
  rw [hk_hup] at hl
  split at hl
  · simp [live] at hl
  · rename_i hne
    have : r' = r := h.inj r' r b hr' hr (live_dead hl) (by rw [hb]; rfl) hb' hbb
    exact hne ⟨this, hr⟩

theorem pk_sl {c : Cd} {v : Value} : pk (.sl c) [v] v := by simp [pk, agg]
theorem pk_ptr {c : Cd} {v : Value} : pk (.ptr c) [v] v := by simp [pk, agg]

theorem SlOf.vt {fr : Bool} {c : Cd} {ys : List (El c)} {u : Value} {ρ' : Nat → Value} {H' : List Blk} (e : Ext X.B ρ H w ρ' H' w) (h : SlOf X.B ρ H w fr c ys u)
    (hz : ∀ b, ys ≠ [] → blkOf u = some b → ¬ Own ρ' H' b ∧ X.B.N b) : VT w (Zn X.B ρ' H' fr) (.sl c) ys [u] := by
  obtain ⟨a, cap, rfl, hc, hr⟩ := h
  refine ⟨a, cap, rfl, hc, ?_⟩
  by_cases h0 : ys = []
  · exact .inl h0
  · obtain ⟨b, o, cells, ea, hlt, hm, hf⟩ := hr.resolve_left h0
    subst ea
    obtain ⟨z1, z2⟩ := hz _ h0 rfl
    exact .inr ⟨b, o, cells, rfl, ⟨z1, .inl z2⟩, hlt, hm, hf.mono fun _ _ hx => VT.ext e hx⟩

theorem ox_blk {r : Nat} {c : Cd} {lo hi : Nat} {u : Value} {α : Type} {x : List α} (hv : VH X ρ H w (.ox r c lo hi) u) {b : Nat} (h0 : (x.drop lo).take (hi - lo) ≠ []) (hb : blkOf u = some b) : blkOf (ρ r) = some b := by
  simp only [VH, VR] at hv
  obtain ⟨_, a, cap, rfl, hc, ha⟩ := hv
  rcases ha with ha | ⟨bb, hbb, rfl⟩
  · rw [ha] at h0; simp at h0
  · simp [blkOf] at hb; subst hb; exact hbb

/-- The cells of an own block, and where they are. -/
theorem RH.cells (h : RH X ρ H w) {r b : Nat} {wr fr : Bool} {E : TypeId} {c : Cd} {x : El c} (hb : hk H r = .val wr fr E c x) (hbb : blkOf (ρ r) = some b) :
    ∃ cells, Mem w b 0 cells ∧ CellsAt w b ∧ VT w (Zn X.B ρ H fr) c x cells := by
  have hr := h.lt hb rfl
  by_cases hc : ∃ d, c = .row d
  · obtain ⟨d, rfl⟩ := hc
    obtain ⟨_, _, cells, hown, hf⟩ := h.row hr hb
    obtain ⟨hm, hlt⟩ := own_mem hown hbb
    exact ⟨cells, hm, hlt, hf⟩
  · obtain ⟨_, b', cells, hρ, hg, hv⟩ := h.val hr hb (fun d hd => hc ⟨d, hd⟩)
    rw [hρ] at hbb; simp [blkOf] at hbb; subst hbb
    exact ⟨cells, Mem.of_block hg, ⟨_, _, _, hg⟩, hv⟩

theorem toT_spec (h : RH X ρ H w) {fz : Bool} {v : AV} {u : Value} {d : Cd} {K : Bool → El d → List Blk → Prop} (hv : VH X ρ H w v u) (he : toT fz H v d K) :
    ∃ fr y H' cs, K fr y H' ∧ Ext X.B ρ H w ρ H' w ∧ RH X ρ H' w ∧ VT w (Zn X.B ρ H' fr) d y cs ∧ pk d cs u ∧ (fz = false → H' = H) := by
  unfold toT at he
  split at he
  · rename_i fr c x
    obtain ⟨e, he⟩ := asC_spec he
    subst e
    obtain ⟨cs, h1, h2⟩ := VR.len_t hv
    exact ⟨fr, x, H, cs, he, Ext.refl, h, h1, h2, fun _ => rfl⟩
  · simp only [VH, VR] at hv
    subst hv
    split at he
    · exact ⟨true, _, H, _, he, Ext.refl, h, ⟨none, 0, rfl, Nat.le_refl _, .inl rfl⟩, pk_sl, fun _ => rfl⟩
    · exact he.elim
  · rename_i r
    split at he
    · rename_i wr fr E c x hb
      replace he := Br_tf he
      obtain ⟨hfz, he⟩ := he
      obtain ⟨e, he⟩ := asC_spec he
      subst e
      have hr := h.lt hb rfl
      obtain ⟨_, _, cells, hown, hf⟩ := h.row hr hb
      obtain ⟨ext, h', hz⟩ := h.freeze hb
      simp only [VH, VR] at hv
      obtain ⟨_, rfl⟩ := hv
      exact ⟨fr, x, _, _, he, ext, h', (own_sl hown hf).vt ext (fun b _ => hz b), pk_sl, by simp [hfz]⟩
    · exact he.elim
  · rename_i r c' lo hi
    split at he
    · rename_i wr fr E c x hb
      replace he := Br_tf he
      obtain ⟨hfz, he⟩ := he
      simp only [Bool.and_eq_true, decide_eq_true_eq] at hfz
      obtain ⟨⟨⟨hfz, rfl⟩, h1⟩, h2⟩ := hfz
      obtain ⟨e, he⟩ := asC_spec he
      subst e
      have hr := h.lt hb rfl
      obtain ⟨hn, _, cells, hown, hf⟩ := h.row hr hb
      obtain ⟨ext, h', hz⟩ := h.freeze hb
      exact ⟨fr, _, _, _, he, ext, h', (ox_sl hn h1 h2 (fun b hb' => own_mem hown hb') hf hv).vt ext fun b h0 hb' => hz b (ox_blk hv h0 hb'), pk_sl, by simp [hfz]⟩
    · rename_i wr fr E n c x hb
      replace he := Br_tf he
      obtain ⟨hfz, he⟩ := he
      simp only [Bool.and_eq_true, decide_eq_true_eq] at hfz
      obtain ⟨⟨⟨hfz, rfl⟩, h1⟩, h2⟩ := hfz
      obtain ⟨e, he⟩ := asC_spec he
      subst e
      have hr := h.lt hb rfl
      obtain ⟨hn, b, cells, hρ, hg, hl, hf⟩ := h.val hr hb (by intro d; simp)
      obtain ⟨ext, h', hz⟩ := h.freeze hb
      refine ⟨fr, _, _, _, he, ext, h', (ox_sl (by simpa [norow] using hn) h1 h2 (fun b' hb' => ?_) hf hv).vt ext fun b h0 hb' => hz b (ox_blk hv h0 hb'), pk_sl, by simp [hfz]⟩
      rw [hρ] at hb'; simp [blkOf] at hb'; subst hb'
      exact ⟨Mem.of_block hg, ⟨_, _, _, hg⟩⟩
    · exact he.elim
  · rename_i r c
    split at he
    · rename_i wr fr E c' x hb
      replace he := Br_tf he
      obtain ⟨hfz, he⟩ := he
      simp only [Bool.and_eq_true, decide_eq_true_eq] at hfz
      obtain ⟨hfz, rfl⟩ := hfz
      obtain ⟨e, he⟩ := asC_spec he
      subst e
      have hr := h.lt hb rfl
      obtain ⟨ext, h', hz⟩ := h.freeze hb
      simp only [VH, VR] at hv
      obtain ⟨_, b, hbb, rfl⟩ := hv
      obtain ⟨cells, hm, hlt, hvt⟩ := h.cells hb hbb
      obtain ⟨z1, z2⟩ := hz b hbb
      exact ⟨fr, x, _, _, he, ext, h', ⟨b, 0, cells, by simp [offs], ⟨z1, .inl z2⟩, hlt, hm, VT.ext ext hvt⟩, pk_ptr, by simp [hfz]⟩
    · exact he.elim
  · exact he.elim


/-! ### Writes -/

theorem list_put {L ds : List Value} {m off : Nat} (hm : m ≤ L.length) (hk : off + ds.length ≤ m) :
    (L.take off ++ ds ++ L.drop (off + ds.length)).take m = (L.take m).take off ++ ds ++ (L.take m).drop (off + ds.length) := by
  rw [List.take_take, show min off m = off by omega, List.drop_take]
  have e : (L.take off ++ ds).length = off + ds.length := by simp; omega
  rw [List.take_append, e, List.take_of_length_le (by omega)]

theorem RH.write_row (P : Program) (h : RH X ρ H w) {r b : Nat} {fr fr' : Bool} {E : TypeId} {c : Cd} {x z : List (El c)} (hb : hk H r = .val true fr E (.row c) x) (hbb : blkOf (ρ r) = some b) (hl : z.length = x.length)
    {off : Nat} {ds cells : List Value} (h1 : ∀ v ∈ ds, v.oneCell' = true) (hown : w.ownsRow 0 E (csz c) (ρ r) x.length cells)
    (hoff : off + ds.length ≤ cells.length) (hf' : Flat (VT w (Zn X.B ρ H fr') c) z (cells.take off ++ ds ++ cells.drop (off + ds.length))) :
    ∃ w', (storeCells ⟨b, off, none⟩ ds).run P w = .ok () w' ∧ Ext X.B ρ H w ρ (hup H r (.val true fr' E (.row c) z)) w' ∧ RH X ρ (hup H r (.val true fr' E (.row c) z)) w' := by
  have hr := h.lt hb rfl
  obtain ⟨hn, hs0, _⟩ := h.row hr hb
  have hcl := hown.1
  rcases hown.2 with ⟨e0, _⟩ | ⟨g, cap, cur, e0, hbase, hg, hnc, hcm, hcs, htake⟩
  · rw [e0] at hbb; simp [blkOf] at hbb
  · rw [e0] at hbb; simp [blkOf] at hbb; subst hbb
    have hle : x.length * csz c ≤ cur.toList.length := by simp [hcs]; exact Nat.mul_le_mul_right _ hnc
    have hst := run_storeCells_at P g off E ds 0 cur w hg (by simp at hle ⊢; omega) h1
    simp only [Nat.add_zero] at hst
    refine ⟨_, hst, ?_⟩
    have hlive : live (hk H r) = true := by rw [hb]; rfl
    refine h.change (b := .val true fr' E (.row c) z) hr rfl rfl rfl (by simp) (fun k hk => ?_) (fun _ => hlive) (fun _ => live_dead hlive) (fun k _ hh => by simp [live] at hh) (fun e => ?_)
    · by_cases hkg : k = g
      · subst hkg; exact .inr ⟨hlive, by rw [e0]; rfl⟩
      · exact .inl (setRow_other w g k _ hkg)
    · refine ⟨hn, hs0, _, ?_, hf'.mono fun _ _ hx => VT.ext e hx⟩
      refine ⟨?_, .inr ⟨g, cap, _, e0 ▸ by rw [hl], hbase, setRow_heap w g cur _ E (0, 0) hg, by rw [hl]; exact hnc, hcm, ?_, ?_⟩⟩
      · rw [hl]; simp; omega
      · simp; simp at hle; omega
      · rw [hl]
        have := list_put (L := cur.toList) (ds := ds) (m := x.length * csz c) (off := off) hle (by omega)
        rw [htake] at this
        exact this

theorem BR_val {n : Nat} {B : Bz} {wr fr : Bool} {E : TypeId} {c : Cd} {x : El c} {v : Value} {b : Nat} {cells : List Value} (hc : ∀ d, c ≠ .row d) (hn : norow c = true) (e : v = .pointer (some ⟨b, 0, none⟩))
    (hg : w.heap[b]? = some (.cells (List.toArray cells) E (0, 0))) (hv : VT w (Zn B ρ H fr) c x cells) : BR n B ρ H w (.val wr fr E c x) v := by
  have : norow c = true ∧ ∃ b cells, v = .pointer (some ⟨b, 0, none⟩) ∧ w.heap[b]? = some (.cells (List.toArray cells) E (0, 0)) ∧ VT w (Zn B ρ H fr) c x cells := ⟨hn, b, cells, e, hg, hv⟩
  cases c <;> first | exact this | exact absurd rfl (hc _)

theorem RH.write_val (P : Program) (h : RH X ρ H w) {r b : Nat} {fr fr' : Bool} {E : TypeId} {c : Cd} {x z : El c} (hb : hk H r = .val true fr E c x) (hc : ∀ d, c ≠ .row d)
    {off : Nat} {ds cells : List Value} (h1 : ∀ v ∈ ds, v.oneCell' = true) (hn : norow c = true) (e0 : ρ r = .pointer (some ⟨b, 0, none⟩)) (hg : w.heap[b]? = some (.cells (List.toArray cells) E (0, 0)))
    (hoff : off + ds.length ≤ cells.length) (hv' : VT w (Zn X.B ρ H fr') c z (cells.take off ++ ds ++ cells.drop (off + ds.length))) :
    ∃ w', (storeCells ⟨b, off, none⟩ ds).run P w = .ok () w' ∧ Ext X.B ρ H w ρ (hup H r (.val true fr' E c z)) w' ∧ RH X ρ (hup H r (.val true fr' E c z)) w' := by
  have hr := h.lt hb rfl
  have hst := run_storeCells_at P b off E ds 0 cells.toArray w hg (by simpa using hoff) h1
  simp only [Nat.add_zero] at hst
  refine ⟨_, hst, ?_⟩
  have hlive : live (hk H r) = true := by rw [hb]; rfl
  refine h.change (b := .val true fr' E c z) hr rfl rfl rfl (by simp) (fun k hk => ?_) (fun _ => hlive) (fun _ => live_dead hlive) (fun k _ hh => by simp [live] at hh) (fun e => ?_)
  · by_cases hkg : k = b
    · subst hkg; exact .inr ⟨hlive, by rw [e0]; rfl⟩
    · exact .inl (setRow_other w b k _ hkg)
  · exact BR_val hc hn e0 (setRow_heap w b cells.toArray _ E (0, 0) hg) (VT.ext e hv')

theorem pk.one {c : Cd} {cs : List Value} {v : Value} (h : pk c cs v) (h1 : ∀ u ∈ cs, u.oneCell' = true) : v.cells.toList = cs := h.cells h1

theorem run_storeVar {t : TypeId} {i : TypeInfo} (hi : P.info? t = some i) {v : Value} {a : Addr} (hs : v.cells.size = i.size) : (storeVar t a v).run P w = (storeCells a v.cells.toList).run P w := by
  simp [storeVar, run_sizeOf hi, hs]

theorem info_of {t : TypeId} {ty : Ty} {c : Cd} (ht : TyOK P t ty) (hc : ty.code = some c) : norow c = true ∧ ∃ i, P.info? t = some i ∧ i.size = csz c := by
  cases ty with
  | no => simp [Ty.code] at hc
  | sc d => simp [Ty.code] at hc; subst hc; obtain ⟨hn, i, d, hi, _, hs, _⟩ := ht.1; exact ⟨hn, i, hi, hs⟩
  | sl e d b => simp [Ty.code] at hc; subst hc; obtain ⟨hn, i, d, hi, _, hs, _⟩ := ht.2.1; exact ⟨hn, i, hi, hs⟩
  | arr n e d => simp [Ty.code] at hc; subst hc; obtain ⟨hn, i, d, hi, _, hs, _⟩ := ht.2.1; exact ⟨hn, i, hi, hs⟩
  | st d => simp [Ty.code] at hc; subst hc; obtain ⟨hn, i, d, hi, _, hs, _⟩ := ht.2.1; exact ⟨hn, i, hi, hs⟩
  | pt e d => simp [Ty.code] at hc; subst hc; obtain ⟨_, hn, i, hi, hs⟩ := ht; exact ⟨by simpa [norow] using hn, i, hi, by simp [hs, csz]⟩
  | fn => simp [Ty.code] at hc

theorem one_spec (h' : RH X ρ H w) {v : AV} {u : Value} (h : one H v = true) (hv : VH X ρ H w v u) : u.oneCell' = true := by
  cases v with
  | any => simp [one] at h
  | t fr c x =>
    simp only [one, Bool.and_eq_true, Bool.not_eq_true'] at h
    obtain ⟨cs, h1, h2⟩ := VR.len_t hv
    simp only [pk, h.1] at h2
    rw [if_neg (by simp)] at h2
    subst h2
    exact h1.one u (by simp)
  | ns => simp only [VH, VR] at hv; subst hv; rfl
  | os r =>
    simp only [VH, VR] at hv
    obtain ⟨hr, rfl⟩ := hv
    simp only [one] at h
    split at h
    · rename_i wr fr E c x hb
      obtain ⟨_, _, cells, hown, _⟩ := h'.row hr hb
      rcases hown.2 with ⟨e, _⟩ | ⟨g, cap, cur, e, _⟩ <;> rw [e] <;> rfl
    · simp at h
  | ox r c lo hi => simp only [VH, VR] at hv; obtain ⟨_, a, cap, rfl, _⟩ := hv; rfl
  | op r c p => simp only [VH, VR] at hv; obtain ⟨_, b, _, rfl⟩ := hv; rfl
  | fn f cs => simp only [VH, VR] at hv; obtain ⟨vs, rfl, _⟩ := hv; rfl
  | tu vs => simp [one] at h


theorem VT_fr {fr fr' : Bool} (hf : fr' = true → fr = true) {c : Cd} {x : El c} {cs : List Value} (h : VT w (Zn X.B ρ H fr) c x cs) : VT w (Zn X.B ρ H fr') c x cs :=
  h.mono (fun _ _ hz => ⟨⟨hz.1, hz.2.imp id fun hh => ⟨by cases fr' <;> simp_all, hh.2⟩⟩, rfl⟩) (Nat.le_refl _)

theorem evStore_spec (h : RH X ρ H w) {x v : AV} {u uv : Value} {ty : Ty} {t : TypeId} (ht : TyOK P t ty) {K : List Blk → Prop} (hx : VH X ρ H w x u) (hv : VH X ρ H w v uv) (he : evStore H x v ty K) :
    ∃ w' H', (Instr.storeAt t u uv).run P w = .ok () w' ∧ K H' ∧ Ext X.B ρ H w ρ H' w' ∧ RH X ρ H' w' := by
  unfold evStore at he
  split at he
  · rename_i r c p
    simp only [VH, VR] at hx
    obtain ⟨hrl, b, hbb, rfl⟩ := hx
    split at he
    · rename_i a hb
      split at he
      · replace he := Br_tf he
        obtain ⟨hty, hK⟩ := he
        simp only [Bool.and_eq_true] at hty
        obtain ⟨h1, hty⟩ := hty
        have hbk := h.blk r hrl
        rw [hb] at hbk
        obtain ⟨b', E, v0, hρ, hg, _, _⟩ := hbk
        rw [hρ] at hbb; simp [blkOf] at hbb; subst hbb
        have hone := one_spec h h1 hv
        have hcs : uv.cells = #[uv] := by cases uv <;> simp_all [Value.cells, Value.oneCell']
        have hi : ∃ i, P.info? t = some i ∧ i.size = 1 := by
          cases ty with
          | no => simp at hty
          | sc c =>
            obtain ⟨hn, i, d, hi, _, hs, hg, _⟩ := ht.1
            refine ⟨i, hi, ?_⟩
            have h2 := ht.2
            cases c <;> simp_all [csz]
          | sl e c b => obtain ⟨_, i, _, hi, _, hs, _⟩ := ht.2.1; exact ⟨i, hi, by simpa [csz] using hs⟩
          | arr n e c => simp at hty
          | st c => simp at hty
          | pt e c => obtain ⟨_, _, i, hi, hs⟩ := ht; exact ⟨i, hi, hs⟩
          | fn => obtain ⟨_, i, _, _, hi, hs⟩ := ht; exact ⟨i, hi, hs⟩
        obtain ⟨i, hi, hs⟩ := hi
        have hst := run_storeCells_at P b' 0 E [uv] 0 #[v0] w hg (by simp) (by simpa using hone)
        simp only [Nat.add_zero] at hst
        have hrun : (Instr.storeAt t (.pointer (some ⟨b', offs c [], none⟩)) uv).run P w = .ok () (w.setRow b' #[uv]) := by
          simp only [Instr.storeAt, Instr.sureAddr, offs]
          simp only [Sem.run_bind, Sem.run_pure, Result.andThen_ok]
          rw [run_storeVar hi (by rw [hcs, hs]; rfl), hcs]
          simpa using hst
        refine ⟨_, _, hrun, hK, ?_⟩
        · have hlive : live (hk H r) = true := by rw [hb]; rfl
          refine h.change (b := .av v) hrl rfl rfl rfl (by simp) (fun k hk => ?_) (fun _ => hlive) (fun _ => live_dead hlive) (fun k _ hh => by simp [live] at hh) (fun e => ?_)
          · by_cases hkg : k = b'
            · subst hkg; exact .inr ⟨hlive, by rw [hρ]; rfl⟩
            · exact .inl (setRow_other w b' k _ hkg)
          · exact ⟨b', E, uv, hρ, by have := setRow_heap w b' #[v0] #[uv] E (0, 0) hg; simpa using this, hone, VR.ext e hv⟩
      · exact he.elim
    · rename_i wr fr E c0 x0 hb
      cases hcd : ty.code with
      | none => rw [hcd] at he; exact he.elim
      | some d =>
        rw [hcd] at he
        obtain ⟨fr', y, H1, cs, hK, e1, h1, hvt, hpk, _⟩ := toT_spec h hv he
        split at hK
        · rename_i fr1 E1 c1 x1 hb1
          obtain ⟨ec, hK⟩ := asC_spec hK
          subst ec
          obtain ⟨hnd, i, hi, hs⟩ := info_of ht hcd
          have hl := hvt.len hnd
          have hone := hvt.one
          have hcells := hpk.cells hone
          have hstore : ∀ off, (Instr.storeAt t (.pointer (some ⟨b, off, none⟩)) uv).run P w = (storeCells ⟨b, off, none⟩ cs).run P w := by
            intro off
            simp only [Instr.storeAt, Instr.sureAddr, Sem.run_bind, Sem.run_pure, Result.andThen_ok]
            rw [run_storeVar hi (by rw [← Array.length_toList, hcells, hl, hs]), hcells]
          rw [hstore]
          have hw1 : ∀ {c : Cd} {x : El c} {cs : List Value}, VT w (Zn X.B ρ H1 fr1) c x cs → VT w (Zn X.B ρ H1 (fr1 && (fr' || flat d))) c x cs := fun h => VT_fr (by cases fr1 <;> simp) h
          have hw2 : VT w (Zn X.B ρ H1 (fr1 && (fr' || flat d))) d y cs := VT_fr (by cases fr1 <;> cases fr' <;> cases (flat d) <;> simp) (VR_weak (X := X) (H := H1) hvt)
          by_cases hc : ∃ c', c1 = .row c'
          · obtain ⟨c', rfl⟩ := hc
            by_cases hp0 : p = []
            · subst hp0
              simp only [setP] at hK
              obtain ⟨e2, _⟩ := asC_spec hK
              subst e2
              simp [norow] at hnd
            · have hr1 := h1.lt hb1 rfl
              obtain ⟨hn, _, cells, hown, hf⟩ := h1.row hr1 hb1
              obtain ⟨z, hKz, hzl, _, hp, hle, hz⟩ := setP_row hn (hf.mono fun _ _ => hw1) hw2 hp0 hK
              obtain ⟨w', hrun, e2, h2⟩ := h1.write_row P hb1 hbb hzl (off := offs (.row c') p) hone hown (by rw [hl]; exact hle) (by rw [hl]; exact hz)
              exact ⟨w', _, hrun, hKz, e1.trans e2, h2⟩
          · have hr1 := h1.lt hb1 rfl
            obtain ⟨hn, g, cells, hρ, hg, hvx⟩ := h1.val hr1 hb1 (fun d hd => hc ⟨d, hd⟩)
            rw [hρ] at hbb; simp [blkOf] at hbb; subst hbb
            obtain ⟨z, hKz, hp, hle, hz⟩ := setP_spec _ _ _ _ _ _ _ _ hn (hw1 hvx) hw2 hK
            obtain ⟨w', hrun, e2, h2⟩ := h1.write_val P hb1 (fun d hd => hc ⟨d, hd⟩) (off := offs c1 p) hone hn hρ hg (by rw [hl]; exact hle) (by rw [hl]; exact hz)
            exact ⟨w', _, hrun, hKz, e1.trans e2, h2⟩
        · exact hK.elim
    · exact he.elim
  · exact he.elim

end
end Go.Eng
