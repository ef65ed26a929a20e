/- The abstract evaluator: literals, new memory, append, copy. -/
import Derived.Test.YtniabjhjpkkllaaEngF
namespace Go.Eng
open Go Go.RowKit

theorem happ_nil : ∀ H : List Blk, happ H [] = H
  | [] => rfl
  | b :: H => by simp [happ, happ_nil H]

theorem happ_assoc : ∀ a b c : List Blk, happ (happ a b) c = happ a (happ b c)
  | [], _, _ => rfl
  | x :: a, b, c => by simp [happ, happ_assoc a b c]

/-- Behind an operation that hands back a value. 'hd': one of those whose order is open. -/
def After (X : Ctx) (ρ : Nat → Value) (H : List Blk) (w : World) (hd : Bool) (K : AV → List Blk → Prop) (u : Value) (w' : World) : Prop :=
  ∃ v ρ' H', K v H' ∧ Ext X.B ρ H w ρ' H' w' ∧ RH X ρ' H' w' ∧ VH X ρ' H' w' v u ∧ (hd = true → (∃ bl, H' = happ H bl) ∧ ∀ b, b < w.heap.size → w'.heap[b]? = w.heap[b]?)

section
variable {P : Program} {X : Ctx} {ρ : Nat → Value} {H : List Blk} {w : World}

theorem After.same {hd : Bool} {K : AV → List Blk → Prop} {v : AV} {u : Value} (h : RH X ρ H w) (hK : K v H) (hv : VH X ρ H w v u) : After X ρ H w hd K u w :=
  ⟨v, ρ, H, hK, Ext.refl, h, hv, fun _ => ⟨⟨[], (happ_nil H).symm⟩, fun _ _ => rfl⟩⟩

theorem setP_any {Z : Nat → Prop} {c : Cd} {x : El c} {p : List Sg} {d : Cd} {y : El d} {K : El c → Prop} {cs ds : List Value} (hc : topc c) (hv : VT w Z c x cs) (hy : VT w Z d y ds) (hp : p ≠ []) (h : setP c x p d y K) :
    ∃ z, K z ∧ norow d = true ∧ pcode c p = some d ∧ offs c p + csz d ≤ cs.length ∧ VT w Z c z (cs.take (offs c p) ++ ds ++ cs.drop (offs c p + csz d)) := by
  rcases hc with hn | ⟨c', rfl, hn⟩
  · obtain ⟨z, hK, hpc, hle, hz⟩ := setP_spec c x p d y K cs ds hn hv hy h
    exact ⟨z, hK, pcode_norow c p d hn hpc, hpc, hle, hz⟩
  · obtain ⟨z, hK, _, hnd, hpc, hle, hz⟩ := setP_row hn hv hy hp h
    exact ⟨z, hK, hnd, hpc, hle, hz⟩

/-! ### Literals -/

theorem foldl_put (off : Nat) : ∀ (ds : List Value) (k : Nat) (L : Array Value), off + k + ds.length ≤ L.size →
    (ds.zipIdx k).foldl (fun cs p => cs.setIfInBounds (off + p.2) p.1) L = (L.toList.take (off + k) ++ ds ++ L.toList.drop (off + k + ds.length)).toArray
  | [], k, L, _ => by simp
  | v :: ds, k, L, h => by
    simp only [List.length_cons] at h
    rw [List.zipIdx_cons, List.foldl_cons, foldl_put off ds (k + 1) _ (by simp; omega)]
    simp only [Array.toList_setIfInBounds]
    have := list_seg_step L.toList (off + k) v ds (by simp; omega)
    rw [show off + (k + 1) = off + k + 1 by omega, this]
    simp [show off + k + (ds.length + 1) = off + k + 1 + ds.length by omega]

theorem fill_step {place : Nat → Option (Nat × Nat)} {cells : List Value} {i : Nat} {v : Value} {rest : List (Nat × Value)} {off sz : Nat} (hp : place i = some (off, sz)) (hs : v.cells.size = sz) (hle : off + sz ≤ cells.length) :
    Instr.fill place cells.toArray ((i, v) :: rest) = Instr.fill place (cells.take off ++ v.cells.toList ++ cells.drop (off + sz)).toArray rest := by
  simp only [Instr.fill, hp]
  rw [if_neg (by simp [hs]; omega)]
  congr 1
  have := foldl_put off v.cells.toList 0 cells.toArray (by simp [hs]; omega)
  simp only [Nat.add_zero] at this
  rw [← Array.foldl_toList, Array.toList_zipIdx]
  rw [show v.cells.toList.length = sz by simp [hs]] at this
  exact this

def PartsR (X : Ctx) (ρ : Nat → Value) (H : List Blk) (w : World) : List (Nat × AV) → List (Nat × Value) → Prop
  | [], vs => vs = []
  | (i, a) :: ps, vs => ∃ v r, vs = (i, v) :: r ∧ VH X ρ H w a v ∧ PartsR X ρ H w ps r

theorem PartsR.ext {ρ' : Nat → Value} {H' : List Blk} {w' : World} (e : Ext X.B ρ H w ρ' H' w') : ∀ {ps : List (Nat × AV)} {vs : List (Nat × Value)}, PartsR X ρ H w ps vs → PartsR X ρ' H' w' ps vs
  | [], _, h => h
  | (_, _) :: _, _, ⟨v, r, e1, h1, h2⟩ => ⟨v, r, e1, VR.ext e h1, PartsR.ext e h2⟩

theorem fill_spec (fz : Bool) (stp : Nat → Sg) (c : Cd) (hc : topc c) (place : Nat → Option (Nat × Nat)) (hpl : ∀ i d, pcode c [stp i] = some d → place i = some (offs c [stp i], csz d)) :
    ∀ (ps : List (Nat × AV)) (vs : List (Nat × Value)) (x : El c) (fr : Bool) (H : List Blk) (cs : List Value) (K : El c → Bool → List Blk → Prop), RH X ρ H w → PartsR X ρ H w ps vs → VT w (Zn X.B ρ H fr) c x cs → fill fz stp c x fr H ps K →
      ∃ x' fr' H' cs', K x' fr' H' ∧ Instr.fill place cs.toArray vs = some cs'.toArray ∧ VT w (Zn X.B ρ H' fr') c x' cs' ∧ cs'.length = cs.length ∧ Ext X.B ρ H w ρ H' w ∧ RH X ρ H' w ∧ (fz = false → H' = H)
  | [], vs, x, fr, H, cs, K, h, hp, hv, hf => by
    simp only [PartsR] at hp; subst hp
    exact ⟨x, fr, H, cs, hf, rfl, hv, rfl, Ext.refl, h, fun _ => rfl⟩
  | (i, a) :: ps, vs, x, fr, H, cs, K, h, hp, hv, hf => by
    obtain ⟨v, r, rfl, hva, hps⟩ := hp
    simp only [fill] at hf
    split at hf
    · rename_i d hd
      obtain ⟨fr', y, H1, ds, hK, e1, h1, hvt, hpk, hfz⟩ := toT_spec h hva hf
      have hw1 : VT w (Zn X.B ρ H1 (fr && (fr' || flat d))) c x cs := VT_fr (fr := fr) (by cases fr <;> simp) (VT.ext e1 hv)
      have hw2 : VT w (Zn X.B ρ H1 (fr && (fr' || flat d))) d y ds := VT_fr (by cases fr <;> cases fr' <;> cases (flat d) <;> simp) (VR_weak (X := X) (H := H1) hvt)
      obtain ⟨z, hKz, hnd, hpc, hle, hz⟩ := setP_any hc hw1 hw2 (by simp) hK
      have hl := hvt.len hnd
      have hcells := hpk.cells hvt.one
      obtain ⟨x', fr2, H2, cs', hK2, hfill, hvt2, hlen, e2, h2, hfz2⟩ := fill_spec fz stp c hc place hpl ps r z _ H1 _ K h1 (hps.ext e1) hz hKz
      refine ⟨x', fr2, H2, cs', hK2, ?_, hvt2, ?_, e1.trans e2, h2, fun hh => (hfz2 hh).trans (hfz hh)⟩
      · have hsz : v.cells.size = csz d := by rw [← Array.length_toList, hcells, hl]
        rw [fill_step (hpl i d hpc) hsz hle, hcells]; exact hfill
      · rw [hlen]; simp; omega
    · exact hf.elim


theorem asC_mono {c d : Cd} {x : El c} {K K' : El d → Prop} (hK : ∀ y, K y → K' y) (h : asC c x d K) : asC c x d K' := by
  unfold asC at *
  split
  · rename_i e; rw [dif_pos e] at h; exact hK _ h
  · rename_i e; rw [dif_neg e] at h; exact h
theorem Br_mono {b : Bool} {A A' : Prop} (hA : A → A') (h : Br b A False) : Br b A' False := by
  cases b with
  | true => exact hA h
  | false => exact h
theorem toT_mono {fz : Bool} {H : List Blk} {v : AV} {d : Cd} {K K' : Bool → El d → List Blk → Prop} (hK : ∀ a y H, K a y H → K' a y H) (h : toT fz H v d K) : toT fz H v d K' := by
  unfold toT at *
  cases v with
  | t fr c x => exact asC_mono (fun y => hK _ _ _) h
  | ns => cases d <;> first | exact hK _ _ _ h | exact h
  | os r =>
    simp only at *
    generalize hk H r = b at *
    cases b with
    | val wr fr E c x => cases c <;> first | exact h | exact Br_mono (asC_mono fun y => hK _ _ _) h
    | _ => exact h
  | ox r c lo hi =>
    simp only at *
    generalize hk H r = b at *
    cases b with
    | val wr fr E c x => cases c <;> first | exact h | exact Br_mono (asC_mono fun y => hK _ _ _) h
    | _ => exact h
  | op r c p =>
    cases p with
    | cons _ _ => exact h
    | nil =>
      simp only at *
      generalize hk H r = b at *
      cases b with
      | val wr fr E c x => exact Br_mono (asC_mono fun y => hK _ _ _) h
      | _ => exact h
  | _ => exact h

theorem set_pre {α : Type} (d y : α) : ∀ (pre r : List α), (pre ++ d :: r).set pre.length y = (pre ++ [y]) ++ r
  | [], r => by simp
  | a :: pre, r => by simp [set_pre d y pre r]

theorem gath_arr {fz : Bool} {n : Nat} {c : Cd} : ∀ (ps : List (Nat × AV)) (pre : List (El c)) (fr : Bool) (H : List Blk) (K : List (El c) → Bool → List Blk → Prop), inOrd pre.length ps = true →
    gath fz c fr H ps (fun ys => K (pre ++ ys)) → fill fz .ix (.arr n c) (pre ++ List.replicate (lenP ps) (dflt c)) fr H ps K
  | [], pre, fr, H, K, _, h => by simpa [gath, fill, lenP] using h
  | (j, v) :: ps, pre, fr, H, K, ho, h => by
    simp only [inOrd, Bool.and_eq_true] at ho
    have hj := Nat.eq_of_beq_eq_true ho.1
    subst hj
    simp only [gath] at h
    simp only [fill, pcode, lenP, List.replicate_succ]
    refine toT_mono (fun fr' y H' hh => ?_) h
    simp only [setP]
    have hlt : decide (pre.length < (pre ++ dflt c :: List.replicate (lenP ps) (dflt c)).length) = true := by simp
    rw [hlt]
    simp only [Br, asC, dif_pos]
    rw [set_pre]
    exact gath_arr ps (pre ++ [y]) _ H' K (by simpa using ho.2) (by simpa using hh)
theorem gath_row {fz : Bool} {c : Cd} : ∀ (ps : List (Nat × AV)) (pre : List (El c)) (fr : Bool) (H : List Blk) (K : List (El c) → Bool → List Blk → Prop), inOrd pre.length ps = true →
    gath fz c fr H ps (fun ys => K (pre ++ ys)) → fill fz .ix (.row c) (pre ++ List.replicate (lenP ps) (dflt c)) fr H ps K
  | [], pre, fr, H, K, _, h => by simpa [gath, fill, lenP] using h
  | (j, v) :: ps, pre, fr, H, K, ho, h => by
    simp only [inOrd, Bool.and_eq_true] at ho
    have hj := Nat.eq_of_beq_eq_true ho.1
    subst hj
    simp only [gath] at h
    simp only [fill, pcode, lenP, List.replicate_succ]
    refine toT_mono (fun fr' y H' hh => ?_) h
    simp only [setP]
    have hlt : decide (pre.length < (pre ++ dflt c :: List.replicate (lenP ps) (dflt c)).length) = true := by simp
    rw [hlt]
    simp only [Br, asC, dif_pos]
    rw [set_pre]
    exact gath_row ps (pre ++ [y]) _ H' K (by simpa using ho.2) (by simpa using hh)
theorem fillA_fill {fz : Bool} {n : Nat} {c : Cd} {H : List Blk} {ps : List (Nat × AV)} {K : List (El c) → Bool → List Blk → Prop} (h : fillA fz n c H ps K) : fill fz .ix (.arr n c) (dflt (.arr n c)) true H ps K := by
  unfold fillA at h
  split at h
  · rename_i hb
    rw [Bool.and_eq_true] at hb
    have hn := Nat.eq_of_beq_eq_true hb.2
    subst hn
    exact gath_arr ps [] true H K hb.1 h
  · exact h
theorem fillR_fill {fz : Bool} {n : Nat} {c : Cd} {H : List Blk} {ps : List (Nat × AV)} {K : List (El c) → Bool → List Blk → Prop} (h : fillR fz n c H ps K) : fill fz .ix (.row c) (List.replicate n (dflt c)) true H ps K := by
  unfold fillR at h
  split at h
  · rename_i hb
    rw [Bool.and_eq_true] at hb
    have hn := Nat.eq_of_beq_eq_true hb.2
    subst hn
    exact gath_row ps [] true H K hb.1 h
  · exact h

theorem ops2_spec {tmps : List AV} {a : Act} (h : TR (hlen H) X.B ρ H w tmps a) : ∀ ps : List (Nat × Operand), PartsR X ρ H w (ops2 tmps ps) (ps.map fun p => (p.1, a.eval p.2))
  | [] => by simp [ops2, PartsR]
  | (i, x) :: ps => ⟨_, _, rfl, opv_spec h x, ops2_spec h ps⟩

theorem zero_of {t : TypeId} {c : Cd} (ht : TOK P t c) (hp : noptr c = true) : ∃ i z, P.info? t = some i ∧ i.size = csz c ∧ i.zero = some z ∧ ∀ (w : World) Z, ∃ cs, VT w Z c (dflt c) cs ∧ pk c cs z ∧ z.cells.toList = cs := by
  obtain ⟨_, i, d, hi, _, hs, _, hz⟩ := ht
  obtain ⟨z, hz, h⟩ := hz hp
  refine ⟨i, z, hi, hs, hz, fun w Z => ?_⟩
  obtain ⟨cs, h1, h2⟩ := h w Z
  exact ⟨cs, h1, h2, h2.cells h1.one⟩

theorem run_zeroValue {t : TypeId} {i : TypeInfo} {z : Value} (hi : P.info? t = some i) (hz : i.zero = some z) : (zeroValue t).run P w = .ok z w := by
  simp [zeroValue, typeInfo, hi, hz]

theorem toArray_eta (v : Value) {cs : List Value} (h : v.cells.toList = cs) : v.cells = cs.toArray := by rw [← h]

theorem build_st (fz : Bool) (h : RH X ρ H w) {t : TypeId} {c : Cd} (ht : TyOK P t (.st c)) (hz : noptr c = true) {ps : List (Nat × AV)} {vs : List (Nat × Value)} (hp : PartsR X ρ H w ps vs) {K : El c → Bool → List Blk → Prop}
    (he : fill fz .fd c (dflt c) true H ps K) : ∃ x fr H' u, (Instr.build t vs.toArray).run P w = .ok u w ∧ K x fr H' ∧ Ext X.B ρ H w ρ H' w ∧ RH X ρ H' w ∧ VH X ρ H' w (.t (fr || flat c) c x) u ∧ (fz = false → H' = H) := by
  obtain ⟨hag, ht, fs, hd, _, places, hpl, hpc⟩ := ht
  obtain ⟨i, z, hi, hs, hz, hzr⟩ := zero_of ht hz
  obtain ⟨cs, hv, hpk, hcs⟩ := hzr w (Zn X.B ρ H true)
  obtain ⟨x, fr, H', cs', hK, hfill, hv', hl, e, h', hfz⟩ := fill_spec fz .fd c (.inl ht.1) (places[·]?) hpc ps vs _ true H cs K h hp hv he
  refine ⟨x, fr, H', .agg cs'.toArray, ?_, hK, e, h', ?_, hfz⟩
  · have hfill' : Instr.fill (fun i => places[i]?) z.cells vs = some cs'.toArray := by rw [toArray_eta z hcs]; exact hfill
    simp [Instr.build, run_underlying hd, run_zeroValue hi hz, Array.mapM_eq_mapM_toList, run_places w _ _ hpl, hfill']
  · simp only [VH, VR]; exact ⟨cs', VR_weak hv', by simp [pk, hag]⟩

theorem build_arr (fz : Bool) (h : RH X ρ H w) {t e : TypeId} {n : Nat} {c : Cd} (ht : TyOK P t (.arr n e c)) (hz : noptr c = true) {ps : List (Nat × AV)} {vs : List (Nat × Value)} (hp : PartsR X ρ H w ps vs) {K : El (.arr n c) → Bool → List Blk → Prop}
    (he : fill fz .ix (.arr n c) (dflt (.arr n c)) true H ps K) : ∃ x fr H' u, (Instr.build t vs.toArray).run P w = .ok u w ∧ K x fr H' ∧ Ext X.B ρ H w ρ H' w ∧ RH X ρ H' w ∧ VH X ρ H' w (.t (fr || flat c) (.arr n c) x) u ∧ (fz = false → H' = H) := by
  obtain ⟨hd, ht, ⟨hn, ie, de, hie, _, hse, _⟩, _⟩ := ht
  obtain ⟨i, z, hi, hs, hz, hzr⟩ := zero_of ht (by simpa [noptr] using hz)
  obtain ⟨cs, hv, hpk, hcs⟩ := hzr w (Zn X.B ρ H true)
  have hpc : ∀ i d, pcode (.arr n c) [.ix i] = some d → (some (i * csz c, csz c) : Option (Nat × Nat)) = some (offs (.arr n c) [.ix i], csz d) := by
    intro i d hh; simp [pcode] at hh; subst hh; simp [offs]
  obtain ⟨x, fr, H', cs', hK, hfill, hv', hl, e, h', hfz⟩ := fill_spec fz .ix (.arr n c) (.inl ht.1) (fun i => some (i * csz c, csz c)) hpc ps vs _ true H cs K h hp hv he
  refine ⟨x, fr, H', .agg cs'.toArray, ?_, hK, e, h', ?_, hfz⟩
  · have hfill' : Instr.fill (fun i => some (i * csz c, csz c)) z.cells vs = some cs'.toArray := by rw [toArray_eta z hcs]; exact hfill
    simp [Instr.build, run_underlying hd, run_zeroValue hi hz, run_sizeOf hie, hse, hfill']
  · simp only [VH, VR]
    have := VR_weak (X := X) (H := H') hv'
    exact ⟨cs', by simpa [flat] using this, by simp [pk, agg]⟩

/-! ### New memory -/

theorem alloc_push (h : RH X ρ H w) {cells : Array Value} {E : TypeId} {b : Blk} {v : Value} (hv : ∀ k, blkOf v = some k → w.heap.size ≤ k)
    (hbr : Ext X.B ρ H w (upd ρ (hlen H) v) (happ H [b]) (w.alloc (.cells cells E)) → BR (hlen (happ H [b])) X.B (upd ρ (hlen H) v) (happ H [b]) (w.alloc (.cells cells E)) b v) :
    Ext X.B ρ H w (upd ρ (hlen H) v) (happ H [b]) (w.alloc (.cells cells E)) ∧ RH X (upd ρ (hlen H) v) (happ H [b]) (w.alloc (.cells cells E)) :=
  h.push rfl rfl rfl (by simp) (fun k hk => Below.heap_alloc w _ k hk) hv hbr

theorem newPtr (h : RH X ρ H w) {E : TypeId} {c : Cd} {x : El c} {fr : Bool} {cs : List Value} (hn : norow c = true) (hv : VT w (Zn X.B ρ H fr) c x cs) :
    let v : Value := .pointer (some ⟨w.heap.size, 0, none⟩)
    let w' := w.alloc (.cells cs.toArray E)
    let H' := happ H [.val true fr E c x]
    Ext X.B ρ H w (upd ρ (hlen H) v) H' w' ∧ RH X (upd ρ (hlen H) v) H' w' ∧ VH X (upd ρ (hlen H) v) H' w' (.op (hlen H) c []) v := by
  have hc : ∀ d, c ≠ .row d := by intro d e; subst e; simp [norow] at hn
  obtain ⟨e, h'⟩ := alloc_push h (cells := cs.toArray) (E := E) (b := .val true fr E c x) (v := .pointer (some ⟨w.heap.size, 0, none⟩)) (by intro k hk; simp [blkOf] at hk; omega)
    (fun e => BR_val hc hn rfl (heap_alloc_new w _) (VT.ext e hv))
  refine ⟨e, h', ?_⟩
  simp only [VH, VR]
  exact ⟨by simp [hlen_happ, hlen], _, by rw [upd_new]; rfl, by simp [offs]⟩

theorem newAv (h : RH X ρ H w) {E : TypeId} {c : Cd} {a : AV} {u : Value} (h1 : u.oneCell' = true) (hv : VH X ρ H w a u) :
    let v : Value := .pointer (some ⟨w.heap.size, 0, none⟩)
    let w' := w.alloc (.cells #[u] E)
    let H' := happ H [.av a]
    Ext X.B ρ H w (upd ρ (hlen H) v) H' w' ∧ RH X (upd ρ (hlen H) v) H' w' ∧ VH X (upd ρ (hlen H) v) H' w' (.op (hlen H) c []) v := by
  obtain ⟨e, h'⟩ := alloc_push h (cells := #[u]) (E := E) (b := .av a) (v := .pointer (some ⟨w.heap.size, 0, none⟩)) (by intro k hk; simp [blkOf] at hk; omega)
    (fun e => ⟨_, E, u, rfl, heap_alloc_new w _, h1, VR.ext e hv⟩)
  refine ⟨e, h', ?_⟩
  simp only [VH, VR]
  exact ⟨by simp [hlen_happ, hlen], _, by rw [upd_new]; rfl, by simp [offs]⟩

theorem newRow_ (h : RH X ρ H w) {E : TypeId} {c : Cd} {x : List (El c)} {fr : Bool} {cs : List Value} {cur : Array Value} {cap : Nat} (hn : norow c = true) (hs : 0 < csz c) (hf : Flat (VT w (Zn X.B ρ H fr) c) x cs)
    (hl : x.length ≤ cap) (hm : cap ≤ maxLen) (hc : cur.size = cap * csz c) (ht : cur.toList.take (x.length * csz c) = cs) :
    let v : Value := .slice (some ⟨w.heap.size, 0, none⟩) x.length cap
    let w' := w.alloc (.cells cur E)
    let H' := happ H [.val true fr E (.row c) x]
    Ext X.B ρ H w (upd ρ (hlen H) v) H' w' ∧ RH X (upd ρ (hlen H) v) H' w' ∧ VH X (upd ρ (hlen H) v) H' w' (.os (hlen H)) v := by
  obtain ⟨e, h'⟩ := alloc_push h (cells := cur) (E := E) (b := .val true fr E (.row c) x) (v := .slice (some ⟨w.heap.size, 0, none⟩) x.length cap) (by intro k hk; simp [blkOf] at hk; omega)
    (fun e => ⟨hn, hs, cs, ⟨Flat.length (fun x cs hx => VT.len hn hx) hf, .inr ⟨_, cap, cur, rfl, Nat.zero_le _, heap_alloc_new w _, hl, hm, hc, ht⟩⟩, hf.mono fun _ _ hx => VT.ext e hx⟩)
  refine ⟨e, h', ?_⟩
  simp only [VH, VR]
  exact ⟨by simp [hlen_happ, hlen], by rw [upd_new]⟩

theorem run_newVar (t : TypeId) (v : Value) : (newVar t v).run P w = .ok ⟨w.heap.size, 0, none⟩ (w.alloc (.cells v.cells t)) := rfl

theorem run_box (t : TypeId) (v : Value) : (Instr.box t v).run P w = .ok (.pointer (some ⟨w.heap.size, 0, none⟩)) (w.alloc (.cells v.cells t)) := by
  simp [Instr.box, run_newVar]

theorem run_alloc {t : TypeId} {i : TypeInfo} {z : Value} (hi : P.info? t = some i) (hz : i.zero = some z) :
    (Instr.alloc t true (.tuple #[])).run P w = .ok (.pointer (some ⟨w.heap.size, 0, none⟩)) (w.alloc (.cells z.cells t)) := by
  simp [Instr.alloc, run_zeroValue hi hz, run_newVar]

theorem evAlloc_spec {hd : Bool} (h : RH X ρ H w) {ty : Ty} {t : TypeId} (ht : TyOK P t ty) {K : AV → List Blk → Prop} (he : evAlloc H t ty K) :
    ∃ u w', (Instr.alloc t true (.tuple #[])).run P w = .ok u w' ∧ After X ρ H w hd K u w' := by
  have gen : ∀ c : Cd, TOK P t c → noptr c = true → K (.op (hlen H) c []) (happ H [.val true true t c (dflt c)]) → ∃ u w', (Instr.alloc t true (.tuple #[])).run P w = .ok u w' ∧ After X ρ H w hd K u w' := by
    intro c ht hp hK
    obtain ⟨i, z, hi, hs, hz, hzr⟩ := zero_of ht hp
    obtain ⟨cs, hv, _, hcs⟩ := hzr w (Zn X.B ρ H true)
    obtain ⟨e, h', hv'⟩ := newPtr (E := t) h ht.1 hv
    rw [← toArray_eta z hcs] at e h' hv'
    exact ⟨_, _, run_alloc hi hz, _, _, _, hK, e, h', hv', fun _ => ⟨⟨_, rfl⟩, fun b hb => Below.heap_alloc w _ b hb⟩⟩
  cases ty with
  | no => exact he.elim
  | sc c =>
    refine gen c ht.1 ?_ he
    have := ht.2
    cases c <;> simp_all [noptr]
  | sl e c b =>
    obtain ⟨i, hi, hz⟩ := ht.2.2.2.2.2.2.2
    obtain ⟨e1, h', hv'⟩ := newAv (E := t) (c := .sl c) h (a := .ns) (u := .slice none 0 0) rfl (by simp only [VH, VR])
    exact ⟨_, _, run_alloc hi hz, _, _, _, he, e1, h', hv', fun _ => ⟨⟨_, rfl⟩, fun b hb => Below.heap_alloc w _ b hb⟩⟩
  | arr n e c =>
    replace he := Br_tf he
    exact gen _ ht.2.1 (by simpa [noptr] using he.1) he.2
  | st c =>
    replace he := Br_tf he
    exact gen _ ht.2.1 he.1 he.2
  | pt e c => exact he.elim
  | fn => exact he.elim

theorem evBox_spec {hd : Bool} (h : RH X ρ H w) {ty : Ty} {t : TypeId} (ht : TyOK P t ty) {v : AV} {u : Value} (hv : VH X ρ H w v u) {K : AV → List Blk → Prop} (he : evBox H t v ty K) :
    ∃ r w', (Instr.box t u).run P w = .ok r w' ∧ After X ρ H w hd K r w' := by
  have av : ∀ c : Cd, one H v = true → K (.op (hlen H) c []) (happ H [.av v]) → ∃ r w', (Instr.box t u).run P w = .ok r w' ∧ After X ρ H w hd K r w' := by
    intro c h1 hK
    have hone := one_spec h h1 hv
    have hcs : u.cells = #[u] := by cases u <;> simp_all [Value.cells, Value.oneCell']
    obtain ⟨e1, h', hv'⟩ := newAv (E := t) (c := c) h hone hv
    rw [← hcs] at e1 h' hv'
    exact ⟨_, _, run_box t u, _, _, _, hK, e1, h', hv', fun _ => ⟨⟨_, rfl⟩, fun b hb => Below.heap_alloc w _ b hb⟩⟩
  have gen0 : ∀ c, norow c = true → ∀ (fr : Bool) (x : El c), VH X ρ H w (.t fr c x) u → K (.op (hlen H) c []) (happ H [.val true (fr || flat c) t c x]) → ∃ r w', (Instr.box t u).run P w = .ok r w' ∧ After X ρ H w hd K r w' := by
    intro c hn fr x hv hh
    obtain ⟨cs, hvt, hpk⟩ := VR.len_t hv
    have hcs := hpk.cells hvt.one
    obtain ⟨e1, h', hv'⟩ := newPtr (E := t) h hn (VR_weak (X := X) hvt)
    rw [← toArray_eta u hcs] at e1 h' hv'
    exact ⟨_, _, run_box t u, _, _, _, hh, e1, h', hv', fun _ => ⟨⟨_, rfl⟩, fun b hb => Below.heap_alloc w _ b hb⟩⟩
  have gen : ∀ c, ty.code = some c → (∀ e d, ty ≠ .pt e d) → ∀ (fr : Bool) (x : El c), VH X ρ H w (.t fr c x) u → K (.op (hlen H) c []) (happ H [.val true (fr || flat c) t c x]) → ∃ r w', (Instr.box t u).run P w = .ok r w' ∧ After X ρ H w hd K r w' := fun c hc hpt => gen0 c (Ty.code_tok ht hc hpt).1
  have gen2 : ∀ c, ty.code = some c → (∀ e d, ty ≠ .pt e d) → (match v with | .t fr c' x => asC c' x c fun x => K (.op (hlen H) c []) (happ H [.val true (fr || flat c) t c x]) | _ => False) → ∃ r w', (Instr.box t u).run P w = .ok r w' ∧ After X ρ H w hd K r w' := by
    intro c hc hpt hh
    cases v with
    | t fr c' x =>
      obtain ⟨e2, hh⟩ := asC_spec hh
      subst e2
      exact gen _ hc hpt fr x hv hh
    | _ => exact hh.elim
  cases ty with
  | no => simp [evBox, Ty.code] at he
  | sc c => exact gen2 c rfl (by simp) (by cases v <;> simp only [evBox, Ty.code] at he ⊢ <;> exact he)
  | sl e c b =>
    cases v with
    | t fr c' x => exact gen2 _ rfl (by simp) (by simp only [evBox] at he ⊢; exact he)
    | _ => simp only [evBox] at he; replace he := Br_tf he; exact av _ he.1 he.2
  | arr n e c => exact gen2 _ rfl (by simp) (by cases v <;> simp only [evBox, Ty.code] at he ⊢ <;> exact he)
  | st c => exact gen2 _ rfl (by simp) (by cases v <;> simp only [evBox, Ty.code] at he ⊢ <;> exact he)
  | pt e c =>
    have hn : norow (.ptr c) = true := by simpa [norow] using ht.2.1
    cases v with
    | t fr c' x =>
      cases c' with
      | ptr c' =>
        simp only [evBox] at he
        obtain ⟨e2, he⟩ := asC_spec he
        cases e2
        exact gen0 _ hn fr x hv he
      | _ => simp only [evBox] at he; replace he := Br_tf he; exact av _ he.1 he.2
    | _ => simp only [evBox] at he; replace he := Br_tf he; exact av _ he.1 he.2
  | fn => replace he := Br_tf he; exact av _ he.1 he.2


theorem madeCells_list (z : Array Value) : ∀ n, (madeCells z (n * z.size)).toList = (List.replicate n z.toList).flatten
  | 0 => by simp [madeCells]
  | n + 1 => by
    have ih := madeCells_list z n
    simp only [madeCells, Array.toList_map, Array.toList_range] at ih ⊢
    rw [List.replicate_succ, List.flatten_cons, ← ih, Nat.succ_mul, Nat.add_comm, List.range_add, List.map_append, List.map_map]
    congr 1
    · apply List.ext_getElem (by simp)
      intro i h1 h2
      simp at h1 h2
      simp [Nat.mod_eq_of_lt h2, h2]
    · apply List.map_congr_left
      intro i _
      simp

theorem replicate_take {α : Type} (n c : Nat) (l : List α) (h : n ≤ c) : ((List.replicate c l).flatten).take (n * l.length) = (List.replicate n l).flatten := by
  obtain ⟨d, rfl⟩ := Nat.exists_eq_add_of_le h
  rw [← List.replicate_append_replicate, List.flatten_append, List.take_append_of_le_length (by simp), List.take_of_length_le (by simp)]

theorem evMake_spec {hd : Bool} (h : RH X ρ H w) {ty : Ty} {t : TypeId} (ht : TyOK P t ty) {l c : AV} {u v : Value} (hl : VH X ρ H w l u) (hc : VH X ρ H w c v) {K : AV → List Blk → Prop} (he : evMake H l c ty K) :
    ∃ r w', (Instr.makeSlice t u v).run P w = .ok r w' ∧ After X ρ H w hd K r w' := by
  unfold evMake at he
  split at he
  · rename_i e d by_ f1 k1 l f2 k2 c
    replace he := Br_tf he
    obtain ⟨hb, hK⟩ := he
    have hu := VR_int hl; have hv := VR_int hc
    subst hu hv
    obtain ⟨hd, _, hte, hs0, hnp, hby0, ⟨i, hi, hby⟩, _⟩ := ht
    obtain ⟨i', z, hi', hs, hz, hzr⟩ := zero_of hte hnp
    have : i' = i := by rw [hi] at hi'; exact (Option.some.inj hi').symm
    subst this
    obtain ⟨cs, hvt, _, hcs⟩ := hzr w (Zn X.B ρ H true)
    obtain ⟨l, rfl⟩ : ∃ l' : Int, l' = l := ⟨l, rfl⟩
    obtain ⟨c, rfl⟩ : ∃ c' : Int, c' = c := ⟨c, rfl⟩
    have hb : (decide (0 ≤ l) && decide (l ≤ c) && decide (c * (by_ : Int) ≤ 140737488355328)) = true := hb
    simp only [Bool.and_eq_true, decide_eq_true_eq] at hb
    obtain ⟨⟨h0, hlc⟩, hcb⟩ := hb
    have hc1 : c ≤ c * (by_ : Int) := by
      have := Int.mul_le_mul_of_nonneg_left (show (1 : Int) ≤ by_ by omega) (show 0 ≤ c by omega)
      simpa using this
    have hcb' : (i'.bytes : Int) * c ≤ 281474976710656 := by rw [hby, Int.mul_comm]; omega
    have hr := run_make (P := P) w t e i' z hd hi hz k1 k2 l c h0 hlc hcb' (by omega)
    have hzl : z.cells.size = csz d := by rw [← Array.length_toList, hcs, hvt.len hte.1]
    have hml := madeCells_list z.cells c.toNat
    rw [hzl, hcs] at hml
    rw [hs] at hr
    obtain ⟨e1, h', hv'⟩ := newRow_ (E := e) (c := d) (x := List.replicate l.toNat (dflt d)) (fr := true) (cs := (List.replicate l.toNat cs).flatten) (cur := madeCells z.cells (c.toNat * csz d)) (cap := c.toNat) h hte.1 hs0
      (Flat.replicate hvt _) (by simp; omega) (by simp [maxLen]; omega) (size_madeCells _ _) (by
        rw [hml]; simp only [List.length_replicate]
        have := replicate_take l.toNat c.toNat cs (by omega)
        rw [hvt.len hte.1] at this; exact this)
    simp only [List.length_replicate] at e1 h' hv'
    exact ⟨_, _, hr, _, _, _, hK, e1, h', hv', fun _ => ⟨⟨_, rfl⟩, fun b hb => Below.heap_alloc w _ b hb⟩⟩
  · exact he.elim

theorem toArray_eta' (a : Array Value) {cs : List Value} (h : a.toList = cs) : a = cs.toArray := by rw [← h]

theorem buildSlice_spec (fz : Bool) (h : RH X ρ H w) {t e : TypeId} {c : Cd} {by_ n : Nat} (ht : TyOK P t (.sl e c by_)) {ps : List (Nat × AV)} {vs : List (Nat × Value)} (hp : PartsR X ρ H w ps vs) {K : AV → List Blk → Prop}
    (hb : Nat.ble (n * csz c) 16777216 = true) (he : fill fz .ix (.row c) (List.replicate n (dflt c)) true H ps fun x fr H' => K (.os (hlen H')) (happ H' [.val true fr e (.row c) x])) :
    ∃ u w', (Instr.buildSlice t n vs.toArray).run P w = .ok u w' ∧ ∃ x fr H', K (.os (hlen H')) (happ H' [.val true fr e (.row c) x]) ∧ (fz = false → H' = H) ∧ Ext X.B ρ H w ρ H' w ∧
      Ext X.B ρ H w (upd ρ (hlen H') u) (happ H' [.val true fr e (.row c) x]) w' ∧ RH X (upd ρ (hlen H') u) (happ H' [.val true fr e (.row c) x]) w' ∧ VH X (upd ρ (hlen H') u) (happ H' [.val true fr e (.row c) x]) w' (.os (hlen H')) u ∧ ∀ b, b < w.heap.size → w'.heap[b]? = w.heap[b]? := by
  have hb : n * csz c ≤ 16777216 := Nat.le_of_ble_eq_true hb
  obtain ⟨hd, _, hte, hs0, hnp, hby0, ⟨i, hi, hby⟩, _⟩ := ht
  obtain ⟨i', z, hi', hs, hz, hzr⟩ := zero_of hte hnp
  have : i' = i := by rw [hi] at hi'; exact (Option.some.inj hi').symm
  subst this
  obtain ⟨cs, hvt, _, hcs⟩ := hzr w (Zn X.B ρ H true)
  have hzl : z.cells.size = csz c := by rw [← Array.length_toList, hcs, hvt.len hte.1]
  have hml := madeCells_list z.cells n
  rw [hzl, hcs] at hml
  have hpc : ∀ i d, pcode (.row c) [.ix i] = some d → (some (i * csz c, csz c) : Option (Nat × Nat)) = some (offs (.row c) [.ix i], csz d) := by
    intro i d hh; simp [pcode] at hh; subst hh; simp [offs]
  have hf0 : VT w (Zn X.B ρ H true) (.row c) (List.replicate n (dflt c)) (List.replicate n cs).flatten := Flat.replicate hvt n
  obtain ⟨x, fr, H', cs', hK, hfill, hv', hl, e1, h', hfz⟩ := fill_spec fz .ix (.row c) (.inr ⟨c, rfl, hte.1⟩) (fun i => some (i * csz c, csz c)) hpc ps vs _ true H _ _ h hp hf0 he
  have hfill' : Instr.fill (fun i => some (i * csz c, csz c)) (madeCells z.cells (n * csz c)) vs = some cs'.toArray := by
    rw [toArray_eta' _ hml]; exact hfill
  have hxl : x.length = n := by
    have h1 := Flat.length (fun x cs hx => VT.len (Z := Zn X.B ρ H' fr) hte.1 hx) hv'
    have h2 : (List.replicate n cs).flatten.length = n * csz c := by simp [hvt.len hte.1]
    have h3 : x.length * csz c = n * csz c := by rw [← h1, hl, h2]
    exact Nat.eq_of_mul_eq_mul_right hs0 h3
  have hn1 : n ≤ n * csz c := Nat.le_mul_of_pos_right n hs0
  have hcl : cs'.length = n * csz c := by rw [hl]; simp [hvt.len hte.1]
  obtain ⟨e2, h2, hv2⟩ := newRow_ (E := e) (c := c) (x := x) (fr := fr) (cs := cs') (cur := cs'.toArray) (cap := n) h' hte.1 hs0 hv' (by omega) (by simp [maxLen]; omega) (by simp [hcl]) (by rw [hxl, ← hcl]; simp)
  rw [hxl] at e2 h2 hv2
  refine ⟨_, _, ?_, x, fr, H', hK, hfz, e1, e1.trans e2, h2, hv2, fun b hb => Below.heap_alloc w _ b hb⟩
  have n1 : ¬ 16777216 < n * csz c := by omega
  by_cases h0 : n * csz c = 0
  · have : n = 0 := by omega
    subst this
    simp only [Nat.zero_mul, madeCells, Array.range_zero', Array.map_empty] at hfill'
    simp [Instr.buildSlice, run_underlying hd, run_sizeOf hi, hs, hfill', newRow, newObj, Array.range_zero']
    rfl
  · simp only [madeCells] at hfill'
    simp [Instr.buildSlice, run_underlying hd, run_sizeOf hi, hs, n1, h0, run_zeroValue hi hz, hfill', newRow, newObj]
    rfl

end
end Go.Eng
