/- The abstract evaluator: append, copy, min and max. -/
import Derived.Test.YtniabjhjpkkllaaEngG
import Derived.Lib.AppendZerosOnto
set_option linter.unusedSimpArgs false
namespace Go.Eng
open Go Go.RowKit

section
variable {P : Program} {X : Ctx} {ρ : Nat → Value} {H : List Blk} {w : World}

/-- One block is given up, another one laid, perhaps in its place. -/
theorem RH.moved (h : RH X ρ H w) {r : Nat} (hr : r < hlen H) (hlv : live (hk H r) = true) {w' : World} {b : Blk} {v : Value}
    (hos : w'.os = w.os) (htape : w'.tape = w.tape) (hout : w'.output = w.output) (hs : w.heap.size ≤ w'.heap.size)
    (hkeep : ∀ k, k < w.heap.size → blkOf (ρ r) ≠ some k → w'.heap[k]? = w.heap[k]?)
    (hv : ∀ k, blkOf v = some k → w.heap.size ≤ k ∨ blkOf (ρ r) = some k)
    (hbr : Ext X.B ρ H w (upd ρ (hlen H) v) (happ (hup H r .dead) [b]) w' → BR (hlen (happ (hup H r .dead) [b])) X.B (upd ρ (hlen H) v) (happ (hup H r .dead) [b]) w' b v) :
    Ext X.B ρ H w (upd ρ (hlen H) v) (happ (hup H r .dead) [b]) w' ∧ RH X (upd ρ (hlen H) v) (happ (hup H r .dead) [b]) w' := by
  have hl : hlen (happ (hup H r .dead) [b]) = hlen H + 1 := by simp [hlen_happ, hlen, hlen_hup]
  have hko : ∀ i, i < hlen H → i ≠ r → hk (happ (hup H r .dead) [b]) i = hk H i := fun i hi hne => by
    rw [hk_happ, hlen_hup, if_pos hi, hk_hup, if_neg (fun e => hne e.1)]
  have hkr : hk (happ (hup H r .dead) [b]) r = .dead := by rw [hk_happ, hlen_hup, if_pos hr, hk_hup, if_pos ⟨rfl, hr⟩]
  have hkn : hk (happ (hup H r .dead) [b]) (hlen H) = b := by rw [hk_happ, hlen_hup, if_neg (by omega), Nat.sub_self]; rfl
  have hdr := live_dead hlv
  have hownold : ∀ k, k < w.heap.size → Own (upd ρ (hlen H) v) (happ (hup H r .dead) [b]) k → Own ρ H k := by
    rintro k hk ⟨i, hi, hli, hbk⟩
    by_cases e : i = hlen H
    · subst e
      rw [upd_new] at hbk
      rcases hv k hbk with h1 | h1
      · omega
      · exact ⟨r, hr, hlv, h1⟩
    · have hi' : i < hlen H := by omega
      by_cases er : i = r
      · subst er; rw [hkr] at hli; simp [live] at hli
      · rw [hko i hi' er] at hli
        rw [upd_old _ _ hi'] at hbk
        exact ⟨i, hi', hli, hbk⟩
  have ext : Ext X.B ρ H w (upd ρ (hlen H) v) (happ (hup H r .dead) [b]) w' :=
    ⟨by omega, fun i hi => upd_old _ _ hi, hs, fun k hk ho => ⟨fun ho' => ho (hownold k hk ho'), hkeep k hk fun e => ho ⟨r, hr, hlv, e⟩⟩⟩
  have hold : ∀ i, i < hlen H → dead (hk (happ (hup H r .dead) [b]) i) = false → i ≠ r ∧ dead (hk H i) = false := by
    intro i hi hd
    by_cases er : i = r
    · subst er; rw [hkr] at hd; simp [dead] at hd
    · rw [hko i hi er] at hd; exact ⟨er, hd⟩
  refine ⟨ext, h.step ext hos htape hout ?_ ?_ ?_ hownold⟩
  · intro i hi
    by_cases e : i = hlen H
    · subst e; rw [hkn, upd_new]; exact hbr ext
    · have hi' : i < hlen H := by omega
      by_cases er : i = r
      · subst er; rw [hkr]; trivial
      · rw [hko i hi' er, upd_old _ _ hi']
        refine (h.blk i hi').ext ext fun k hd hb => hkeep k (h.blk_lt hi' hd hb) fun e2 => ?_
        exact er (h.inj i r k hi' hr hd hdr hb e2)
  · have key : ∀ i k, i < hlen H → i ≠ r → dead (hk H i) = false → blkOf (ρ i) = some k → blkOf v = some k → False := by
      intro i k hi hne hd hb hbv
      have := h.blk_lt hi hd hb
      rcases hv k hbv with h1 | h1
      · omega
      · exact hne (h.inj i r k hi hr hd hdr hb h1)
    intro i j k hi hj hdi hdj hbi hbj
    by_cases ei : i = hlen H <;> by_cases ej : j = hlen H
    · rw [ei, ej]
    · subst ei
      have hj' : j < hlen H := by omega
      rw [upd_new] at hbi; rw [upd_old _ _ hj'] at hbj
      obtain ⟨h1, h2⟩ := hold j hj' hdj
      exact (key j k hj' h1 h2 hbj hbi).elim
    · subst ej
      have hi' : i < hlen H := by omega
      rw [upd_new] at hbj; rw [upd_old _ _ hi'] at hbi
      obtain ⟨h1, h2⟩ := hold i hi' hdi
      exact (key i k hi' h1 h2 hbi hbj).elim
    · have hi' : i < hlen H := by omega
      have hj' : j < hlen H := by omega
      rw [upd_old _ _ hi'] at hbi; rw [upd_old _ _ hj'] at hbj
      exact h.inj i j k hi' hj' (hold i hi' hdi).2 (hold j hj' hdj).2 hbi hbj
  · intro i k hi hd hb
    by_cases e : i = hlen H
    · subst e; rw [upd_new] at hb
      rcases hv k hb with h1 | h1
      · exact h.bsz k (Nat.le_trans h.size h1)
      · exact h.new r k hr hdr h1
    · have hi' : i < hlen H := by omega
      rw [upd_old _ _ hi'] at hb
      exact h.new i k hi' (hold i hi' hd).2 hb

/-- append, as it runs. -/
theorem run_append_mine (t ty e : TypeId) (i : TypeInfo) (z : Value) (ht : P.underlying t = some (.slice e)) (hi : P.info? e = some i) (hz : i.zero = some z) (hzs : z.cells.size = i.size) (_hs0 : 0 < i.size)
    (v : Value) (n : Nat) (xs : List Value) (hown : w.ownsRow 0 e i.size v n xs) (a : Addr) (m c : Nat) (news : List Value) (hl : news.length = m * i.size)
    (hnews : ∀ j u, news[j]? = some u → w.cell? (a.add j) = some u) (h1 : ∀ u ∈ news, u.oneCell' = true) (h63 : n + m ≤ maxLen) (hbytes : (n + m) * i.bytes ≤ 140737488355328) (hm : 0 < m) :
    ∃ v' w', (Builtin.append_ #[t, t] ty #[v, .slice (some a) m c]).run P w = .ok v' w' ∧ w'.ownsRow 0 e i.size v' (n + m) (xs ++ news) ∧
      w'.os = w.os ∧ w'.tape = w.tape ∧ w'.output = w.output ∧ w.heap.size ≤ w'.heap.size ∧ (∀ k, k < w.heap.size → blkOf v ≠ some k → w'.heap[k]? = w.heap[k]?) ∧
      (∀ k, blkOf v' = some k → w.heap.size ≤ k ∨ blkOf v = some k) := by
  have hsmall : n + m ≤ 9223372036854775807 := by simp only [maxLen] at h63; omega
  have hlen : (xs ++ news).length = (n + m) * i.size := by rw [List.length_append, hown.1, hl, Nat.add_mul]
  have fresh_ : ∀ (old : Nat) (cur : Array Value), cur = (xs.toArray ++ news.toArray ++ Builtin.zeroCells z.cells (grownCap w (n + m) old e - (n + m))) →
      (w.drew.alloc (.cells cur e)).ownsRow 0 e i.size (.slice (some ⟨w.heap.size, 0, none⟩) (n + m) (grownCap w (n + m) old e)) (n + m) (xs ++ news) := by
    intro old cur hcur
    have hge := grownCap_ge w (n + m) old e
    refine ⟨hlen, .inr ⟨w.heap.size, _, _, rfl, Nat.zero_le _, heap_alloc_new w.drew _, hge, grownCap_le_maxLen w (n + m) old e h63, ?_, ?_⟩⟩
    · subst hcur
      have : (Builtin.zeroCells z.cells (grownCap w (n + m) old e - (n + m))).size = (grownCap w (n + m) old e - (n + m)) * i.size := by rw [size_zeroCells, hzs]
      simp only [Array.size_append, List.size_toArray, this]
      rw [hown.1, hl, ← Nat.add_mul, ← Nat.add_mul]
      congr 1; omega
    · subst hcur
      simp only [Array.toList_append]
      rw [← hlen]
      exact List.take_left
  have outer : ∀ (cur : Array Value) (k : Nat), k < w.heap.size → (w.drew.alloc (.cells cur e)).heap[k]? = w.heap[k]? := fun cur k hk => Below.heap_alloc w.drew _ k hk
  rcases hown.2 with ⟨rfl, rfl⟩ | ⟨g, cap, cur, rfl, _, hg, hnc, hcm, hcs, htake⟩
  · have hx : xs = [] := List.eq_nil_of_length_eq_zero (by simpa using hown.1)
    subst hx
    have hr := run_append_nil (P := P) w t ty e i z ht hi hz a m c news hl hnews hm (by omega) (by have := hbytes; rw [Nat.zero_add] at this; omega)
    have hf := fresh_ 0 _ rfl
    simp only [Nat.zero_add, List.nil_append, Array.empty_append] at hf ⊢
    exact ⟨_, _, hr, hf, rfl, rfl, rfl, by simp, fun k hk _ => outer _ k hk, fun k hk => .inl (by simp [blkOf] at hk; omega)⟩
  · by_cases hroom : n + m ≤ cap
    · have hfit : n * i.size + news.length ≤ cur.size := by rw [hl, hcs, ← Nat.add_mul]; exact Nat.mul_le_mul_right _ hroom
      have hr := run_append_room (P := P) w t ty e i ht hi g n cap cur hg a m c news hl hnews h1 hroom hfit
      refine ⟨_, _, hr, ⟨hlen, .inr ⟨g, cap, _, rfl, Nat.zero_le _, setRow_heap w g cur _ e _ hg, hroom, hcm, ?_, ?_⟩⟩, rfl, rfl, rfl, by simp, fun k _ hk => setRow_other w g k _ (fun e => hk (by simp [blkOf, e])), fun k hk => .inr hk⟩
      · simp only [List.size_toArray, List.length_append, List.length_take, List.length_drop, Array.length_toList]
        omega
      · rw [htake, ← hlen]; exact List.take_left
    · have holds : ∀ j u, xs[j]? = some u → w.cell? ((⟨g, 0, none⟩ : Addr).add j) = some u := fun j u hj => by
        rw [add_at]; exact (own_mem hown (b := g) rfl).1 j u hj
      have hr := run_append_grow (P := P) w t ty e i z ht hi hz ⟨g, 0, none⟩ n cap xs hown.1 holds a m c news hl hnews (by omega) (by omega) (growslice_fits (by omega) hbytes)
      exact ⟨_, _, hr, fresh_ cap _ rfl, rfl, rfl, rfl, by simp, fun k hk _ => outer _ k hk, fun k hk => .inl (by simp [blkOf] at hk; omega)⟩

/-- append of nothing. -/
theorem run_append_none (t ty e : TypeId) (i : TypeInfo) (ht : P.underlying t = some (.slice e)) (hi : P.info? e = some i) (b a : Option Addr) (n cap c : Nat) (hn : n ≤ cap) :
    (Builtin.append_ #[t, t] ty #[.slice b n cap, .slice a 0 c]).run P w = .ok (.slice b n cap) w := by
  cases a <;> cases b <;> simp [Builtin.append_, run_underlying ht, run_sizeOf hi, Builtin.lenOf, Builtin.firstCells, hn, loadCells, loadCellsFrom, storeCells]

theorem Mem.add {b o : Nat} {cs : List Value} (h : Mem w b o cs) : ∀ j u, cs[j]? = some u → w.cell? ((⟨b, o, none⟩ : Addr).add j) = some u := fun j u hj => by rw [add_at]; exact h j u hj

theorem SlOf.cap {B : Bz} {fr : Bool} {c : Cd} {ys : List (El c)} {u : Value} (h : SlOf B ρ H w fr c ys u) : ∃ a cap, u = .slice a ys.length cap := let ⟨a, cap, e, _⟩ := h; ⟨a, cap, e⟩

theorem evAppN_spec {hd : Bool} (hhd : hd = false) (h : RH X ρ H w) {ty ty' : Ty} {t t' rt : TypeId} (ht : TyOK P t ty) (ht' : TyOK P t' ty') {s x : AV} {u v : Value} (hs : VH X ρ H w s u) (hx : VH X ρ H w x v) {K : AV → List Blk → Prop} (he : evAppN H s x ty ty' K) :
    ∃ r w', (Builtin.append_ #[t, t'] rt #[u, v]).run P w = .ok r w' ∧ After X ρ H w hd K r w' := by
  subst hhd
  unfold evAppN at he
  split at he
  · rename_i e c by_ kt fr k n
    obtain ⟨n, rfl⟩ : ∃ n' : Int, n' = n := ⟨n, rfl⟩
    obtain ⟨hbd, hK⟩ := Br_tf he
    have hbd : (decide ((0 : Int) < n) && decide ((n : Int) * by_ ≤ 140737488355328)) = true := hbd
    simp only [Bool.and_eq_true, decide_eq_true_eq] at hbd
    obtain ⟨hn0, hnb⟩ := hbd
    obtain ⟨hd, _, hte, hs0, hnp, hby0, ⟨i, hi, hby⟩, _⟩ := ht
    have htn : P.underlying t' = some (.int kt) := ht'.2
    obtain ⟨i', z, hi', hsz, hz, hzr⟩ := zero_of hte hnp
    have : i' = i := by rw [hi] at hi'; exact (Option.some.inj hi').symm
    subst this
    obtain ⟨cs, hvt, _, hcs⟩ := hzr w (Zn X.B ρ H true)
    simp only [VH, VR] at hs
    subst hs
    have hv := VR_int hx
    subst hv
    obtain ⟨m, rfl⟩ : ∃ m : Nat, n = (m : Int) := ⟨(n : Int).toNat, (Int.toNat_of_nonneg (Int.le_of_lt hn0)).symm⟩
    have hm0 : 0 < m := by omega
    have hmb : m * by_ ≤ 140737488355328 := by rw [← Int.natCast_mul] at hnb; omega
    have hm1 : m ≤ m * by_ := Nat.le_mul_of_pos_right _ hby0
    have hrun := Lib.run_append_grow_zeros (P := P) w t t' rt e i' z k kt hd htn hi hz none 0 0 [] (run_firstCells_none w.drew i'.size 0 0 0) m hm0 (by rw [hsz]; exact hs0) (by omega) (by omega) (by rw [hby]; omega)
      (growslice_fits (by omega) (by rw [hby, Nat.zero_add]; exact hmb))
    simp only [Nat.zero_add, Nat.sub_zero] at hrun
    have hG := grownCap_ge w m 0 e
    have hG2 := grownCap_le_maxLen w m 0 e (by unfold maxLen; omega)
    generalize grownCap w m 0 e = G at *
    have hzl : z.cells.size = csz c := by rw [← Array.length_toList, hcs, hvt.len hte.1]
    have hzc : ∀ j, (Builtin.zeroCells z.cells j).toList = (List.replicate j cs).flatten := fun j => by
      have := madeCells_list z.cells j
      rw [hcs] at this
      exact this
    have hcl : cs.length = csz c := hvt.len hte.1
    generalize hcur : #[] ++ Builtin.zeroCells z.cells m ++ Builtin.zeroCells z.cells (G - m) = cur at hrun
    have hcur2 : cur.toList = (List.replicate m cs).flatten ++ (List.replicate (G - m) cs).flatten := by
      rw [← hcur]; simp only [Array.toList_append, hzc]; simp
    have hfl : ∀ j, ((List.replicate j cs).flatten).length = j * csz c := fun j => by simp [List.length_flatten, hcl]
    obtain ⟨e1, h1⟩ := h.push (w' := w.drew.alloc (.cells cur e)) (b := .val true true e (.row c) (List.replicate m (dflt c))) (v := .slice (some ⟨w.heap.size, 0, none⟩) m G) rfl rfl rfl (by rw [World.size_alloc]; exact Nat.le_succ _)
      (fun k hk => Below.heap_alloc w.drew _ k hk) (fun k hk => by simp [blkOf] at hk; omega)
      (fun e1 => ⟨hte.1, hs0, (List.replicate m cs).flatten, ⟨by rw [hfl]; simp, .inr ⟨w.heap.size, G, cur, by simp, Nat.zero_le _, heap_alloc_new w.drew _, by simpa using hG, hG2, by rw [← Array.length_toList, hcur2, List.length_append, hfl, hfl, ← Nat.add_mul]; congr 1; omega, by
        rw [hcur2, List.take_append_of_le_length (by rw [hfl]; simp), List.take_of_length_le (by rw [hfl]; simp)]⟩⟩, Flat.replicate (VT.ext e1 hvt) m⟩)
    exact ⟨_, _, hrun, _, _, _, by simpa using hK, e1, h1, by simp only [VH, VR]; exact ⟨by simp [hlen_happ, hlen], by rw [upd_new]⟩, fun hh => by simp at hh⟩
  · exact he.elim

theorem evTrunc_spec {hd : Bool} (hhd : hd = false) (h : RH X ρ H w) {x : AV} {u : Value} {ty : Ty} {t : TypeId} (ht : TyOK P t ty) {lo hi : Option AV} {ul uh : Option Value} {K : AV → List Blk → Prop} (hv : VH X ρ H w x u) (hl : optR X ρ H w lo ul) (hh : optR X ρ H w hi uh)
    (he : evTrunc H x ty lo hi K) : ∃ r w', (Instr.sliceAt t u ul uh none).run P w = .ok r w' ∧ After X ρ H w hd K r w' := by
  subst hhd
  unfold evTrunc at he
  split at he
  · rename_i fr k n e d by_
    obtain ⟨hd, _, hte, _⟩ := ht
    obtain ⟨hn, i, dd, hi', hd', hs, _⟩ := hte
    obtain ⟨h0, hK⟩ := Br_tf he
    have h0 : (n : Int) = 0 := of_decide_eq_true h0
    have h1 : ul = none := by cases ul with | none => rfl | some _ => exact hl.elim
    subst h1
    cases uh with
    | none => exact hh.elim
    | some uh =>
      have := VR_int (n := hlen H) (ρ := ρ) (H := H) (w := w) (B := X.B) hh
      subst this
      simp only [VH, VR] at hv
      subst hv
      refine ⟨.slice none 0 0, w, ?_, After.same h hK (by simp only [VH, VR])⟩
      rw [h0]
      simp [Instr.sliceAt, run_underlying hd, Instr.slice, Instr.sliceBounds, Instr.sliceBound, asIntOf, run_sizeOf hi']
  · rename_i r fr k n e d by_
    obtain ⟨hd, _, hte, _⟩ := ht
    obtain ⟨hn, i, dd, hi', hd', hs, _⟩ := hte
    split at he
    · rename_i fr2 E c xs hb
      obtain ⟨hbd, hK⟩ := Br_tf he
      simp only [Bool.and_eq_true, decide_eq_true_eq] at hbd
      obtain ⟨h0, hcd⟩ := hbd
      subst hcd
      have h1 : ul = none := by cases ul with | none => rfl | some _ => exact hl.elim
      subst h1
      cases uh with
      | none => exact hh.elim
      | some uh =>
        have := VR_int (n := hlen H) (ρ := ρ) (H := H) (w := w) (B := X.B) hh
        subst this
        have hr := h.lt hb rfl
        have hlv : live (hk H r) = true := by rw [hb]; rfl
        obtain ⟨_, hs0, cells, hown, hf⟩ := h.row hr hb
        simp only [VH, VR] at hv
        obtain ⟨hrl, rfl⟩ := hv
        rcases hown.2 with ⟨e0, hx0⟩ | ⟨g, cap, cur, e0, hg, hheap, hle, hmx, hcs, htk⟩
        · obtain ⟨e1, h1⟩ := h.moved hr hlv (w' := w) (b := .val true fr2 E (.row c) []) (v := ρ r) rfl rfl rfl (Nat.le_refl _) (fun _ _ _ => rfl) (fun k hk => .inr hk)
            (fun e1 => ⟨hn, hs0, [], by rw [e0]; exact World.ownsRow_nil w 0 E _, rfl⟩)
          refine ⟨ρ r, w, ?_, _, _, _, hK, e1, h1, by simp only [VH, VR]; exact ⟨by simp [hlen_happ, hlen, hlen_hup], by rw [upd_new]⟩, fun hh => by simp at hh⟩
          rw [e0, h0]
          simp [Instr.sliceAt, run_underlying hd, Instr.slice, Instr.sliceBounds, Instr.sliceBound, asIntOf, run_sizeOf hi']
        · obtain ⟨e1, h1⟩ := h.moved hr hlv (w' := w) (b := .val true fr2 E (.row c) []) (v := .slice (some ⟨g, 0, none⟩) 0 cap) rfl rfl rfl (Nat.le_refl _) (fun _ _ _ => rfl) (fun k hk => .inr (by rw [e0]; simpa [blkOf] using hk))
            (fun e1 => ⟨hn, hs0, [], ⟨by simp, .inr ⟨g, cap, cur, rfl, hg, hheap, Nat.zero_le _, hmx, hcs, by simp⟩⟩, rfl⟩)
          refine ⟨.slice (some ⟨g, 0, none⟩) 0 cap, w, ?_, _, _, _, hK, e1, h1, by simp only [VH, VR]; exact ⟨by simp [hlen_happ, hlen, hlen_hup], by rw [upd_new]⟩, fun hh => by simp at hh⟩
          rw [e0, h0]
          by_cases hc0 : cap = 0
          · simp [Instr.sliceAt, run_underlying hd, Instr.slice, Instr.sliceBounds, Instr.sliceBound, asIntOf, run_sizeOf hi', hc0]
          · simp [Instr.sliceAt, run_underlying hd, Instr.slice, Instr.sliceBounds, Instr.sliceBound, asIntOf, run_sizeOf hi', hc0, Addr.add]
    · exact he.elim
  · exact he.elim

theorem evAppend_spec (h : RH X ρ H w) {ty : Ty} {t rt : TypeId} (ht : TyOK P t ty) {s x : AV} {u v : Value} (hs : VH X ρ H w s u) (hx : VH X ρ H w x v) {K : AV → List Blk → Prop} (he : evAppend H s x ty K) :
    ∃ r w', (Builtin.append_ #[t, t] rt #[u, v]).run P w = .ok r w' ∧ After X ρ H w false K r w' := by
  unfold evAppend at he
  split at he
  · rename_i e c by_
    obtain ⟨hd, _, hte, hs0, hnp, hby0, ⟨i, hi, hby⟩, _⟩ := ht
    obtain ⟨i', z, hi', hsz, hz, hzr⟩ := zero_of hte hnp
    have : i' = i := by rw [hi] at hi'; exact (Option.some.inj hi').symm
    subst this
    have hzl : z.cells.size = csz c := by
      obtain ⟨cs, hvt, _, hcs⟩ := hzr w (Zn X.B ρ H true)
      rw [← Array.length_toList, hcs, hvt.len hte.1]
    have hn := hte.1
    have hlenc : ∀ {fr : Bool} (x : El c) cs, VT w (Zn X.B ρ H fr) c x cs → cs.length = csz c := fun x cs hx => hx.len hn
    split at he
    · -- onto nothing
      simp only [VH, VR] at hs
      subst hs
      obtain ⟨fr, ys, he, hsl⟩ := elems_spec h hx he
      replace he := Br_tf he
      obtain ⟨hb, hK⟩ := he
      have hb := of_decide_eq_true hb
      obtain ⟨a, cap, rfl, hcap, hr⟩ := hsl
      have hm63 : ys.length ≤ maxLen := by
        have : ys.length ≤ ys.length * by_ := Nat.le_mul_of_pos_right _ hby0
        simp only [maxLen]; omega
      rcases hr with rfl | ⟨b, o, cells, rfl, hlt, hm, hf⟩
      · obtain ⟨e1, h1⟩ := h.push (w' := w) (b := .val true fr e (.row c) []) (v := .slice none 0 0) rfl rfl rfl (Nat.le_refl _) (fun _ _ => rfl) (by intro k hk; simp [blkOf] at hk)
          (fun _ => ⟨hn, hs0, [], World.ownsRow_nil w 0 e _, rfl⟩)
        exact ⟨_, _, run_append_none t rt e i' hd hi none a 0 0 cap (Nat.le_refl _), _, _, _, hK, e1, h1, by simp only [VH, VR]; exact ⟨by simp [hlen_happ, hlen], by rw [upd_new]⟩, fun hh => by simp at hh⟩
      · by_cases h0 : ys = []
        · subst h0
          obtain ⟨e1, h1⟩ := h.push (w' := w) (b := .val true fr e (.row c) []) (v := .slice none 0 0) rfl rfl rfl (Nat.le_refl _) (fun _ _ => rfl) (by intro k hk; simp [blkOf] at hk)
            (fun _ => ⟨hn, hs0, [], World.ownsRow_nil w 0 e _, rfl⟩)
          exact ⟨_, _, run_append_none t rt e i' hd hi none _ 0 0 cap (Nat.le_refl _), _, _, _, hK, e1, h1, by simp only [VH, VR]; exact ⟨by simp [hlen_happ, hlen], by rw [upd_new]⟩, fun hh => by simp at hh⟩
        · have hyl : 0 < ys.length := List.length_pos_iff.2 h0
          have hfl := Flat.length hlenc hf
          obtain ⟨v', w', hrun, hown', k1, k2, k3, k4, k5, k6⟩ := run_append_mine (P := P) (w := w) t rt e i' z hd hi hz (by rw [hzl, hsz]) (by rw [hsz]; exact hs0) (.slice none 0 0) 0 [] (World.ownsRow_nil w 0 e _)
            ⟨b, o, none⟩ ys.length cap cells (by rw [hsz]; exact hfl) hm.add (Flat.one (fun _ _ hx => VT.one hx) hf) (by simpa using hm63) (by rw [hby]; simpa using hb) hyl
          simp only [Nat.zero_add, List.nil_append] at hown'
          obtain ⟨e1, h1⟩ := h.push (w' := w') (b := .val true fr e (.row c) ys) (v := v') k1 k2 k3 k4 (fun k hk => k5 k hk (by simp [blkOf])) (fun k hk => (k6 k hk).resolve_right (by simp [blkOf]))
            (fun e1 => ⟨hn, hs0, cells, by rw [← hsz]; exact hown', hf.mono fun _ _ hx => VT.ext e1 hx⟩)
          exact ⟨v', w', hrun, _, _, _, hK, e1, h1, by simp only [VH, VR]; exact ⟨by simp [hlen_happ, hlen], by rw [upd_new]⟩, fun hh => by simp at hh⟩
    · rename_i r
      split at he
      · rename_i fr E c' xs hb
        replace he := Br_tf he
        obtain ⟨hE, he⟩ := he
        have hE := of_decide_eq_true hE
        subst hE
        obtain ⟨ec, he⟩ := asC_spec he
        cases ec
        obtain ⟨fr', ys, he, hsl⟩ := elems_spec h hx he
        replace he := Br_tf he
        obtain ⟨hbd, hK⟩ := he
        have hbd : (xs.length + ys.length) * by_ ≤ 140737488355328 := of_decide_eq_true hbd
        have hr := h.lt hb rfl
        have hlv : live (hk H r) = true := by rw [hb]; rfl
        obtain ⟨_, _, cells0, hown, hf0⟩ := h.row hr hb
        simp only [VH, VR] at hs
        obtain ⟨_, rfl⟩ := hs
        have hm63 : xs.length + ys.length ≤ maxLen := by
          have : xs.length + ys.length ≤ (xs.length + ys.length) * by_ := Nat.le_mul_of_pos_right _ hby0
          simp only [maxLen]; omega
        obtain ⟨a, cap, rfl, hcap, hrr⟩ := hsl
        have hw0 : ∀ (y : El c) cs, VT w (Zn X.B ρ H fr) c y cs → VT w (Zn X.B ρ H (fr && fr')) c y cs := fun _ _ hh => VT_fr (by cases fr <;> simp) hh
        have none_case : ys = [] → ∃ r_1 w', (Builtin.append_ #[t, t] rt #[ρ r, .slice a ys.length cap]).run P w = .ok r_1 w' ∧ After X ρ H w false K r_1 w' := by
          intro h0
          subst h0
          obtain ⟨b0, cap0, eρ, hc0, _⟩ := own_sl (X := X) (H := H) hown hf0
          have hrun := run_append_none (P := P) (w := w) t rt E i' hd hi b0 a xs.length cap0 cap hc0
          rw [← eρ] at hrun
          obtain ⟨e1, h1⟩ := h.moved hr hlv (w' := w) (b := .val true (fr && fr') E (.row c) (xs ++ [])) (v := ρ r) rfl rfl rfl (Nat.le_refl _) (fun _ _ _ => rfl) (fun k hk => .inr hk)
            (fun e1 => ⟨hn, hs0, cells0, by simpa using hown, by simpa using (hf0.mono hw0).mono fun _ _ hx => VT.ext e1 hx⟩)
          exact ⟨_, _, hrun, _, _, _, hK, e1, h1, by simp only [VH, VR]; exact ⟨by simp [hlen_happ, hlen, hlen_hup], by rw [upd_new]⟩, fun hh => by simp at hh⟩
        rcases hrr with h0 | ⟨b, o, cells, rfl, hlt, hm, hf⟩
        · exact none_case h0
        · by_cases h0 : ys = []
          · exact none_case h0
          · have hyl : 0 < ys.length := List.length_pos_iff.2 h0
            have hfl := Flat.length hlenc hf
            obtain ⟨v', w', hrun, hown', k1, k2, k3, k4, k5, k6⟩ := run_append_mine (P := P) (w := w) t rt E i' z hd hi hz (by rw [hzl, hsz]) (by rw [hsz]; exact hs0) (ρ r) xs.length cells0 (by rw [hsz]; exact hown)
              ⟨b, o, none⟩ ys.length cap cells (by rw [hsz]; exact hfl) hm.add (Flat.one (fun _ _ hx => VT.one hx) hf) hm63 (by rw [hby]; exact hbd) hyl
            have hw1 : ∀ (y : El c) cs, VT w (Zn X.B ρ H fr') c y cs → VT w (Zn X.B ρ H (fr && fr')) c y cs := fun _ _ hh => VT_fr (by cases fr <;> simp) hh
            obtain ⟨e1, h1⟩ := h.moved hr hlv (w' := w') (b := .val true (fr && fr') E (.row c) (xs ++ ys)) (v := v') k1 k2 k3 k4 k5 k6
              (fun e1 => ⟨hn, hs0, cells0 ++ cells, by rw [List.length_append, ← hsz]; exact hown', (Flat.append (hf0.mono hw0) (hf.mono hw1)).mono fun _ _ hx => VT.ext e1 hx⟩)
            exact ⟨v', w', hrun, _, _, _, hK, e1, h1, by simp only [VH, VR]; exact ⟨by simp [hlen_happ, hlen, hlen_hup], by rw [upd_new]⟩, fun hh => by simp at hh⟩
      · exact he.elim
    · exact he.elim
  · exact he.elim


theorem splice_nil {α : Type} (xs : List α) (lo : Nat) : splice xs lo [] = xs := by simp [splice]
theorem splice_length {α : Type} (xs ys : List α) (lo : Nat) (h : lo + ys.length ≤ xs.length) : (splice xs lo ys).length = xs.length := by simp [splice]; omega

/-- copy onto a part of an own row. -/
theorem copy_core (h : RH X ρ H w) {r lo dl dcap : Nat} {fr fr' : Bool} {E e t st rt : TypeId} {i : TypeInfo} {c : Cd} {xs ys : List (El c)} (hd : P.underlying t = some (.slice e)) (hi : P.info? e = some i) (hsz : i.size = csz c)
    (hb : hk H r = .val true fr E (.row c) xs) {base : Option Addr} (hbase : dl = 0 ∨ ∃ g, blkOf (ρ r) = some g ∧ base = some ⟨g, lo * csz c, none⟩) (hle : lo + dl ≤ xs.length) {v : Value} (hsl : SlOf X.B ρ H w fr' c ys v) :
    ∃ w', (Builtin.copy_ #[t, st] rt #[.slice base dl dcap, v]).run P w = .ok (goInt (min ys.length dl : Nat)) w' ∧
      Ext X.B ρ H w ρ (hup H r (.val true (fr && fr') E (.row c) (splice xs lo (ys.take dl)))) w' ∧ RH X ρ (hup H r (.val true (fr && fr') E (.row c) (splice xs lo (ys.take dl)))) w' := by
  have hr := h.lt hb rfl
  have hlv : live (hk H r) = true := by rw [hb]; rfl
  obtain ⟨hn, hs0, cells0, hown, hf0⟩ := h.row hr hb
  have hlenc : ∀ {fr : Bool} (x : El c) cs, VT w (Zn X.B ρ H fr) c x cs → cs.length = csz c := fun x cs hx => hx.len hn
  have hw0 : ∀ (y : El c) cs, VT w (Zn X.B ρ H fr) c y cs → VT w (Zn X.B ρ H (fr && fr')) c y cs := fun _ _ hh => VT_fr (by cases fr <;> simp) hh
  have hw1 : ∀ (y : El c) cs, VT w (Zn X.B ρ H fr') c y cs → VT w (Zn X.B ρ H (fr && fr')) c y cs := fun _ _ hh => VT_fr (by cases fr <;> simp) hh
  obtain ⟨a, cap, rfl, hcap, hrr⟩ := hsl
  by_cases h0 : min ys.length dl = 0
  · have hz : ys.take dl = [] := by
      apply List.eq_nil_of_length_eq_zero; rw [List.length_take]; omega
    rw [hz, splice_nil]
    refine ⟨w, ?_, ?_⟩
    · have h0' : Nat.min ys.length dl = 0 := h0
      rw [h0]
      cases a <;> cases base <;> simp [Builtin.copy_, run_underlying hd, run_sizeOf hi, Builtin.lenOf, Builtin.firstCells, h0', loadCells, loadCellsFrom, storeCells]
    · exact h.change (b := .val true (fr && fr') E (.row c) xs) hr rfl rfl rfl (Nat.le_refl _) (fun _ _ => .inl rfl) (fun _ => hlv) (fun _ => live_dead hlv) (fun _ _ _ => rfl)
        (fun e => ⟨hn, hs0, cells0, hown, (hf0.mono hw0).mono fun _ _ hx => VT.ext e hx⟩)
  · have hy : ys ≠ [] := by intro e; subst e; simp at h0
    obtain ⟨b, o, cells, rfl, hlt, hm, hf⟩ := hrr.resolve_left hy
    obtain ⟨g, hg, rfl⟩ := hbase.resolve_left (by omega)
    have hfl := Flat.length hlenc hf
    have hfl0 := Flat.length hlenc hf0
    have hnm : min ys.length dl * csz c ≤ cells.length := by rw [hfl]; exact Nat.mul_le_mul_right _ (Nat.min_le_left _ _)
    have hft : Flat (VT w (Zn X.B ρ H fr') c) (ys.take dl) (cells.take (min ys.length dl * csz c)) := by
      have := Flat.take hlenc (min ys.length dl) hf
      rwa [show ys.take (min ys.length dl) = ys.take dl by
        rcases Nat.le_total dl ys.length with hh | hh
        · rw [Nat.min_eq_right hh]
        · rw [Nat.min_eq_left hh, List.take_of_length_le (Nat.le_refl _), List.take_of_length_le hh]] at this
    have hdl : (cells.take (min ys.length dl * csz c)).length = min ys.length dl * csz c := by simp; omega
    have hload := run_loadCells_list (P := P) w ⟨b, o, none⟩ (cells.take (min ys.length dl * csz c)) (fun j u hj => by rw [add_at]; exact hm.upto _ j u hj)
    rw [hdl] at hload
    have hle2 : lo * csz c + min ys.length dl * csz c ≤ cells0.length := by
      rw [hfl0, ← Nat.add_mul]; exact Nat.mul_le_mul_right _ (by omega)
    have hlt2 : (ys.take dl).length = min ys.length dl := by rw [List.length_take]; omega
    obtain ⟨w', hst, e1, h1⟩ := h.write_row P (fr' := fr && fr') hb hg (z := splice xs lo (ys.take dl)) (splice_length _ _ _ (by omega)) (off := lo * csz c) (ds := cells.take (min ys.length dl * csz c))
      (fun u hu => Flat.one (fun _ _ hx => VT.one hx) hf u (List.mem_of_mem_take hu)) hown (by rw [hdl]; exact hle2) (by
        rw [hdl, ← Nat.add_mul]
        unfold splice
        rw [hlt2]
        exact Flat.append (Flat.append (Flat.take hlenc lo (hf0.mono hw0)) (hft.mono hw1)) (Flat.drop hlenc (lo + min ys.length dl) (hf0.mono hw0)))
    refine ⟨w', ?_, e1, h1⟩
    have hmin : Nat.min ys.length dl = min ys.length dl := rfl
    simp [Builtin.copy_, run_underlying hd, run_sizeOf hi, hsz, Builtin.lenOf, Builtin.firstCells, hmin, hload, hst]

theorem evCopy_spec (h : RH X ρ H w) {ty : Ty} {t st rt : TypeId} (ht : TyOK P t ty) {d s : AV} {u v : Value} (hdv : VH X ρ H w d u) (hs : VH X ρ H w s v) {K : AV → List Blk → Prop} (he : evCopy H d s ty K) :
    ∃ r w', (Builtin.copy_ #[t, st] rt #[u, v]).run P w = .ok r w' ∧ After X ρ H w false K r w' := by
  unfold evCopy at he
  split at he
  · rename_i e c by_
    obtain ⟨hd, _, ⟨hn, i, dd, hi, _, hsz, _⟩, _⟩ := ht
    split at he
    · rename_i r
      split at he
      · rename_i fr E c' xs hb
        obtain ⟨ec, he⟩ := asC_spec he
        cases ec
        obtain ⟨fr', ys, hK, hsl⟩ := elems_spec h hs he
        have hr := h.lt hb rfl
        obtain ⟨_, _, cells0, hown, hf0⟩ := h.row hr hb
        obtain ⟨b0, cap0, eρ, _⟩ := own_sl (X := X) (H := H) hown hf0
        simp only [VH, VR] at hdv
        obtain ⟨_, rfl⟩ := hdv
        have hbase : xs.length = 0 ∨ ∃ g, blkOf (ρ r) = some g ∧ b0 = some ⟨g, 0 * csz c, none⟩ := by
          rcases hown.2 with ⟨_, h0⟩ | ⟨g, cap, cur, e0, _⟩
          · exact .inl h0
          · rw [e0] at eρ
            simp only [Value.slice.injEq] at eρ
            exact .inr ⟨g, by rw [e0]; rfl, by rw [← eρ.1]; simp⟩
        obtain ⟨w', hrun, e1, h1⟩ := copy_core (P := P) (st := st) (rt := rt) (dcap := cap0) h hd hi hsz hb (lo := 0) (dl := xs.length) hbase (by omega) hsl
        rw [← eρ] at hrun
        exact ⟨_, _, hrun, _, _, _, hK, e1, h1, VR_bI _ _, fun hh => by simp at hh⟩
      · exact he.elim
    · rename_i r c'' lo hi'
      split at he
      · rename_i fr E c' xs hb
        replace he := Br_tf he
        obtain ⟨hcd, he⟩ := he
        simp only [Bool.and_eq_true, decide_eq_true_eq] at hcd
        obtain ⟨⟨rfl, h1⟩, h2⟩ := hcd
        obtain ⟨ec, he⟩ := asC_spec he
        cases ec
        obtain ⟨fr', ys, hK, hsl⟩ := elems_spec h hs he
        simp only [VH, VR] at hdv
        obtain ⟨_, a, cap, rfl, _, ha⟩ := hdv
        obtain ⟨w', hrun, e1, h1⟩ := copy_core (P := P) (st := st) (rt := rt) (dcap := cap) h hd hi hsz hb (lo := lo) (dl := hi' - lo) ha (by omega) hsl
        exact ⟨_, _, hrun, _, _, _, hK, e1, h1, VR_bI _ _, fun hh => by simp at hh⟩
      · exact he.elim
    · exact he.elim
  · exact he.elim

/-! ### min, max -/

theorem iall_spec {f : Int → Int → Int} {g : Value → Value → Sem Value} {k : IntKind} (hg : ∀ x y, (g (.int k x) (.int k y)).run P w = .ok (.int k (f x y)) w) : ∀ (vs : List AV) (us : List Value) (a : Int) (K : Int → Prop), VRs (hlen H) X.B ρ H w vs us → iall f k a vs K →
    ∃ x, K x ∧ (us.foldlM g (.int k a)).run P w = .ok (.int k x) w
  | [], us, a, K, hv, he => by
    simp only [VRs] at hv; subst hv
    exact ⟨a, he, by simp⟩
  | v :: vs, us, a, K, hv, he => by
    simp only [VRs] at hv
    obtain ⟨u, r, rfl, h1, h2⟩ := hv
    unfold iall at he
    split at he
    · rename_i e; simp at e
    · rename_i fr k' b vs' e
      simp only [List.cons.injEq] at e
      obtain ⟨rfl, rfl⟩ := e
      replace he := Br_tf he
      obtain ⟨hk, he⟩ := he
      have hk := of_decide_eq_true hk
      subst hk
      have := VR_int h1
      subst this
      obtain ⟨x, hK, hx⟩ := iall_spec hg vs r _ _ h2 he
      exact ⟨x, hK, by simp [List.foldlM_cons, hg, hx]⟩
    · exact he.elim

theorem evMax_spec {t : Array TypeId} {rt : TypeId} {vs : List AV} {us : List Value} {K : AV → Prop} (hv : VRs (hlen H) X.B ρ H w vs us) (he : evMM imax vs K) : ∃ r a, (Builtin.max_ t rt us.toArray).run P w = .ok r w ∧ K a ∧ VH X ρ H w a r := by
  unfold evMM at he
  split at he
  · simp only [VRs] at hv
    obtain ⟨u, r, rfl, h1, h2⟩ := hv
    have := VR_int h1
    subst this
    obtain ⟨x, hK, hx⟩ := iall_spec (P := P) (g := Builtin.max2) (f := imax) (fun x y => by simp [Builtin.max2, imax]) _ _ _ _ h2 he
    exact ⟨_, _, by simp [Builtin.max_, hx], hK, VR_bI _ _⟩
  · exact he.elim

theorem evMin_spec {t : Array TypeId} {rt : TypeId} {vs : List AV} {us : List Value} {K : AV → Prop} (hv : VRs (hlen H) X.B ρ H w vs us) (he : evMM imin vs K) : ∃ r a, (Builtin.min_ t rt us.toArray).run P w = .ok r w ∧ K a ∧ VH X ρ H w a r := by
  unfold evMM at he
  split at he
  · simp only [VRs] at hv
    obtain ⟨u, r, rfl, h1, h2⟩ := hv
    have := VR_int h1
    subst this
    obtain ⟨x, hK, hx⟩ := iall_spec (P := P) (g := Builtin.min2) (f := imin) (fun x y => by simp [Builtin.min2, imin]) _ _ _ _ h2 he
    exact ⟨_, _, by simp [Builtin.min_, hx], hK, VR_bI _ _⟩
  · exact he.elim

end
end Go.Eng
