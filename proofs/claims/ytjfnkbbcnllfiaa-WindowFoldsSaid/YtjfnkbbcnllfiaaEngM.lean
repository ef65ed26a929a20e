/- The abstract evaluator: the law of regions whose order is open. -/
import Derived.Test.YtjfnkbbcnllfiaaEngS
namespace Go.Eng
open Go Go.RowKit

def pairsB (ops : Array Oper) (n : Nat) : Bool :=
  (List.range n).all fun i => (List.range i).all fun j => (match ops[j]?, ops[i]? with
    | some x, some y => x.apart ops y
    | _, _ => false) || Region.waitsFor .any ops i j
def edgesB (ops : Array Oper) : Bool :=
  (List.range ops.size).all fun i => match ops[i]? with
    | some o => o.after.all fun e => !Region.binds .any e || decide (e.on < i)
    | none => true
def listedHead (n size : Nat) : Array Bool := (Array.range size).map fun i => decide (i < n)

/-- What a region whose order is open must be like. -/
def drawOK (ops : Array Oper) : Bool :=
  let n := headLen ops.toList
  edgesB ops && pairsB ops n && (Nat.beq n ops.size || (Region.sinkB .any ops n && Region.chainB .any ops n && Region.seqB .any ops (ops.size - n) n (listedHead n ops.size)))

theorem takeL_eq : ∀ (n : Nat) (l : List Oper), takeL n l = l.take n
  | 0, l => by simp [takeL]
  | n + 1, [] => by simp [takeL]
  | n + 1, o :: l => by simp [takeL, takeL_eq n l]
theorem dropL_eq : ∀ (n : Nat) (l : List Oper), dropL n l = l.drop n
  | 0, l => by simp [dropL]
  | n + 1, [] => by simp [dropL]
  | n + 1, o :: l => by simp [dropL, dropL_eq n l]
theorem headLen_le : ∀ l : List Oper, headLen l ≤ l.length
  | [] => by simp [headLen]
  | o :: l => by simp only [headLen]; split <;> simp [headLen_le l]

section
variable {P : Program} {X : Ctx} {ρ : Nat → Value} {H : List Blk}

theorem want_spec' {ops : Array Oper} {tmps : List AV} {o : Oper} {A B : List AV → Prop} (h : want ops.toList tmps o A B) :
    ∃ tmps' b, tmps'.length = tmps.length ∧ (∀ (w : World) t u, VR (hlen H) X.B ρ H w (lk tmps t) u → VR (hlen H) X.B ρ H w (lk tmps' t) u) ∧
      (∀ (a : Act) (w : World), (∀ t ∈ o.looksAt ops, VR (hlen H) X.B ρ H w (lk tmps t) (a.tmps.getD t undef)) → Region.wanted o (yielded ops a.tmps) = b) ∧ (if b = true then A tmps' else B tmps') := by
  unfold want at h
  split at h
  · rename_i hg
    exact ⟨tmps, true, rfl, fun _ _ _ h => h, fun a w _ => by simp [Region.wanted, hg], by simpa using h⟩
  · rename_i j b hg
    split at h
    · rename_i oj hoj
      rw [onth_eq] at hoj
      have hoj : ops[j]? = some oj := by simpa using hoj
      split at h
      · rename_i d hd
        split at h
        · rename_i fr x hx
          have hw : ∀ (a : Act) (w : World), (∀ t ∈ o.looksAt ops, VR (hlen H) X.B ρ H w (lk tmps t) (a.tmps.getD t undef)) → Region.wanted o (yielded ops a.tmps) = (x == b) := by
            intro a w hl
            have hmem : d ∈ o.looksAt ops := by simp [Oper.looksAt, hg, hoj, hd]
            have hv := hl d hmem
            rw [hx] at hv
            have hv := getD_some_of (VR_bool hv)
            simp [Region.wanted, hg, yielded, hoj, hd, hv]
          have learn : ∀ (y : Bool), x = y → ∀ (w : World) t u, VR (hlen H) X.B ρ H w (lk tmps t) u → VR (hlen H) X.B ρ H w (lk (up tmps d (bB y)) t) u := by
            intro y e w t u hu
            rw [lk_up]
            split
            · rename_i e2
              rw [e2.1, hx] at hu
              have := VR_bool hu
              subst this e
              exact VR_bB _
            · exact hu
          split at h
          · rcases Br_cases h with ⟨e, h⟩ | ⟨e, h⟩
            · exact ⟨_, true, length_up _ _ _, learn true e, fun a w hl => by rw [hw a w hl, e]; rfl, by simpa using h⟩
            · exact ⟨_, false, length_up _ _ _, learn false e, fun a w hl => by rw [hw a w hl, e]; rfl, by simpa using h⟩
          · rcases Br_cases h with ⟨e, h⟩ | ⟨e, h⟩
            · exact ⟨_, false, length_up _ _ _, learn true e, fun a w hl => by rw [hw a w hl, e]; rfl, by simpa using h⟩
            · exact ⟨_, true, length_up _ _ _, learn false e, fun a w hl => by rw [hw a w hl, e]; rfl, by simpa using h⟩
        · rename_i hx
          refine ⟨_, false, rfl, fun _ _ _ h => h, fun a w hl => ?_, by simpa using h⟩
          have hmem : d ∈ o.looksAt ops := by simp [Oper.looksAt, hg, hoj, hd]
          have hv := hl d hmem
          rw [hx] at hv
          exact wanted_skp hg hoj hd (VR_tu0 hv)
        · exact h.elim
      · exact h.elim
    · exact h.elim

theorem length_putT (T : List AV) (d : Option Tmp) (r : AV) : (putT T d r).length = T.length := by cases d <;> simp [putT, length_up]

theorem head_facts {C : Cfg} (hC : CfgOK P C) (hS : ∀ f e, C.fn f = some e → SelE e) {ops : Array Oper} : ∀ (l : List Oper) (T : List AV) (K : List AV → Prop), evHead C ops.toList l T H K →
    ∃ rs Ts Te, K Te ∧ HF P X ρ H ops l T rs Ts Te
  | [], T, K, h => ⟨[], [], T, by simpa only [evHead] using h, rfl, rfl, rfl⟩
  | o :: l, T, K, h => by
    simp only [evHead] at h
    obtain ⟨T', b, hl, hlrn, hw, h⟩ := want_spec' (X := X) (ρ := ρ) (H := H) h
    cases b with
    | false =>
      simp only [Bool.false_eq_true, if_false] at h
      obtain ⟨rs, Ts, Te, hK, hf⟩ := head_facts hC hS l _ K h
      refine ⟨skp :: rs, T :: Ts, Te, hK, skp, rs, T', Ts, rfl, rfl, hl, hlrn, ?_, hf⟩
      intro a w _ hlk
      exact .inr ⟨hw a w hlk, rfl⟩
    | true =>
      simp only [if_true] at h
      have hs := sel_evOp (H := H) hS true T' o
      rcases hs with hs | ⟨v, H', hs⟩
      · exact absurd h (hs _)
      · have h2 := (hs _).1 h
        rcases sel_settle (H := H') (hlen H) v with hs2 | ⟨r, hs2⟩
        · exact absurd h2 (hs2 _)
        · have h3 := (hs2 _).1 h2
          obtain ⟨rs, Ts, Te, hK, hf⟩ := head_facts hC hS l _ K h3
          refine ⟨r :: rs, T :: Ts, Te, hK, r, rs, T', Ts, rfl, rfl, hl, hlrn, ?_, hf⟩
          intro a w hrh hlk
          refine .inl ⟨hw a w hlk, fun next Q hnext => ?_⟩
          have hlk' : ∀ t ∈ o.looksAt ops, VR (hlen H) X.B ρ H w (lk T' t) (a.tmps.getD t undef) := fun t ht => hlrn w t _ (hlk t ht)
          have hev : evOp C true T' H o (fun v2 H2 => v2 = v ∧ H2 = H') := (hs _).2 ⟨rfl, rfl⟩
          refine wp_of_opres (evOp_spec hC hrh (looks_ops hlk') hev) fun u w' ⟨v2, ρ', H2, hK2, e, h', hv, hhd⟩ => ?_
          obtain ⟨rfl, rfl⟩ := hK2
          obtain ⟨⟨bl, rfl⟩, hsame⟩ := hhd rfl
          have hset : settle (hlen H) (happ H bl) v2 (· = r) := (hs2 _).2 rfl
          obtain ⟨r', rfl, hr⟩ := settle_spec e h' hv hset
          obtain ⟨e1, h1⟩ := hrh.grow (w' := w') (h'.os.trans hrh.os.symm) (h'.tape.trans hrh.tape.symm) (h'.output.trans hrh.output.symm) e.hs hsame
          exact hnext u w' e1 h1 hr


/-! ### Which operation has written a slot last -/

def lastW (ops : Array Oper) (p : Nat → Bool) (t : Nat) : Nat → Option Nat
  | 0 => none
  | k + 1 => if p k = true ∧ (ops[k]?).bind (·.dst) = some t then some k else lastW ops p t k

theorem lastW_congr {ops : Array Oper} {p q : Nat → Bool} {t : Nat} : ∀ n, (∀ j, j < n → (ops[j]?).bind (·.dst) = some t → p j = q j) → lastW ops p t n = lastW ops q t n
  | 0, _ => rfl
  | n + 1, h => by
    simp only [lastW]
    rw [lastW_congr n fun j hj hd => h j (by omega) hd]
    by_cases hd : (ops[n]?).bind (·.dst) = some t
    · rw [h n (by omega) hd]
    · simp [hd]

theorem lastW_top {ops : Array Oper} {p : Nat → Bool} {t i : Nat} (hi : p i = true) (hd : (ops[i]?).bind (·.dst) = some t) : ∀ n, i < n → (∀ j, i < j → j < n → (ops[j]?).bind (·.dst) = some t → p j = false) → lastW ops p t n = some i
  | 0, h, _ => by omega
  | n + 1, h, hj => by
    simp only [lastW]
    by_cases e : n = i
    · subst e; rw [if_pos ⟨hi, hd⟩]
    · rw [if_neg fun ⟨h1, h2⟩ => by rw [hj n (by omega) (by omega) h2] at h1; cases h1]
      exact lastW_top hi hd n (by omega) fun j h1 h2 => hj j h1 (by omega)

theorem lastW_below {ops : Array Oper} {t k : Nat} : ∀ n, k ≤ n → lastW ops (fun j => decide (j < k)) t n = lastW ops (fun j => decide (j < k)) t k
  | n, h => by
    induction n with
    | zero => have : k = 0 := by omega
              subst this; rfl
    | succ n ih =>
      by_cases e : k = n + 1
      · rw [e]
      · rw [← ih (by omega)]
        simp only [lastW]
        rw [if_neg]
        intro ⟨h1, _⟩
        simp at h1; omega

/-- What slot t holds by that. -/
def cv (T0 : List AV) (rs : List AV) (t : Nat) : Option Nat → AV
  | some j => rs.getD j .any
  | none => lk T0 t

/-- Behind the first k operations, in the order of the text. -/
theorem HF_at {ops : Array Oper} : ∀ (l : List Oper) (T : List AV) (rs : List AV) (Ts : List (List AV)) (Te : List AV), HF P X ρ H ops l T rs Ts Te → ∀ k o, l[k]? = some o →
    ∃ Tk, Ts[k]? = some Tk ∧ Tk.length = T.length ∧ OF P X ρ H ops o Tk (rs.getD k .any)
  | [], _, _, _, _, _, k, o, hk => by simp at hk
  | o' :: l, T, rs, Ts, Te, ⟨r, rs', T', Ts', e1, e2, hl, _, hof, hf⟩, 0, o, hk => by
    subst e1 e2
    simp at hk; subst hk
    exact ⟨T, rfl, rfl, by simpa using hof⟩
  | o' :: l, T, rs, Ts, Te, ⟨r, rs', T', Ts', e1, e2, hl, _, hof, hf⟩, k + 1, o, hk => by
    subst e1 e2
    obtain ⟨Tk, h1, h2, h3⟩ := HF_at l _ rs' Ts' Te hf k o (by simpa using hk)
    exact ⟨Tk, by simpa using h1, by rw [h2, length_putT, hl], by simpa using h3⟩

/-- ... each slot is known as by the last operation that wrote it. -/
theorem HF_chain {ops : Array Oper} {T0 rs0 : List AV} : ∀ (l : List Oper) (k0 : Nat) (T : List AV) (rs : List AV) (Ts : List (List AV)) (Te : List AV), HF P X ρ H ops l T rs Ts Te → (∀ j, j < l.length → l[j]? = ops[k0 + j]?) → (∀ j, rs.getD j .any = rs0.getD (k0 + j) .any) →
    (∀ (w : World) t u, t < T0.length → VR (hlen H) X.B ρ H w (cv T0 rs0 t (lastW ops (fun j => decide (j < k0)) t k0)) u → VR (hlen H) X.B ρ H w (lk T t) u) →
    (∀ k Tk, Ts[k]? = some Tk → ∀ (w : World) t u, t < T0.length → VR (hlen H) X.B ρ H w (cv T0 rs0 t (lastW ops (fun j => decide (j < k0 + k)) t (k0 + k))) u → VR (hlen H) X.B ρ H w (lk Tk t) u) ∧
    (∀ (w : World) t u, t < T0.length → VR (hlen H) X.B ρ H w (cv T0 rs0 t (lastW ops (fun j => decide (j < k0 + l.length)) t (k0 + l.length))) u → VR (hlen H) X.B ρ H w (lk Te t) u)
  | [], k0, T, rs, Ts, Te, ⟨_, e2, e3⟩, _, _, hT => by
    subst e2 e3
    exact ⟨fun k Tk hk => by simp at hk, by simpa using hT⟩
  | o :: l, k0, T, rs, Ts, Te, ⟨r, rs', T', Ts', e1, e2, hl, hlrn, hof, hf⟩, hops, hrs, hT => by
    subst e1 e2
    have h0 : ops[k0]? = some o := by simpa using (hops 0 (by simp)).symm
    have hr : r = rs0.getD k0 .any := by simpa using hrs 0
    have ih := HF_chain (T0 := T0) (rs0 := rs0) l (k0 + 1) _ rs' Ts' Te hf (fun j hj => by have := hops (j + 1) (by simp; omega); simpa [Nat.add_assoc, Nat.add_comm 1 j] using this)
      (fun j => by have := hrs (j + 1); simpa [Nat.add_assoc, Nat.add_comm 1 j] using this) (by
        intro w t u ht hv
        simp only [lastW] at hv
        have hlow : lastW ops (fun j => decide (j < k0 + 1)) t k0 = lastW ops (fun j => decide (j < k0)) t k0 := lastW_congr k0 fun j hj _ => by simp; omega
        rw [hlow] at hv
        by_cases hd : (ops[k0]?).bind (·.dst) = some t
        · rw [if_pos ⟨by simp, hd⟩] at hv
          simp only [cv, ← hr] at hv
          rw [h0] at hd
          have hd : o.dst = some t := by simpa using hd
          rw [hd]
          simp only [putT, lk_up]
          split
          · exact hv
          · rename_i hne
            have : T'.length ≤ t := by simp at hne; exact hne
            rw [lk_ge T' t this]; simp [VR]
        · rw [if_neg (fun h => hd h.2)] at hv
          have hv := hlrn w t u (hT w t u ht hv)
          cases hdo : o.dst with
          | none => exact hv
          | some d =>
            simp only [putT, lk_up]
            rw [if_neg]
            · exact hv
            · rintro ⟨e, _⟩
              subst e
              exact hd (by rw [h0]; simpa using hdo))
    constructor
    · intro k Tk hk
      cases k with
      | zero =>
        simp at hk; subst hk
        simpa using hT
      | succ k =>
        have := ih.1 k Tk (by simpa using hk)
        simpa [Nat.add_assoc, Nat.add_comm 1 k] using this
    · have := ih.2
      simpa [Nat.add_assoc, Nat.add_comm 1 l.length] using this


/-! ### Any order -/

def cnt (n : Nat) (listed : Array Bool) : Nat := (List.range n).countP fun i => !listed.getD i false

theorem cnt_set {n i : Nat} {listed : Array Bool} (hi : i < n) (hs : i < listed.size) (hu : listed.getD i false = false) : cnt n listed = cnt n (listed.setIfInBounds i true) + 1 := by
  unfold cnt
  have ht : (listed.setIfInBounds i true).getD i false = true := by simp [hs]
  have hne : ∀ j, i ≠ j → (listed.setIfInBounds i true).getD j false = listed.getD j false := fun j h => getD_set_ne false h
  revert hi
  induction n with
  | zero => intro hi; omega
  | succ n ih =>
    intro hi
    rw [List.range_succ, List.countP_append, List.countP_append]
    by_cases e : i = n
    · subst e
      have : (List.range i).countP (fun j => !listed.getD j false) = (List.range i).countP (fun j => !(listed.setIfInBounds i true).getD j false) := by
        apply List.countP_congr
        intro j hj
        have := List.mem_range.1 hj
        rw [hne j (by omega)]
      rw [this]
      simp only [List.countP_singleton, hu, ht]
      simp
    · have := ih (by omega)
      rw [this]
      simp only [List.countP_singleton, hne n e]
      omega

theorem cnt_zero {n : Nat} {listed : Array Bool} (h : cnt n listed = 0) : ∀ i, i < n → listed.getD i false = true := by
  intro i hi
  unfold cnt at h
  have := List.countP_eq_zero.1 h i (List.mem_range.2 hi)
  simpa using this

theorem cnt_pos {n : Nat} {listed : Array Bool} {m : Nat} (h : cnt n listed = m + 1) : ∃ i, i < n ∧ listed.getD i false = false ∧ ∀ j, j < i → listed.getD j false = true := by
  have hex : ∃ i, i < n ∧ listed.getD i false = false := by
    apply Classical.byContradiction
    intro hn
    have : cnt n listed = 0 := by
      unfold cnt
      apply List.countP_eq_zero.2
      intro i hi
      have hi := List.mem_range.1 hi
      cases hq : listed.getD i false with
      | true => simp
      | false => exact absurd ⟨i, hi, hq⟩ hn
    omega
  have key : ∀ k, (∃ i, i < k ∧ i < n ∧ listed.getD i false = false) → ∃ i, i < n ∧ listed.getD i false = false ∧ ∀ j, j < i → listed.getD j false = true := by
    intro k
    induction k with
    | zero => rintro ⟨i, h, _⟩; omega
    | succ k ih =>
      rintro ⟨i, h1, h2, h3⟩
      by_cases hl : ∃ i, i < k ∧ i < n ∧ listed.getD i false = false
      · exact ih hl
      · have : i = k := by
          apply Classical.byContradiction
          intro hne; exact hl ⟨i, by omega, h2, h3⟩
        subst this
        refine ⟨i, h2, h3, fun j hj => ?_⟩
        cases hq : listed.getD j false with
        | true => rfl
        | false => exact absurd ⟨j, hj, by omega, hq⟩ hl
  obtain ⟨i, h1, h2⟩ := hex
  exact key (i + 1) ⟨i, by omega, h1, h2⟩

theorem edges_spec {ops : Array Oper} (h : edgesB ops = true) {i : Nat} {o : Oper} (hi : ops[i]? = some o) : ∀ e ∈ o.after, Region.binds .any e = true → e.on < i := by
  intro e he hb
  have hlt : i < ops.size := (Array.getElem?_eq_some_iff.1 hi).1
  have := List.all_eq_true.1 h i (List.mem_range.2 hlt)
  simp only [hi] at this
  have := Array.all_eq_true'.1 this e he
  simp [hb] at this
  exact this

theorem pairs_spec {ops : Array Oper} {n i j : Nat} {x y : Oper} (h : pairsB ops n = true) (hi : i < n) (hj : j < i) (hx : ops[j]? = some x) (hy : ops[i]? = some y) : x.apart ops y = true ∨ Region.waitsFor .any ops i j = true := by
  have := List.all_eq_true.1 (List.all_eq_true.1 h i (List.mem_range.2 hi)) j (List.mem_range.2 hj)
  simp only [hx, hy, Bool.or_eq_true] at this
  exact this

section
variable {P : Program} {X : Ctx} {ρ : Nat → Value} {H : List Blk} {w : World} {ops : Array Oper} {Q : Exit → Act → World → Prop}

def SInv (X : Ctx) (ρ : Nat → Value) (H : List Blk) (ops : Array Oper) (n : Nat) (T0 rs : List AV) (listed : Array Bool) (a : Act) (w : World) : Prop :=
  T0.length ≤ a.tmps.size ∧ ∀ t, t < T0.length → VR (hlen H) X.B ρ H w (cv T0 rs t (lastW ops (fun j => listed.getD j false) t n)) (a.tmps.getD t undef)

theorem head_any {n : Nat} (hn : n ≤ ops.size) (hE : edgesB ops = true) (hP : pairsB ops n = true) (hT : n = ops.size ∨ (n < ops.size ∧ Region.sinkB .any ops n = true ∧ Region.chainB .any ops n = true))
    {T0 rs : List AV} {Ts : List (List AV)} {Te : List AV} (hf : HF P X ρ H ops (ops.toList.take n) T0 rs Ts Te)
    {ws : World} {N : Nat} (hend : ∀ listed a w, HeadInv .any ops n listed → cnt n listed = 0 → RH X ρ H w → SInv X ρ H ops n T0 rs listed a w → a.defers = [] → Ext X.B ρ H ws ρ H w → a.tmps.size = N → wpAny P .any ops Q (ops.size - n) listed a w) :
    ∀ (m : Nat) (listed : Array Bool) (a : Act) (w : World), cnt n listed = m → HeadInv .any ops n listed → RH X ρ H w → SInv X ρ H ops n T0 rs listed a w → a.defers = [] → Ext X.B ρ H ws ρ H w → a.tmps.size = N → wpAny P .any ops Q (m + (ops.size - n)) listed a w := by
  have hat := HF_at _ _ _ _ _ hf
  have hch := HF_chain (T0 := T0) (rs0 := rs) _ 0 _ _ _ _ hf (fun j hj => by
    have hj' : j < n := by simp at hj; omega
    simp [hj']) (fun j => by simp) (fun w t u _ hv => by simpa [lastW, cv] using hv)
  intro m
  induction m with
  | zero =>
    intro listed a w hc hi hrh hs hd he0 hN
    rw [Nat.zero_add]
    exact hend listed a w hi hc hrh hs hd he0 hN
  | succ m ih =>
    intro listed a w hc hi hrh hs hd he0 hN
    rw [show m + 1 + (ops.size - n) = (m + (ops.size - n)) + 1 by omega]
    obtain ⟨i0, hi0, hu0, hl0⟩ := cnt_pos hc
    have hs0 : i0 < listed.size := by rw [hi.size]; omega
    refine ⟨fun hr => ?_, fun i hir => ?_⟩
    · -- something is ready
      have : i0 ∈ Region.ready .any ops listed := by
        have ho : ops[i0]? = some ops[i0] := by simp
        exact mem_ready.2 ⟨getD_in hs0 hu0, _, ho, fun e he hb => hl0 _ (edges_spec hE ho e he hb)⟩
      rw [hr] at this; cases this
    · obtain ⟨hun, o, ho, hall⟩ := mem_ready.1 hir
      have hisz : i < ops.size := (Array.getElem?_eq_some_iff.1 ho).1
      have hin : i < n := by
        rcases hT with hT | ⟨h1, h2, h3⟩
        · omega
        · rcases Nat.lt_or_ge i n with h | h
          · exact h
          · exact absurd hir (tail_waits h2 h3 h1 hi _ i0 rfl hi0 (getD_in hs0 hu0) i h)
      have hul : listed.getD i false = false := getD_both hun
      have hils : i < listed.size := by rw [hi.size]; exact hisz
      have hc' : cnt n (listed.setIfInBounds i true) = m := by have := cnt_set hin hils hul; omega
      have hi' := hi.set hir hin
      -- what is listed among those that matter
      have hlist : ∀ j x, j < n → ops[j]? = some x → (∃ t, x.dst = some t ∧ (t ∈ o.looksAt ops ∨ o.dst = some t)) → j ≠ i → (listed.getD j false = decide (j < i)) := by
        rintro j x hj hx ⟨t, ht, hm⟩ hne
        rcases Nat.lt_or_ge j i with h | h
        · rcases pairs_spec hP hin h hx ho with hap | hw
          · exfalso
            simp only [Oper.apart, ht, Bool.and_eq_true] at hap
            rcases hm with hm | hm
            · have := hap.1.1; simp at this; exact this hm
            · have := hap.1.2; simp [hm] at this
          · obtain ⟨oj, hoj, e, he, hb, hon⟩ := Region.waitsFor_spec hw
            have : oj = o := Option.some.inj (hoj.symm.trans ho)
            subst this
            have := hall e he hb
            rw [hon] at this; rw [this]; simp [h]
        · have h : i < j := by omega
          have hnl : listed.getD j false = false := by
            cases hq : listed.getD j false with
            | false => rfl
            | true =>
              rcases pairs_spec hP hj h ho hx with hap | hw
              · exfalso
                simp only [Oper.apart, Bool.and_eq_true] at hap
                rcases hm with hm | hm
                · have h2 := hap.2; simp only [ht] at h2; simp at h2; exact h2 hm
                · have h1 := hap.1; simp only [hm] at h1; simp [ht] at h1
              · obtain ⟨ox, hox, e, he, hb, hon⟩ := Region.waitsFor_spec hw
                have := hi.closed j ox hox hq e he hb
                rw [hon, hul] at this; cases this
          rw [hnl]; simp; omega
      obtain ⟨Ti, hTi, hTl, hof⟩ := hat i o (by simp [hin, ho])
      have hlook : ∀ t ∈ o.looksAt ops, VR (hlen H) X.B ρ H w (lk Ti t) (a.tmps.getD t undef) := by
        intro t ht
        by_cases htl : t < T0.length
        · have h1 := hs.2 t htl
          have e1 : lastW ops (fun j => listed.getD j false) t n = lastW ops (fun j => decide (j < i)) t n := lastW_congr n fun j hj hd => by
            by_cases hji : j = i
            · subst hji; rw [hul]; simp
            · cases hx : ops[j]? with
              | none => rw [hx] at hd; simp at hd
              | some x => rw [hx] at hd; exact hlist j x hj hx ⟨t, by simpa using hd, .inl ht⟩ hji
          rw [e1, lastW_below n (Nat.le_of_lt hin)] at h1
          have := hch.1 i Ti hTi w t (a.tmps.getD t undef) htl
          simp only [Nat.zero_add] at this
          exact this h1
        · rw [lk_ge Ti t (by rw [hTl]; exact Nat.le_of_not_lt htl)]; simp [VR]
      -- behind the operation
      have hnext : ∀ (u : Value) (w' : World), (VR (hlen H) X.B ρ H w' (rs.getD i .any) u) → Ext X.B ρ H w ρ H w' → SInv X ρ H ops n T0 rs (listed.setIfInBounds i true) (a.put o.dst u) w' := by
        intro u w' hv e
        refine ⟨by have := hs.1; cases o.dst <;> simpa [Act.put] using this, fun t htl => ?_⟩
        have hlt : (listed.setIfInBounds i true).getD i false = true := by simp [hils]
        by_cases hd : o.dst = some t
        · have e1 : lastW ops (fun j => (listed.setIfInBounds i true).getD j false) t n = some i := by
            refine lastW_top (p := fun j => (listed.setIfInBounds i true).getD j false) hlt (by rw [ho]; simpa using hd) n hin fun j h1 h2 h3 => ?_
            show (listed.setIfInBounds i true).getD j false = false
            rw [getD_set_ne false (by omega)]
            cases hx : ops[j]? with
            | none => rw [hx] at h3; simp at h3
            | some x =>
              rw [hx] at h3
              rw [hlist j x h2 hx ⟨t, by simpa using h3, .inr hd⟩ (by omega)]; simp; omega
          rw [e1, hd]
          simp only [cv, Act.put]
          have : t < a.tmps.size := Nat.lt_of_lt_of_le htl hs.1
          simpa [this] using hv
        · have e1 : lastW ops (fun j => (listed.setIfInBounds i true).getD j false) t n = lastW ops (fun j => listed.getD j false) t n := lastW_congr n fun j hj h3 => by
            by_cases hji : i = j
            · subst hji; rw [ho] at h3; exact absurd (by simpa using h3) hd
            · exact getD_set_ne false hji
          rw [e1]
          have h1 := VR.ext e (hs.2 t htl)
          have h2 : (a.put o.dst u).tmps.getD t undef = a.tmps.getD t undef := by
            cases hdo : o.dst with
            | none => rfl
            | some d =>
              have hne : d ≠ t := fun e => hd (by rw [hdo, e])
              simp [Act.put, Array.getElem?_setIfInBounds_ne hne]
          rw [h2]; exact h1
      have hsz : ∀ v, (a.put o.dst v).tmps.size = N := by intro v; rw [← hN]; cases o.dst <;> simp [Act.put]
      unfold wpOp
      rw [ho]
      simp only
      rcases hof a w hrh hlook with ⟨hw, hgo⟩ | ⟨hw, hr⟩
      · rw [if_pos hw]
        exact .inl (hgo _ _ fun u w' e h1 hv => ih _ _ w' hc' hi' h1 (hnext u w' hv e) (by rw [put_defers]; exact hd) (he0.trans e) (hsz _))
      · rw [if_neg (by simp [hw])]
        exact ih _ _ w hc' hi' hrh (hnext undef w (by rw [hr]; exact VR_skp) Ext.refl) (by rw [put_defers]; exact hd) he0 (hsz _)

end
end
end Go.Eng
