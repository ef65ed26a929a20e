/- The abstract evaluator: the law of regions whose order is open. -/
import Derived.Test.YtniabjhjpkkllaaEngS
set_option linter.unusedVariables false
set_option linter.unusedSimpArgs false
namespace Go.Eng
open Go Go.RowKit

def pairsB (ops : Array Oper) (n : Nat) : Bool :=
  (List.range n).all fun i => (List.range i).all fun j => (match ops[j]?, ops[i]? with
    | some x, some y => x.apart ops y
    | _, _ => false) || Region.waitsFor .any ops i j
def edgesB (ops : Array Oper) : Bool :=
  (List.range ops.size).all fun i => match ops[i]? with
    | some o => o.after.all fun e => !Region.binds .any e || decide (e.on < i)
    | none => true
def listedHead (n size : Nat) : Array Bool := (Array.range size).map fun i => decide (i < n)

/-- What a region whose order is open must be like. -/
def drawOK (ops : Array Oper) : Bool :=
  let n := headLen ops.toList
  edgesB ops && pairsB ops n && (Nat.beq n ops.size || (Region.sinkB .any ops n && Region.chainB .any ops n && Region.seqB .any ops (ops.size - n) n (listedHead n ops.size)))

theorem takeL_eq : ∀ (n : Nat) (l : List Oper), takeL n l = l.take n
  | 0, l => by simp [takeL]
  | n + 1, [] => by simp [takeL]
  | n + 1, o :: l => by simp [takeL, takeL_eq n l]
theorem dropL_eq : ∀ (n : Nat) (l : List Oper), dropL n l = l.drop n
  | 0, l => by simp [dropL]
  | n + 1, [] => by simp [dropL]
  | n + 1, o :: l => by simp [dropL, dropL_eq n l]
theorem headLen_le : ∀ l : List Oper, headLen l ≤ l.length
  | [] => by simp [headLen]
  | o :: l => by simp only [headLen]; split <;> simp [headLen_le l]

section
variable {P : Program} {X : Ctx} {ρ : Nat → Value} {H : List Blk}

theorem want_spec' {ops : Array Oper} {tmps : List AV} {o : Oper} {A B : List AV → Prop} (h : want ops.toList tmps o A B) :
    ∃ tmps' b, tmps'.length = tmps.length ∧ (∀ t, Wk (lk tmps t) (lk tmps' t)) ∧
      (∀ (a : Act) (N : Nat) (B' : Bz) (ρ : Nat → Value) (H : List Blk) (w : World), (∀ t ∈ o.looksAt ops, VR N B' ρ H w (lk tmps t) (a.tmps.getD t undef)) → Region.wanted o (yielded ops a.tmps) = b) ∧ (if b = true then A tmps' else B tmps') := by
  unfold want at h
  split at h
  · rename_i hg
    exact ⟨tmps, true, rfl, fun _ => Wk.refl _, fun a _ _ _ _ w _ => by simp [Region.wanted, hg], by simpa using h⟩
  · rename_i j b hg
    split at h
    · rename_i oj hoj
      rw [onth_eq] at hoj
      have hoj : ops[j]? = some oj := by simpa using hoj
      split at h
      · rename_i d hd
        split at h
        · rename_i fr x hx
          have hw : ∀ (a : Act) (N : Nat) (B' : Bz) (ρ : Nat → Value) (H : List Blk) (w : World), (∀ t ∈ o.looksAt ops, VR N B' ρ H w (lk tmps t) (a.tmps.getD t undef)) → Region.wanted o (yielded ops a.tmps) = (x == b) := by
            intro a N B' ρ H w hl
            have hmem : d ∈ o.looksAt ops := by simp [Oper.looksAt, hg, hoj, hd]
            have hv := hl d hmem
            rw [hx] at hv
            have hv := getD_some_of (VR_bool hv)
            simp [Region.wanted, hg, yielded, hoj, hd, hv]
          have learn : ∀ (y : Bool), x = y → ∀ t, Wk (lk tmps t) (lk (up tmps d (bB y)) t) := by
            intro y e t
            rw [lk_up]
            split
            · rename_i e2
              rw [e2.1, hx]
              subst e
              exact ⟨fun N B ρ H w u hu => by rw [VR_bool hu]; exact VR_bB _, fun _ _ => trivial⟩
            · exact Wk.refl _
          split at h
          · rcases Br_cases h with ⟨e, h⟩ | ⟨e, h⟩
            · exact ⟨_, true, length_up _ _ _, learn true e, fun a N B' ρ H w hl => by rw [hw a N B' ρ H w hl, e]; rfl, by simpa using h⟩
            · exact ⟨_, false, length_up _ _ _, learn false e, fun a N B' ρ H w hl => by rw [hw a N B' ρ H w hl, e]; rfl, by simpa using h⟩
          · rcases Br_cases h with ⟨e, h⟩ | ⟨e, h⟩
            · exact ⟨_, false, length_up _ _ _, learn true e, fun a N B' ρ H w hl => by rw [hw a N B' ρ H w hl, e]; rfl, by simpa using h⟩
            · exact ⟨_, true, length_up _ _ _, learn false e, fun a N B' ρ H w hl => by rw [hw a N B' ρ H w hl, e]; rfl, by simpa using h⟩
        · rename_i hx
          refine ⟨_, false, rfl, fun _ => Wk.refl _, fun a N B' ρ H w hl => ?_, by simpa using h⟩
          have hmem : d ∈ o.looksAt ops := by simp [Oper.looksAt, hg, hoj, hd]
          have hv := hl d hmem
          rw [hx] at hv
          exact wanted_skp hg hoj hd (VR_tu0 hv)
        · exact h.elim
      · exact h.elim
    · exact h.elim

theorem carry_none {op : Op} {t : Tmp} (h : carry op = some (t, none)) : op = .move (.tmp t) ∨ op = .assign (.tmp t) := by
  unfold carry at h
  split at h <;> simp_all
theorem carry_some {op : Op} {t : Tmp} {i : Nat} (h : carry op = some (t, some i)) : op = .extract (.tmp t) i := by
  unfold carry at h
  split at h <;> simp_all

theorem wp_value {ro : Option Nat} {o : Oper} {a : Act} {w : World} {u : Value} {next : Act → World → Prop} {Q : Exit → Act → World → Prop} (hnd : ∀ c, o.op ≠ .defer c) (hr : (execOp a.eval o).run P w = .ok (.value u) w) (hn : next (a.put o.dst u) w) :
    o.wpIn (FW ro) 0 P a w next Q := by
  refine ⟨fun _ _ => trivial, ?_⟩
  rw [show (FW ro).round = ro from rfl, Oper.semAt_eq ro a.eval o hnd, hr]
  exact hn

theorem mem_looks {ops : Array Oper} {o : Oper} {t : Tmp} (h : Operand.tmp t ∈ o.op.operands) : t ∈ o.looksAt ops := by
  simp only [Oper.looksAt]
  exact List.mem_append.2 (.inl (List.mem_filterMap.2 ⟨.tmp t, by simpa using h, rfl⟩))

theorem arefs_opvs {n : Nat} {tmps : List AV} : ∀ {xs : List Operand}, refsLtL n (opvs tmps xs) = true → ∀ x, x ∈ xs → arefs (· < n) (opv tmps x)
  | [], _, x, hx => by cases hx
  | y :: xs, h, x, hx => by
    simp only [opvs, refsLtL, Bool.and_eq_true] at h
    rcases List.mem_cons.1 hx with e | hx
    · subst e; exact arefs_of_lt h.1
    · exact arefs_opvs h.2 x hx

theorem length_putT (T : List AV) (d : Option Tmp) (r : AV) : (putT T d r).length = T.length := by cases d <;> simp [putT, length_up]

theorem head_facts {ro : Option Nat} {C : Cfg} (hC : CfgOK P C) (hS : ∀ f e, C.fn f = some e → SelE e) {ops : Array Oper} : ∀ (l : List Oper) (T : List AV) (M : List Blk) (K : List AV → List Blk → Prop), evHead C ops.toList l T H M K →
    ∃ rs Ts sb Te, K Te (happ M (cat sb)) ∧ HF ro P X H ops l T (hlen M) rs Ts sb Te
  | [], T, M, K, h => ⟨[], [], [], T, by simpa only [evHead, cat, happ_nil] using h, rfl, rfl, rfl, rfl⟩
  | o :: l, T, M, K, h => by
    simp only [evHead] at h
    obtain ⟨T', b, hl, hlrn, hw, h⟩ := want_spec' h
    cases b with
    | false =>
      simp only [Bool.false_eq_true, if_false] at h
      obtain ⟨rs, Ts, sb, Te, hK, hf⟩ := head_facts hC hS l _ M K h
      exact ⟨skp :: rs, T :: Ts, (hlen M, []) :: sb, Te, hK, skp, [], rs, T', Ts, sb, rfl, rfl, rfl, hl, hlrn, rfl, fun a w ρ Hc _ _ _ _ hlk => .inr ⟨hw a _ _ _ _ w fun t ht => (hlk t ht).1, rfl, rfl⟩, hf⟩
    | true =>
      simp only [if_true] at h
      split at h
      · rename_i t hc
        obtain ⟨rs, Ts, sb, Te, hK, hf⟩ := head_facts hC hS l _ M K h
        refine ⟨lk T' t :: rs, T :: Ts, (hlen M, []) :: sb, Te, hK, lk T' t, [], rs, T', Ts, sb, rfl, rfl, rfl, hl, hlrn, rfl, fun a w ρ Hc hrh hbeg _ _ hlk => ?_, hf⟩
        refine .inl ⟨hw a _ _ _ _ w fun t ht => (hlk t ht).1, fun next Q hnext => ?_⟩
        have hop := carry_none hc
        have hmem : t ∈ o.looksAt ops := mem_looks (by rcases hop with h | h <;> simp [h, Op.operands])
        obtain ⟨h1, h2⟩ := hlk t hmem
        refine wp_value (u := a.tmps.getD t undef) (by intro c e; rcases hop with h | h <;> rw [h] at e <;> cases e) (by rcases hop with h | h <;> simp [execOp, h, Act.eval]) ?_
        exact hnext _ w ρ (fun _ _ => rfl) hrh hbeg (Nat.le_refl _) (fun b _ hb => ⟨hb, rfl⟩) (fun _ _ _ h => h) ((hlrn t).vr _ _ _ _ _ _ h1) ((hlrn t).al _ h2)
      · rename_i t i hc
        split at h
        · rename_i vs hvs
          replace h := Br_tf h
          obtain ⟨hi, h⟩ := h
          obtain ⟨rs, Ts, sb, Te, hK, hf⟩ := head_facts hC hS l _ M K h
          refine ⟨lk vs i :: rs, T :: Ts, (hlen M, []) :: sb, Te, hK, lk vs i, [], rs, T', Ts, sb, rfl, rfl, rfl, hl, hlrn, rfl, fun a w ρ Hc hrh hbeg _ _ hlk => ?_, hf⟩
          refine .inl ⟨hw a _ _ _ _ w fun t ht => (hlk t ht).1, fun next Q hnext => ?_⟩
          have hop := carry_some hc
          have hmem : t ∈ o.looksAt ops := mem_looks (by simp [hop, Op.operands])
          obtain ⟨h1, h2⟩ := hlk t hmem
          have h1 := (hlrn t).vr _ _ _ _ _ _ h1
          have h2 := (hlrn t).al _ h2
          rw [hvs] at h1 h2
          simp only [VR] at h1
          simp only [arefs] at h2
          obtain ⟨us, e, hs⟩ := h1
          have hi' : i < vs.length := by simp [Nat.blt] at hi; omega
          obtain ⟨u, hu, hv⟩ := VRs_get (X := X) i hs hi'
          have har : ∀ (p : Nat → Prop) (vs : List AV) (i : Nat), arefsL p vs → i < vs.length → arefs p (lk vs i) := by
            intro p vs
            induction vs with
            | nil => intro i _ h; simp at h
            | cons v vs ih => intro i k h; cases i with
              | zero => exact k.1
              | succ i => exact ih i k.2 (by simpa using h)
          refine wp_value (u := u) (by intro c e; rw [hop] at e; cases e) (by simp only [execOp, hop, Act.eval]; rw [e]; simp [Instr.extract, hu]) ?_
          exact hnext _ w ρ (fun _ _ => rfl) hrh hbeg (Nat.le_refl _) (fun b _ hb => ⟨hb, rfl⟩) (fun _ _ _ h => h) hv (har _ _ _ h2 hi')
        · exact h.elim
      · replace h := Br_tf h
        obtain ⟨hrf, h⟩ := h
        have hs := sel_evOp (H := H) hS true T' o
        rcases hs with hs | ⟨v, H', hs⟩
        · exact absurd h (hs _)
        · have h2 := (hs _).1 h
          have hev : evOp C true T' H o (fun v2 H2 => v2 = v ∧ H2 = H') := (hs _).2 ⟨rfl, rfl⟩
          -- whenever its turn comes
          have turn : ∀ (a : Act) (w : World) (ρ : Nat → Value) (Hc : List Blk), RH X ρ Hc w → Begins H Hc →
              (∀ t ∈ o.looksAt ops, VR (hlen Hc) X.B ρ Hc w (lk T t) (a.tmps.getD t undef) ∧ arefs (fun r => r < hlen H ∨ dead (hk Hc r) = false) (lk T t)) →
              OpRes P (subX X ρ H Hc w) ρ H w o a true fun v2 H2 => v2 = v ∧ H2 = H' := by
            intro a w ρ Hc hrh hbeg hlk
            refine evOp_spec hC (hrh.sub hbeg) (fun x hx => ?_) hev
            have hal := arefs_opvs hrf x (by simpa using hx)
            cases x with
            | tmp t => exact VR.sub hbeg hal ((hlrn t).vr _ _ _ _ _ _ (hlk t (mem_looks hx)).1)
            | const v => exact cst_spec v
            | global g => simp [VH, opv, VR]
            | func f => simp [VH, opv, VR, VRs, Act.eval]
          unfold place at h2
          split at h2
          · rcases sel_settle (H := H') (hlen H) v with hs2 | ⟨r, hs2⟩
            · exact absurd h2 (hs2 _)
            · have h3 := (hs2 _).1 h2
              obtain ⟨rs, Ts, sb, Te, hK, hf⟩ := head_facts hC hS l _ M K h3
              refine ⟨r :: rs, T :: Ts, (hlen M, []) :: sb, Te, hK, r, [], rs, T', Ts, sb, rfl, rfl, rfl, hl, hlrn, rfl, fun a w ρ Hc hrh hbeg _ _ hlk => ?_, hf⟩
              refine .inl ⟨hw a _ _ _ _ w fun t ht => (hlk t ht).1, fun next Q hnext => ?_⟩
              refine wp_of_opres (evOp_nd hev) (turn a w ρ Hc hrh hbeg hlk) fun u w' ⟨v2, ρ', H2, hK2, e, h', hv, hhd⟩ => ?_
              obtain ⟨rfl, rfl⟩ := hK2
              obtain ⟨⟨bl, rfl⟩, hsame⟩ := hhd rfl
              have hset : settle (hlen H) (happ H bl) v2 (· = r) := (hs2 _).2 rfl
              obtain ⟨r', rfl, hr⟩ := settle_spec e h' hv hset
              obtain ⟨e1, h1⟩ := hrh.grow (w' := w') h'.os h'.tape h'.output e.hs hsame
              have href := arefs_of_VR hr
              refine hnext u w' ρ (fun _ _ => rfl) h1 hbeg e.hs (fun b hb hn => ⟨hn, hsame b hb⟩) (fun _ _ _ h => VR.ext e1 h) ?_ (arefs_mono (fun _ h => .inl h) href)
              exact hr.conv (p := (· < hlen H)) (fun fr b _ hz => ⟨(zn_sub hbeg).1 hz, rfl⟩) (Nat.le_refl _) (fun r _ hr => ⟨Nat.lt_of_lt_of_le hr hbeg.le, rfl⟩) href
          · rename_i hplc
            have hlv : liveBs (hdrop (hlen H) H') = true := by
              simp only [Bool.or_eq_false_iff, Bool.not_eq_false'] at hplc; exact hplc.2
            obtain ⟨rs, Ts, sb, Te, hK, hf⟩ := head_facts hC hS l _ _ K h2
            rw [hlen_happ] at hf
            refine ⟨amap (sh (hlen H) (hlen M)) v :: rs, T :: Ts, (hlen M, hdrop (hlen H) H') :: sb, Te, ?_, amap (sh (hlen H) (hlen M)) v, hdrop (hlen H) H', rs, T', Ts, sb, rfl, rfl, rfl, hl, hlrn, hlv, fun a w ρ Hc hrh hbeg hfit hdead hlk => ?_, hf⟩
            · rw [happ_assoc] at hK; exact hK
            refine .inl ⟨hw a _ _ _ _ w fun t ht => (hlk t ht).1, fun next Q hnext => ?_⟩
            refine wp_of_opres (evOp_nd hev) (turn a w ρ Hc hrh hbeg hlk) fun u w' ⟨v2, ρ', H2, hK2, e, h', hv, hhd⟩ => ?_
            obtain ⟨rfl, rfl⟩ := hK2
            obtain ⟨⟨bl, rfl⟩, hsame⟩ := hhd rfl
            rw [hdrop_happ] at hlv hfit hdead hnext
            obtain ⟨ρ'', g1, g2, g3, g4, g5, g6⟩ := hrh.place hbeg e h' hsame hlv hfit hdead
            obtain ⟨g7, g8⟩ := g6 v2 u hv
            exact hnext u w' ρ'' g1 g2 g3 e.hs (fun b hb hn => ⟨g4 b hb hn, hsame b hb⟩) g5 g7 g8


/-! ### Which operation has written a slot last -/

def lastW (ops : Array Oper) (p : Nat → Bool) (t : Nat) : Nat → Option Nat
  | 0 => none
  | k + 1 => if p k = true ∧ (ops[k]?).bind (·.dst) = some t then some k else lastW ops p t k

theorem lastW_congr {ops : Array Oper} {p q : Nat → Bool} {t : Nat} : ∀ n, (∀ j, j < n → (ops[j]?).bind (·.dst) = some t → p j = q j) → lastW ops p t n = lastW ops q t n
  | 0, _ => rfl
  | n + 1, h => by
    simp only [lastW]
    rw [lastW_congr n fun j hj hd => h j (by omega) hd]
    by_cases hd : (ops[n]?).bind (·.dst) = some t
    · rw [h n (by omega) hd]
    · simp [hd]

theorem lastW_top {ops : Array Oper} {p : Nat → Bool} {t i : Nat} (hi : p i = true) (hd : (ops[i]?).bind (·.dst) = some t) : ∀ n, i < n → (∀ j, i < j → j < n → (ops[j]?).bind (·.dst) = some t → p j = false) → lastW ops p t n = some i
  | 0, h, _ => by omega
  | n + 1, h, hj => by
    simp only [lastW]
    by_cases e : n = i
    · subst e; rw [if_pos ⟨hi, hd⟩]
    · rw [if_neg fun ⟨h1, h2⟩ => by rw [hj n (by omega) (by omega) h2] at h1; cases h1]
      exact lastW_top hi hd n (by omega) fun j h1 h2 => hj j h1 (by omega)

theorem lastW_below {ops : Array Oper} {t k : Nat} : ∀ n, k ≤ n → lastW ops (fun j => decide (j < k)) t n = lastW ops (fun j => decide (j < k)) t k
  | n, h => by
    induction n with
    | zero => have : k = 0 := by omega
              subst this; rfl
    | succ n ih =>
      by_cases e : k = n + 1
      · rw [e]
      · rw [← ih (by omega)]
        simp only [lastW]
        rw [if_neg]
        intro ⟨h1, _⟩
        simp at h1; omega

/-- What slot t holds by that. -/
def cv (T0 : List AV) (rs : List AV) (t : Nat) : Option Nat → AV
  | some j => rs.getD j .any
  | none => lk T0 t

/-- Behind the first k operations, in the order of the text. -/
theorem HF_at {ro : Option Nat} {ops : Array Oper} : ∀ (l : List Oper) (T : List AV) (s : Nat) (rs : List AV) (Ts : List (List AV)) (sb : List (Nat × List Blk)) (Te : List AV), HF ro P X H ops l T s rs Ts sb Te → ∀ k o, l[k]? = some o →
    ∃ Tk sk bl, Ts[k]? = some Tk ∧ sb[k]? = some (sk, bl) ∧ Tk.length = T.length ∧ OF ro P X H ops o Tk (rs.getD k .any) sk bl
  | [], _, _, _, _, _, _, _, k, o, hk => by simp at hk
  | o' :: l, T, s, rs, Ts, sb, Te, ⟨r, bl, rs', T', Ts', sb', e1, e2, e3, hl, _, _, hof, hf⟩, 0, o, hk => by
    subst e1 e2 e3
    simp at hk; subst hk
    exact ⟨T, s, bl, rfl, rfl, rfl, by simpa using hof⟩
  | o' :: l, T, s, rs, Ts, sb, Te, ⟨r, bl, rs', T', Ts', sb', e1, e2, e3, hl, _, _, hof, hf⟩, k + 1, o, hk => by
    subst e1 e2 e3
    obtain ⟨Tk, sk, bl', h1, h2, h3, h4⟩ := HF_at l _ _ rs' Ts' sb' Te hf k o (by simpa using hk)
    exact ⟨Tk, sk, bl', by simpa using h1, by simpa using h2, by rw [h3, length_putT, hl], by simpa using h4⟩

/-- The places of what is made. -/
theorem HF_sb {ro : Option Nat} {ops : Array Oper} : ∀ (l : List Oper) (T : List AV) (s : Nat) (rs : List AV) (Ts : List (List AV)) (sb : List (Nat × List Blk)) (Te : List AV), HF ro P X H ops l T s rs Ts sb Te →
    sb.length = l.length ∧ (∀ (k sk : Nat) (bl : List Blk), sb[k]? = some (sk, bl) → s ≤ sk ∧ sk + hlen bl ≤ s + hlen (cat sb) ∧ liveBs bl = true ∧ (∀ j, j < hlen bl → hk (cat sb) (sk - s + j) = hk bl j)) ∧
      (∀ (k k' sk : Nat) (bl : List Blk) (sk' : Nat) (bl' : List Blk), k < k' → sb[k]? = some (sk, bl) → sb[k']? = some (sk', bl') → sk + hlen bl ≤ sk') ∧
      (∀ i, i < hlen (cat sb) → ∃ (k sk : Nat) (bl : List Blk), sb[k]? = some (sk, bl) ∧ sk ≤ s + i ∧ s + i < sk + hlen bl)
  | [], _, _, _, _, _, _, ⟨_, _, e, _⟩ => by
    subst e
    exact ⟨rfl, fun k sk bl h => by simp at h, fun k k' sk bl sk' bl' _ h => by simp at h, fun i h => by simp [cat, hlen] at h⟩
  | o' :: l, T, s, rs, Ts, sb, Te, ⟨r, bl, rs', T', Ts', sb', e1, e2, e3, hl, _, hlv, hof, hf⟩ => by
    subst e1 e2 e3
    obtain ⟨h0, h1, h2, h3⟩ := HF_sb l _ _ rs' Ts' sb' Te hf
    refine ⟨by simp [h0], fun k sk bl' h => ?_, fun k k' sk bl1 sk' bl2 hk h h' => ?_, fun i hi => ?_⟩
    · cases k with
      | zero =>
        simp at h
        obtain ⟨rfl, rfl⟩ := h
        refine ⟨Nat.le_refl _, by simp only [cat, hlen_happ]; omega, hlv, fun j hj => ?_⟩
        simp only [cat, hk_happ]
        rw [if_pos (by omega)]; congr 1; omega
      | succ k =>
        obtain ⟨g1, g2, g3, g4⟩ := h1 k sk bl' (by simpa using h)
        refine ⟨by omega, by simp only [cat, hlen_happ]; omega, g3, fun j hj => ?_⟩
        rw [← g4 j hj]
        simp only [cat, hk_happ]
        rw [if_neg (by omega)]; congr 1; omega
    · cases k' with
      | zero => omega
      | succ k' =>
        cases k with
        | zero =>
          simp at h
          obtain ⟨rfl, rfl⟩ := h
          exact (h1 k' sk' bl2 (by simpa using h')).1
        | succ k => exact h2 k k' sk bl1 sk' bl2 (by omega) (by simpa using h) (by simpa using h')
    · simp only [cat, hlen_happ] at hi
      by_cases hlt : i < hlen bl
      · exact ⟨0, s, bl, rfl, by omega, by omega⟩
      · obtain ⟨k, sk, bl', g1, g2, g3⟩ := h3 (i - hlen bl) (by omega)
        exact ⟨k + 1, sk, bl', by simpa using g1, by omega, by omega⟩

/-- ... each slot is known as by the last operation that wrote it. -/
theorem HF_chain {ro : Option Nat} {ops : Array Oper} {T0 rs0 : List AV} : ∀ (l : List Oper) (k0 : Nat) (T : List AV) (s : Nat) (rs : List AV) (Ts : List (List AV)) (sb : List (Nat × List Blk)) (Te : List AV), HF ro P X H ops l T s rs Ts sb Te → (∀ j, j < l.length → l[j]? = ops[k0 + j]?) → (∀ j, rs.getD j .any = rs0.getD (k0 + j) .any) →
    (∀ t, t < T0.length → Wk (cv T0 rs0 t (lastW ops (fun j => decide (j < k0)) t k0)) (lk T t)) →
    (∀ k Tk, Ts[k]? = some Tk → ∀ t, t < T0.length → Wk (cv T0 rs0 t (lastW ops (fun j => decide (j < k0 + k)) t (k0 + k))) (lk Tk t)) ∧
    (∀ t, t < T0.length → Wk (cv T0 rs0 t (lastW ops (fun j => decide (j < k0 + l.length)) t (k0 + l.length))) (lk Te t))
  | [], k0, T, s, rs, Ts, sb, Te, ⟨_, e2, _, e3⟩, _, _, hT => by
    subst e2 e3
    exact ⟨fun k Tk hk => by simp at hk, by simpa using hT⟩
  | o :: l, k0, T, s, rs, Ts, sb, Te, ⟨r, bl, rs', T', Ts', sb', e1, e2, e3, hl, hlrn, _, hof, hf⟩, hops, hrs, hT => by
    subst e1 e2 e3
    have h0 : ops[k0]? = some o := by simpa using (hops 0 (by simp)).symm
    have hr : r = rs0.getD k0 .any := by simpa using hrs 0
    have ih := HF_chain (T0 := T0) (rs0 := rs0) l (k0 + 1) _ _ rs' Ts' sb' Te hf (fun j hj => by have := hops (j + 1) (by simp; omega); simpa [Nat.add_assoc, Nat.add_comm 1 j] using this)
      (fun j => by have := hrs (j + 1); simpa [Nat.add_assoc, Nat.add_comm 1 j] using this) (by
        intro t ht
        simp only [lastW]
        have hlow : lastW ops (fun j => decide (j < k0 + 1)) t k0 = lastW ops (fun j => decide (j < k0)) t k0 := lastW_congr k0 fun j hj _ => by simp; omega
        rw [hlow]
        by_cases hd : (ops[k0]?).bind (·.dst) = some t
        · rw [if_pos ⟨by simp, hd⟩]
          simp only [cv, ← hr]
          rw [h0] at hd
          have hd : o.dst = some t := by simpa using hd
          rw [hd]
          simp only [putT, lk_up]
          split
          · exact Wk.refl _
          · rename_i hne
            have : T'.length ≤ t := by simp at hne; exact hne
            rw [lk_ge T' t this]; exact Wk.any _
        · rw [if_neg (fun h => hd h.2)]
          have hv := (hT t ht).trans (hlrn t)
          cases hdo : o.dst with
          | none => exact hv
          | some d =>
            simp only [putT, lk_up]
            rw [if_neg]
            · exact hv
            · rintro ⟨e, _⟩
              subst e
              exact hd (by rw [h0]; simpa using hdo))
    constructor
    · intro k Tk hk
      cases k with
      | zero =>
        simp at hk; subst hk
        simpa using hT
      | succ k =>
        have := ih.1 k Tk (by simpa using hk)
        simpa [Nat.add_assoc, Nat.add_comm 1 k] using this
    · have := ih.2
      simpa [Nat.add_assoc, Nat.add_comm 1 l.length] using this


/-! ### Any order -/

def cnt (n : Nat) (listed : Array Bool) : Nat := (List.range n).countP fun i => !listed.getD i false

theorem cnt_set {n i : Nat} {listed : Array Bool} (hi : i < n) (hs : i < listed.size) (hu : listed.getD i false = false) : cnt n listed = cnt n (listed.setIfInBounds i true) + 1 := by
  unfold cnt
  have ht : (listed.setIfInBounds i true).getD i false = true := by simp [hs]
  have hne : ∀ j, i ≠ j → (listed.setIfInBounds i true).getD j false = listed.getD j false := fun j h => getD_set_ne false h
  revert hi
  induction n with
  | zero => intro hi; omega
  | succ n ih =>
    intro hi
    rw [List.range_succ, List.countP_append, List.countP_append]
    by_cases e : i = n
    · subst e
      have : (List.range i).countP (fun j => !listed.getD j false) = (List.range i).countP (fun j => !(listed.setIfInBounds i true).getD j false) := by
        apply List.countP_congr
        intro j hj
        have := List.mem_range.1 hj
        rw [hne j (by omega)]
      rw [this]
      simp only [List.countP_singleton, hu, ht]
      simp
    · have := ih (by omega)
      rw [this]
      simp only [List.countP_singleton, hne n e]
      omega

theorem cnt_zero {n : Nat} {listed : Array Bool} (h : cnt n listed = 0) : ∀ i, i < n → listed.getD i false = true := by
  intro i hi
  unfold cnt at h
  have := List.countP_eq_zero.1 h i (List.mem_range.2 hi)
  simpa using this

theorem cnt_pos {n : Nat} {listed : Array Bool} {m : Nat} (h : cnt n listed = m + 1) : ∃ i, i < n ∧ listed.getD i false = false ∧ ∀ j, j < i → listed.getD j false = true := by
  have hex : ∃ i, i < n ∧ listed.getD i false = false := by
    apply Classical.byContradiction
    intro hn
    have : cnt n listed = 0 := by
      unfold cnt
      apply List.countP_eq_zero.2
      intro i hi
      have hi := List.mem_range.1 hi
      cases hq : listed.getD i false with
      | true => simp
      | false => exact absurd ⟨i, hi, hq⟩ hn
    omega
  have key : ∀ k, (∃ i, i < k ∧ i < n ∧ listed.getD i false = false) → ∃ i, i < n ∧ listed.getD i false = false ∧ ∀ j, j < i → listed.getD j false = true := by
    intro k
    induction k with
    | zero => rintro ⟨i, h, _⟩; omega
    | succ k ih =>
      rintro ⟨i, h1, h2, h3⟩
      by_cases hl : ∃ i, i < k ∧ i < n ∧ listed.getD i false = false
      · exact ih hl
      · have : i = k := by
          apply Classical.byContradiction
          intro hne; exact hl ⟨i, by omega, h2, h3⟩
        subst this
        refine ⟨i, h2, h3, fun j hj => ?_⟩
        cases hq : listed.getD j false with
        | true => rfl
        | false => exact absurd ⟨j, hj, by omega, hq⟩ hl
  obtain ⟨i, h1, h2⟩ := hex
  exact key (i + 1) ⟨i, by omega, h1, h2⟩

theorem edges_spec {ops : Array Oper} (h : edgesB ops = true) {i : Nat} {o : Oper} (hi : ops[i]? = some o) : ∀ e ∈ o.after, Region.binds .any e = true → e.on < i := by
  intro e he hb
  have hlt : i < ops.size := (Array.getElem?_eq_some_iff.1 hi).1
  have := List.all_eq_true.1 h i (List.mem_range.2 hlt)
  simp only [hi] at this
  have := Array.all_eq_true'.1 this e he
  simp [hb] at this
  exact this

theorem pairs_spec {ops : Array Oper} {n i j : Nat} {x y : Oper} (h : pairsB ops n = true) (hi : i < n) (hj : j < i) (hx : ops[j]? = some x) (hy : ops[i]? = some y) : x.apart ops y = true ∨ Region.waitsFor .any ops i j = true := by
  have := List.all_eq_true.1 (List.all_eq_true.1 h i (List.mem_range.2 hi)) j (List.mem_range.2 hj)
  simp only [hx, hy, Bool.or_eq_true] at this
  exact this

section
variable {P : Program} {X : Ctx} {H : List Blk} {ops : Array Oper} {Q : Exit → Act → World → Prop}

/-- Own memory, as far as it has been made. -/
structure HI (H : List Blk) (N : Nat) (ρ0 : Nat → Value) (sb : List (Nat × List Blk)) (listed : Array Bool) (ρ : Nat → Value) (Hc : List Blk) : Prop where
  len : hlen Hc = N
  beg : Begins H Hc
  low : ∀ r, r < hlen H → ρ r = ρ0 r
  mid : ∀ k sk bl, sb[k]? = some (sk, bl) → ∀ j, j < hlen bl → hk Hc (hlen H + sk + j) = if listed.getD k false = true then hk bl j else .dead

def SInv (X : Ctx) (ρ : Nat → Value) (Hc H : List Blk) (ops : Array Oper) (n : Nat) (T0 rs : List AV) (listed : Array Bool) (a : Act) (w : World) : Prop :=
  T0.length ≤ a.tmps.size ∧ ∀ t, t < T0.length → VR (hlen Hc) X.B ρ Hc w (cv T0 rs t (lastW ops (fun j => listed.getD j false) t n)) (a.tmps.getD t undef) ∧
    arefs (fun r => r < hlen H ∨ dead (hk Hc r) = false) (cv T0 rs t (lastW ops (fun j => listed.getD j false) t n))

theorem mv_wpIn {ro : Option Nat} {o : Oper} {t : Tmp} (hm : o.op = .move (.tmp t)) {a : Act} {w : World} {next : Act → World → Prop} {Q : Exit → Act → World → Prop} : o.wpIn (FW ro) 0 P a w next Q ↔ next (a.put o.dst (a.tmps.getD t undef)) w := by
  have hr : (execOp a.eval o).run P w = .ok (.value (a.tmps.getD t undef)) w := by simp [execOp, hm, Act.eval]
  have hs := Oper.semAt_eq ro a.eval o (by rw [hm]; intro c hc; cases hc)
  constructor
  · rintro ⟨_, h⟩
    rw [show (FW ro).round = ro from rfl, hs, hr] at h
    exact h
  · intro h
    refine ⟨fun _ _ => trivial, ?_⟩
    rw [show (FW ro).round = ro from rfl, hs, hr]
    exact h

theorem head_any {ro : Option Nat} {n : Nat} (hn : n ≤ ops.size) (hE : edgesB ops = true) (hP : pairsB ops n = true) (hT : n = ops.size ∨ (n < ops.size ∧ Region.sinkB .any ops n = true ∧ Region.chainB .any ops n = true))
    {T0 rs : List AV} {Ts : List (List AV)} {sb : List (Nat × List Blk)} {Te : List AV} (hf : HF ro P X H ops (ops.toList.take n) T0 0 rs Ts sb Te)
    {ws : World} {ρ0 : Nat → Value} {J : Array Bool → Array Value → Prop} (hJ : ∀ (i : Nat) (o : Oper) (listed : Array Bool) (a : Act) (u : Value), i < n → ops[i]? = some o → J listed a.tmps → (o.op = .move (.tmp 0) → o.guard = none → u = a.tmps.getD 0 undef) → J (listed.setIfInBounds i true) (a.put o.dst u).tmps) {D : List Deferred} (hend : ∀ listed a w ρ Hc, HeadInv .any ops n listed → cnt n listed = 0 → RH X ρ Hc w → HI H (hlen H + hlen (cat sb)) ρ0 sb listed ρ Hc → SInv X ρ Hc H ops n T0 rs listed a w → a.defers = D → Ext X.B ρ0 H ws ρ Hc w → J listed a.tmps →
      wpAnyIn (FW ro) 0 P .any ops Q (ops.size - n) listed a w) :
    ∀ (m : Nat) (listed : Array Bool) (a : Act) (w : World) (ρ : Nat → Value) (Hc : List Blk), cnt n listed = m → HeadInv .any ops n listed → RH X ρ Hc w → HI H (hlen H + hlen (cat sb)) ρ0 sb listed ρ Hc → SInv X ρ Hc H ops n T0 rs listed a w → a.defers = D → Ext X.B ρ0 H ws ρ Hc w → J listed a.tmps →
      wpAnyIn (FW ro) 0 P .any ops Q (m + (ops.size - n)) listed a w := by
  have hat := HF_at _ _ _ _ _ _ _ hf
  obtain ⟨_, hsb1, hsb2, _⟩ := HF_sb _ _ _ _ _ _ _ hf
  have hch := HF_chain (T0 := T0) (rs0 := rs) _ 0 _ _ _ _ _ _ hf (fun j hj => by
    have hj' : j < n := by simp at hj; omega
    simp [hj']) (fun j => by simp) (fun t _ => by simpa [lastW, cv] using Wk.refl _)
  intro m
  induction m with
  | zero =>
    intro listed a w ρ Hc hc hi hrh hH hs hd he0 hN
    rw [Nat.zero_add]
    exact hend listed a w ρ Hc hi hc hrh hH hs hd he0 hN
  | succ m ih =>
    intro listed a w ρ Hc hc hi hrh hH hs hd he0 hN
    rw [show m + 1 + (ops.size - n) = (m + (ops.size - n)) + 1 by omega]
    obtain ⟨i0, hi0, hu0, hl0⟩ := cnt_pos hc
    have hs0 : i0 < listed.size := by rw [hi.size]; omega
    refine ⟨fun hr => ?_, fun i hir => ?_⟩
    · -- something is ready
      have : i0 ∈ Region.ready .any ops listed := by
        have ho : ops[i0]? = some ops[i0] := by simp
        exact mem_ready.2 ⟨getD_in hs0 hu0, _, ho, fun e he hb => hl0 _ (edges_spec hE ho e he hb)⟩
      rw [hr] at this; cases this
    · obtain ⟨hun, o, ho, hall⟩ := mem_ready.1 hir
      have hisz : i < ops.size := (Array.getElem?_eq_some_iff.1 ho).1
      have hin : i < n := by
        rcases hT with hT | ⟨h1, h2, h3⟩
        · omega
        · rcases Nat.lt_or_ge i n with h | h
          · exact h
          · exact absurd hir (tail_waits h2 h3 h1 hi _ i0 rfl hi0 (getD_in hs0 hu0) i h)
      have hul : listed.getD i false = false := getD_both hun
      have hils : i < listed.size := by rw [hi.size]; exact hisz
      have hc' : cnt n (listed.setIfInBounds i true) = m := by have := cnt_set hin hils hul; omega
      have hi' := hi.set hir hin
      -- what is listed among those that matter
      have hlist : ∀ j x, j < n → ops[j]? = some x → (∃ t, x.dst = some t ∧ (t ∈ o.looksAt ops ∨ o.dst = some t)) → j ≠ i → (listed.getD j false = decide (j < i)) := by
        rintro j x hj hx ⟨t, ht, hm⟩ hne
        rcases Nat.lt_or_ge j i with h | h
        · rcases pairs_spec hP hin h hx ho with hap | hw
          · exfalso
            simp only [Oper.apart, ht, Bool.and_eq_true] at hap
            rcases hm with hm | hm
            · have := hap.1.1; simp at this; exact this hm
            · have := hap.1.2; simp [hm] at this
          · obtain ⟨oj, hoj, e, he, hb, hon⟩ := Region.waitsFor_spec hw
            have : oj = o := Option.some.inj (hoj.symm.trans ho)
            subst this
            have := hall e he hb
            rw [hon] at this; rw [this]; simp [h]
        · have h : i < j := by omega
          have hnl : listed.getD j false = false := by
            cases hq : listed.getD j false with
            | false => rfl
            | true =>
              rcases pairs_spec hP hj h ho hx with hap | hw
              · exfalso
                simp only [Oper.apart, Bool.and_eq_true] at hap
                rcases hm with hm | hm
                · have h2 := hap.2; simp only [ht] at h2; simp at h2; exact h2 hm
                · have h1 := hap.1; simp only [hm] at h1; simp [ht] at h1
              · obtain ⟨ox, hox, e, he, hb, hon⟩ := Region.waitsFor_spec hw
                have := hi.closed j ox hox hq e he hb
                rw [hon, hul] at this; cases this
          rw [hnl]; simp; omega
      obtain ⟨Ti, si, bl, hTi, hsi, hTl, hof⟩ := hat i o (by simp [hin, ho])
      obtain ⟨_, hs2, hlv, _⟩ := hsb1 i si bl hsi
      rw [Nat.zero_add] at hs2
      have hlook : ∀ t ∈ o.looksAt ops, VR (hlen Hc) X.B ρ Hc w (lk Ti t) (a.tmps.getD t undef) ∧ arefs (fun r => r < hlen H ∨ dead (hk Hc r) = false) (lk Ti t) := by
        intro t ht
        by_cases htl : t < T0.length
        · have h1 := hs.2 t htl
          have e1 : lastW ops (fun j => listed.getD j false) t n = lastW ops (fun j => decide (j < i)) t n := lastW_congr n fun j hj hd => by
            by_cases hji : j = i
            · subst hji; rw [hul]; simp
            · cases hx : ops[j]? with
              | none => rw [hx] at hd; simp at hd
              | some x => rw [hx] at hd; exact hlist j x hj hx ⟨t, by simpa using hd, .inl ht⟩ hji
          rw [e1, lastW_below n (Nat.le_of_lt hin)] at h1
          have := hch.1 i Ti hTi t htl
          simp only [Nat.zero_add] at this
          exact ⟨this.vr _ _ _ _ _ _ h1.1, this.al _ h1.2⟩
        · rw [lk_ge Ti t (by rw [hTl]; exact Nat.le_of_not_lt htl)]; exact ⟨by simp [VR], trivial⟩
      have hfit : hlen H + si + hlen bl ≤ hlen Hc := by rw [hH.len]; omega
      have hdead : ∀ j, j < hlen bl → hk Hc (hlen H + si + j) = .dead := fun j hj => by rw [hH.mid i si bl hsi j hj, hul]; rfl
      have hlt : (listed.setIfInBounds i true).getD i false = true := by simp [hils]
      -- behind the operation
      have hH' : ∀ ρ'', (∀ k, ¬ (hlen H + si ≤ k ∧ k < hlen H + si + hlen bl) → ρ'' k = ρ k) → Begins H (hput Hc (hlen H + si) bl) → HI H (hlen H + hlen (cat sb)) ρ0 sb (listed.setIfInBounds i true) ρ'' (hput Hc (hlen H + si) bl) := by
        intro ρ'' hρ hbeg
        refine ⟨by rw [hlen_hput]; exact hH.len, hbeg, fun r hr => by rw [hρ r (by omega)]; exact hH.low r hr, fun k sk blk hk1 j hj => ?_⟩
        rw [hk_hput _ _ _ _ hfit]
        by_cases hki : k = i
        · subst hki
          rw [hsi] at hk1; cases hk1
          rw [if_pos (by omega), hlt]
          simp only [if_true]
          congr 1; omega
        · have hdis : sk + hlen blk ≤ si ∨ si + hlen bl ≤ sk := by
            rcases Nat.lt_or_ge k i with h | h
            · exact .inl (hsb2 k i sk blk si bl h hk1 hsi)
            · exact .inr (hsb2 i k si bl sk blk (by omega) hsi hk1)
          rw [if_neg (by omega), getD_set_ne false (Ne.symm hki)]
          exact hH.mid k sk blk hk1 j hj
      have hdl : ∀ r, dead (hk Hc r) = false → dead (hk (hput Hc (hlen H + si) bl) r) = false := by
        intro r hr
        rw [hk_hput _ _ _ _ hfit]
        split
        · rename_i h1
          have := hdead (r - (hlen H + si)) (by omega)
          rw [show hlen H + si + (r - (hlen H + si)) = r by omega] at this
          rw [this] at hr; simp [dead] at hr
        · exact hr
      have hnext : ∀ (u : Value) (w' : World) (ρ'' : Nat → Value) (Hc' : List Blk), hlen Hc' = hlen Hc → (∀ r, dead (hk Hc r) = false → dead (hk Hc' r) = false) → VR (hlen Hc) X.B ρ'' Hc' w' (rs.getD i .any) u → arefs (fun r => r < hlen H ∨ dead (hk Hc' r) = false) (rs.getD i .any) →
          (∀ a v, arefs (fun r => r < hlen H ∨ dead (hk Hc r) = false) a → VR (hlen Hc) X.B ρ Hc w a v → VR (hlen Hc) X.B ρ'' Hc' w' a v) → SInv X ρ'' Hc' H ops n T0 rs (listed.setIfInBounds i true) (a.put o.dst u) w' := by
        intro u w' ρ'' Hc' hlc hdc hv hal hmv
        refine ⟨by have := hs.1; cases o.dst <;> simpa [Act.put] using this, fun t htl => ?_⟩
        by_cases hd : o.dst = some t
        · have e1 : lastW ops (fun j => (listed.setIfInBounds i true).getD j false) t n = some i := by
            refine lastW_top (p := fun j => (listed.setIfInBounds i true).getD j false) hlt (by rw [ho]; simpa using hd) n hin fun j h1 h2 h3 => ?_
            show (listed.setIfInBounds i true).getD j false = false
            rw [getD_set_ne false (by omega)]
            cases hx : ops[j]? with
            | none => rw [hx] at h3; simp at h3
            | some x =>
              rw [hx] at h3
              rw [hlist j x h2 hx ⟨t, by simpa using h3, .inr hd⟩ (by omega)]; simp; omega
          rw [e1, hd, hlc]
          simp only [cv, Act.put]
          have : t < a.tmps.size := Nat.lt_of_lt_of_le htl hs.1
          exact ⟨by simpa [this] using hv, hal⟩
        · have e1 : lastW ops (fun j => (listed.setIfInBounds i true).getD j false) t n = lastW ops (fun j => listed.getD j false) t n := lastW_congr n fun j hj h3 => by
            by_cases hji : i = j
            · subst hji; rw [ho] at h3; exact absurd (by simpa using h3) hd
            · exact getD_set_ne false hji
          rw [e1, hlc]
          obtain ⟨h1, h3⟩ := hs.2 t htl
          have h1 := hmv _ _ h3 h1
          have h2 : (a.put o.dst u).tmps.getD t undef = a.tmps.getD t undef := by
            cases hdo : o.dst with
            | none => rfl
            | some d =>
              have hne : d ≠ t := fun e => hd (by rw [hdo, e])
              simp [Act.put, Array.getElem?_setIfInBounds_ne hne]
          rw [h2]
          exact ⟨h1, arefs_mono (fun r hr => hr.imp id (hdc r)) h3⟩
      unfold wpOpIn
      rw [ho]
      simp only
      rcases hof a w ρ Hc hrh hH.beg hfit hdead hlook with ⟨hw, hgo⟩ | ⟨hw, hr, hbl⟩
      · rw [if_pos hw]
        have hext : ∀ {ρ'' : Nat → Value} {w' : World}, (∀ i, ¬ (hlen H + si ≤ i ∧ i < hlen H + si + hlen bl) → ρ'' i = ρ i) → w.heap.size ≤ w'.heap.size → (∀ b, b < w.heap.size → ¬ Own ρ Hc b → ¬ Own ρ'' (hput Hc (hlen H + si) bl) b ∧ w'.heap[b]? = w.heap[b]?) → Ext X.B ρ0 H ws ρ'' (hput Hc (hlen H + si) bl) w' := by
          intro ρ'' w' g1 g4 g5
          exact ⟨by rw [hlen_hput]; exact he0.hn, fun r hr => by rw [g1 r (by omega)]; exact he0.hρ r hr, Nat.le_trans he0.hs g4, fun b hb hno => by
            obtain ⟨h1, h2⟩ := he0.hz b hb hno
            obtain ⟨h3, h4⟩ := g5 b (Nat.lt_of_lt_of_le hb he0.hs) h1
            exact ⟨h3, h4.trans h2⟩⟩
        by_cases hmv : o.op = .move (.tmp 0)
        · have h0 := hgo (fun a' w' => ∃ u ρ'', a' = a.put o.dst u ∧ wpAnyIn (FW ro) 0 P .any ops Q (m + (ops.size - n)) (listed.setIfInBounds i true) a' w' ∨ ¬ J (listed.setIfInBounds i true) a'.tmps) Q fun u w' ρ'' g1 g2 g3 g4 g5 g6 g7 g8 => by
            by_cases hj : J (listed.setIfInBounds i true) (a.put o.dst u).tmps
            · exact ⟨u, ρ'', .inl ⟨rfl, ih _ _ w' ρ'' _ hc' hi' g2 (hH' ρ'' g1 g3) (hnext u w' ρ'' _ (hlen_hput _ _ _) hdl g7 g8 g6) (by rw [put_defers]; exact hd) (hext g1 g4 g5) hj⟩⟩
            · exact ⟨u, ρ'', .inr hj⟩
          obtain ⟨u, ρ'', h1⟩ := (mv_wpIn hmv).1 h0
          rcases h1 with ⟨_, h1⟩ | h1
          · exact (mv_wpIn hmv).2 h1
          · exact absurd (hJ i o listed a _ hin ho hN fun _ _ => rfl) h1
        · exact hgo _ _ fun u w' ρ'' g1 g2 g3 g4 g5 g6 g7 g8 => ih _ _ w' ρ'' _ hc' hi' g2 (hH' ρ'' g1 g3) (hnext u w' ρ'' _ (hlen_hput _ _ _) hdl g7 g8 g6) (by rw [put_defers]; exact hd) (hext g1 g4 g5) (hJ i o listed a u hin ho hN fun h => absurd h hmv)
      · subst hbl
        rw [if_neg (by simp [hw])]
        refine ⟨fun _ _ => trivial, ih _ _ w ρ Hc hc' hi' hrh (hH' ρ (fun _ _ => rfl) hH.beg) (hnext undef w ρ Hc rfl (fun _ h => h) (by rw [hr]; exact VR_skp) (by rw [hr]; trivial) (fun _ _ _ h => h)) (by rw [put_defers]; exact hd) he0 (hJ i o listed a undef hin ho hN fun _ hg => by simp [Region.wanted, hg] at hw)⟩

theorem wpAnyIn_of_seq {ro : Option Nat} {md : Region.Mode} {Q' : Exit → Act → World → Prop} : ∀ (l : List Oper) (k : Nat) (listed : Array Bool) (a : Act) (w : World), (∀ j, l[j]? = ops[k + j]?) →
    Region.seqB md ops l.length k listed = true → wpListIn (FW ro) 0 P ops Q' l a w → wpAnyIn (FW ro) 0 P md ops Q' l.length listed a w
  | [], _, _, _, _, _, hB, h => ⟨by simpa [Region.seqB] using hB, h⟩
  | o :: l, k, listed, a, w, hl, hB, h => by
    have h0 : ops[k]? = some o := by simpa using (hl 0).symm
    simp only [List.length_cons, Region.seqB, Bool.and_eq_true, decide_eq_true_eq] at hB
    refine ⟨fun h1 => (by rw [hB.1] at h1; cases h1), fun i hi => ?_⟩
    rw [hB.1] at hi
    have hik : i = k := by simpa using hi
    subst hik
    have hw : wpOpIn (FW ro) 0 P ops Q' i (wpListIn (FW ro) 0 P ops Q' l) a w := by unfold wpOpIn; simp only [h0]; exact h
    exact wpOpIn_mono (fun a' w' h' => wpAnyIn_of_seq l (i + 1) _ a' w' (fun j => by have := hl (j + 1); simpa [Nat.add_assoc, Nat.add_comm 1 j] using this) hB.2 h') hw

end
end
end Go.Eng
