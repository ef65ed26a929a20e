/- The abstract evaluator: calls, single operations. -/
import Derived.Test.YtniabjhjpkkllaaEngH
namespace Go.Eng
open Go Go.RowKit

mutual
def ArgR (w : World) (Z : Nat → Prop) : AV → Value → Prop
  | .t fr c x, v => (fr = true → flat c = true) ∧ norow c = true ∧ ∃ cs, VT w Z c x cs ∧ pk c cs v
  | .fn f cs, v => ∃ vs, v = .func (.func f) #[] (List.toArray vs) ∧ ArgsR w Z cs vs
  | .ns, v => v = .slice none 0 0
  | _, _ => False
def ArgsR (w : World) (Z : Nat → Prop) : List AV → List Value → Prop
  | [], vs => vs = []
  | a :: as, vs => ∃ v r, vs = v :: r ∧ ArgR w Z a v ∧ ArgsR w Z as r
end

def deads : Nat → List Blk
  | 0 => []
  | n + 1 => .dead :: deads n
theorem hlen_deads : ∀ n, hlen (deads n) = n
  | 0 => rfl
  | n + 1 => by simp [deads, hlen, hlen_deads n]
theorem hk_deads : ∀ n r, hk (deads n) r = .dead
  | 0, _ => rfl
  | n + 1, 0 => rfl
  | n + 1, r + 1 => by simp [deads, hk, hk_deads n r]

mutual
/-- All that it leads to lies from n on. -/
def rge (n : Nat) : AV → Prop
  | .os r | .ox r _ _ _ | .op r _ _ => n ≤ r
  | .fn _ vs | .tu vs => rges n vs
  | _ => True
def rges (n : Nat) : List AV → Prop
  | [] => True
  | v :: vs => rge n v ∧ rges n vs
end

def allVal : List Blk → Prop
  | [] => True
  | b :: bs => isVal b = true ∧ allVal bs

abbrev bz0 (w : World) (Z : Nat → Prop) : Bz := ⟨fun b => w.heap.size ≤ b, Z⟩
def sub0 (w : World) (Z : Nat → Prop) : Ctx := ⟨w, bz0 w Z, fun _ => False⟩

/-- What a call that only reads hands back. -/
def ResR (w : World) (Z : Nat → Prop) (n : Nat) (w' : World) (v : AV) (bl : List Blk) (u : Value) : Prop :=
  ∃ ρ', RH (sub0 w Z) ρ' (happ (deads n) bl) w' ∧ VR (hlen (happ (deads n) bl)) (bz0 w Z) ρ' (happ (deads n) bl) w' v u ∧ rge n v ∧ allVal bl

def PureOK (P : Program) (f : FuncId) (ent : Ent) : Prop :=
  ∀ (args : List AV) (n : Nat) (K : AV → List Blk → Prop) (vals : List Value) (w : World) (Z : Nat → Prop), ent args n K → ArgsR w Z args vals →
    Calls P f vals.toArray w fun e w' => ∃ u v bl, e = .returned u ∧ K v bl ∧ ResR w Z n w' v bl u

def FnOK (P : Program) (f : FuncId) : Prop := ∀ args w, (callFunc f args).run P w = .ok (.enter f args) w

structure CfgOK (P : Program) (C : Cfg) : Prop where
  ty : ∀ t, TyOK P t (C.ty t)
  fn : ∀ f ent, C.fn f = some ent → PureOK P f ent ∧ FnOK P f
  eq : ∀ t c, C.eq t = some c → EqOK P t c

section
variable {P : Program} {X : Ctx} {ρ : Nat → Value} {H : List Blk} {w : World}

/-! ### What is lent -/

theorem SlOf.vtZ {fr : Bool} {c : Cd} {ys : List (El c)} {u : Value} {Z : Nat → Prop} (h : SlOf X.B ρ H w fr c ys u) (hz : ∀ b, Z b) : VT w Z (.sl c) ys [u] := by
  obtain ⟨a, cap, rfl, hc, hr⟩ := h
  exact ⟨a, cap, rfl, hc, hr.imp id fun ⟨b, o, cells, ea, hlt, hm, hf⟩ => ⟨b, o, cells, ea, hz b, hlt, hm, hf.mono fun _ _ hx => VT.mono (fun b _ _ => ⟨hz b, rfl⟩) (Nat.le_refl _) hx⟩⟩

theorem lend_spec (h : RH X ρ H w) {v : AV} {u : Value} {d : Cd} {K : El d → Prop} {Z : Nat → Prop} (hz1 : ∀ fr b, Zn X.B ρ H fr b → Z b) (hz2 : isOwn v = true → ∀ b, Z b) (hv : VH X ρ H w v u) (he : lend H v d K) :
    ∃ y cs, K y ∧ VT w Z d y cs ∧ pk d cs u := by
  have zmono : ∀ {fr : Bool} {c : Cd} {x : El c} {cs : List Value}, VT w (Zn X.B ρ H fr) c x cs → VT w Z c x cs := fun hx => hx.mono (fun b _ hb => ⟨hz1 _ b hb, rfl⟩) (Nat.le_refl _)
  unfold lend at he
  split at he
  · obtain ⟨e, he⟩ := asC_spec he
    subst e
    obtain ⟨cs, h1, h2⟩ := VR.len_t hv
    exact ⟨_, cs, he, zmono h1, h2⟩
  · simp only [VH, VR] at hv
    subst hv
    split at he
    · exact ⟨_, _, he, ⟨none, 0, rfl, Nat.le_refl _, .inl rfl⟩, pk_sl⟩
    · exact he.elim
  · split at he
    · rename_i hb
      obtain ⟨e, he⟩ := asC_spec he
      subst e
      have hr := h.lt hb rfl
      obtain ⟨_, _, cells, hown, hf⟩ := h.row hr hb
      simp only [VH, VR] at hv
      obtain ⟨_, rfl⟩ := hv
      exact ⟨_, _, he, (own_sl hown hf).vtZ (hz2 rfl), pk_sl⟩
    · exact he.elim
  · split at he
    · rename_i hb
      replace he := Br_tf he
      obtain ⟨hfz, he⟩ := he
      simp only [Bool.and_eq_true, decide_eq_true_eq] at hfz
      obtain ⟨⟨rfl, h1⟩, h2⟩ := hfz
      obtain ⟨e, he⟩ := asC_spec he
      subst e
      have hr := h.lt hb rfl
      obtain ⟨hn, _, cells, hown, hf⟩ := h.row hr hb
      exact ⟨_, _, he, (ox_sl hn h1 h2 (fun b hb' => own_mem hown hb') hf hv).vtZ (hz2 rfl), pk_sl⟩
    · rename_i hb
      replace he := Br_tf he
      obtain ⟨hfz, he⟩ := he
      simp only [Bool.and_eq_true, decide_eq_true_eq] at hfz
      obtain ⟨⟨rfl, h1⟩, h2⟩ := hfz
      obtain ⟨e, he⟩ := asC_spec he
      subst e
      have hr := h.lt hb rfl
      obtain ⟨hn, b, cells, hρ, hg, hl, hf⟩ := h.val hr hb (by intro d; simp)
      refine ⟨_, _, he, (ox_sl (by simpa [norow] using hn) h1 h2 (fun b' hb' => ?_) hf hv).vtZ (hz2 rfl), pk_sl⟩
      rw [hρ] at hb'; simp [blkOf] at hb'; subst hb'
      exact ⟨Mem.of_block hg, ⟨_, _, _, hg⟩⟩
    · exact he.elim
  · split at he
    · rename_i hb
      obtain ⟨e, he⟩ := asC_spec he
      subst e
      obtain ⟨e, he⟩ := asC_spec he
      subst e
      simp only [VH, VR] at hv
      obtain ⟨_, b, hbb, rfl⟩ := hv
      obtain ⟨cells, hm, hlt, hvt⟩ := h.cells hb hbb
      exact ⟨_, _, he, ⟨b, 0, cells, by simp [offs], hz2 rfl b, hlt, hm, zmono hvt⟩, pk_ptr⟩
    · exact he.elim
  · rename_i r c s p
    split at he
    · rename_i wr fr E c' x hb
      obtain ⟨ec, he⟩ := asC_spec he
      cases ec
      have hrl := h.lt hb rfl
      simp only [VH, VR] at hv
      obtain ⟨_, b, hbb, rfl⟩ := hv
      obtain ⟨_, _, hlt, _⟩ := h.cells hb hbb
      by_cases hc : ∃ d, c = .row d
      · obtain ⟨d, rfl⟩ := hc
        obtain ⟨hn, _, cells, hown, hf⟩ := h.row hrl hb
        obtain ⟨hm, _⟩ := own_mem hown hbb
        obtain ⟨d', y, hK, hnd, hp, hle, hy⟩ := getP_row hn hf (by simp) he
        obtain ⟨e, hK⟩ := asC_spec hK
        subst e
        have := hm.sub (offs (.row d) (s :: p)) (csz d')
        rw [Nat.zero_add] at this
        exact ⟨_, _, hK, ⟨b, _, _, rfl, hz2 rfl b, hlt, this, zmono hy⟩, pk_ptr⟩
      · obtain ⟨hn, b', cells, hρ, hg, hv⟩ := h.val hrl hb (fun d hd => hc ⟨d, hd⟩)
        rw [hρ] at hbb; simp [blkOf] at hbb; subst hbb
        obtain ⟨d', y, hK, hp, hle, hy⟩ := getP_spec _ _ _ _ _ hn hv he
        obtain ⟨e, hK⟩ := asC_spec hK
        subst e
        have := (Mem.of_block hg).sub (offs c (s :: p)) (csz d')
        rw [Nat.zero_add] at this
        exact ⟨_, _, hK, ⟨_, _, _, rfl, hz2 rfl _, hlt, this, zmono hy⟩, pk_ptr⟩
    · exact he.elim
  · exact he.elim

theorem code_norow {t : TypeId} {ty : Ty} {c : Cd} (ht : TyOK P t ty) (hc : ty.code = some c) : norow c = true := (info_of ht hc).1

mutual
theorem lendC_spec (h : RH X ρ H w) {Z : Nat → Prop} (hz1 : ∀ fr b, Zn X.B ρ H fr b → Z b) : ∀ (v : AV) (u : Value) (K : AV → Prop), (owns v = true → ∀ b, Z b) → VH X ρ H w v u → lendC H v K → ∃ x, K x ∧ ArgR w Z x u
  | .any, _, _, _, _, he => by simp [lendC] at he
  | .ns, _, _, _, _, he => by simp [lendC] at he
  | .ox _ _ _ _, _, _, _, _, he => by simp [lendC] at he
  | .op _ _ (_ :: _), _, _, _, _, he => by simp [lendC] at he
  | .tu _, _, _, _, _, he => by simp [lendC] at he
  | .t fr c x, u, K, _, hv, he => by
    simp only [lendC] at he
    replace he := Br_tf he
    obtain ⟨cs, h1, h2⟩ := VR.len_t hv
    refine ⟨_, he.2, ?_⟩
    simp only [ArgR]
    exact ⟨id, he.1, cs, h1.mono (fun b _ hb => ⟨hz1 _ b hb, rfl⟩) (Nat.le_refl _), h2⟩
  | .os r, u, K, hz2, hv, he => by
    simp only [lendC] at he
    split at he
    · rename_i wr fr E c x hb
      replace he := Br_tf he
      have hr := h.lt hb rfl
      obtain ⟨_, _, cells, hown, hf⟩ := h.row hr hb
      simp only [VH, VR] at hv
      obtain ⟨_, rfl⟩ := hv
      refine ⟨_, he.2, ?_⟩
      simp only [ArgR]
      exact ⟨by simp, by simpa [norow] using he.1, _, (own_sl hown hf).vtZ (hz2 rfl), pk_sl⟩
    · exact he.elim
  | .op r c [], u, K, hz2, hv, he => by
    simp only [lendC] at he
    simp only [VH, VR] at hv
    obtain ⟨_, b, hbb, rfl⟩ := hv
    split at he
    · rename_i wr fr E c' x hb
      obtain ⟨e, he⟩ := asC_spec he
      subst e
      replace he := Br_tf he
      obtain ⟨cells, hm, hlt, hvt⟩ := h.cells hb hbb
      refine ⟨_, he.2, ?_⟩
      simp only [ArgR]
      exact ⟨by simp, by simpa [norow] using he.1, _, ⟨b, 0, cells, by simp [offs], hz2 rfl b, hlt, hm, hvt.mono (fun b _ _ => ⟨hz2 rfl b, rfl⟩) (Nat.le_refl _)⟩, pk_ptr⟩
    · rename_i a hb
      replace he := Br_tf he
      obtain ⟨hc, he⟩ := he
      simp only [Bool.and_eq_true, Bool.not_eq_true'] at hc
      have hr := h.lt hb rfl
      have hbk := h.blk r hr
      rw [hb] at hbk
      obtain ⟨b', E, u, e, hg, _, hvu⟩ := hbk
      rw [e] at hbb
      simp [blkOf] at hbb
      subst hbb
      obtain ⟨y, cs, hK, h1, h2⟩ := lend_spec h (Z := fun _ => True) (fun _ _ _ => trivial) (fun _ _ => trivial) hvu he
      refine ⟨_, hK, ?_⟩
      have hcs : cs = [u] := by unfold pk at h2; rw [hc.2] at h2; simpa using h2
      subst hcs
      simp only [ArgR]
      exact ⟨by simp, by simpa [norow] using hc.1, _, ⟨b', 0, [u], by simp [offs], hz2 rfl b', ⟨_, _, _, hg⟩, Mem.of_block hg, h1.mono (fun b _ _ => ⟨hz2 rfl b, rfl⟩) (Nat.le_refl _)⟩, pk_ptr⟩
    · exact he.elim
  | .fn f vs, u, K, hz2, hv, he => by
    simp only [lendC] at he
    simp only [VH, VR] at hv
    obtain ⟨us, rfl, hs⟩ := hv
    obtain ⟨ws, hK, hw⟩ := lendCs_spec h hz1 vs us _ (fun ho => hz2 (by simpa only [owns] using ho)) hs he
    refine ⟨_, hK, ?_⟩
    simp only [ArgR]
    exact ⟨us, rfl, hw⟩
theorem lendCs_spec (h : RH X ρ H w) {Z : Nat → Prop} (hz1 : ∀ fr b, Zn X.B ρ H fr b → Z b) : ∀ (vs : List AV) (us : List Value) (K : List AV → Prop), (ownsL vs = true → ∀ b, Z b) → VRs (hlen H) X.B ρ H w vs us → lendCs H vs K → ∃ xs, K xs ∧ ArgsR w Z xs us
  | [], us, K, _, hv, he => by
    simp only [VRs] at hv; subst hv
    exact ⟨[], by simpa only [lendCs] using he, by simp only [ArgsR]⟩
  | v :: vs, us, K, hz2, hv, he => by
    simp only [VRs] at hv
    obtain ⟨u, r, rfl, h1, h2⟩ := hv
    simp only [lendCs] at he
    obtain ⟨x, he, hx⟩ := lendC_spec h hz1 v u _ (fun ho => hz2 (by simp [ownsL, ho])) h1 he
    obtain ⟨xs, hK, hxs⟩ := lendCs_spec h hz1 vs r _ (fun ho => hz2 (by simp [ownsL, ho])) h2 he
    exact ⟨x :: xs, hK, by simp only [ArgsR]; exact ⟨u, r, rfl, hx, hxs⟩⟩
end

theorem ArgsR.app {w : World} {Z : Nat → Prop} : ∀ {as bs : List AV} {us vs : List Value}, ArgsR w Z as us → ArgsR w Z bs vs → ArgsR w Z (Eng.app as bs) (us ++ vs)
  | [], _, us, _, h, h2 => by simp only [ArgsR] at h; subst h; simpa only [Eng.app, List.nil_append] using h2
  | a :: as, _, us, _, h, h2 => by
    simp only [ArgsR] at h
    obtain ⟨v, r, rfl, h3, h4⟩ := h
    simp only [Eng.app, List.cons_append, ArgsR]
    exact ⟨v, _, rfl, h3, ArgsR.app h4 h2⟩

theorem isOwn_owns {v : AV} (h : isOwn v = true) : owns v = true := by cases v <;> simp_all [isOwn, owns]

theorem lendA_spec (h : RH X ρ H w) {v : AV} {u : Value} {t : TypeId} {ty : Ty} (ht : TyOK P t ty) {K : AV → Prop} {Z : Nat → Prop} (hz1 : ∀ fr b, Zn X.B ρ H fr b → Z b) (hz2 : owns v = true → ∀ b, Z b) (hv : VH X ρ H w v u) (he : lendA H v ty K) :
    ∃ x, K x ∧ ArgR w Z x u := by
  unfold lendA at he
  split at he
  · simp only [VH, VR] at hv
    obtain ⟨us, rfl, hs⟩ := hv
    obtain ⟨ws, hK, hw⟩ := lendCs_spec h hz1 _ us _ (fun ho => hz2 (by simpa only [owns] using ho)) hs he
    refine ⟨_, hK, ?_⟩
    simp only [ArgR]
    exact ⟨us, rfl, hw⟩
  · have := VR_np hv
    subst this
    refine ⟨_, he, ?_⟩
    simp only [ArgR]
    exact ⟨by simp [flat], rfl, _, rfl, by simp [pk, agg]⟩
  · rename_i d _ _ hd
    obtain ⟨y, cs, hK, h1, h2⟩ := lend_spec h hz1 (fun ho => hz2 (isOwn_owns ho)) hv he
    refine ⟨_, hK, ?_⟩
    simp only [ArgR]
    exact ⟨id, code_norow ht hd, cs, h1, h2⟩
  · exact he.elim

theorem lendAll_spec {C : Cfg} (hC : ∀ t, TyOK P t (C.ty t)) (h : RH X ρ H w) {Z : Nat → Prop} (hz1 : ∀ fr b, Zn X.B ρ H fr b → Z b) : ∀ (args : List AV) (ts : List TypeId) (us : List Value) (K : List AV → Prop), (ownsL args = true → ∀ b, Z b) →
    VRs (hlen H) X.B ρ H w args us → lendAll C H args ts K → ∃ xs, K xs ∧ ArgsR w Z xs us
  | [], _, us, K, _, hv, he => by
    simp only [VRs] at hv; subst hv
    exact ⟨[], by simpa only [lendAll] using he, by simp only [ArgsR]⟩
  | v :: vs, [], us, K, _, _, he => by simp [lendAll] at he
  | v :: vs, t :: ts, us, K, hz2, hv, he => by
    simp only [VRs] at hv
    obtain ⟨u, r, rfl, h1, h2⟩ := hv
    simp only [lendAll] at he
    obtain ⟨x, he, hx⟩ := lendA_spec h (hC t) hz1 (fun ho => hz2 (by simp [ownsL, ho])) h1 he
    obtain ⟨xs, hK, hxs⟩ := lendAll_spec hC h hz1 vs ts r _ (fun ho => hz2 (by simp [ownsL, ho])) h2 he
    exact ⟨x :: xs, hK, by simp only [ArgsR]; exact ⟨u, r, rfl, hx, hxs⟩⟩

theorem lendAllR_spec {C : Cfg} (hC : ∀ t, TyOK P t (C.ty t)) (h : RH X ρ H w) {Z : Nat → Prop} (hz1 : ∀ fr b, Zn X.B ρ H fr b → Z b) : ∀ (args : List AV) (ts : List TypeId) (us : List Value) (K : List AV → Prop), (ownsL args = true → ∀ b, Z b) →
    VRs (hlen H) X.B ρ H w args us → lendAllR C H args ts K → ∃ xs, K xs ∧ ArgsR w Z xs us
  | [], _, us, K, _, hv, he => by
    simp only [VRs] at hv; subst hv
    exact ⟨[], by simpa only [lendAllR] using he, by simp only [ArgsR]⟩
  | v :: vs, [], us, K, _, _, he => by simp [lendAllR] at he
  | v :: vs, t :: ts, us, K, hz2, hv, he => by
    simp only [VRs] at hv
    obtain ⟨u, r, rfl, h1, h2⟩ := hv
    simp only [lendAllR] at he
    split at he
    · obtain ⟨xs, hK, hxs⟩ := lendAllR_spec hC h hz1 vs ts r _ (fun ho => hz2 (by simp [ownsL, ho])) h2 he
      simp only [VR] at h1
      exact ⟨.ns :: xs, hK, by simp only [ArgsR, ArgR]; exact ⟨u, r, rfl, h1, hxs⟩⟩
    · obtain ⟨x, he, hx⟩ := lendA_spec h (hC t) hz1 (fun ho => hz2 (by simp [ownsL, ho])) h1 he
      obtain ⟨xs, hK, hxs⟩ := lendAllR_spec hC h hz1 vs ts r _ (fun ho => hz2 (by simp [ownsL, ho])) h2 he
      exact ⟨x :: xs, hK, by simp only [ArgsR]; exact ⟨u, r, rfl, hx, hxs⟩⟩
theorem lendM_spec {C : Cfg} {b : Bool} (hC : ∀ t, TyOK P t (C.ty t)) (h : RH X ρ H w) {Z : Nat → Prop} (hz1 : ∀ fr b, Zn X.B ρ H fr b → Z b) (args : List AV) (ts : List TypeId) (us : List Value) (K : List AV → Prop) (hz2 : ownsL args = true → ∀ b, Z b)
    (hv : VRs (hlen H) X.B ρ H w args us) (he : (match b with | true => lendAllR C H args ts | false => lendAll C H args ts) K) : ∃ xs, K xs ∧ ArgsR w Z xs us := by
  cases b with
  | true => exact lendAllR_spec hC h hz1 args ts us K hz2 hv he
  | false => exact lendAll_spec hC h hz1 args ts us K hz2 hv he

/-! ### Behind a call -/

theorem hk_pad {n : Nat} (bl : List Blk) {r : Nat} (h : n ≤ r) : hk (happ (deads n) bl) r = hk bl (r - n) := by
  rw [hk_happ, hlen_deads, if_neg (by omega)]

theorem isVal_hk : ∀ {bl : List Blk} {r : Nat}, allVal bl → r < hlen bl → isVal (hk bl r) = true
  | [], _, _, h => by simp [hlen] at h
  | b :: bs, 0, h, _ => h.1
  | b :: bs, r + 1, h, hr => by simp only [hk]; exact isVal_hk h.2 (by simpa [hlen] using hr)

theorem freshBs_hk : ∀ {bl : List Blk} {r : Nat} {wr fr : Bool} {E : TypeId} {c : Cd} {x : El c}, freshBs bl = true → r < hlen bl → hk bl r = .val wr fr E c x → fr = true ∨ flat c = true ∨ ∃ d, c = .row d ∧ flat d = true
  | [], _, _, _, _, _, _, _, h, _ => by simp [hlen] at h
  | b :: bs, 0, wr, fr, E, c, x, h, _, e => by
    simp only [hk] at e; subst e
    cases c <;> simp [freshBs] at h <;> rcases h.1 with h1 | h1 <;> simp [h1]
  | b :: bs, r + 1, wr, fr, E, c, x, h, hr, e => by
    simp only [hk] at e
    have h' : freshBs bs = true := by
      cases b with
      | val wr fr E c x => cases c <;> simp [freshBs] at h <;> exact h.2
      | av a => simp [freshBs] at h
      | dead => simp [freshBs] at h
    exact freshBs_hk h' (by simpa [hlen] using hr) e

def jn (n : Nat) (ρ ρ' : Nat → Value) : Nat → Value := fun r => if r < n then ρ r else ρ' r
theorem jn_lt {n : Nat} {ρ ρ' : Nat → Value} {r : Nat} (h : r < n) : jn n ρ ρ' r = ρ r := by simp [jn, h]
theorem jn_ge {n : Nat} {ρ ρ' : Nat → Value} {r : Nat} (h : n ≤ r) : jn n ρ ρ' r = ρ' r := by simp [jn, Nat.not_lt.2 h]

/-- How a zone of the callee stands to the caller's. -/
def ZOK (X : Ctx) (ρ : Nat → Value) (H : List Blk) (w : World) (Z : Nat → Prop) : Prop := ∀ b, b < w.heap.size → Z b → Zn X.B ρ H false b

theorem called_zone (h : RH X ρ H w) {Z : Nat → Prop} {w' : World} {ρ' : Nat → Value} {bl : List Blk} (h' : RH (sub0 w Z) ρ' (happ (deads (hlen H)) bl) w') :
    Ext X.B ρ H w (jn (hlen H) ρ ρ') (happ H bl) w' ∧
    (∀ b, Own (jn (hlen H) ρ ρ') (happ H bl) b → Own ρ H b ∨ (w.heap.size ≤ b ∧ Own ρ' (happ (deads (hlen H)) bl) b)) ∧
    (∀ fr b, Zn (bz0 w Z) ρ' (happ (deads (hlen H)) bl) fr b → (fr = true ∨ ZOK X ρ H w Z) → Zn X.B (jn (hlen H) ρ ρ') (happ H bl) fr b) := by
  have hown : ∀ b, Own (jn (hlen H) ρ ρ') (happ H bl) b → Own ρ H b ∨ (w.heap.size ≤ b ∧ Own ρ' (happ (deads (hlen H)) bl) b) := by
    rintro b ⟨r, hr, hl, hb⟩
    by_cases hlt : r < hlen H
    · rw [hk_happ, if_pos hlt] at hl
      rw [jn_lt hlt] at hb
      exact .inl ⟨r, hlt, hl, hb⟩
    · have hge : hlen H ≤ r := by omega
      rw [hk_happ, if_neg hlt, ← hk_pad bl hge] at hl
      rw [jn_ge hge] at hb
      have hr' : r < hlen (happ (deads (hlen H)) bl) := by rw [hlen_happ, hlen_deads, ← hlen_happ]; exact hr
      exact .inr ⟨h'.new r b hr' (live_dead hl) hb, r, hr', hl, hb⟩
  have ext : Ext X.B ρ H w (jn (hlen H) ρ ρ') (happ H bl) w' := by
    refine ⟨by rw [hlen_happ]; omega, fun r hr => jn_lt hr, h'.size, fun b hb ho => ⟨fun ho' => ?_, h'.keep b hb id⟩⟩
    rcases hown b ho' with h1 | ⟨h1, _⟩
    · exact ho h1
    · omega
  refine ⟨ext, hown, fun fr b ⟨hz1, hz2⟩ hfr => ?_⟩
  have big : w.heap.size ≤ b → Zn X.B (jn (hlen H) ρ ρ') (happ H bl) fr b := fun hb => by
    refine ⟨fun ho => ?_, .inl (h.bsz b (Nat.le_trans h.size hb))⟩
    rcases hown b ho with ⟨r, hr, hl, hbb⟩ | ⟨_, h2⟩
    · have := h.blk_lt hr (live_dead hl) hbb; omega
    · exact hz1 h2
  rcases hz2 with hz2 | ⟨hf, hz2⟩
  · exact big hz2
  · by_cases hb : w.heap.size ≤ b
    · exact big hb
    · subst hf
      have hb' : b < w.heap.size := by omega
      obtain ⟨ho, hB⟩ := (hfr.resolve_left (by simp)) b hb' hz2
      exact ⟨(ext.hz b hb' ho).1, hB⟩

theorem RH.called (h : RH X ρ H w) {Z : Nat → Prop} {w' : World} {ρ' : Nat → Value} {bl : List Blk} (h' : RH (sub0 w Z) ρ' (happ (deads (hlen H)) bl) w') (hval : allVal bl)
    (hz : ZOK X ρ H w Z ∨ freshBs bl = true) : RH X (jn (hlen H) ρ ρ') (happ H bl) w' := by
  obtain ⟨ext, hown, hzone⟩ := called_zone h h'
  have hl : hlen (happ H bl) = hlen H + hlen bl := hlen_happ _ _
  have hl' : hlen (happ (deads (hlen H)) bl) = hlen H + hlen bl := by rw [hlen_happ, hlen_deads]
  have hko : ∀ r, r < hlen H → hk (happ H bl) r = hk H r := fun r hr => by rw [hk_happ, if_pos hr]
  have hkn : ∀ r, hlen H ≤ r → hk (happ H bl) r = hk (happ (deads (hlen H)) bl) r := fun r hr => by rw [hk_happ, if_neg (by omega), hk_pad bl hr]
  refine h.step ext ?_ ?_ ?_ ?_ ?_ ?_ ?_
  · exact h'.os
  · exact h'.tape
  · exact h'.output
  · intro r hr
    by_cases hlt : r < hlen H
    · rw [hko r hlt, jn_lt hlt]
      exact (h.blk r hlt).ext ext fun k hd hb => h'.keep k (h.blk_lt hlt hd hb) id
    · have hge : hlen H ≤ r := by omega
      rw [hkn r hge, jn_ge hge]
      have hr' : r < hlen (happ (deads (hlen H)) bl) := by omega
      have hb := h'.blk r hr'
      have hv : isVal (hk (happ (deads (hlen H)) bl) r) = true := by rw [hk_pad bl hge]; exact isVal_hk hval (by omega)
      cases hbk : hk (happ (deads (hlen H)) bl) r with
      | dead => rw [hbk] at hv; simp [isVal] at hv
      | av a => rw [hbk] at hv; simp [isVal] at hv
      | val wr fr E c x =>
        rw [hbk] at hb
        have hfr : (fr = true ∨ ZOK X ρ H w Z) ∨ flat c = true ∨ ∃ d, c = .row d ∧ flat d = true := by
          rcases hz with hz | hz
          · exact .inl (.inr hz)
          · rcases freshBs_hk hz (r := r - hlen H) (by omega) (by rw [← hk_pad bl hge]; exact hbk) with h1 | h1
            · exact .inl (.inl h1)
            · exact .inr h1
        have tr : ∀ {d : Cd} {y : El d} {cs : List Value}, ((fr = true ∨ ZOK X ρ H w Z) ∨ flat d = true) → VT w' (Zn (bz0 w Z) ρ' (happ (deads (hlen H)) bl) fr) d y cs → VT w' (Zn X.B (jn (hlen H) ρ ρ') (happ H bl) fr) d y cs := by
          intro d y cs hh hv
          rcases hh with hh | hh
          · exact hv.mono (fun b _ hb => ⟨hzone fr b hb hh, rfl⟩) (Nat.le_refl _)
          · exact hv.flat hh
        by_cases hc : ∃ d, c = .row d
        · obtain ⟨d, rfl⟩ := hc
          obtain ⟨h1, h2, cells, hown', hf⟩ := hb
          refine ⟨h1, h2, cells, hown', hf.mono fun _ _ hx => tr ?_ hx⟩
          rcases hfr with hfr | hfr | ⟨d', e, hfr⟩
          · exact .inl hfr
          · simp [flat] at hfr
          · cases e; exact .inr hfr
        · have hc' : ∀ d, c ≠ .row d := fun d e => hc ⟨d, e⟩
          have hb' : norow c = true ∧ ∃ b cells, ρ' r = .pointer (some ⟨b, 0, none⟩) ∧ w'.heap[b]? = some (.cells (List.toArray cells) E (0, 0)) ∧ VT w' (Zn (bz0 w Z) ρ' (happ (deads (hlen H)) bl) fr) c x cells := by
            cases c <;> first | exact hb | exact absurd rfl (hc' _)
          obtain ⟨h1, b, cells, e, hg, hv⟩ := hb'
          refine BR_val hc' h1 e hg (tr ?_ hv)
          rcases hfr with hfr | hfr | ⟨d', e, hfr⟩
          · exact .inl hfr
          · exact .inr hfr
          · exact absurd e (hc' d')
  · intro r r' k hr hr' hd hd' hb hb'
    have cross : ∀ r r', r < hlen H → hlen H ≤ r' → r' < hlen (happ H bl) → dead (hk (happ H bl) r) = false → dead (hk (happ H bl) r') = false → blkOf (jn (hlen H) ρ ρ' r) = some k → blkOf (jn (hlen H) ρ ρ' r') = some k → False := by
      intro r r' h1 h2 h3 hd hd' hb hb'
      rw [hko r h1] at hd; rw [jn_lt h1] at hb
      rw [hkn r' h2] at hd'; rw [jn_ge h2] at hb'
      have e1 := h.blk_lt h1 hd hb
      have e2 := h'.new r' k (by omega) hd' hb'
      simp only [sub0] at e2
      omega
    by_cases h1 : r < hlen H <;> by_cases h2 : r' < hlen H
    · rw [hko r h1] at hd; rw [hko r' h2] at hd'; rw [jn_lt h1] at hb; rw [jn_lt h2] at hb'
      exact h.inj r r' k h1 h2 hd hd' hb hb'
    · exact (cross r r' h1 (by omega) hr' hd hd' hb hb').elim
    · exact (cross r' r h2 (by omega) hr hd' hd hb' hb).elim
    · have g1 : hlen H ≤ r := by omega
      have g2 : hlen H ≤ r' := by omega
      rw [hkn r g1] at hd; rw [hkn r' g2] at hd'; rw [jn_ge g1] at hb; rw [jn_ge g2] at hb'
      exact h'.inj r r' k (by omega) (by omega) hd hd' hb hb'
  · intro r k hr hd hb
    by_cases h1 : r < hlen H
    · rw [hko r h1] at hd; rw [jn_lt h1] at hb
      exact h.new r k h1 hd hb
    · have g1 : hlen H ≤ r := by omega
      rw [hkn r g1] at hd; rw [jn_ge g1] at hb
      have := h'.new r k (by omega) hd hb
      exact h.bsz k (Nat.le_trans h.size this)
  · intro b hb ho
    rcases hown b ho with h1 | ⟨h1, _⟩
    · exact h1
    · omega

mutual
theorem VR.called (h : RH X ρ H w) {Z : Nat → Prop} {w' : World} {ρ' : Nat → Value} {bl : List Blk} (h' : RH (sub0 w Z) ρ' (happ (deads (hlen H)) bl) w') : ∀ {a : AV} {v : Value}, (ZOK X ρ H w Z ∨ fresh a = true) → rge (hlen H) a →
    VR (hlen (happ (deads (hlen H)) bl)) (bz0 w Z) ρ' (happ (deads (hlen H)) bl) w' a v → VR (hlen (happ H bl)) X.B (jn (hlen H) ρ ρ') (happ H bl) w' a v
  | .any, _, _, _, _ => by simp only [VR]
  | .t fr c x, v, hz, _, hv => by
    simp only [VR] at hv ⊢
    obtain ⟨cs, h1, h2⟩ := hv
    refine ⟨cs, ?_, h2⟩
    obtain ⟨ext, hown, hzone⟩ := called_zone h h'
    rcases hz with hz | hz
    · exact h1.mono (fun b _ hb => ⟨hzone fr b hb (.inr hz), rfl⟩) (Nat.le_refl _)
    · simp only [fresh, Bool.or_eq_true] at hz
      rcases hz with hz | hz
      · exact h1.mono (fun b _ hb => ⟨hzone fr b hb (.inl hz), rfl⟩) (Nat.le_refl _)
      · exact h1.flat hz
  | .ns, _, _, _, hv => by simp only [VR] at hv ⊢; exact hv
  | .os r, _, _, hr, hv => by
    simp only [VR, rge] at hv hr ⊢
    rw [jn_ge hr]; exact ⟨by have := hv.1; simp only [hlen_happ, hlen_deads] at this ⊢; exact this, hv.2⟩
  | .ox r c lo hi, _, _, hr, hv => by
    simp only [VR, rge] at hv hr ⊢
    rw [jn_ge hr]; exact ⟨by have := hv.1; simp only [hlen_happ, hlen_deads] at this ⊢; exact this, hv.2⟩
  | .op r c p, _, _, hr, hv => by
    simp only [VR, rge] at hv hr ⊢
    rw [jn_ge hr]; exact ⟨by have := hv.1; simp only [hlen_happ, hlen_deads] at this ⊢; exact this, hv.2⟩
  | .fn f vs, _, hz, hr, hv => by
    simp only [VR, rge, fresh] at hv hr hz ⊢
    obtain ⟨us, e, hs⟩ := hv
    exact ⟨us, e, VRs.called h h' hz hr hs⟩
  | .tu vs, _, hz, hr, hv => by
    simp only [VR, rge, fresh] at hv hr hz ⊢
    obtain ⟨us, e, hs⟩ := hv
    exact ⟨us, e, VRs.called h h' hz hr hs⟩
theorem VRs.called (h : RH X ρ H w) {Z : Nat → Prop} {w' : World} {ρ' : Nat → Value} {bl : List Blk} (h' : RH (sub0 w Z) ρ' (happ (deads (hlen H)) bl) w') : ∀ {as : List AV} {vs : List Value}, (ZOK X ρ H w Z ∨ freshL as = true) → rges (hlen H) as →
    VRs (hlen (happ (deads (hlen H)) bl)) (bz0 w Z) ρ' (happ (deads (hlen H)) bl) w' as vs → VRs (hlen (happ H bl)) X.B (jn (hlen H) ρ ρ') (happ H bl) w' as vs
  | [], _, _, _, hv => by simp only [VRs] at hv ⊢; exact hv
  | a :: as, _, hz, hr, hv => by
    simp only [VRs, rges, freshL, Bool.and_eq_true] at hv hr hz ⊢
    obtain ⟨v, r, e, h1, h2⟩ := hv
    exact ⟨v, r, e, VR.called h h' (hz.imp id (·.1)) hr.1 h1, VRs.called h h' (hz.imp id (·.2)) hr.2 h2⟩
end

theorem evPure_spec {hd : Bool} {C : Cfg} (hC : CfgOK P C) (h : RH X ρ H w) {f : FuncId} {args caps : List AV} {ts : List TypeId} {us vs : List Value} {K : AV → List Blk → Prop} (hv : VRs (hlen H) X.B ρ H w args us) (hc : VRs (hlen H) X.B ρ H w caps vs) (he : evPure C H f args ts caps K) :
    (∀ a w, (callFunc f a).run P w = .ok (.enter f a) w) ∧ Calls P f (us ++ vs).toArray w fun e w' => ∃ u, e = .returned u ∧ After X ρ H w hd K u w' := by
  unfold evPure at he
  split at he
  · rename_i ent hent
    obtain ⟨hp, hf⟩ := hC.fn f ent hent
    refine ⟨hf, ?_⟩
    by_cases ho : (ownsL args || ownsL caps) = true
    · obtain ⟨xs, hK, hx⟩ := lendM_spec (Z := fun _ => True) hC.ty h (fun _ _ _ => trivial) args ts us _ (fun _ _ => trivial) hv he
      obtain ⟨ys, hK, hy⟩ := lendCs_spec (Z := fun _ => True) h (fun _ _ _ => trivial) caps vs _ (fun _ _ => trivial) hc hK
      refine (hp _ (hlen H) _ _ w _ hK (hx.app hy)).mono fun e w' ⟨u, v, bl, e1, hK, ρ', h', hvr, hrg, hval⟩ => ⟨u, e1, ?_⟩
      replace hK := Br_tf hK
      obtain ⟨hfr, hK⟩ := hK
      simp only [ho, Bool.not_true, Bool.false_or, Bool.and_eq_true] at hfr
      exact ⟨v, _, _, hK, (called_zone h h').1, h.called h' hval (.inr hfr.2), VR.called h h' (.inr hfr.1) hrg hvr, fun _ => ⟨⟨_, rfl⟩, fun b hb => h'.keep b hb id⟩⟩
    · have ho1 : ¬ ownsL args = true := fun e => ho (by simp [e])
      have ho2 : ¬ ownsL caps = true := fun e => ho (by simp [e])
      have hzz : ∀ fr b, Zn X.B ρ H fr b → Zn X.B ρ H false b := fun fr b hb => ⟨hb.1, by cases fr <;> simp_all [Zn]⟩
      obtain ⟨xs, hK, hx⟩ := lendM_spec (Z := Zn X.B ρ H false) hC.ty h hzz args ts us _ (fun hh => absurd hh ho1) hv he
      obtain ⟨ys, hK, hy⟩ := lendCs_spec (Z := Zn X.B ρ H false) h hzz caps vs _ (fun hh => absurd hh ho2) hc hK
      refine (hp _ (hlen H) _ _ w _ hK (hx.app hy)).mono fun e w' ⟨u, v, bl, e1, hK, ρ', h', hvr, hrg, hval⟩ => ⟨u, e1, ?_⟩
      replace hK := Br_tf hK
      have hz : ZOK X ρ H w (Zn X.B ρ H false) := fun b _ hb => hb
      exact ⟨v, _, _, hK.2, (called_zone h h').1, h.called h' hval (.inl hz), VR.called h h' (.inl hz) hrg hvr, fun _ => ⟨⟨_, rfl⟩, fun b hb => h'.keep b hb id⟩⟩
  · exact he.elim

end
end Go.Eng
