/- The abstract evaluator: one operation; regions. -/
import Derived.Test.YtniabjhjpkkllaaEngI
namespace Go.Eng
open Go Go.RowKit

theorem rdN_spec {α : Type} {f : List Value → (α → List Value → Prop) → Prop} {R : α → List Value → Prop} (hf : ∀ vs (K : α → List Value → Prop), f vs K → ∃ x r cs, K x r ∧ vs = cs ++ r ∧ R x cs) :
    ∀ (n : Nat) (vs : List Value) (K : List α → List Value → Prop), rdN f n vs K → ∃ xs r cs, K xs r ∧ vs = cs ++ r ∧ xs.length = n ∧ Flat R xs cs
  | 0, vs, K, h => ⟨[], vs, [], h, rfl, rfl, rfl⟩
  | n + 1, vs, K, h => by
    simp only [rdN] at h
    obtain ⟨x, r, cs, h', rfl, hx⟩ := hf vs _ h
    obtain ⟨xs, r', ds, hK, rfl, hl, hxs⟩ := rdN_spec hf n r _ h'
    exact ⟨x :: xs, r', cs ++ ds, hK, by simp, by simp [hl], cs, ds, rfl, hx, hxs⟩

theorem rd_spec (w : World) (Z : Nat → Prop) : ∀ (c : Cd) (vs : List Value) (K : El c → List Value → Prop), rd c vs K → ∃ x r cs, K x r ∧ vs = cs ++ r ∧ VT w Z c x cs
  | .bool, vs, K, h => by
    cases vs with
    | nil => simp [rd] at h
    | cons v r => cases v <;> simp [rd] at h; exact ⟨_, r, [_], h, rfl, rfl⟩
  | .int k, vs, K, h => by
    cases vs with
    | nil => simp [rd] at h
    | cons v r =>
      cases v <;> simp only [rd] at h
      replace h := Br_tf h
      obtain ⟨hk, h⟩ := h
      have hk := of_decide_eq_true hk
      subst hk
      exact ⟨_, r, [_], h, rfl, rfl⟩
  | .str, vs, K, h => by
    cases vs with
    | nil => simp [rd] at h
    | cons v r => cases v <;> simp [rd] at h; exact ⟨_, r, [_], h, rfl, rfl⟩
  | .np, vs, K, h => by
    cases vs with
    | nil => simp [rd] at h
    | cons v r =>
      cases v with
      | pointer a => cases a with
        | none => exact ⟨_, r, [_], by simpa only [rd] using h, rfl, rfl⟩
        | some _ => simp [rd] at h
      | _ => simp [rd] at h
  | .sl c, vs, K, h => by
    cases vs with
    | nil => simp [rd] at h
    | cons v r =>
      cases v with
      | slice a n m =>
        cases a with
        | some _ => simp [rd] at h
        | none => cases n with
          | succ _ => simp [rd] at h
          | zero => cases m with
            | succ _ => simp [rd] at h
            | zero => exact ⟨_, r, [_], by simpa only [rd] using h, rfl, none, 0, rfl, Nat.le_refl _, .inl rfl⟩
      | _ => simp [rd] at h
  | .ptr c, vs, K, h => by simp [rd] at h
  | .arr n c, vs, K, h => by
    simp only [rd] at h
    obtain ⟨xs, r, cs, hK, e, hl, hf⟩ := rdN_spec (R := VT w Z c) (rd_spec w Z c) n vs K h
    exact ⟨xs, r, cs, hK, e, hl, hf⟩
  | .row c, vs, K, h => by simp [rd] at h
  | .nil, vs, K, h => by
    simp only [rd] at h
    exact ⟨(), vs, [], h, rfl, rfl⟩
  | .cons c d, vs, K, h => by
    simp only [rd] at h
    obtain ⟨x, r, cs, h', rfl, hx⟩ := rd_spec w Z c vs _ h
    obtain ⟨y, r', ds, hK, rfl, hy⟩ := rd_spec w Z d r _ h'
    exact ⟨(x, y), r', cs ++ ds, hK, by simp, cs, ds, rfl, hx, hy⟩

section
variable {P : Program} {X : Ctx} {ρ : Nat → Value} {H : List Blk} {w : World}

theorem ex_v {s : Sem Value} {u : Value} {w' : World} (h : s.run P w = .ok u w') : (do pure (Next.value (← s)) : Sem Next).run P w = .ok (.value u) w' := by simp [h]

theorem VRs_get : ∀ {vs : List AV} {us : List Value} (i : Nat), VRs (hlen H) X.B ρ H w vs us → i < vs.length → ∃ u, us[i]? = some u ∧ VH X ρ H w (lk vs i) u
  | [], _, _, _, h => by simp at h
  | v :: vs, us, 0, hv, _ => by
    simp only [VRs] at hv
    obtain ⟨u, r, rfl, h1, _⟩ := hv
    exact ⟨u, rfl, h1⟩
  | v :: vs, us, i + 1, hv, h => by
    simp only [VRs] at hv
    obtain ⟨u, r, rfl, _, h2⟩ := hv
    obtain ⟨u', h3, h4⟩ := VRs_get i h2 (by simpa using h)
    exact ⟨u', by simpa using h3, h4⟩

/-- What is known of operands. -/
def OpsR (X : Ctx) (ρ : Nat → Value) (H : List Blk) (w : World) (tmps : List AV) (a : Act) (xs : Array Operand) : Prop := ∀ x ∈ xs, VH X ρ H w (opv tmps x) (a.eval x)

theorem opvs_spec' {tmps : List AV} {a : Act} : ∀ xs : List Operand, (∀ x ∈ xs, VH X ρ H w (opv tmps x) (a.eval x)) → VRs (hlen H) X.B ρ H w (opvs tmps xs) (xs.map a.eval)
  | [], _ => by simp [opvs, VRs]
  | x :: xs, h => by simp only [opvs, VRs, List.map_cons]; exact ⟨_, _, rfl, h x (by simp), opvs_spec' xs fun y hy => h y (by simp [hy])⟩

theorem ops2_spec' {tmps : List AV} {a : Act} : ∀ ps : List (Nat × Operand), (∀ p ∈ ps, VH X ρ H w (opv tmps p.2) (a.eval p.2)) → PartsR X ρ H w (ops2 tmps ps) (ps.map fun p => (p.1, a.eval p.2))
  | [], _ => by simp [ops2, PartsR]
  | (i, x) :: ps, h => ⟨_, _, rfl, h (i, x) (by simp), ops2_spec' ps fun y hy => h y (by simp [hy])⟩

/-- What an operation comes to. -/
def OpRes (P : Program) (X : Ctx) (ρ : Nat → Value) (H : List Blk) (w : World) (o : Oper) (a : Act) (hd : Bool) (K : AV → List Blk → Prop) : Prop :=
  (∃ u w', (execOp a.eval o).run P w = .ok (.value u) w' ∧ After X ρ H w hd K u w') ∨
  (∃ w', (execOp a.eval o).run P w = .ok .skip w' ∧ After X ρ H w hd K undef w') ∨
  (∃ f args, (execOp a.eval o).run P w = .ok (.enter f args) w ∧ Calls P f args w fun e w' => ∃ u, e = .returned u ∧ After X ρ H w hd K u w')

theorem evCall_spec {C : Cfg} (hC : CfgOK P C) (h : RH X ρ H w) {tmps : List AV} {a : Act} {hd : Bool} {o : Oper} {c : Call} (ho : o.op = .call c) (ht : OpsR X ρ H w tmps a c.operands) {K : AV → List Blk → Prop} (he : evCall C hd H tmps c K) :
    OpRes P X ρ H w o a hd K := by
  obtain ⟨callee, args, ats⟩ := c
  unfold evCall at he
  have hta : ∀ x ∈ args.toList, VH X ρ H w (opv tmps x) (a.eval x) := fun x hx => ht x (by simp only [Call.operands]; exact Array.mem_append.2 (.inr (by simpa using hx)))
  have hargs : args = args.toList.toArray := by simp
  have hats : ats = ats.toList.toArray := by simp
  split at he
  · rename_i b hb
    simp only at hb
    subst hb
    split at he
    · rename_i x t e1 e2
      simp only at e1 e2
      rw [e1] at hargs; rw [e2] at hats
      subst hargs hats
      obtain ⟨r, v, hr, hK, hv⟩ := evLen_spec (P := P) (rt := o.type) h (hC.ty t) (hta x (by simp)) he
      refine .inl ⟨r, w, ?_, After.same h hK hv⟩
      simp [execOp, ho, resolve, invoke, builtin, hr]
    · rename_i x t e1 e2
      simp only at e1 e2
      rw [e1] at hargs; rw [e2] at hats
      subst hargs hats
      split at he
      · rename_i hx hty
        have hv := hta x (by simp)
        have htt := hC.ty t
        rw [hty] at htt
        rw [hx] at hv
        simp only [VH, VR] at hv
        refine .inl ⟨.int .i64 0, w, ?_, After.same h he (VR_bI _ _)⟩
        simp [execOp, ho, resolve, invoke, builtin, hv, Builtin.cap_, run_underlying htt.1, goInt]
      · exact he.elim
    · rename_i s x t t' e1 e2
      simp only at e1 e2
      rw [e1] at hargs; rw [e2] at hats
      subst hargs hats
      replace he := Br_tf he
      obtain ⟨hh, he⟩ := he
      simp only [Bool.not_eq_true'] at hh
      subst hh
      rcases Br_cases he with ⟨hh, he2⟩ | ⟨_, he2⟩
      rotate_left
      · obtain ⟨r, w', hr, hA⟩ := evAppN_spec (P := P) (rt := o.type) rfl h (hC.ty t) (hC.ty t') (hta s (by simp)) (hta x (by simp)) he2
        refine .inl ⟨r, w', ?_, hA⟩
        simp [execOp, ho, resolve, invoke, builtin, hr]
      have := Nat.eq_of_beq_eq_true hh
      subst this
      obtain ⟨r, w', hr, hA⟩ := evAppend_spec (P := P) (rt := o.type) h (hC.ty t) (hta s (by simp)) (hta x (by simp)) he2
      refine .inl ⟨r, w', ?_, hA⟩
      simp [execOp, ho, resolve, invoke, builtin, hr]
    · rename_i s x t t' e1 e2
      simp only at e1 e2
      rw [e1] at hargs
      rw [e2] at hats
      replace he := Br_tf he
      obtain ⟨hh, he⟩ := he
      simp only [Bool.not_eq_true'] at hh
      subst hh hargs hats
      obtain ⟨r, w', hr, hA⟩ := evCopy_spec (P := P) (st := t') (rt := o.type) h (hC.ty t) (hta s (by simp)) (hta x (by simp)) he
      refine .inl ⟨r, w', ?_, hA⟩
      simp [execOp, ho, resolve, invoke, builtin, hr]
    · rename_i xs ts e1 e2
      obtain ⟨r, v, hr, hK, hv⟩ := evMax_spec (P := P) (t := ats) (rt := o.type) (opvs_spec' _ hta) he
      refine .inl ⟨r, w, ?_, After.same h hK hv⟩
      have : (List.map a.eval args.toList).toArray = args.map a.eval := by apply Array.ext'; simp
      rw [this] at hr
      simp [execOp, ho, resolve, invoke, builtin, hr]
    · rename_i xs ts e1 e2
      obtain ⟨r, v, hr, hK, hv⟩ := evMin_spec (P := P) (t := ats) (rt := o.type) (opvs_spec' _ hta) he
      refine .inl ⟨r, w, ?_, After.same h hK hv⟩
      have : (List.map a.eval args.toList).toArray = args.map a.eval := by apply Array.ext'; simp
      rw [this] at hr
      simp [execOp, ho, resolve, invoke, builtin, hr]
    · exact he.elim
  · rename_i f hf
    simp only at hf
    subst hf
    split at he
    · rename_i g caps hg
      have hv := ht f (by simp [Call.operands])
      rw [hg] at hv
      simp only [VR] at hv
      obtain ⟨vs, e, hvs⟩ := hv
      obtain ⟨hf, hcall⟩ := evPure_spec (hd := hd) hC h (opvs_spec' _ hta) hvs he
      refine .inr (.inr ⟨g, args.map a.eval ++ vs.toArray, ?_, ?_⟩)
      · simp [execOp, ho, resolve, invoke, e, Deferred.ofValue, hf]
      · have : (List.map a.eval args.toList ++ vs).toArray = args.map a.eval ++ vs.toArray := by apply Array.ext'; simp
        rw [this] at hcall
        exact hcall
    · exact he.elim
  · exact he.elim


theorem optR_map {tmps : List AV} {a : Act} (x : Option Operand) (ht : ∀ y ∈ x.toArray, VH X ρ H w (opv tmps y) (a.eval y)) : optR X ρ H w (x.map (opv tmps)) (x.map a.eval) := by
  cases x with
  | none => trivial
  | some x => exact ht x (by simp)

theorem evOp_spec {C : Cfg} (hC : CfgOK P C) (h : RH X ρ H w) {tmps : List AV} {a : Act} {hd : Bool} {o : Oper} (ht : OpsR X ρ H w tmps a o.op.operands) {K : AV → List Blk → Prop} (he : evOp C hd tmps H o K) :
    OpRes P X ρ H w o a hd K := by
  have mv : ∀ x, (o.op = .move x ∨ o.op = .assign x) → (match x with
    | .const (.agg cs) => match (C.ty o.type).code with
      | some c => Br (agg c) (rd c cs.toList fun x r => match r with | [] => K (.t true c x) H | _ => False) False
      | none => False
    | x => K (opv tmps x) H) → OpRes P X ρ H w o a hd K := by
    intro x ho hx
    have hrun : (execOp a.eval o).run P w = .ok (.value (a.eval x)) w := by rcases ho with ho | ho <;> simp [execOp, ho]
    split at hx
    · rename_i cs
      split at hx
      · rename_i c hc
        replace hx := Br_tf hx
        obtain ⟨hag, hx⟩ := hx
        obtain ⟨x, r, ds, hK, e, hv⟩ := rd_spec w (Zn X.B ρ H true) c _ _ hx
        split at hK
        · rename_i r
          refine .inl ⟨_, w, hrun, After.same h hK ?_⟩
          simp only [List.append_nil] at e
          simp only [VH, VR, Act.eval]
          exact ⟨ds, hv, by simp only [pk, hag, if_true]; rw [← e]⟩
        · exact hK.elim
      · exact hx.elim
    · exact .inl ⟨_, w, hrun, After.same h hx (ht x (by rcases ho with ho | ho <;> simp [ho, Op.operands]))⟩
  -- what only looks
  have look : ∀ {s : Sem Value} {K' : AV → Prop}, (execOp a.eval o) = (do pure (Next.value (← s)) : Sem Next) → (∀ v, K' v → K v H) → (∃ r v, s.run P w = .ok r w ∧ K' v ∧ VH X ρ H w v r) → OpRes P X ρ H w o a hd K := by
    intro s K' e hK' ⟨r, v, hr, hK, hv⟩
    exact .inl ⟨r, w, by rw [e]; exact ex_v hr, After.same h (hK' v hK) hv⟩
  unfold evOp at he
  split at he
  · rename_i x ho; exact mv x (.inl ho) he
  · rename_i x ho; exact mv x (.inr ho) he
  · rename_i c x y ho
    split at he
    · rename_i fr b hb
      have hv := ht c (by simp [ho, Op.operands])
      rw [hb] at hv
      have hv := VR_bool hv
      rcases Br_cases he with ⟨rfl, hK⟩ | ⟨rfl, hK⟩
      · exact .inl ⟨a.eval x, w, by simp [execOp, ho, hv, asBool], After.same h hK (ht x (by simp [ho, Op.operands]))⟩
      · exact .inl ⟨a.eval y, w, by simp [execOp, ho, hv, asBool], After.same h hK (ht y (by simp [ho, Op.operands]))⟩
    · exact he.elim
  · rename_i e ho
    obtain ⟨u, w', hr, hA⟩ := evAlloc_spec (hd := hd) h (hC.ty e) he
    exact .inl ⟨u, w', by simp only [execOp, ho]; exact ex_v hr, hA⟩
  · rename_i e x ho
    replace he := Br_tf he
    obtain ⟨u, w', hr, hA⟩ := evBox_spec (hd := hd) h (hC.ty e) (ht x (by simp [ho, Op.operands])) he.2
    exact .inl ⟨u, w', by simp only [execOp, ho]; exact ex_v hr, hA⟩
  · rename_i t ps ho
    have hparts : (ps.map fun (p : Nat × Operand) => (p.1, a.eval p.2)) = (ps.toList.map fun p => (p.1, a.eval p.2)).toArray := by apply Array.ext'; simp
    split at he
    · rename_i c hc
      replace he := Br_tf he
      have hty := hC.ty t
      rw [hc] at hty
      obtain ⟨x, fr, H', u, hr, hK, e1, h1, hv, hfz⟩ := build_st (!hd) h hty he.1 (ops2_spec' ps.toList fun p hp => ht p.2 (by simp only [ho, Op.operands]; simp; exact ⟨p.1, by simpa using hp⟩)) he.2
      rw [← hparts] at hr
      refine .inl ⟨u, w, by simp only [execOp, ho]; exact ex_v hr, _, ρ, H', hK, e1, h1, hv, fun hh => ⟨⟨[], ?_⟩, fun _ _ => rfl⟩⟩
      rw [happ_nil]; exact hfz (by simp [hh])
    · rename_i n e c hc
      replace he := Br_tf he
      have hty := hC.ty t
      rw [hc] at hty
      obtain ⟨x, fr, H', u, hr, hK, e1, h1, hv, hfz⟩ := build_arr (!hd) h hty he.1 (ops2_spec' ps.toList fun p hp => ht p.2 (by simp only [ho, Op.operands]; simp; exact ⟨p.1, by simpa using hp⟩)) (fillA_fill he.2)
      rw [← hparts] at hr
      refine .inl ⟨u, w, by simp only [execOp, ho]; exact ex_v hr, _, ρ, H', hK, e1, h1, hv, fun hh => ⟨⟨[], ?_⟩, fun _ _ => rfl⟩⟩
      rw [happ_nil]; exact hfz (by simp [hh])
    · exact he.elim
  · rename_i t n ps ho
    have hparts : (ps.map fun (p : Nat × Operand) => (p.1, a.eval p.2)) = (ps.toList.map fun p => (p.1, a.eval p.2)).toArray := by apply Array.ext'; simp
    split at he
    · rename_i e c by_ hc
      replace he := Br_tf he
      have hty := hC.ty t
      rw [hc] at hty
      obtain ⟨u, w', hr, x, fr, H', hK, hfz, e0, e1, h1, hv, hsame⟩ := buildSlice_spec (!hd) h hty (ops2_spec' ps.toList fun p hp => ht p.2 (by simp only [ho, Op.operands]; simp; exact ⟨p.1, by simpa using hp⟩)) he.1 (fillR_fill he.2)
      rw [← hparts] at hr
      refine .inl ⟨u, w', by simp only [execOp, ho]; exact ex_v hr, _, _, _, hK, e1, h1, hv, fun hh => ⟨?_, hsame⟩⟩
      exact ⟨_, by rw [hfz (by simp [hh])]⟩
    · exact he.elim
  · rename_i t x ho
    exact look (by simp only [execOp, ho]) (fun _ h => h) (evLoad_spec h (hC.ty t) (ht x (by simp [ho, Op.operands])) he)
  · rename_i t x v ho
    replace he := Br_tf he
    obtain ⟨hh, he⟩ := he
    obtain ⟨w', H', hr, hK, e1, h1⟩ := evStore_spec h (hC.ty t) (ht x (by simp [ho, Op.operands])) (ht v (by simp [ho, Op.operands])) he
    refine .inr (.inl ⟨w', by simp only [execOp, ho]; simp [hr], _, ρ, H', hK, e1, h1, by simp [VH, VR], fun h2 => ?_⟩)
    rw [h2] at hh; simp at hh
  · rename_i x ho
    split at he
    · rename_i r c p hx
      have hv := ht x (by simp [ho, Op.operands])
      rw [hx] at hv
      have hv' := hv
      simp only [VR] at hv'
      obtain ⟨_, b, _, e⟩ := hv'
      exact .inl ⟨_, w, by simp [execOp, ho, e]; rfl, After.same h he (by rw [← e]; exact hv)⟩
    · rename_i fr c y hx
      have hv := ht x (by simp [ho, Op.operands])
      rw [hx] at hv
      obtain ⟨b, o', cells, e, _⟩ := VR_ptr hv
      exact .inl ⟨_, w, by simp [execOp, ho, e]; rfl, After.same h he (by rw [← e]; exact hv)⟩
    · rename_i f vs hx
      have hv := ht x (by simp [ho, Op.operands])
      rw [hx] at hv
      have hv' := hv
      simp only [VR] at hv'
      obtain ⟨us, e, _⟩ := hv'
      exact .inl ⟨_, w, by simp [execOp, ho, e]; rfl, After.same h he (by rw [← e]; exact hv)⟩
    · exact he.elim
  · rename_i op t x y yt ho
    split at he
    · rename_i c hq
      exact look (by simp only [execOp, ho]) (fun _ h => h) (evEq_spec (P := P) (hC.eq t c hq) (ht x (by simp [ho, Op.operands])) (ht y (by simp [ho, Op.operands])) x y he)
    · exact look (by simp only [execOp, ho]) (fun _ h => h) (evBin_spec (P := P) (hC.ty t) (ht x (by simp [ho, Op.operands])) (ht y (by simp [ho, Op.operands])) x y he)
  · rename_i op t x ho
    exact look (by simp only [execOp, ho]) (fun _ h => h) (evUn_spec (P := P) (ht x (by simp [ho, Op.operands])) he)
  · rename_i s d x ho
    split at he
    · rename_i k1 k2 fr k3 n e1 e2 e3
      have hv := ht x (by simp [ho, Op.operands])
      rw [e3] at hv
      have hv := VR_int hv
      have t1 := hC.ty s
      have t2 := hC.ty d
      rw [e1] at t1; rw [e2] at t2
      have u1 : P.underlying s = some (.int k1) := t1.2
      have u2 : P.underlying d = some (.int k2) := t2.2
      exact .inl ⟨.int k2 (k2.wrap n), w, by simp [execOp, ho, convert, run_underlying u1, run_underlying u2, hv, Conv.intToInt], After.same h he (VR_bI _ _)⟩
    · exact he.elim
  · rename_i fn first caps ho
    split at he
    · rename_i f e1
      have hfirst : first = #[] := by apply Array.ext'; rw [e1]
      subst hfirst
      refine .inl ⟨.func (.func f) #[] (caps.map a.eval), w, by simp [execOp, ho, Instr.makeFunc], After.same h he ?_⟩
      simp only [VH, VR]
      exact ⟨caps.toList.map a.eval, by congr 1; apply Array.ext'; simp, opvs_spec' _ fun x hx => ht x (by simp only [ho, Op.operands]; simpa using hx)⟩
    · exact he.elim
  · rename_i t l c ho
    obtain ⟨u, w', hr, hA⟩ := evMake_spec (hd := hd) h (hC.ty t) (ht l (by simp [ho, Op.operands])) (ht c (by simp [ho, Op.operands])) he
    exact .inl ⟨u, w', by simp only [execOp, ho]; exact ex_v hr, hA⟩
  · rename_i t x lo hi mx ho
    split at he
    · split at he
      · rename_i htr
        simp only [Bool.and_eq_true, Bool.not_eq_true'] at htr
        obtain ⟨u, w', hr, hA⟩ := evTrunc_spec (hd := hd) htr.2 h (hC.ty t) (ht x (by simp [ho, Op.operands])) (optR_map lo fun y hy => ht y (by simp only [ho, Op.operands]; simp at hy ⊢; simp [hy])) (optR_map hi fun y hy => ht y (by simp only [ho, Op.operands]; simp at hy ⊢; simp [hy])) he
        exact .inl ⟨u, w', by simp only [execOp, ho]; exact ex_v hr, hA⟩
      exact look (by simp only [execOp, ho]; rfl) (fun _ h => h) (evSlice_spec h (hC.ty t) (ht x (by simp [ho, Op.operands])) (optR_map lo fun y hy => ht y (by simp only [ho, Op.operands]; simp at hy ⊢; simp [hy])) (optR_map hi fun y hy => ht y (by simp only [ho, Op.operands]; simp at hy ⊢; simp [hy])) he)
    · exact he.elim
  · rename_i t x f ho
    exact look (by simp only [execOp, ho]) (fun _ h => h) (evFieldAddr_spec (hC.ty t) (ht x (by simp [ho, Op.operands])) he)
  · rename_i t x f ho
    exact look (by simp only [execOp, ho]) (fun _ h => h) (evField_spec (hC.ty t) (ht x (by simp [ho, Op.operands])) he)
  · rename_i t x i ho
    exact look (by simp only [execOp, ho]) (fun _ h => h) (evIxAddr_spec h (hC.ty t) (ht x (by simp [ho, Op.operands])) (ht i (by simp [ho, Op.operands])) he)
  · rename_i t x i ho
    exact look (by simp only [execOp, ho]) (fun _ h => h) (evIndex_spec (hC.ty t) (ht x (by simp [ho, Op.operands])) (ht i (by simp [ho, Op.operands])) he)
  · rename_i x i ho
    split at he
    · rename_i vs hx
      replace he := Br_tf he
      have hv := ht x (by simp [ho, Op.operands])
      rw [hx] at hv
      simp only [VR] at hv
      obtain ⟨us, e, hs⟩ := hv
      obtain ⟨u, h1, h2⟩ := VRs_get i hs (by have := he.1; simp [Nat.blt] at this; omega)
      exact .inl ⟨u, w, by simp [execOp, ho, e, Instr.extract, h1], After.same h he.2 h2⟩
    · exact he.elim
  · rename_i c ho
    exact evCall_spec hC h ho (by rw [ho] at ht; exact ht) he
  · exact he.elim

end
end Go.Eng
