/- The abstract evaluator: functions, and the way from a law's function to its statement. -/
import Derived.Test.YtniabjhjpkkllaaEngQ
set_option linter.unusedVariables false
set_option linter.unusedSimpArgs false
namespace Go.Eng
open Go Go.RowKit

section
variable {P : Program} {X : Ctx} {C : Cfg} {L : Cuts}

mutual
theorem refs_lt' {n : Nat} {B : Bz} {ρ : Nat → Value} {H : List Blk} {w : World} : ∀ (v : AV) (u : Value) (l : List Nat), VR n B ρ H w v u → (∀ r, r ∈ l → r < n) → ∀ r, r ∈ refs v l → r < n
  | .os s, u, l, h, hl, r, hr => by
    simp only [VR] at h; simp only [refs] at hr
    split at hr
    · exact hl r hr
    · rcases List.mem_append.1 hr with hr | hr
      · exact hl r hr
      · simp at hr; subst hr; exact h.1
  | .ox s c a b, u, l, h, hl, r, hr => by
    simp only [VR] at h; simp only [refs] at hr
    split at hr
    · exact hl r hr
    · rcases List.mem_append.1 hr with hr | hr
      · exact hl r hr
      · simp at hr; subst hr; exact h.1
  | .op s c p, u, l, h, hl, r, hr => by
    simp only [VR] at h; simp only [refs] at hr
    split at hr
    · exact hl r hr
    · rcases List.mem_append.1 hr with hr | hr
      · exact hl r hr
      · simp at hr; subst hr; exact h.1
  | .fn _ vs, u, l, h, hl, r, hr => by
    simp only [VR] at h; simp only [refs] at hr
    obtain ⟨us, _, hs⟩ := h
    exact refsL_lt vs us l hs hl r hr
  | .tu vs, u, l, h, hl, r, hr => by
    simp only [VR] at h; simp only [refs] at hr
    obtain ⟨us, _, hs⟩ := h
    exact refsL_lt vs us l hs hl r hr
  | .any, _, _, _, hl, r, hr => hl r (by simpa only [refs] using hr)
  | .ns, _, _, _, hl, r, hr => hl r (by simpa only [refs] using hr)
  | .t _ _ _, _, _, _, hl, r, hr => hl r (by simpa only [refs] using hr)
theorem refsL_lt {n : Nat} {B : Bz} {ρ : Nat → Value} {H : List Blk} {w : World} : ∀ (vs : List AV) (us : List Value) (l : List Nat), VRs n B ρ H w vs us → (∀ r, r ∈ l → r < n) → ∀ r, r ∈ refsL vs l → r < n
  | [], _, _, _, hl, r, hr => hl r (by simpa only [refsL] using hr)
  | v :: vs, us, l, h, hl, r, hr => by
    simp only [VRs] at h; simp only [refsL] at hr
    obtain ⟨u, us', _, h1, h2⟩ := h
    exact refsL_lt vs us' _ h2 (refs_lt' v u l h1 hl) r hr
end
theorem refs_lt {n : Nat} {B : Bz} {ρ : Nat → Value} {H : List Blk} {w : World} {v : AV} {u : Value} (h : VR n B ρ H w v u) : ∀ r, r ∈ refs v [] → r < n := refs_lt' v u [] h (by simp)

mutual
theorem arg_VR {w : World} {Z : Nat → Prop} : ∀ {a : AV} {v : Value}, ArgR w Z a v → VR 0 (sub0 w Z).B (fun _ => undef) [] w a v
  | .t fr c x, v, h => by
    simp only [ArgR] at h
    obtain ⟨hfr, hn, cs, k1, k2⟩ := h
    simp only [VR]
    have noown : ∀ b, ¬ Own (fun _ => undef) [] b := by rintro b ⟨r, hr, _⟩; simp [hlen] at hr
    refine ⟨cs, ?_, k2⟩
    cases fr with
    | true => exact k1.flat (hfr rfl)
    | false => exact k1.mono (fun b _ hb => ⟨⟨noown b, .inr ⟨rfl, hb⟩⟩, rfl⟩) (Nat.le_refl _)
  | .fn f cs, v, h => by
    simp only [ArgR] at h
    obtain ⟨vs, rfl, hs⟩ := h
    simp only [VR]
    exact ⟨vs, rfl, argL_VRs hs⟩
  | .any, _, h => by simp [ArgR] at h
  | .ns, _, h => by simp only [ArgR] at h; simp only [VR]; exact h
  | .os _, _, h => by simp [ArgR] at h
  | .ox _ _ _ _, _, h => by simp [ArgR] at h
  | .op _ _ _, _, h => by simp [ArgR] at h
  | .tu _, _, h => by simp [ArgR] at h
theorem argL_VRs {w : World} {Z : Nat → Prop} : ∀ {as : List AV} {us : List Value}, ArgsR w Z as us → VRs 0 (sub0 w Z).B (fun _ => undef) [] w as us
  | [], us, h => by simp only [ArgsR] at h; subst h; simp only [VRs]
  | a :: as, us, h => by
    simp only [ArgsR] at h
    obtain ⟨v, r, rfl, h1, h2⟩ := h
    simp only [VRs]
    exact ⟨v, r, rfl, arg_VR h1, argL_VRs h2⟩
end

theorem args_VR {w : World} {Z : Nat → Prop} : ∀ {as : List AV} {us : List Value}, ArgsR w Z as us → as.length = us.length ∧ ∀ i, i < as.length → VR 0 (sub0 w Z).B (fun _ => undef) [] w (lk as i) (us.getD i undef)
  | [], us, h => by simp only [ArgsR] at h; subst h; exact ⟨rfl, fun i hi => by simp at hi⟩
  | a :: as, us, h => by
    simp only [ArgsR] at h
    obtain ⟨v, r, rfl, h1, h2⟩ := h
    obtain ⟨hl, hv⟩ := args_VR h2
    refine ⟨by simp [hl], fun i hi => ?_⟩
    cases i with
    | succ i => simpa [lk] using hv i (by simpa using hi)
    | zero => exact arg_VR h1

theorem lk_app : ∀ (a b : List AV) (i : Nat), lk (app a b) i = if i < a.length then lk a i else lk b (i - a.length)
  | [], b, i => by simp [app]
  | x :: a, b, 0 => by simp [app, lk]
  | x :: a, b, i + 1 => by
    simp only [app, lk, lk_app a b i, List.length_cons, Nat.add_lt_add_iff_right]
    congr 2; omega

/-- An entry, with both of its properties. -/
def EntOK (P : Program) (f : FuncId) (e : Ent) : Prop := PureOK P f e ∧ SelE e

/-- What all functions that are called owe. -/
structure CfgAll (P : Program) (C : Cfg) : Prop where
  ok : CfgOK P C
  sel : ∀ f e, C.fn f = some e → SelE e
  it : ∀ f e, C.it f = some e → ItOK P f e ∧ FnOK P f
  selIt : ∀ f e, C.it f = some e → SelIt e
  mixed : P.follows .mixedOrders = true

theorem sel_resV (σ : St) : ∀ rs : List ResultVar, Sel1 fun K => resV C σ rs K
  | [] => by simp only [resV]; exact Sel1.pt _
  | .tmp t :: rs => by simp only [resV]; exact (sel_resV σ rs).then1 fun vs => Sel1.pt _
  | .cell a t :: rs => by simp only [resV]; exact (sel_evLoad _ _).then1 fun v => (sel_resV σ rs).then1 fun vs => Sel1.pt _

theorem sel_pickB (H : List Blk) : ∀ l : List Nat, Sel1 fun K => pickB H l K
  | [] => by simp only [pickB]; exact Sel1.pt _
  | r :: l => by simp only [pickB]; exact Sel1.br _ ((sel_pickB H l).then1 fun bs => Sel1.pt _) Sel1.no

mutual
theorem sel_ren (n : Nat) (l : List Nat) : ∀ v : AV, Sel1 fun K => ren n l v K
  | .os _ => by simp only [ren]; exact Sel1.pt _
  | .ox _ _ _ _ => by simp only [ren]; exact Sel1.pt _
  | .op _ _ _ => by simp only [ren]; exact Sel1.pt _
  | .t _ _ _ => by simp only [ren]; exact Sel1.pt _
  | .ns => by simp only [ren]; exact Sel1.pt _
  | .any => by simp only [ren]; exact Sel1.no
  | .fn _ vs => by simp only [ren]; exact (sel_renL n l vs).then1 fun ws => Sel1.pt _
  | .tu vs => by simp only [ren]; exact (sel_renL n l vs).then1 fun ws => Sel1.pt _
theorem sel_renL (n : Nat) (l : List Nat) : ∀ vs : List AV, Sel1 fun K => renL n l vs K
  | [] => by simp only [renL]; exact Sel1.pt _
  | v :: vs => by simp only [renL]; exact (sel_ren n l v).then1 fun v' => (sel_renL n l vs).then1 fun ws => Sel1.pt _
end

theorem sel_export (v : AV) (H : List Blk) (n : Nat) : Sel2 (export_ v H n) := by
  unfold export_
  exact (sel_pickB H _).then2 fun bs => (sel_ren n _ v).then2 fun v' => Sel2.pt _ _

/-- A function that the evaluator goes through is as the evaluator says. -/
theorem evFn_ok (hA : CfgAll P C) {f : FuncId} {fn : Func} {c : Code} (hf : P.funcs[f]? = some fn) (hb : fn.body = some c) (hok : CodeOK C L c) : EntOK P f (evFn C L fn) := by
  constructor
  · intro args n K vals w Z he hargs
    unfold evFn at he
    rw [hb] at he
    simp only at he
    obtain ⟨hlen', hav⟩ := args_VR hargs
    have h0 : RH (sub0 w Z) (fun _ => undef) [] w := by
      refine ⟨fun r hr => by simp [hlen] at hr, fun r r' b hr => by simp [hlen] at hr, fun r b hr => by simp [hlen] at hr, rfl, rfl, rfl, Nat.le_refl _, fun _ _ _ => rfl, fun b _ ho => ?_, fun _ h => h⟩
      obtain ⟨r, hr, _⟩ := ho; simp [hlen] at hr
    have hat : At (sub0 w Z) none (fun t => t.size = args.length + (fn.ntmps - args.length)) ⟨app args (anys (fn.ntmps - args.length)), []⟩ { tmps := vals.toArray ++ Array.replicate (fn.ntmps - vals.toArray.size) undef, defers := [] } w := by
      refine ⟨⟨fun _ => undef, h0, ?_, fun i => ?_⟩, fun _ => trivial, ?_⟩
      · simp [app_eq, length_anys, hlen']
      · rw [lk_app]
        split
        · rename_i hi
          have := hav i hi
          have e : (vals.toArray ++ Array.replicate (fn.ntmps - vals.toArray.size) undef).getD i undef = vals.getD i undef := by
            have hi' : i < vals.length := by omega
            have hi2 : i < (vals.toArray).size := by simpa using hi'
            rw [Array.getD_eq_getD_getElem?, Array.getElem?_append_left hi2]
            simp [List.getD]
          rw [e]; exact this
        · rw [lk_anys]; simp [VR]
      · simp [hlen']
    have hsz : vals.toArray.size = vals.length := by simp
    refine callsIn_wide.1 (callsIn_of_wp_marks (n := 0) (F := FW none) hf hb trivial (wpIn_mono (evCode_spec hA.ok hA.sel hA.mixed hA.it c hok (.inl rfl) stC_size _ _ w _ hat he) fun e a' w' hp => ?_) rfl)
    obtain ⟨o, σ, rfl, hK, ⟨ρ, h1, h2⟩, hd, _⟩ := hp
    have hd := hd rfl
    have fin : ∀ w2, RH (sub0 w Z) ρ σ.H w2 → TR (hlen σ.H) (sub0 w Z).B ρ σ.H w2 σ.tmps a' → (resV C σ fn.results.toList fun vs => match vs with | [v] => exportS L.stl v σ.H n K | vs => export_ (.tu vs) σ.H n K) →
        ∃ v, (results fn a'.tmps).run P w2 = .ok v w2 ∧ (∃ u v' bl, Ending.returned v = .returned u ∧ K v' bl ∧ ResR w Z n w2 v' bl u) := by
      intro w2 h1 h2 hK
      obtain ⟨vs, us, hK, hv, hr⟩ := resV_spec hA.ok h1 h2 _ _ hK
      have hrun : (results fn a'.tmps).run P w2 = .ok (if h : us.toArray.size = 1 then us.toArray[0] else .tuple us.toArray) w2 := by
        unfold results
        rw [Array.mapM_eq_mapM_toList]
        simp only [Sem.run_bind, Sem.run_map, Sem.run_pure]
        refine (congrArg (fun r => (Result.andThen (Result.andThen r fun a w' => Result.ok a.toArray w') fun a w' => Result.ok (if h : a.size = 1 then a[0] else Value.tuple a) w')) hr).trans ?_
        simp only [Result.andThen_ok]
      have tup : ∀ (h : us.length ≠ 1), export_ (.tu vs) σ.H n K → ∃ v, (results fn a'.tmps).run P w2 = .ok v w2 ∧ (∃ u v' bl, Ending.returned v = .returned u ∧ K v' bl ∧ ResR w Z n w2 v' bl u) := by
        intro hne hK
        have hv' : VR (hlen σ.H) (sub0 w Z).B ρ σ.H w2 (.tu vs) (.tuple us.toArray) := by simp only [VR]; exact ⟨us, rfl, hv⟩
        obtain ⟨v', bl, h3, h4⟩ := export_spec h1 (v := .tu vs) hv' (refs_lt hv') hK
        refine ⟨_, ?_, _, v', bl, rfl, h3, h4⟩
        rw [hrun, dif_neg (by simpa using hne)]
      rcases vs with _ | ⟨v, _ | ⟨v2, vs⟩⟩
      · simp only [VRs] at hv; subst hv
        exact tup (by simp) hK
      · simp only [VRs] at hv
        obtain ⟨u, us', rfl, hv, rfl⟩ := hv
        unfold exportS at hK
        cases hs : L.stl with
        | none =>
          rw [hs] at hK
          obtain ⟨v', bl, h3, h4⟩ := export_spec h1 (v := v) hv (refs_lt hv) hK
          exact ⟨u, by rw [hrun, dif_pos (by simp)]; rfl, u, v', bl, rfl, h3, h4⟩
        | some d =>
          rw [hs] at hK
          obtain ⟨fr, y, H', cs, hK, hext, h1', hvt, hpk, _⟩ := toT_spec h1 hv hK
          have hv' : VR (hlen H') (sub0 w Z).B ρ H' w2 (.t fr d y) u := by simp only [VR]; exact ⟨cs, hvt, hpk⟩
          obtain ⟨v', bl, h3, h4⟩ := export_spec h1' (v := .t fr d y) hv' (refs_lt hv') hK
          exact ⟨u, by rw [hrun, dif_pos (by simp)]; rfl, u, v', bl, rfl, h3, h4⟩
      · have hv0 := hv
        simp only [VRs] at hv
        obtain ⟨u, us', rfl, _, u2, us2, rfl, _⟩ := hv
        exact tup (by simp) hK
    cases o with
    | nrm => exact leavesM a'.defers w' hd fun w2 k => fin w2 (h1.aside k) (h2.aside k) hK
    | ret => exact leavesM a'.defers w' hd fun w2 k => fin w2 (h1.aside k) (h2.aside k) hK
    | exit i => exact hK.elim
  · intro args n
    unfold evFn
    rw [hb]
    simp only
    refine (sel_evCode hA.sel hA.selIt c hok _).then2 (G := fun o σ K => match o with
      | .exit _ => False
      | _ => resV C σ fn.results.toList fun vs => match vs with
        | [v] => exportS L.stl v σ.H n K
        | vs => export_ (.tu vs) σ.H n K) fun o σ => ?_
    have fin : Sel2 fun K => resV C σ fn.results.toList fun vs => match vs with | [v] => exportS L.stl v σ.H n K | vs => export_ (.tu vs) σ.H n K := by
      refine (sel_resV σ _).then2 fun vs => ?_
      rcases vs with _ | ⟨v, _ | ⟨v2, vs⟩⟩
      · exact sel_export _ _ _
      · unfold exportS
        cases L.stl with
        | none => exact sel_export _ _ _
        | some d => exact (sel_toT _ _ _).then2 fun fr y H' => sel_export _ _ _
      · exact sel_export _ _ _
    cases o with
    | nrm => exact fin
    | ret => exact fin
    | exit i => exact Sel2.no

end
end Go.Eng
