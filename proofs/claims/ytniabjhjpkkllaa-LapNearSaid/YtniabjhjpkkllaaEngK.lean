/- The abstract evaluator: regions in the order of the text, and regions whose order is open. -/
import Derived.Test.YtniabjhjpkkllaaEngJ
import Derived.Scope
import Derived.TacticsIn
import Derived.OrdersIn
import Derived.LoopNIn
import Derived.RangeFuncRecord
set_option linter.unusedVariables false
set_option linter.unusedSimpArgs false
namespace Go.Eng
open Go Go.RowKit

theorem onth_eq : ∀ (l : List Oper) (n : Nat), onth l n = l[n]?
  | [], n => by simp [onth]
  | o :: l, 0 => by simp [onth]
  | o :: l, n + 1 => by simp [onth, onth_eq l n]

section
variable {P : Program} {X : Ctx} {ρ : Nat → Value} {H : List Blk} {w : World}

theorem getD_some_of {a : Array Value} {d : Nat} {b : Bool} (h : a.getD d undef = .bool b) : a[d]? = some (.bool b) := by
  rw [Array.getD_eq_getD_getElem?] at h
  cases hq : a[d]? with
  | none => rw [hq] at h; simp [undef] at h
  | some v => rw [hq] at h; simpa using h

theorem VR_skp {n : Nat} {B : Bz} {ρ : Nat → Value} {H : List Blk} {w : World} : VR n B ρ H w skp undef := by
  simp only [skp, VR, VRs]; exact ⟨[], rfl, rfl⟩
theorem VR_tu0 {n : Nat} {B : Bz} {ρ : Nat → Value} {H : List Blk} {w : World} {v : Value} (h : VR n B ρ H w (.tu []) v) : v = undef := by
  simp only [VR, VRs] at h; obtain ⟨_, rfl, rfl⟩ := h; rfl
theorem wanted_skp {ops : Array Oper} {tmps : Array Value} {o oj : Oper} {j d : Nat} {b : Bool} (hg : o.guard = some (j, b)) (hoj : ops[j]? = some oj) (hd : oj.dst = some d) (hv : tmps.getD d undef = undef) :
    Region.wanted o (yielded ops tmps) = false := by
  have : yielded ops tmps j = none := by
    unfold yielded
    rw [hoj]
    simp only [Option.bind_some, hd]
    rw [Array.getD_eq_getD_getElem?] at hv
    cases hq : tmps[d]? with
    | none => rfl
    | some v => rw [hq] at hv; simp only [Option.getD_some] at hv; subst hv; rfl
  simp [Region.wanted, hg, this]

/-- The guard of an operation. 'Ok t v': what is known of slot t. -/
theorem want_spec {ops : Array Oper} {tmps : List AV} {a : Act} {o : Oper} {A B : List AV → Prop}
    (hl : ∀ t ∈ o.looksAt ops, VR (hlen H) X.B ρ H w (lk tmps t) (a.tmps.getD t undef)) (h : want ops.toList tmps o A B) :
    ∃ tmps', tmps'.length = tmps.length ∧ (∀ (w : World) t u, VR (hlen H) X.B ρ H w (lk tmps t) u → VR (hlen H) X.B ρ H w (lk tmps' t) u) ∧
      ((Region.wanted o (yielded ops a.tmps) = true ∧ A tmps') ∨ (Region.wanted o (yielded ops a.tmps) = false ∧ B tmps')) := by
  unfold want at h
  split at h
  · rename_i hg
    exact ⟨tmps, rfl, fun _ _ _ h => h, .inl ⟨by simp [Region.wanted, hg], h⟩⟩
  · rename_i j b hg
    split at h
    · rename_i oj hoj
      rw [onth_eq] at hoj
      have hoj : ops[j]? = some oj := by simpa using hoj
      split at h
      · rename_i d hd
        split at h
        · rename_i fr x hx
          have hmem : d ∈ o.looksAt ops := by simp [Oper.looksAt, hg, hoj, hd]
          have hv := hl d hmem
          rw [hx] at hv
          have hv := getD_some_of (VR_bool hv)
          have hw : Region.wanted o (yielded ops a.tmps) = (x == b) := by
            simp [Region.wanted, hg, yielded, hoj, hd, hv]
          have learn : ∀ (y : Bool), x = y → ∀ (w : World) t u, VR (hlen H) X.B ρ H w (lk tmps t) u → VR (hlen H) X.B ρ H w (lk (up tmps d (bB y)) t) u := by
            intro y e w t u hu
            rw [lk_up]
            split
            · rename_i e2
              rw [e2.1, hx] at hu
              have := VR_bool hu
              subst this e
              exact VR_bB _
            · exact hu
          split at h
          · rcases Br_cases h with ⟨e, h⟩ | ⟨e, h⟩
            · exact ⟨_, length_up _ _ _, learn true e, .inl ⟨by rw [hw, e]; rfl, h⟩⟩
            · exact ⟨_, length_up _ _ _, learn false e, .inr ⟨by rw [hw, e]; rfl, h⟩⟩
          · rcases Br_cases h with ⟨e, h⟩ | ⟨e, h⟩
            · exact ⟨_, length_up _ _ _, learn true e, .inr ⟨by rw [hw, e]; rfl, h⟩⟩
            · exact ⟨_, length_up _ _ _, learn false e, .inl ⟨by rw [hw, e]; rfl, h⟩⟩
        · rename_i hx
          have hmem : d ∈ o.looksAt ops := by simp [Oper.looksAt, hg, hoj, hd]
          have hv := hl d hmem
          rw [hx] at hv
          have hw : Region.wanted o (yielded ops a.tmps) = false := wanted_skp hg hoj hd (VR_tu0 hv)
          exact ⟨_, rfl, fun _ _ _ h => h, .inr ⟨hw, h⟩⟩
        · exact h.elim
      · exact h.elim
    · exact h.elim

/-- Frames of functions, and those of rounds of a range over a function. -/
abbrev FW (ro : Option Nat) : Fence := { fn := fun _ => True, depth := none, alive := false, round := ro }
theorem callsIn_of_calls {ro : Option Nat} {n : Nat} {f : FuncId} {args : Array Value} {R : Ending → World → Prop} (h : Calls P f args w R) : CallsIn (FW ro) n P f args w R :=
  (callsIn_wide (n := n)).2 h

theorem evOp_nd {C : Cfg} {hd : Bool} {tmps : List AV} {o : Oper} {K : AV → List Blk → Prop} (h : evOp C hd tmps H o K) : ∀ c, o.op ≠ .defer c := by
  intro c hc
  unfold evOp at h
  rw [hc] at h
  exact h

/-- From what an operation comes to, to the kit's law of one operation. -/
theorem wp_of_opres {ro : Option Nat} {o : Oper} {a : Act} {hd : Bool} {K : AV → List Blk → Prop} {next : Act → World → Prop} {Q : Exit → Act → World → Prop} (hnd : ∀ c, o.op ≠ .defer c) (h : OpRes P X ρ H w o a hd K) (hn : ∀ u w', After X ρ H w hd K u w' → next (a.put o.dst u) w') :
    o.wpIn (FW ro) 0 P a w next Q := by
  refine ⟨fun _ _ => trivial, ?_⟩
  rw [show (FW ro).round = ro from rfl, Oper.semAt_eq ro a.eval o hnd]
  rcases h with ⟨u, w', hr, hA⟩ | ⟨w', hr, hA⟩ | ⟨f, args, hr, hA⟩
  · rw [hr]; exact hn u w' hA
  · rw [hr]; exact hn _ w' hA
  · rw [hr]
    refine ⟨fun h => by simp at h, callsIn_of_calls (Calls.mono hA fun e w' ⟨u, e1, hA⟩ => ?_)⟩
    subst e1
    exact hn u w' hA

theorem put_defers (a : Act) (d : Option Tmp) (v : Value) : (a.put d v).defers = a.defers := by cases d <;> rfl

theorem TR.ext {n' : Nat} {ρ' : Nat → Value} {H' : List Blk} {w' : World} {tmps : List AV} {a : Act} (e : Ext X.B ρ H w ρ' H' w') (h : TR (hlen H) X.B ρ H w tmps a) (hn : n' = hlen H') : TR n' X.B ρ' H' w' tmps a := by
  subst hn
  exact ⟨h.1, fun i => VR.ext e (h.2 i)⟩

/-- What is said of all slots, and no writing to this one undoes. -/
def StJ (J : Array Value → Prop) (d : Option Tmp) : Prop := ∀ (a : Act) (v : Value), J a.tmps → J (a.put d v).tmps

/-- Operations in the order of the text. -/
theorem evOps_spec {ro : Option Nat} {C : Cfg} (hC : CfgOK P C) {ops : Array Oper} {D : List Deferred} {J : Array Value → Prop} {rest : List Oper} {Q : Exit → Act → World → Prop} : ∀ (l : List Oper) (hJ : ∀ o ∈ l, StJ J o.dst) (tmps : List AV) (ρ : Nat → Value) (H : List Blk) (a : Act) (w : World) (K : List AV → List Blk → Prop),
    RH X ρ H w → TR (hlen H) X.B ρ H w tmps a → a.defers = D → J a.tmps → evOps C ops.toList l tmps H K →
    (∀ tmps' ρ' H' a' w', K tmps' H' → Ext X.B ρ H w ρ' H' w' → RH X ρ' H' w' → TR (hlen H') X.B ρ' H' w' tmps' a' → a'.defers = D → J a'.tmps → wpListIn (FW ro) 0 P ops Q rest a' w') → wpListIn (FW ro) 0 P ops Q (l ++ rest) a w
  | [], _, tmps, ρ, H, a, w, K, h, ht, hdf, hj, he, hQ => hQ tmps ρ H a w he Ext.refl h ht hdf hj
  | o :: l, hJ, tmps, ρ, H, a, w, K, h, ht, hdf, hj, he, hQ => by
    simp only [evOps] at he
    obtain ⟨tmps', hl, hlrn, hw⟩ := want_spec (fun t _ => ht.2 t) he
    have ht' : TR (hlen H) X.B ρ H w tmps' a := ⟨by rw [hl]; exact ht.1, fun i => hlrn w i _ (ht.2 i)⟩
    have hsz : ∀ v, J (a.put o.dst v).tmps := fun v => hJ o List.mem_cons_self a v hj
    have hJ' : ∀ o ∈ l, StJ J o.dst := fun o ho => hJ o (List.mem_cons_of_mem _ ho)
    simp only [List.cons_append, wpListIn]
    rcases hw with ⟨hw, he⟩ | ⟨hw, he⟩
    · rw [if_pos hw]
      refine (wp_of_opres (evOp_nd he) (evOp_spec hC h (fun x _ => opv_spec ht' x) he) fun u w' ⟨v, ρ', H', hK, e, h', hv, _⟩ => ?_)
      exact evOps_spec hC l hJ' _ ρ' H' _ w' K h' ((ht'.ext e rfl).put o.dst hv) (by rw [put_defers]; exact hdf) (hsz _) hK
        fun tmps2 ρ2 H2 a2 w2 hK2 e2 h2 ht2 hd2 hs2 => hQ tmps2 ρ2 H2 a2 w2 hK2 (e.trans e2) h2 ht2 hd2 hs2
    · rw [if_neg (by simp [hw])]
      refine ⟨fun _ _ => trivial, ?_⟩
      exact evOps_spec hC l hJ' _ ρ H _ w K h (ht'.put o.dst (x := skp) VR_skp) (by rw [put_defers]; exact hdf) (hsz _) he
        fun tmps2 ρ2 H2 a2 w2 hK2 e2 h2 ht2 hd2 hs2 => hQ tmps2 ρ2 H2 a2 w2 hK2 e2 h2 ht2 hd2 hs2

end
end Go.Eng
