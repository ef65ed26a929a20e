/- The abstract evaluator: a law's arguments, and its statement. -/
import Derived.Test.YtniabjhjpkkllaaEngT
import Derived.ProofKit
import Derived.OpenShut
import Derived.Carry
namespace Go.Eng
open Go Go.RowKit Go.ChangeShapes Go.WideShapes Go.ChangeAt

/-- What an argument of code c may be. -/
def Rng : (c : Cd) → El c → Prop
  | .int k, n => (Lit.int k n).wf = true
  | .str, s => ByteArray.size s ≤ maxLen
  | .sl c, xs => List.length xs ≤ maxLen ∧ ∀ x, x ∈ (xs : List (El c)) → Rng c x
  | .arr n c, xs => List.length xs = n ∧ ∀ x, x ∈ (xs : List (El c)) → Rng c x
  | .cons c d, x => Rng c x.1 ∧ Rng d x.2
  | _, _ => True

mutual
/-- Type t is of code c, all the way down. -/
def TyS (P : Program) : Cd → TypeId → Prop
  | .bool, t => P.underlying t = some .bool
  | .int k, t => P.underlying t = some (.int k)
  | .str, t => P.underlying t = some .string
  | .sl c, t => ∃ e, P.underlying t = some (.slice e) ∧ P.cellsOf e = csz c ∧ 0 < csz c ∧ TyS P c e
  | .arr n c, t => ∃ e, P.underlying t = some (.array n e) ∧ P.cellsOf e = csz c ∧ P.cellsOf t = n * csz c ∧ TyS P c e
  | .cons c d, t => ∃ fs, P.underlying t = some (.struct fs) ∧ P.cellsOf t = csz c + csz d ∧ TySF P (.cons c d) fs.toList 0
  | _, _ => False
def TySF (P : Program) : Cd → List Field → Nat → Prop
  | .cons c d, f :: fs, o => (f.offset = o ∧ P.cellsOf f.type = csz c ∧ TyS P c f.type) ∧ TySF P d fs (o + csz c)
  | .nil, [], _ => True
  | _, _, _ => False
end

section
variable {P : Program} {H : Type} {enc : TypeId × Value → H} {w : World} {base : Nat} {sp : Nat → Bool} {held : Bool}

theorem flat_of_each {α : Type} {R : α → List Value → Prop} {Q : α → Prop} {k : Nat} : ∀ (n : Nat) (cs : List Value), cs.length = n * k → (∀ i, i < n → ∃ y, R y ((cs.drop (i * k)).take k) ∧ Q y) → ∃ ys : List α, ys.length = n ∧ Flat R ys cs ∧ ∀ y, y ∈ ys → Q y
  | 0, cs, hl, _ => ⟨[], rfl, by simpa [Flat] using hl, by simp⟩
  | n + 1, cs, hl, h => by
    obtain ⟨y, hy, hq⟩ := h 0 (by omega)
    simp only [Nat.zero_mul, List.drop_zero] at hy
    obtain ⟨ys, h1, h2, h3⟩ := flat_of_each (R := R) (Q := Q) (k := k) n (cs.drop k) (by rw [List.length_drop, hl, Nat.succ_mul]; omega) (fun i hi => by
      have := h (i + 1) (by omega)
      rwa [Nat.succ_mul, Nat.add_comm, ← List.drop_drop] at this)
    refine ⟨y :: ys, by simp [h1], ⟨_, _, (List.take_append_drop k cs).symm, hy, h2⟩, ?_⟩
    intro z hz
    rcases List.mem_cons.1 hz with rfl | hz
    · exact hq
    · exact h3 z hz

mutual
theorem vt_of_trod : ∀ (c : Cd) (t : TypeId) (fuel : Nat) (cs : List Value) (x : DataW H × List MemPlace), TyS P c t → DataW.trod enc P w base sp held fuel t cs = some x →
    ∃ y : El c, VT w (fun _ => True) c y cs ∧ Rng c y
  | .bool, t, fuel, cs, x, ht, h => by
    simp only [TyS] at ht
    obtain ⟨b, rfl, _⟩ := DataW.trod_bool ht h
    exact ⟨b, by simp only [VT], trivial⟩
  | .int k, t, fuel, cs, x, ht, h => by
    simp only [TyS] at ht
    obtain ⟨n, rfl, _, hw⟩ := DataW.trod_int ht h
    exact ⟨n, by simp only [VT], hw⟩
  | .str, t, fuel, cs, x, ht, h => by
    simp only [TyS] at ht
    obtain ⟨s, rfl, _, hw⟩ := DataW.trod_string ht h
    exact ⟨s, by simp only [VT], hw⟩
  | .np, _, _, _, _, ht, _ => by simp only [TyS] at ht
  | .ptr _, _, _, _, _, ht, _ => by simp only [TyS] at ht
  | .row _, _, _, _, _, ht, _ => by simp only [TyS] at ht
  | .nil, _, _, _, _, ht, _ => by simp only [TyS] at ht
  | .sl c, t, fuel, cs, x, ht, h => by
    simp only [TyS] at ht
    obtain ⟨e, hu, hce, hpos, hte⟩ := ht
    rcases DataW.trod_slice hu h with ⟨rfl, _⟩ | ⟨a, len, cap, elems, rest, n, _, rfl, _, hb, hl, hm, hlen, hel, _, _⟩
    · exact ⟨[], ⟨none, 0, rfl, Nat.le_refl _, .inl rfl⟩, Nat.zero_le _, by simp⟩
    · have each : ∀ i, i < len → ∃ cs', (∀ j, j < csz c → w.cell? ((a.add (i * csz c)).add j) = cs'[j]?) ∧ cs'.length = csz c ∧ ∃ y : El c, VT w (fun _ => True) c y cs' ∧ Rng c y := by
        intro i hi
        have h1 := hel i hi
        have h2 : ∃ z, elems[i]? = some z := ⟨elems[i]'(by omega), List.getElem?_eq_getElem (by omega)⟩
        obtain ⟨z, hz⟩ := h2
        rw [hz, Option.bind_eq_some_iff] at h1
        obtain ⟨cs', hcs, h3⟩ := h1
        obtain ⟨_, h4, h5⟩ := World.cells?_some hcs
        rw [hce] at h5 h4
        exact ⟨cs', h5, h4, vt_of_trod c e n cs' z hte h3⟩
      by_cases h0 : len = 0
      · subst h0
        exact ⟨[], ⟨some a, cap, rfl, Nat.zero_le _, .inl rfl⟩, Nat.zero_le _, by simp⟩
      obtain ⟨cs0, hc0, hl0, _⟩ := each 0 (by omega)
      have hv0 := hc0 0 hpos
      have hsome : ∃ v, cs0[0]? = some v := ⟨cs0[0]'(by omega), List.getElem?_eq_getElem (by omega)⟩
      obtain ⟨v0, hv0'⟩ := hsome
      rw [hv0'] at hv0
      have hadd0 : (a.add (0 * csz c)).add 0 = a := by simp [Addr.add]
      rw [hadd0] at hv0
      have hsp : a.spot = none := by
        unfold World.cell? at hv0
        split at hv0
        · cases hs : a.spot with
          | none => rfl
          | some s => simp [hs] at hv0
        · simp at hv0
      have hlt : CellsAt w a.block := by
        unfold World.cell? at hv0
        split at hv0
        · rename_i hh
          exact ⟨_, _, _, hh⟩
        · simp at hv0
      have hadd : ∀ n, a.add n = ⟨a.block, a.off + n, none⟩ := by
        intro n
        unfold Addr.add
        split
        · rename_i hn; subst hn; cases a; simp_all
        · rfl
      have hadd2 : ∀ n j, (a.add n).add j = ⟨a.block, a.off + (n + j), none⟩ := by
        intro n j
        rw [hadd]
        unfold Addr.add
        split
        · rename_i hn; subst hn; rfl
        · simp [Nat.add_assoc]
      -- the cells, one element behind the other
      have row : ∃ cells : List Value, cells.length = len * csz c ∧ ∀ i, i < len * csz c → w.cell? ⟨a.block, a.off + i, none⟩ = cells[i]? := by
        refine ⟨(List.range (len * csz c)).map fun i => (w.cell? ⟨a.block, a.off + i, none⟩).getD undef, by simp, fun i hi => ?_⟩
        have hq : i / csz c < len := by rw [Nat.div_lt_iff_lt_mul hpos]; exact hi
        obtain ⟨cs', h1, h2, _⟩ := each (i / csz c) hq
        have h3 := h1 (i % csz c) (Nat.mod_lt _ hpos)
        rw [hadd2, show i / csz c * csz c + i % csz c = i by rw [Nat.mul_comm]; exact Nat.div_add_mod i (csz c)] at h3
        have h4 : cs'[i % csz c]? = some (cs'[i % csz c]'(by rw [h2]; exact Nat.mod_lt _ hpos)) := List.getElem?_eq_getElem _
        rw [h4] at h3
        rw [List.getElem?_map, List.getElem?_range hi]
        simp [h3]
      obtain ⟨cells, hcl, hcm⟩ := row
      have := flat_of_each (R := VT w (fun _ => True) c) (Q := Rng c) (k := csz c) len cells hcl (fun i hi => by
        obtain ⟨cs', h1, h2, y, h3, h4⟩ := each i hi
        refine ⟨y, ?_, h4⟩
        have e : (cells.drop (i * csz c)).take (csz c) = cs' := by
          apply List.ext_getElem?
          intro j
          by_cases hj : j < csz c
          · rw [List.getElem?_take_of_lt hj, List.getElem?_drop, ← h1 j hj, hadd2, hcm]
            have : (i + 1) * csz c ≤ len * csz c := Nat.mul_le_mul_right _ hi
            rw [Nat.succ_mul] at this; omega
          · rw [List.getElem?_eq_none (by rw [List.length_take]; omega), List.getElem?_eq_none (by omega)]
        rwa [e])
      obtain ⟨ys, hy1, hy2, hy3⟩ := this
      refine ⟨ys, ⟨some a, cap, by rw [hy1], by rw [hy1]; exact hl, .inr ⟨a.block, a.off, cells, ?_, trivial, hlt, ?_, hy2⟩⟩, by rw [hy1]; omega, hy3⟩
      · cases a; simp_all
      · intro i v hv
        have hi : i < len * csz c := by rw [← hcl]; exact (List.getElem?_eq_some_iff.1 hv).1
        rw [hcm i hi]; exact hv
  | .arr n c, t, fuel, cs, x, ht, h => by
    simp only [TyS] at ht
    obtain ⟨e, hu, hce, hct, hte⟩ := ht
    obtain ⟨xs, m, _, _, hl, hxl, hel⟩ := DataW.trod_array hu h
    rw [hct] at hl
    obtain ⟨ys, hy1, hy2, hy3⟩ := flat_of_each (R := VT w (fun _ => True) c) (Q := Rng c) (k := csz c) n cs hl (fun i hi => by
      have h1 := hel i hi
      have h2 : xs[i]? = some (xs[i]'(by omega)) := List.getElem?_eq_getElem _
      rw [h2, hce] at h1
      exact vt_of_trod c e m _ _ hte h1)
    exact ⟨ys, ⟨hy1, hy2⟩, hy1, hy3⟩
  | .cons c d, t, fuel, cs, x, ht, h => by
    simp only [TyS] at ht
    obtain ⟨fs, hu, hct, hf⟩ := ht
    obtain ⟨xs, m, _, _, hl, hxl, hel⟩ := DataW.trod_struct hu h
    rw [hct] at hl
    exact vt_of_fields (.cons c d) fs.toList 0 m cs (by rw [hl, csz, Nat.zero_add]) hf (fun i f hi => by
      have h1 := hel i f (by simpa using hi)
      have hlt : i < xs.length := by rw [hxl]; have := (List.getElem?_eq_some_iff.1 hi).1; simpa using this
      exact ⟨_, h1.trans (List.getElem?_eq_getElem hlt)⟩)
theorem vt_of_fields : ∀ (c : Cd) (fs : List Field) (o fuel : Nat) (cs : List Value), cs.length = o + csz c → TySF P c fs o →
    (∀ (i : Nat) (f : Field), fs[i]? = some f → ∃ x, DataW.trod enc P w base sp held fuel f.type ((cs.drop f.offset).take (P.cellsOf f.type)) = some x) →
    ∃ y : El c, VT w (fun _ => True) c y (cs.drop o) ∧ Rng c y
  | .cons c d, f :: fs, o, fuel, cs, hl, hf, h => by
    simp only [TySF] at hf
    obtain ⟨⟨ho, hc, ht⟩, hf⟩ := hf
    obtain ⟨x, hx⟩ := h 0 f rfl
    rw [ho, hc] at hx
    obtain ⟨y, hy, hr⟩ := vt_of_trod c f.type fuel _ x ht hx
    simp only [csz] at hl
    obtain ⟨z, hz, hr2⟩ := vt_of_fields d fs (o + csz c) fuel cs (by rw [hl, Nat.add_assoc]) hf (fun i f' hi => h (i + 1) f' (by simpa using hi))
    refine ⟨(y, z), ⟨_, _, ?_, hy, hz⟩, hr, hr2⟩
    rw [← List.drop_drop, List.take_append_drop]
  | .nil, [], o, fuel, cs, hl, hf, h => by
    refine ⟨(), ?_, trivial⟩
    simp only [VT]
    rw [List.drop_eq_nil_iff]; simp [csz] at hl; omega
  | .cons _ _, [], _, _, _, _, hf, _ => by simp only [TySF] at hf
  | .nil, _ :: _, _, _, _, _, hf, _ => by simp only [TySF] at hf
  | .bool, _, _, _, _, _, hf, _ => by simp only [TySF] at hf
  | .int _, _, _, _, _, _, hf, _ => by simp only [TySF] at hf
  | .str, _, _, _, _, _, hf, _ => by simp only [TySF] at hf
  | .np, _, _, _, _, _, hf, _ => by simp only [TySF] at hf
  | .ptr _, _, _, _, _, _, hf, _ => by simp only [TySF] at hf
  | .row _, _, _, _, _, _, hf, _ => by simp only [TySF] at hf
  | .sl _, _, _, _, _, _, hf, _ => by simp only [TySF] at hf
  | .arr _ _, _, _, _, _, _, hf, _ => by simp only [TySF] at hf
end

end

theorem tys_bool {P : Program} {t : TypeId} (h : P.underlying t = some .bool) : TyS P .bool t := by simp only [TyS]; exact h
theorem tys_int {P : Program} {t : TypeId} {k : IntKind} (h : P.underlying t = some (.int k)) : TyS P (.int k) t := by simp only [TyS]; exact h
theorem tys_str {P : Program} {t : TypeId} (h : P.underlying t = some .string) : TyS P .str t := by simp only [TyS]; exact h
theorem tys_sl {P : Program} {t e : TypeId} {c : Cd} (h : P.underlying t = some (.slice e)) (h1 : P.cellsOf e = csz c) (h2 : Nat.ble 1 (csz c) = true) (h3 : TyS P c e) : TyS P (.sl c) t := by
  simp only [TyS]; exact ⟨e, h, h1, Nat.le_of_ble_eq_true h2, h3⟩
theorem tys_arr {P : Program} {t e : TypeId} {n : Nat} {c : Cd} (h : P.underlying t = some (.array n e)) (h1 : P.cellsOf e = csz c) (h2 : P.cellsOf t = n * csz c) (h3 : TyS P c e) : TyS P (.arr n c) t := by
  simp only [TyS]; exact ⟨e, h, h1, h2, h3⟩
theorem tys_cons {P : Program} {t : TypeId} {fs : Array Field} {c d : Cd} (h : P.underlying t = some (.struct fs)) (h1 : P.cellsOf t = csz c + csz d) (h2 : TySF P (.cons c d) fs.toList 0) : TyS P (.cons c d) t := by
  simp only [TyS]; exact ⟨fs, h, h1, h2⟩
theorem tysf_cons {P : Program} {f : Field} {fs : List Field} {c d : Cd} {o : Nat} (h : f.offset = o) (h1 : P.cellsOf f.type = csz c) (h2 : TyS P c f.type) (h3 : TySF P d fs (o + csz c)) : TySF P (.cons c d) (f :: fs) o := by
  simp only [TySF]; exact ⟨⟨h, h1, h2⟩, h3⟩
theorem tysf_nil {P : Program} {o : Nat} : TySF P .nil [] o := by simp only [TySF]

def TySs (P : Program) : List Cd → List TypeId → Prop
  | [], [] => True
  | c :: s, t :: ts => TyS P c t ∧ TySs P s ts
  | _, _ => False
def RngA : (s : List Cd) → AVals s → Prop
  | [], _ => True
  | c :: s, x => Rng c x.1 ∧ RngA s x.2

mutual
theorem norow_of_tyS {P : Program} : ∀ (c : Cd) (t : TypeId), TyS P c t → norow c = true
  | .bool, _, _ => rfl
  | .int _, _, _ => rfl
  | .str, _, _ => rfl
  | .np, _, h => by simp only [TyS] at h
  | .ptr _, _, h => by simp only [TyS] at h
  | .row _, _, h => by simp only [TyS] at h
  | .nil, _, h => by simp only [TyS] at h
  | .sl c, _, h => by
    simp only [TyS] at h
    obtain ⟨e, _, _, _, h⟩ := h
    exact norow_of_tyS c e h
  | .arr n c, _, h => by
    simp only [TyS] at h
    obtain ⟨e, _, _, _, h⟩ := h
    exact norow_of_tyS c e h
  | .cons c d, _, h => by
    simp only [TyS] at h
    obtain ⟨fs, _, _, h⟩ := h
    exact norow_of_tySF (.cons c d) fs.toList 0 h
theorem norow_of_tySF {P : Program} : ∀ (c : Cd) (fs : List Field) (o : Nat), TySF P c fs o → norow c = true
  | .cons c d, f :: fs, o, h => by
    simp only [TySF] at h
    simp only [norow, Bool.and_eq_true]
    exact ⟨norow_of_tyS c _ h.1.2.2, norow_of_tySF d fs _ h.2⟩
  | .nil, _, _, _ => rfl
  | .cons _ _, [], _, h => by simp only [TySF] at h
  | .bool, _, _, h => by simp only [TySF] at h
  | .int _, _, _, h => by simp only [TySF] at h
  | .str, _, _, h => by simp only [TySF] at h
  | .np, _, _, h => by simp only [TySF] at h
  | .ptr _, _, _, h => by simp only [TySF] at h
  | .row _, _, _, h => by simp only [TySF] at h
  | .sl _, _, _, h => by simp only [TySF] at h
  | .arr _ _, _, _, h => by simp only [TySF] at h
end

section
variable {P : Program} {H : Type} {enc : TypeId × Value → H} {w : World} {base : Nat} {sp : Nat → Bool} {held : Bool}

theorem args_open {r : Reach} {b : Nat} : ∀ (s : List Cd) (ts : List TypeId) (vs : List Value) (ds : List (DataW H)) (p : List MemPlace), TySs P s ts → DataW.TrodAll enc P w base sp held ts vs ds p →
    (∀ (j : Nat) t v, ts[j]? = some t → vs[j]? = some v → Value.okWide P w r b t v) → ∃ x : AVals s, ArgsR w (fun _ => True) (mkArgs s x) vs ∧ RngA s x
  | [], [], vs, ds, p, _, h, _ => by
    obtain ⟨rfl, _, _⟩ := trodAll_nil h
    exact ⟨(), rfl, trivial⟩
  | c :: s, t :: ts, vs, ds, p, ht, h, hok => by
    obtain ⟨v, vs', d, ds', p1, p2, rfl, rfl, rfl, ⟨fuel, h1⟩, h2⟩ := trodAll_cons h
    obtain ⟨x, hx, hr⟩ := vt_of_trod c t fuel _ _ ht.1 h1
    obtain ⟨xs, hxs, hrs⟩ := args_open s ts vs' ds' p2 ht.2 h2 fun j t v h3 h4 => hok (j + 1) t v (by simpa using h3) (by simpa using h4)
    refine ⟨(x, xs), ⟨v, vs', rfl, ⟨fun h => h, norow_of_tyS c t ht.1, _, hx, ?_⟩, hxs⟩, hr, hrs⟩
    have hv := hok 0 t v rfl rfl
    have hts := ht.1
    clear hx hr h1
    cases c <;> simp only [TyS] at hts
    case bool => simp only [Value.okWide, hts, Cell.okWide, Cell.ok] at hv; cases v <;> simp_all [pk, agg, Value.cells]
    case int k => simp only [Value.okWide, hts, Cell.okWide, Cell.ok] at hv; cases v <;> simp_all [pk, agg, Value.cells]
    case str => simp only [Value.okWide, hts, Cell.okWide, Cell.ok] at hv; cases v <;> simp_all [pk, agg, Value.cells]
    case sl c =>
      obtain ⟨e, hts, _⟩ := hts
      simp only [Value.okWide, hts, Cell.okWide, Cell.ok] at hv; cases v <;> simp_all [pk, agg, Value.cells]
    case arr n c =>
      obtain ⟨e, hts, _⟩ := hts
      simp only [Value.okWide, hts] at hv
      obtain ⟨cs, rfl, _⟩ := hv
      simp [pk, agg, Value.cells]
    case cons c d =>
      obtain ⟨e, hts, _⟩ := hts
      simp only [Value.okWide, hts] at hv
      obtain ⟨cs, rfl, _⟩ := hv
      simp [pk, agg, Value.cells]
  | [], _ :: _, _, _, _, h, _, _ => h.elim
  | _ :: _, [], _, _, _, h, _, _ => h.elim

theorem args_still (hl : laidOutB P = true) {W W' : World} (hb : Below W.heap.size W W') : ∀ (ts : List TypeId) (vs : List Value) (ds : List (DataW H)) (p : List MemPlace),
    (∀ t, t ∈ ts → P.readableRec t = true ∧ t < P.types.size) → DataW.TrodAll enc P W 0 (fun _ => true) true ts vs ds p → (∀ x ∈ p, x.block < W.heap.size) →
    DataW.TrodAll enc P W' 0 (fun b => decide (b < W.heap.size)) true ts vs ds p
  | [], vs, ds, p, _, h, _ => by
    obtain ⟨rfl, rfl, rfl⟩ := trodAll_nil h
    exact trodAll_mk0
  | t :: ts, vs, ds, p, hr, h, hlt => by
    obtain ⟨v, vs', d, ds', p1, p2, rfl, rfl, rfl, h1, h2⟩ := trodAll_cons h
    have h3 := hr t (by simp)
    exact trodAll_cons_mk (Below.trod hl h3.1 h3.2 h1 hb fun x hx => hlt x (by simp [hx])) (args_still hl hb ts vs' ds' p2 (fun t ht => hr t (by simp [ht])) h2 fun x hx => hlt x (by simp [hx]))

/-- A law, as its row asks for it. -/
theorem law_contract {f : FuncId} {fn : Func} {s : ChangeSpec} {e : Ent} {cs : List Cd} {tb : TypeId} (hent : EntOK P f e) (hp : TySs P cs fn.params.toList) (hl : laidOutB P = true)
    (hr : ∀ t, t ∈ fn.params.toList → P.readableRec t = true ∧ t < P.types.size) (hv : s.vars = []) (hrt : fn.resultTypes = #[tb]) (hub : P.underlying tb = some .bool)
    (hfn : ∀ (H : Type) (ds : List (DataW H)), ds.length = fn.params.size → s.fn H ds = { results := [.lit (.bool true)], args := ds })
    (hlaw : ∀ x : AVals cs, RngA cs x → e (mkArgs cs x) 0 fun v _ => ∃ fr, v = .t fr .bool true)
    (W : World) (base : Nat) (args : Array Value) (ds gs : List (DataW H)) (before : List MemPlace)
    (hval : ∀ (j : Nat) t v, fn.params[j]? = some t → args[j]? = some v → Value.okWide P W .any base t v)
    (hW : DataW.Whole enc P fn.params.toList s.vars false W args.toList ds gs before) :
    Calls P f args W fun e W' => ∃ v, e = .returned v ∧ s.post enc P fn false true false false W args v W' := by
  have hW0 := hW
  obtain ⟨p, q, hA, hV, hpq, hfz, _⟩ := hW
  rw [hv] at hV
  obtain ⟨rfl, rfl⟩ := trodVars_none hV
  obtain ⟨x, hx, hrx⟩ := args_open cs fn.params.toList args.toList ds p hp hA fun j t v h1 h2 => hval j t v (by simpa using h1) (by simpa using h2)
  have hc := law_of_ent hent (fun _ => True) hx (hlaw x hrx)
  rw [Array.toArray_toList] at hc
  refine hc.mono fun e W' ⟨he, hb⟩ => ⟨_, he, ds, [], before, [], p, [], hW0, ?_, ?_, ?_, ?_, fun h => nomatch h⟩
  · have hlen : (ds ++ []).length = fn.params.size := by
      have : ∀ (ts : List TypeId) (vs : List Value) (ds : List (DataW H)) (p : List MemPlace), DataW.TrodAll enc P W 0 (fun _ => true) true ts vs ds p → ds.length = ts.length := by
        intro ts
        induction ts with
        | nil => intro vs ds p h; obtain ⟨_, rfl, _⟩ := trodAll_nil h; rfl
        | cons t ts ih => intro vs ds p h; obtain ⟨v, vs', d, ds', p1, p2, rfl, rfl, rfl, h1, h2⟩ := trodAll_cons h; simp [ih _ _ _ h2]
      simpa using this _ _ _ _ hA
    rw [hfn H _ hlen, hrt]
    exact trodAll_cons_mk (p := []) (p' := []) (shut_bool hub true) trodAll_mk0
  · have hlen : (ds ++ []).length = fn.params.size := by
      have : ∀ (ts : List TypeId) (vs : List Value) (ds : List (DataW H)) (p : List MemPlace), DataW.TrodAll enc P W 0 (fun _ => true) true ts vs ds p → ds.length = ts.length := by
        intro ts
        induction ts with
        | nil => intro vs ds p h; obtain ⟨_, rfl, _⟩ := trodAll_nil h; rfl
        | cons t ts ih => intro vs ds p h; obtain ⟨v, vs', d, ds', p1, p2, rfl, rfl, rfl, h1, h2⟩ := trodAll_cons h; simp [ih _ _ _ h2]
      simpa using this _ _ _ _ hA
    rw [hfn H _ hlen, List.append_nil]
    exact args_still hl hb _ _ _ _ hr hA fun y hy => hW0.lt y (by rw [hpq]; simp [hy])
  · have hlen : (ds ++ []).length = fn.params.size := by
      have : ∀ (ts : List TypeId) (vs : List Value) (ds : List (DataW H)) (p : List MemPlace), DataW.TrodAll enc P W 0 (fun _ => true) true ts vs ds p → ds.length = ts.length := by
        intro ts
        induction ts with
        | nil => intro vs ds p h; obtain ⟨_, rfl, _⟩ := trodAll_nil h; rfl
        | cons t ts ih => intro vs ds p h; obtain ⟨v, vs', d, ds', p1, p2, rfl, rfl, rfl, h1, h2⟩ := trodAll_cons h; simp [ih _ _ _ h2]
      simpa using this _ _ _ _ hA
    rw [hfn H _ hlen, hv]
    rfl
  · exact World.keptBut_mono (fun _ h => h.elim) (hb.frame fun _ => False)

end
end Go.Eng
