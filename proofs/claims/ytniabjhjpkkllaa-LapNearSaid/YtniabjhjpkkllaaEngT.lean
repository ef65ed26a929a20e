/- The abstract evaluator: how one function's text is joined to it. -/
import Derived.Test.YtniabjhjpkkllaaEngR
import Derived.Below
import Derived.KernelRfl
namespace Go.Eng
open Go Go.RowKit

def tyL : List Ty → Nat → Ty
  | [], _ => .no
  | t :: _, 0 => t
  | _ :: l, n + 1 => tyL l n
def TysOK (P : Program) : Nat → List Ty → Prop
  | _, [] => True
  | i, t :: l => TyOK P i t ∧ TysOK P (i + 1) l
theorem tysOK_at {P : Program} : ∀ (l : List Ty) (i n : Nat), TysOK P i l → TyOK P (i + n) (tyL l n)
  | [], _, _, _ => trivial
  | _ :: _, _, 0, h => h.1
  | _ :: l, i, n + 1, h => by
    have := tysOK_at l (i + 1) n h.2
    rwa [Nat.add_right_comm, Nat.add_assoc] at this

def fnL : List (Nat × Ent) → Nat → Option Ent
  | [], _ => none
  | (g, e) :: l, f => if Nat.beq f g then some e else fnL l f
def FnsOK (P : Program) : List (Nat × Ent) → Prop
  | [] => True
  | (g, e) :: l => (EntOK P g e ∧ FnOK P g) ∧ FnsOK P l
theorem fnsOK_at {P : Program} : ∀ (l : List (Nat × Ent)) (f : Nat) (e : Ent), FnsOK P l → fnL l f = some e → EntOK P f e ∧ FnOK P f
  | [], _, _, _, h => by simp [fnL] at h
  | (g, e') :: l, f, e, h, he => by
    simp only [fnL] at he
    split at he
    · rename_i hb
      have := Nat.eq_of_beq_eq_true hb
      subst this
      cases he
      exact h.1
    · exact fnsOK_at l f e h.2 he

def mkC (tys : List Ty) (fns : List (Nat × Ent)) : Cfg := { ty := tyL tys, fn := fnL fns }
theorem mkC_all {P : Program} {tys : List Ty} {fns : List (Nat × Ent)} (ht : TysOK P 0 tys) (hf : FnsOK P fns) (hm : P.follows .mixedOrders = true) : CfgAll P (mkC tys fns) :=
  ⟨⟨fun t => by have := tysOK_at tys 0 t ht; rwa [Nat.zero_add] at this, fun f e he => let h := fnsOK_at fns f e hf he; ⟨h.1.1, h.2⟩, fun t c h => by simp [mkC] at h⟩, fun f e he => (fnsOK_at fns f e hf he).1.2, fun f e h => by simp [mkC] at h, fun f e h => by simp [mkC] at h, hm⟩

def eqL : List (Nat × Cd) → Nat → Option Cd
  | [], _ => none
  | (g, c) :: l, t => if Nat.beq g t then some c else eqL l t
def EqsOK (P : Program) : List (Nat × Cd) → Prop
  | [] => True
  | (g, c) :: l => EqOK P g c ∧ EqsOK P l
theorem eqsOK_at {P : Program} : ∀ (l : List (Nat × Cd)) (t : Nat) (c : Cd), EqsOK P l → eqL l t = some c → EqOK P t c
  | [], _, _, _, h => by simp [eqL] at h
  | (g, c') :: l, t, c, h, he => by
    simp only [eqL] at he
    split at he
    · rename_i hb
      have := Nat.eq_of_beq_eq_true hb
      subst this
      cases he
      exact h.1
    · exact eqsOK_at l t c h.2 he
/-- With arrays and structs that are compared. -/
def mkCE (tys : List Ty) (eqs : List (Nat × Cd)) (fns : List (Nat × Ent)) : Cfg := { ty := tyL tys, fn := fnL fns, eq := eqL eqs }
theorem mkCE_all {P : Program} {tys : List Ty} {eqs : List (Nat × Cd)} {fns : List (Nat × Ent)} (ht : TysOK P 0 tys) (hq : EqsOK P eqs) (hf : FnsOK P fns) (hm : P.follows .mixedOrders = true) : CfgAll P (mkCE tys eqs fns) :=
  ⟨⟨fun t => by have := tysOK_at tys 0 t ht; rwa [Nat.zero_add] at this, fun f e he => let h := fnsOK_at fns f e hf he; ⟨h.1.1, h.2⟩, fun t c h => eqsOK_at eqs t c hq h⟩, fun f e he => (fnsOK_at fns f e hf he).1.2, fun f e h => by simp [mkCE] at h, fun f e h => by simp [mkCE] at h, hm⟩

/-- Functions that are ranged over. -/
def itL : List (Nat × ItE) → Nat → Option ItE
  | [], _ => none
  | (g, e) :: l, f => if Nat.beq f g then some e else itL l f
def ItAll (P : Program) (f : FuncId) (e : ItE) : Prop := ItOK P f e ∧ SelIt e
def ItsOK (P : Program) : List (Nat × ItE) → Prop
  | [] => True
  | (g, e) :: l => (ItAll P g e ∧ FnOK P g) ∧ ItsOK P l
theorem itsOK_at {P : Program} : ∀ (l : List (Nat × ItE)) (f : Nat) (e : ItE), ItsOK P l → itL l f = some e → ItAll P f e ∧ FnOK P f
  | [], _, _, _, h => by simp [itL] at h
  | (g, e') :: l, f, e, h, he => by
    simp only [itL] at he
    split at he
    · rename_i hb
      have := Nat.eq_of_beq_eq_true hb
      subst this
      cases he
      exact h.1
    · exact itsOK_at l f e h.2 he
/-- With functions that are ranged over. -/
def mkCI (tys : List Ty) (eqs : List (Nat × Cd)) (its : List (Nat × ItE)) (fns : List (Nat × Ent)) : Cfg := { ty := tyL tys, fn := fnL fns, eq := eqL eqs, it := itL its }
theorem mkCI_all {P : Program} {tys : List Ty} {eqs : List (Nat × Cd)} {its : List (Nat × ItE)} {fns : List (Nat × Ent)} (ht : TysOK P 0 tys) (hq : EqsOK P eqs) (hi : ItsOK P its) (hf : FnsOK P fns) (hm : P.follows .mixedOrders = true) : CfgAll P (mkCI tys eqs its fns) :=
  ⟨⟨fun t => by have := tysOK_at tys 0 t ht; rwa [Nat.zero_add] at this, fun f e he => let h := fnsOK_at fns f e hf he; ⟨h.1.1, h.2⟩, fun t c h => eqsOK_at eqs t c hq h⟩, fun f e he => (fnsOK_at fns f e hf he).1.2, fun f e he => let h := itsOK_at its f e hi he; ⟨h.1.1, h.2⟩, fun f e he => (itsOK_at its f e hi he).1.2, hm⟩

/-- With functions that are told of nil slices. -/
def mkCR (tys : List Ty) (eqs : List (Nat × Cd)) (its : List (Nat × ItE)) (raws : List Nat) (tr : Bool) (fns : List (Nat × Ent)) : Cfg := { ty := tyL tys, fn := fnL fns, eq := eqL eqs, it := itL its, raw := fun f => nmem f raws, trunc := tr }
theorem mkCR_all {P : Program} {tys : List Ty} {eqs : List (Nat × Cd)} {its : List (Nat × ItE)} {raws : List Nat} {tr : Bool} {fns : List (Nat × Ent)} (ht : TysOK P 0 tys) (hq : EqsOK P eqs) (hi : ItsOK P its) (hf : FnsOK P fns) (hm : P.follows .mixedOrders = true) : CfgAll P (mkCR tys eqs its raws tr fns) :=
  ⟨⟨fun t => by have := tysOK_at tys 0 t ht; rwa [Nat.zero_add] at this, fun f e he => let h := fnsOK_at fns f e hf he; ⟨h.1.1, h.2⟩, fun t c h => eqsOK_at eqs t c hq h⟩, fun f e he => (fnsOK_at fns f e hf he).1.2, fun f e he => let h := itsOK_at its f e hi he; ⟨h.1.1, h.2⟩, fun f e he => (itsOK_at its f e hi he).1.2, hm⟩

/-- A function that the evaluator goes through may be ranged over. -/
theorem itFn_ok {P : Program} {C : Cfg} {L : ICuts} (hA : CfgAll P C) {f : FuncId} {fn : Func} {c : Code} (hf : P.funcs[f]? = some fn) (hb : fn.body = some c) (hr0 : fn.results = #[]) (hok : ItCode C L c) : ItAll P f (evItFn C L fn) :=
  ⟨evItFn_ok hA.ok hA.sel hA.mixed hf hb hr0 hok, sel_evItFn hA.sel hb hok⟩

/-- What is pure of such a function. -/
def itOf (caps es : List (Bool × Cd)) (F : CV caps → (S : Type) → (CV es → S → (Bool → S → Prop) → Prop) → S → (S → Prop) → Prop) : ItE := fun cs S rd s K => deC cs caps fun cv => F cv S (fun x => rd (clV es x)) s K

theorem eqs_bool {P : Program} {t : TypeId} (h : P.underlying t = some .bool) : EqS P .bool t := by simp only [EqS]; exact h
theorem eqs_int {P : Program} {t : TypeId} {k : IntKind} (h : P.underlying t = some (.int k)) : EqS P (.int k) t := by simp only [EqS]; exact h
theorem eqs_arr {P : Program} {t e : TypeId} {n : Nat} {c : Cd} (h : P.underlying t = some (.array n e)) (h1 : TOK P e c) (h2 : EqS P c e) : EqS P (.arr n c) t := by
  simp only [EqS]; exact ⟨e, h, h1, h2⟩
theorem eqs_st {P : Program} {t : TypeId} {fs : Array Field} {f : Field} {r : List Field} {c d : Cd} (h : P.underlying t = some (.struct fs)) (h1 : P.stoodInHeld t = false) (h2 : fs.toList = f :: r) (h3 : f.name ≠ "_") (h4 : f.offset = 0)
    (h5 : TOK P f.type c) (h6 : EqS P c f.type) (h7 : EqF P d r (csz c)) : EqS P (.cons c d) t := by
  simp only [EqS]; exact ⟨fs, f, r, h, h1, h2, h3, h4, h5, h6, h7⟩
theorem eqf_cons {P : Program} {f : Field} {r : List Field} {c d : Cd} {o : Nat} (h3 : f.name ≠ "_") (h4 : f.offset = o) (h5 : TOK P f.type c) (h6 : EqS P c f.type) (h7 : EqF P d r (o + csz c)) : EqF P (.cons c d) (f :: r) o := by
  simp only [EqF]; exact ⟨h3, h4, h5, h6, h7⟩
theorem eqf_nil {P : Program} {o : Nat} : EqF P .nil [] o := by simp only [EqF]

/-! ### Arguments -/

def AVals : List Cd → Type
  | [] => Unit
  | c :: l => El c × AVals l
def mkArgs : (s : List Cd) → AVals s → List AV
  | [], _ => []
  | c :: s, v => .t (flat c) c v.1 :: mkArgs s v.2
/-- What an argument may look like: data, or a function that is known, with what it has taken along. -/
inductive PK where
  | tm (c : Cd)
  | fn (f : Nat) (caps : List PK)
  | ns
mutual
def PV : PK → Type
  | .tm c => El c
  | .fn _ l => PVs l
  | .ns => Unit
def PVs : List PK → Type
  | [] => Unit
  | k :: l => PV k × PVs l
end
mutual
def mkP : (k : PK) → PV k → AV
  | .tm c, x => .t (flat c) c x
  | .fn f l, x => .fn f (mkPs l x)
  | .ns, _ => .ns
def mkPs : (l : List PK) → PVs l → List AV
  | [], _ => []
  | k :: l, x => mkP k x.1 :: mkPs l x.2
end
mutual
def dcP : (k : PK) → AV → (PV k → Prop) → Prop
  | .tm c, .t fr c' x, K => Br (fr == flat c) (asC c' x c fun y => K y) False
  | .fn f l, .fn g vs, K => Br (Nat.beq f g) (dcPs l vs fun ys => K ys) False
  | .ns, .ns, K => K ()
  | _, _, _ => False
def dcPs : (l : List PK) → List AV → (PVs l → Prop) → Prop
  | [], [], K => K ()
  | k :: l, a :: r, K => dcP k a fun y => dcPs l r fun ys => K (y, ys)
  | _, _, _ => False
end
mutual
def fitP : PK → AV → Bool
  | .tm c, .t fr c' _ => (fr == flat c) && decide (c' = c)
  | .fn f l, .fn g vs => Nat.beq f g && fitPs l vs
  | .ns, .ns => true
  | _, _ => false
def fitPs : List PK → List AV → Bool
  | [], [] => true
  | k :: l, a :: r => fitP k a && fitPs l r
  | _, _ => false
end

mutual
theorem dcP_or : ∀ (k : PK) (a : AV), (∃ v, a = mkP k v ∧ ∀ K, dcP k a K = K v) ∨ ∀ K, dcP k a K = False
  | .tm c, a => by
    cases a with
    | t fr c' x =>
      by_cases h1 : fr = flat c
      · by_cases h2 : c' = c
        · subst h2; subst h1
          exact .inl ⟨x, by simp only [mkP], fun K => by simp only [dcP, beq_self_eq_true, Br, asC, dif_pos]⟩
        · exact .inr fun K => by simp only [dcP, asC, dif_neg h2]; cases (fr == flat c) <;> rfl
      · exact .inr fun K => by
          have : (fr == flat c) = false := by simpa using h1
          simp only [dcP, this, Br]
    | _ => exact .inr fun K => by simp only [dcP]
  | .fn f l, a => by
    cases a with
    | fn g vs =>
      by_cases h1 : f = g
      · subst h1
        rcases dcPs_or l vs with ⟨v, h3, h4⟩ | h4
        · subst h3
          exact .inl ⟨v, by simp only [mkP], fun K => by simp only [dcP, Nat.beq_refl, Br, h4]⟩
        · exact .inr fun K => by simp only [dcP, Nat.beq_refl, Br, h4]
      · exact .inr fun K => by
          have : Nat.beq f g = false := by
            cases hb : Nat.beq f g with
            | false => rfl
            | true => exact absurd (Nat.eq_of_beq_eq_true hb) h1
          simp only [dcP, this, Br]
    | _ => exact .inr fun K => by simp only [dcP]
  | .ns, a => by
    cases a with
    | ns => exact .inl ⟨(), by simp only [mkP], fun K => by simp only [dcP]⟩
    | _ => exact .inr fun K => by simp only [dcP]
theorem dcPs_or : ∀ (l : List PK) (as : List AV), (∃ v, as = mkPs l v ∧ ∀ K, dcPs l as K = K v) ∨ ∀ K, dcPs l as K = False
  | [], [] => .inl ⟨(), by simp only [mkPs], fun _ => by simp only [dcPs]⟩
  | [], _ :: _ => .inr fun _ => by simp only [dcPs]
  | _ :: _, [] => .inr fun _ => by simp only [dcPs]
  | k :: l, a :: r => by
    rcases dcP_or k a with ⟨v, h1, h2⟩ | h2
    · subst h1
      rcases dcPs_or l r with ⟨vs, h3, h4⟩ | h4
      · subst h3
        exact .inl ⟨(v, vs), by simp only [mkPs], fun K => by simp only [dcPs, h2, h4]⟩
      · exact .inr fun K => by simp only [dcPs, h2, h4]
    · exact .inr fun K => by simp only [dcPs, h2]
end

def entOf (s : List PK) (F : PVs s → Nat → (AV → List Blk → Prop) → Prop) : Ent := fun args n K => dcPs s args fun v => F v n K

theorem entOf_ok {P : Program} {f : FuncId} {e : Ent} {s : List PK} {F : PVs s → Nat → (AV → List Blk → Prop) → Prop} (h : ∀ v n K, F v n K = e (mkPs s v) n K) (he : EntOK P f e) : EntOK P f (entOf s F) := by
  constructor
  · intro args n K vals w Z hk ha
    unfold entOf at hk
    rcases dcPs_or s args with ⟨v, rfl, h1⟩ | h1
    · rw [h1, h] at hk
      exact he.1 _ n K vals w Z hk ha
    · rw [h1] at hk; exact hk.elim
  · intro args n
    have := he.2
    unfold entOf
    rcases dcPs_or s args with ⟨v, rfl, h1⟩ | h1
    · rcases he.2 (mkPs s v) n with h2 | ⟨a, b, h2⟩
      · exact .inl fun K => by dsimp only; rw [h1, h]; exact h2 K
      · exact .inr ⟨a, b, fun K => by dsimp only; rw [h1, h]; exact h2 K⟩
    · exact .inl fun K => by dsimp only; rw [h1]; exact id

/-- One function, called with arguments of more than one kind. -/
def altE (s : List PK) (e1 e2 : Ent) : Ent := fun args n K => Br (fitPs s args) (e1 args n K) (e2 args n K)
theorem altE_ok {P : Program} {f : FuncId} {s : List PK} {e1 e2 : Ent} (h1 : EntOK P f e1) (h2 : EntOK P f e2) : EntOK P f (altE s e1 e2) := by
  constructor
  · intro args n K vals w Z hk ha
    unfold altE at hk
    cases hb : fitPs s args with
    | true => rw [hb] at hk; exact h1.1 args n K vals w Z hk ha
    | false => rw [hb] at hk; exact h2.1 args n K vals w Z hk ha
  · intro args n
    unfold altE
    cases fitPs s args with
    | true => exact h1.2 args n
    | false => exact h2.2 args n

/-! ### Loops and joins -/

def lpL {α : Type} : List (Nat × α) → Nat → List α
  | [], _ => []
  | (g, e) :: l, f => match Nat.beq f g with
    | true => e :: lpL l f
    | false => lpL l f
def mkL (lo jo : List (Nat × Cut)) : Cuts := { loop := lpL lo, join := lpL jo }
/-- The result is handed back as a pure one. -/
def mkS (d : Cd) (lo jo : List (Nat × Cut)) : Cuts := { loop := lpL lo, join := lpL jo, stl := some d }
def nthB : List (Nat × Code) → Nat → Code
  | [], _ => .skip
  | (_, b) :: _, 0 => b
  | _ :: l, n + 1 => nthB l n

theorem of_some {α : Type _} {o : Option α} {a : α} {R : α → Prop} (h : o = some a) (hr : R a) : ∀ c, o = some c → R c := fun c hc => by
  rw [h] at hc; cases hc; exact hr

theorem of_none {α : Type _} {o : Option α} {R : α → Prop} (h : o = none) : ∀ c, o = some c → R c := fun c hc => by rw [h] at hc; cases hc
def rcL : List (Nat × RCut) → Nat → Option RCut
  | [], _ => none
  | (g, e) :: l, f => match Nat.beq f g with
    | true => some e
    | false => rcL l f
def icL : List (Nat × ICut) → Nat → Option ICut
  | [], _ => none
  | (g, e) :: l, f => match Nat.beq f g with
    | true => some e
    | false => icL l f
def nthR : List (Nat × List Nat × Code × Code) → Nat → List Nat × Code × Code
  | [], _ => ([], .skip, .skip)
  | (_, x) :: _, 0 => x
  | _ :: l, n + 1 => nthR l n

theorem DataR.deC {w : World} {B : Bz} {O : Nat → Prop} {as : List AV} {us : List Value} {l : List (Bool × Cd)} {J : CV l → Prop} (h : DataR w (ZZ B O fun _ => False) as us) (hd : deC as l J) :
    ∃ y, J y ∧ DataR w (ZZ B O fun _ => False) (clV l y) us := by
  have noown : ∀ b, ¬ Own (fun _ => undef) [] b := by rintro b ⟨r, hr, _⟩; simp [hlen] at hr
  have hv : VRs 0 (mns B O) (fun _ => undef) [] w as us := h.vrs fun fr b hz => zn_second ⟨hz.1, noown b, hz.2.2⟩
  obtain ⟨y, hJ, hy⟩ := deC_spec (X := ⟨w, mns B O, fun _ => False⟩) as l us _ hv hd
  exact ⟨y, hJ, DataR.of (fun fr b hz => by have := zz_of_second hz; exact ⟨this.1, id, this.2.2⟩) (allT_clV l y) (hy 0 (fun _ => undef) [] fun _ _ h => h)⟩

theorem itOf_ok {P : Program} {f : FuncId} {caps es : List (Bool × Cd)} {F : CV caps → (S : Type) → (CV es → S → (Bool → S → Prop) → Prop) → S → (S → Prop) → Prop} {e : ItE}
    (h : ∀ (cv : CV caps) (S : Type) (rd : Rnd S) (s : S) (K : S → Prop), F cv S (fun x => rd (clV es x)) s K = e (clV caps cv) S rd s K) (he : ItAll P f e) : ItAll P f (itOf caps es F) := by
  constructor
  · intro cs S rd s K hk B I hI l vals w O hB hi hd hR
    unfold itOf at hk
    obtain ⟨cv, hk, hd'⟩ := hd.deC hk
    rw [h] at hk
    exact he.1 _ S rd s K hk B I hI l vals w O hB hi hd' hR
  · intro cs S rd hr s
    unfold itOf
    refine (sel_deC cs caps).then1 fun cv => ?_
    have e1 : F cv S (fun x => rd (clV es x)) s = fun K => e (clV caps cv) S rd s K := funext fun K => h cv S rd s K
    show Sel1 (F cv S (fun x => rd (clV es x)) s)
    rw [e1]
    exact he.2 _ S rd hr s

/-- A law's call: all is well where the evaluator's word holds. -/
theorem law_of_ent {P : Program} {f : FuncId} {e : Ent} (h : EntOK P f e) {args : List AV} {vals : List Value} {w : World} (Z : Nat → Prop) (ha : ArgsR w Z args vals)
    (he : e args 0 fun v _ => ∃ fr, v = .t fr .bool true) : Calls P f vals.toArray w fun e w' => e = .returned (.bool true) ∧ Below w.heap.size w w' := by
  refine (h.1 args 0 _ vals w Z he ha).mono fun e w' ⟨u, v, bl, h1, ⟨fr, h2⟩, h3⟩ => ?_
  subst h1; subst h2
  obtain ⟨ρ', hr, hv, _⟩ := h3
  refine ⟨?_, hr.os, hr.tape, hr.output, hr.size, fun k hk => hr.keep k hk fun h => h⟩
  simp only [VR, VT, pk] at hv
  obtain ⟨cs, h4, h5⟩ := hv
  subst h4
  have : u = .bool true := by simpa [agg] using h5.symm
  rw [this]

/-! ### Types -/

def zcells : Cd → List Value
  | .bool => [.bool false]
  | .int k => [.int k 0]
  | .str => [.string ByteArray.empty]
  | .np => [.pointer none]
  | .sl _ => [.slice none 0 0]
  | .arr n c => (List.replicate n (zcells c)).flatten
  | .nil => []
  | .cons c d => zcells c ++ zcells d
  | _ => []
def zval (c : Cd) : Value := if agg c then .agg (zcells c).toArray else match zcells c with
  | [v] => v
  | _ => undef

theorem flat_replicate {α : Type} {R : α → List Value → Prop} {x : α} {cs : List Value} (h : R x cs) : ∀ n, Flat R (List.replicate n x) (List.replicate n cs).flatten
  | 0 => by simp [Flat]
  | n + 1 => by
    simp only [List.replicate_succ, List.flatten_cons, Flat]
    exact ⟨cs, _, rfl, h, flat_replicate h n⟩

theorem vt_zcells {w : World} {Z : Nat → Prop} : ∀ (c : Cd), norow c = true → noptr c = true → VT w Z c (dflt c) (zcells c)
  | .bool, _, _ => by simp [VT, zcells, dflt]
  | .int _, _, _ => by simp [VT, zcells, dflt]
  | .str, _, _ => by simp [VT, zcells, dflt]
  | .np, _, _ => by simp [VT, zcells]
  | .sl _, _, _ => ⟨none, 0, rfl, Nat.le_refl _, .inl rfl⟩
  | .ptr _, _, h => by simp [noptr] at h
  | .row _, h, _ => by simp [norow] at h
  | .nil, _, _ => by simp [VT, zcells]
  | .arr n c, h1, h2 => by
    simp only [VT, dflt, zcells]
    exact ⟨by simp, flat_replicate (vt_zcells c (by simpa [norow] using h1) (by simpa [noptr] using h2)) n⟩
  | .cons c d, h1, h2 => by
    simp only [norow, noptr, Bool.and_eq_true] at h1 h2
    exact ⟨_, _, rfl, vt_zcells c h1.1 h2.1, vt_zcells d h1.2 h2.2⟩

theorem tok_mk {P : Program} {t : TypeId} {c : Cd} {i : TypeInfo} {d : TypeDesc} (hi : P.info? t = some i) (hu : P.underlying t = some d) (hn : norow c = true) (hs : i.size = csz c) (ha : isAggD d = agg c)
    (hz : noptr c = false ∨ i.zero = some (zval c)) : TOK P t c := by
  refine ⟨hn, i, d, hi, hu, hs, ha, fun hp => ?_⟩
  rcases hz with hz | hz
  · rw [hp] at hz; exact absurd hz (by decide)
  · refine ⟨_, hz, fun w Z => ⟨_, vt_zcells c hn hp, ?_⟩⟩
    cases c <;> simp_all [pk, zval, agg, zcells, noptr, norow]

def FldsOK (P : Program) : List Field → Cd → Nat → Prop
  | f :: fs, .cons c d, o => (f.offset = o ∧ 0 < csz c ∧ TOK P f.type c) ∧ FldsOK P fs d (o + csz c)
  | [], .nil, _ => True
  | _, _, _ => False

theorem flds_at {P : Program} : ∀ (fs : List Field) (c : Cd) (o : Nat), FldsOK P fs c o → ∀ j d, pcode c [.fd j] = some d → ∃ f, fs[j]? = some f ∧ f.offset = o + offs c [.fd j] ∧ 0 < csz d ∧ TOK P f.type d
  | f :: fs, .cons c d, o, h, 0, d', hd => by
    simp [pcode] at hd; subst hd
    exact ⟨f, rfl, by simp [offs, h.1.1], h.1.2.1, h.1.2.2⟩
  | f :: fs, .cons c d, o, h, j + 1, d', hd => by
    simp only [pcode] at hd
    obtain ⟨g, h1, h2, h3⟩ := flds_at fs d _ h.2 j d' hd
    exact ⟨g, h1, by rw [h2]; simp only [offs]; omega, h3⟩
  | [], .nil, _, _, j, d, hd => by simp [pcode] at hd
  | [], .cons _ _, _, h, _, _, _ => h.elim
  | _ :: _, .nil, _, h, _, _, _ => h.elim
  | _, .bool, _, h, _, _, _ => by cases ‹List Field› <;> exact h.elim
  | _, .int _, _, h, _, _, _ => by cases ‹List Field› <;> exact h.elim
  | _, .str, _, h, _, _, _ => by cases ‹List Field› <;> exact h.elim
  | _, .np, _, h, _, _, _ => by cases ‹List Field› <;> exact h.elim
  | _, .sl _, _, h, _, _, _ => by cases ‹List Field› <;> exact h.elim
  | _, .ptr _, _, h, _, _, _ => by cases ‹List Field› <;> exact h.elim
  | _, .arr _ _, _, h, _, _, _ => by cases ‹List Field› <;> exact h.elim
  | _, .row _, _, h, _, _, _ => by cases ‹List Field› <;> exact h.elim

theorem flds_places {P : Program} : ∀ (fs : List Field) (c : Cd) (o : Nat), FldsOK P fs c o →
    ∃ places, fs.mapM (fun f => (P.info? f.type).map fun i => (f.offset, i.size)) = some places ∧ ∀ j d, pcode c [.fd j] = some d → places[j]? = some (o + offs c [.fd j], csz d)
  | f :: fs, .cons c d, o, h => by
    obtain ⟨ps, h1, h2⟩ := flds_places fs d _ h.2
    obtain ⟨⟨ho, _, _, i, _, hi, _, hs, _⟩, _⟩ := h
    refine ⟨(o, csz c) :: ps, by simp [List.mapM_cons, hi, h1, ho, hs], fun j d' hd => ?_⟩
    cases j with
    | zero => simp [pcode] at hd; subst hd; simp [offs]
    | succ j =>
      simp only [pcode] at hd
      have := h2 j d' hd
      simp only [List.getElem?_cons_succ, this, offs]
      congr 2; omega
  | [], .nil, _, _ => ⟨[], by simp, fun j d hd => by simp [pcode] at hd⟩
  | [], .cons _ _, _, h => h.elim
  | _ :: _, .nil, _, h => h.elim
  | _, .bool, _, h => by cases ‹List Field› <;> exact h.elim
  | _, .int _, _, h => by cases ‹List Field› <;> exact h.elim
  | _, .str, _, h => by cases ‹List Field› <;> exact h.elim
  | _, .np, _, h => by cases ‹List Field› <;> exact h.elim
  | _, .sl _, _, h => by cases ‹List Field› <;> exact h.elim
  | _, .ptr _, _, h => by cases ‹List Field› <;> exact h.elim
  | _, .arr _ _, _, h => by cases ‹List Field› <;> exact h.elim
  | _, .row _, _, h => by cases ‹List Field› <;> exact h.elim

section
variable {P : Program} {t e : TypeId} {c : Cd}
theorem tyok_bool (h : TOK P t .bool) (hu : P.underlying t = some .bool) : TyOK P t (.sc .bool) := ⟨h, hu⟩
theorem tyok_int {k : IntKind} (h : TOK P t (.int k)) (hu : P.underlying t = some (.int k)) : TyOK P t (.sc (.int k)) := ⟨h, hu⟩
theorem tyok_str (h : TOK P t .str) (hu : P.underlying t = some .string) : TyOK P t (.sc .str) := ⟨h, hu⟩
theorem tyok_sl {i j : TypeInfo} {by_ : Nat} (h : TOK P t (.sl c)) (hu : P.underlying t = some (.slice e)) (he : TOK P e c) (hc : Nat.blt 0 (csz c) = true) (hp : noptr c = true) (hb : Nat.blt 0 by_ = true)
    (hi : P.info? e = some i) (hib : i.bytes = by_) (hj : P.info? t = some j) (hz : j.zero = some (.slice none 0 0)) : TyOK P t (.sl e c by_) :=
  ⟨hu, h, he, Nat.le_of_ble_eq_true hc, hp, Nat.le_of_ble_eq_true hb, ⟨i, hi, hib⟩, j, hj, hz⟩
theorem tyok_arr {n : Nat} (h : TOK P t (.arr n c)) (hu : P.underlying t = some (.array n e)) (he : TOK P e c) (hc : Nat.blt 0 (csz c) = true) : TyOK P t (.arr n e c) :=
  ⟨hu, h, he, Nat.le_of_ble_eq_true hc⟩
theorem tyok_st {fs : Array Field} (ha : agg c = true) (h : TOK P t c) (hu : P.underlying t = some (.struct fs)) (hf : FldsOK P fs.toList c 0) : TyOK P t (.st c) := by
  refine ⟨ha, h, fs, hu, fun j d hd => ?_, ?_⟩
  · obtain ⟨f, h1, h2, h3⟩ := flds_at _ _ _ hf j d hd
    exact ⟨f, by simpa using h1, by simpa using h2, h3⟩
  · obtain ⟨ps, h1, h2⟩ := flds_places _ _ _ hf
    exact ⟨ps, h1, fun j d hd => by simpa using h2 j d hd⟩
theorem tyok_pt {i : TypeInfo} (hu : P.underlying t = some (.pointer e)) (hn : norow c = true) (hi : P.info? t = some i) (hs : i.size = 1) : TyOK P t (.pt e c) := ⟨hu, hn, i, hi, hs⟩
theorem tyok_fn {i : TypeInfo} {d : TypeDesc} (hu : P.underlying t = some d) (ha : isAggD d = false) (hi : P.info? t = some i) (hs : i.size = 1) : TyOK P t .fn := ⟨d, i, hu, ha, hi, hs⟩
end

end Go.Eng
