/- The abstract evaluator: what it goes on with is one value, or nothing. -/
import Derived.Test.YtniabjhjpkkllaaEngL
set_option linter.unusedVariables false
set_option linter.unusedSimpArgs false
namespace Go.Eng
open Go Go.RowKit

def Sel1 {α : Type} (F : (α → Prop) → Prop) : Prop := (∀ K, ¬ F K) ∨ ∃ a, ∀ K, F K ↔ K a
def Sel2 {α β : Type} (F : (α → β → Prop) → Prop) : Prop := (∀ K, ¬ F K) ∨ ∃ a b, ∀ K, F K ↔ K a b
def Sel3 {α β γ : Type} (F : (α → β → γ → Prop) → Prop) : Prop := (∀ K, ¬ F K) ∨ ∃ a b c, ∀ K, F K ↔ K a b c

section
variable {α β γ δ : Type}

theorem Sel1.no : Sel1 (α := α) fun _ => False := .inl fun _ h => h
theorem Sel1.pt (a : α) : Sel1 fun K => K a := .inr ⟨a, fun _ => Iff.rfl⟩
theorem Sel1.br (b : Bool) {F G : (α → Prop) → Prop} (hf : Sel1 F) (hg : Sel1 G) : Sel1 fun K => Br b (F K) (G K) := by cases b; exact hg; exact hf
theorem Sel1.asC (c d : Cd) (x : El c) {F : El d → (α → Prop) → Prop} (hf : ∀ y, Sel1 (F y)) : Sel1 fun K => asC c x d fun y => F y K := by
  by_cases h : c = d
  · subst h; simpa [Eng.asC] using hf x
  · exact .inl fun K hk => by simp [Eng.asC, h] at hk
theorem Sel2.no : Sel2 (α := α) (β := β) fun _ => False := .inl fun _ h => h
theorem Sel2.pt (a : α) (b : β) : Sel2 fun K => K a b := .inr ⟨a, b, fun _ => Iff.rfl⟩
theorem Sel2.br (b : Bool) {F G : (α → β → Prop) → Prop} (hf : Sel2 F) (hg : Sel2 G) : Sel2 fun K => Br b (F K) (G K) := by cases b; exact hg; exact hf
theorem Sel2.asC (c d : Cd) (x : El c) {F : El d → (α → β → Prop) → Prop} (hf : ∀ y, Sel2 (F y)) : Sel2 fun K => asC c x d fun y => F y K := by
  by_cases h : c = d
  · subst h; simpa [Eng.asC] using hf x
  · exact .inl fun K hk => by simp [Eng.asC, h] at hk
theorem Sel3.no : Sel3 (α := α) (β := β) (γ := γ) fun _ => False := .inl fun _ h => h
theorem Sel3.pt (a : α) (b : β) (c : γ) : Sel3 fun K => K a b c := .inr ⟨a, b, c, fun _ => Iff.rfl⟩
theorem Sel3.br (b : Bool) {F G : (α → β → γ → Prop) → Prop} (hf : Sel3 F) (hg : Sel3 G) : Sel3 fun K => Br b (F K) (G K) := by cases b; exact hg; exact hf
theorem Sel3.asC (c d : Cd) (x : El c) {F : El d → (α → β → γ → Prop) → Prop} (hf : ∀ y, Sel3 (F y)) : Sel3 fun K => asC c x d fun y => F y K := by
  by_cases h : c = d
  · subst h; simpa [Eng.asC] using hf x
  · exact .inl fun K hk => by simp [Eng.asC, h] at hk

/-- One behind the other. -/
theorem Sel1.then1 {F : (α → Prop) → Prop} {G : α → (δ → Prop) → Prop} (hf : Sel1 F) (hg : ∀ a, Sel1 (G a)) : Sel1 fun K => F fun a => G a K := by
  rcases hf with hf | ⟨a, hf⟩
  · exact .inl fun K => hf _
  · rcases hg a with hg | ⟨d, hg⟩
    · exact .inl fun K h => hg K ((hf _).1 h)
    · exact .inr ⟨d, fun K => (hf _).trans (hg K)⟩
theorem Sel1.then2 {F : (α → Prop) → Prop} {G : α → (δ → γ → Prop) → Prop} (hf : Sel1 F) (hg : ∀ a, Sel2 (G a)) : Sel2 fun K => F fun a => G a K := by
  rcases hf with hf | ⟨a, hf⟩
  · exact .inl fun K => hf _
  · rcases hg a with hg | ⟨d, c, hg⟩
    · exact .inl fun K h => hg K ((hf _).1 h)
    · exact .inr ⟨d, c, fun K => (hf _).trans (hg K)⟩
theorem Sel2.then1 {F : (α → β → Prop) → Prop} {G : α → β → (δ → Prop) → Prop} (hf : Sel2 F) (hg : ∀ a b, Sel1 (G a b)) : Sel1 fun K => F fun a b => G a b K := by
  rcases hf with hf | ⟨a, b, hf⟩
  · exact .inl fun K => hf _
  · rcases hg a b with hg | ⟨d, hg⟩
    · exact .inl fun K h => hg K ((hf _).1 h)
    · exact .inr ⟨d, fun K => (hf _).trans (hg K)⟩
theorem Sel2.then2 {F : (α → β → Prop) → Prop} {G : α → β → (δ → γ → Prop) → Prop} (hf : Sel2 F) (hg : ∀ a b, Sel2 (G a b)) : Sel2 fun K => F fun a b => G a b K := by
  rcases hf with hf | ⟨a, b, hf⟩
  · exact .inl fun K => hf _
  · rcases hg a b with hg | ⟨d, c, hg⟩
    · exact .inl fun K h => hg K ((hf _).1 h)
    · exact .inr ⟨d, c, fun K => (hf _).trans (hg K)⟩
theorem Sel3.then2 {F : (α → β → γ → Prop) → Prop} {ε ζ : Type} {G : α → β → γ → (ε → ζ → Prop) → Prop} (hf : Sel3 F) (hg : ∀ a b c, Sel2 (G a b c)) : Sel2 fun K => F fun a b c => G a b c K := by
  rcases hf with hf | ⟨a, b, c, hf⟩
  · exact .inl fun K => hf _
  · rcases hg a b c with hg | ⟨d, e, hg⟩
    · exact .inl fun K h => hg K ((hf _).1 h)
    · exact .inr ⟨d, e, fun K => (hf _).trans (hg K)⟩
theorem Sel3.then3 {F : (α → β → γ → Prop) → Prop} {ε ζ η : Type} {G : α → β → γ → (ε → ζ → η → Prop) → Prop} (hf : Sel3 F) (hg : ∀ a b c, Sel3 (G a b c)) : Sel3 fun K => F fun a b c => G a b c K := by
  rcases hf with hf | ⟨a, b, c, hf⟩
  · exact .inl fun K => hf _
  · rcases hg a b c with hg | ⟨d, e, f, hg⟩
    · exact .inl fun K h => hg K ((hf _).1 h)
    · exact .inr ⟨d, e, f, fun K => (hf _).trans (hg K)⟩
theorem Sel1.then3 {F : (α → Prop) → Prop} {ε ζ η : Type} {G : α → (ε → ζ → η → Prop) → Prop} (hf : Sel1 F) (hg : ∀ a, Sel3 (G a)) : Sel3 fun K => F fun a => G a K := by
  rcases hf with hf | ⟨a, hf⟩
  · exact .inl fun K => hf _
  · rcases hg a with hg | ⟨d, e, f, hg⟩
    · exact .inl fun K h => hg K ((hf _).1 h)
    · exact .inr ⟨d, e, f, fun K => (hf _).trans (hg K)⟩
theorem Sel1.to2 {F : (α → Prop) → Prop} {g : α → β} {h : α → γ} (hf : Sel1 F) : Sel2 fun K => F fun a => K (g a) (h a) := hf.then2 fun _ => Sel2.pt _ _
end

/-- An entry that goes on with one answer, or with none. -/
def SelE (e : Ent) : Prop := ∀ args n, Sel2 (e args n)

section
variable {H : List Blk}

theorem sel_bnd (v : Option AV) (n d : Nat) : Sel1 (bnd v n d) := by
  unfold bnd
  cases v with
  | none => exact Sel1.pt _
  | some v =>
    cases v with
    | t fr c x => cases c <;> first | exact Sel1.no | exact Sel1.br _ (Sel1.pt _) Sel1.no
    | _ => exact Sel1.no

theorem sel_inB (v : AV) (n : Nat) : Sel1 (inB v n) := by
  unfold inB
  cases v with
  | t fr c x => cases c <;> first | exact Sel1.no | exact Sel1.br _ (Sel1.pt _) Sel1.no
  | _ => exact Sel1.no

theorem sel_evEq (c : Cd) (op : BinOp) (x y : AV) : Sel1 (evEq c op x y) := by
  unfold evEq
  cases x with
  | t fr c1 a =>
    cases y with
    | t fr' c2 b =>
      cases op
      case eql => exact Sel1.asC (F := fun a (K : AV → Prop) => asC c2 b c fun b => K (bB (eqv c a b))) _ _ _ fun a => Sel1.asC (F := fun b (K : AV → Prop) => K (bB (eqv c a b))) _ _ _ fun b => Sel1.pt _
      case neq => exact Sel1.asC (F := fun a (K : AV → Prop) => asC c2 b c fun b => K (bB (!(eqv c a b)))) _ _ _ fun a => Sel1.asC (F := fun b (K : AV → Prop) => K (bB (!(eqv c a b)))) _ _ _ fun b => Sel1.pt _
      all_goals exact Sel1.asC (F := fun a (K : AV → Prop) => asC c2 b c fun _ => False) _ _ _ fun a => Sel1.asC (F := fun _ (K : AV → Prop) => False) _ _ _ fun b => Sel1.no
    | _ => exact Sel1.no
  | _ => exact Sel1.no
theorem sel_evBin (op : BinOp) (ty : Ty) (x y : AV) : Sel1 (evBin op ty x y) := by
  unfold evBin
  cases x with
  | t fr c x =>
    cases y with
    | t fr' c' y =>
      cases c <;> cases c' <;> first
        | exact Sel1.no
        | (cases op <;> first | exact Sel1.no | exact Sel1.br _ (Sel1.pt _) Sel1.no | exact Sel1.br _ Sel1.no (Sel1.pt _) | exact Sel1.br _ (Sel1.br _ Sel1.no (Sel1.pt _)) Sel1.no)
        | (cases op <;> cases ty <;> first | exact Sel1.no | exact Sel1.pt _ | (rename_i c; cases c <;> first | exact Sel1.no | exact Sel1.pt _))
    | ns => cases c <;> first | exact Sel1.no | (cases op <;> cases ty <;> first | exact Sel1.no | exact Sel1.br _ (Sel1.pt _) Sel1.no)
    | _ => cases c <;> exact Sel1.no
  | op r c p =>
    cases y with
    | t fr' c' y => cases c' <;> first | exact Sel1.no | (cases op <;> cases ty <;> first | exact Sel1.no | exact Sel1.pt _)
    | _ => exact Sel1.no
  | _ => cases y <;> exact Sel1.no

theorem sel_evUn (op : UnOp) (x : AV) : Sel1 (evUn op x) := by
  unfold evUn
  cases x with
  | t fr c x => cases op <;> cases c <;> first | exact Sel1.no | exact Sel1.pt _
  | _ => cases op <;> exact Sel1.no

theorem sel_evLen (v : AV) (ty : Ty) : Sel1 (evLen H v ty) := by
  unfold evLen
  cases ty with
  | sl e c b =>
    cases v with
    | t fr c x => cases c <;> first | exact Sel1.no | exact Sel1.pt _
    | ns => exact Sel1.pt _
    | os r =>
      simp only
      generalize hk H r = b
      cases b with
      | val wr fr E c x => cases c <;> first | exact Sel1.no | exact Sel1.pt _
      | _ => exact Sel1.no
    | ox r c lo hi => exact Sel1.pt _
    | _ => exact Sel1.no
  | sc c =>
    cases v with
    | t fr c' x => cases c <;> cases c' <;> first | exact Sel1.no | exact Sel1.pt _
    | _ => cases c <;> exact Sel1.no
  | arr n e c => exact Sel1.pt _
  | _ => exact Sel1.no

theorem sel_evSlice (x : AV) (ty : Ty) (lo hi : Option AV) : Sel1 (evSlice H x ty lo hi) := by
  have two : ∀ {n d : Nat} {f : Nat → Nat → AV}, Sel1 fun K => bnd hi n d fun h => bnd lo h 0 fun l => K (f h l) := (sel_bnd hi _ _).then1 fun h => (sel_bnd lo _ _).then1 fun l => Sel1.pt _
  unfold evSlice
  cases ty with
  | sl e c b =>
    cases x with
    | t fr c' x => cases c' <;> first | exact Sel1.no | exact Sel1.asC _ _ _ fun x => two
    | os r =>
      simp only
      generalize hk H r = b
      cases b with
      | val wr fr E c' x =>
        cases c' <;> first | exact Sel1.no | skip
        cases lo <;> cases hi <;> first | exact Sel1.pt _ | exact Sel1.br _ two Sel1.no
      | _ => exact Sel1.no
    | ox r c' a b => exact Sel1.br _ two Sel1.no
    | _ => exact Sel1.no
  | arr n e c =>
    cases x with
    | op r c' p => cases p <;> first | exact Sel1.no | exact Sel1.br _ two Sel1.no
    | _ => exact Sel1.no
  | _ => cases x <;> exact Sel1.no

theorem sel_fld : ∀ (c : Cd) (x : El c) (j : Nat) {F : (d : Cd) → El d → (AV → Prop) → Prop}, (∀ d y, Sel1 (F d y)) → Sel1 fun K => fld c x j fun d y => F d y K
  | .cons c d, x, 0, F, hF => by simp only [fld]; exact hF _ _
  | .cons c d, x, j + 1, F, hF => by simp only [fld]; exact sel_fld d x.2 j hF
  | .bool, _, _, _, _ => Sel1.no
  | .int _, _, _, _, _ => Sel1.no
  | .str, _, _, _, _ => Sel1.no
  | .np, _, _, _, _ => Sel1.no
  | .sl _, _, _, _, _ => Sel1.no
  | .ptr _, _, _, _, _ => Sel1.no
  | .arr _ _, _, _, _, _ => Sel1.no
  | .row _, _, _, _, _ => Sel1.no
  | .nil, _, _, _, _ => Sel1.no

theorem sel_evIxAddr (x i : AV) (ty : Ty) : Sel1 (evIxAddr H x i ty) := by
  have one : ∀ {n : Nat} {f : Nat → AV}, Sel1 fun K => inB i n fun j => K (f j) := (sel_inB i _).then1 fun h => Sel1.pt _
  unfold evIxAddr
  cases ty with
  | sl e c b =>
    cases x with
    | t fr c' x => cases c' <;> first | exact Sel1.no | exact Sel1.asC _ _ _ fun x => one
    | os r =>
      simp only
      generalize hk H r = b
      cases b with
      | val wr fr E c' x => cases c' <;> first | exact Sel1.no | exact Sel1.br _ one Sel1.no
      | _ => exact Sel1.no
    | ox r c' lo hi =>
      simp only
      generalize hk H r = b
      cases b with
      | val wr fr E c' x => cases c' <;> first | exact Sel1.no | exact Sel1.br _ one Sel1.no
      | _ => exact Sel1.no
    | _ => exact Sel1.no
  | arr n e c =>
    cases x with
    | t fr c' x => cases c' <;> first | exact Sel1.no | exact Sel1.asC _ _ _ fun x => one
    | op r c' p => exact Sel1.br _ one Sel1.no
    | _ => exact Sel1.no
  | _ => cases x <;> exact Sel1.no

theorem sel_evFieldAddr (x : AV) (ty : Ty) (f : Nat) : Sel1 (evFieldAddr x ty f) := by
  unfold evFieldAddr
  cases ty with
  | st c =>
    cases x with
    | t fr c' x => cases c' <;> first | exact Sel1.no | exact Sel1.asC _ _ _ fun x => sel_fld _ _ _ fun d y => Sel1.pt _
    | op r c' p => exact Sel1.br _ (Sel1.pt _) Sel1.no
    | _ => exact Sel1.no
  | _ => cases x <;> exact Sel1.no

theorem sel_evField (x : AV) (ty : Ty) (f : Nat) : Sel1 (evField x ty f) := by
  unfold evField
  cases ty with
  | st c =>
    cases x with
    | t fr c' x => exact Sel1.asC _ _ _ fun x => sel_fld _ _ _ fun d y => Sel1.pt _
    | _ => exact Sel1.no
  | _ => cases x <;> exact Sel1.no

theorem sel_evIndex (x i : AV) (ty : Ty) : Sel1 (evIndex x i ty) := by
  unfold evIndex
  cases ty with
  | arr n e c =>
    cases x with
    | t fr c' x => exact Sel1.asC _ _ _ fun x => (sel_inB i _).then1 fun h => Sel1.pt _
    | _ => exact Sel1.no
  | sc c =>
    cases x with
    | t fr c' x => cases c <;> cases c' <;> first | exact Sel1.no | exact (sel_inB i _).then1 fun h => Sel1.pt _
    | _ => cases c <;> exact Sel1.no
  | _ => cases x <;> exact Sel1.no


theorem sel_getP {α : Type} : ∀ (c : Cd) (x : El c) (p : List Sg) {F : (d : Cd) → El d → (α → Prop) → Prop}, (∀ d y, Sel1 (F d y)) → Sel1 fun K => getP c x p fun d y => F d y K
  | c, x, [], F, hF => by simp only [getP]; exact hF _ _
  | .arr n c, x, .ix i :: p, F, hF => by simp only [getP]; exact Sel1.br _ (sel_getP c _ p hF) Sel1.no
  | .row c, x, .ix i :: p, F, hF => by simp only [getP]; exact Sel1.br _ (sel_getP c _ p hF) Sel1.no
  | .cons c _, x, .fd 0 :: p, F, hF => by simp only [getP]; exact sel_getP c x.1 p hF
  | .cons _ d, x, .fd (j + 1) :: p, F, hF => by simp only [getP]; exact sel_getP d x.2 (.fd j :: p) hF
  | .bool, _, _ :: _, _, _ => by simp only [getP]; exact Sel1.no
  | .int _, _, _ :: _, _, _ => by simp only [getP]; exact Sel1.no
  | .str, _, _ :: _, _, _ => by simp only [getP]; exact Sel1.no
  | .np, _, _ :: _, _, _ => by simp only [getP]; exact Sel1.no
  | .sl _, _, _ :: _, _, _ => by simp only [getP]; exact Sel1.no
  | .ptr _, _, _ :: _, _, _ => by simp only [getP]; exact Sel1.no
  | .nil, _, _ :: _, _, _ => by simp only [getP]; exact Sel1.no
  | .arr _ _, _, .fd _ :: _, _, _ => by simp only [getP]; exact Sel1.no
  | .row _, _, .fd _ :: _, _, _ => by simp only [getP]; exact Sel1.no
  | .cons _ _, _, .ix _ :: _, _, _ => by simp only [getP]; exact Sel1.no

theorem sel_setP : ∀ (c : Cd) (x : El c) (p : List Sg) (d : Cd) (y : El d), Sel1 fun K => setP c x p d y K
  | c, x, [], d, y => by
    simp only [setP]
    exact Sel1.asC (F := fun z (K : El c → Prop) => K z) _ _ _ fun z => Sel1.pt z
  | .arr n c, x, .ix i :: p, d, y => by simp only [setP]; exact Sel1.br _ ((sel_setP c _ p d y).then1 fun z => Sel1.pt _) Sel1.no
  | .row c, x, .ix i :: p, d, y => by simp only [setP]; exact Sel1.br _ ((sel_setP c _ p d y).then1 fun z => Sel1.pt _) Sel1.no
  | .cons c _, x, .fd 0 :: p, d, y => by simp only [setP]; exact (sel_setP c x.1 p d y).then1 fun z => Sel1.pt _
  | .cons _ d', x, .fd (j + 1) :: p, d, y => by simp only [setP]; exact (sel_setP d' x.2 (.fd j :: p) d y).then1 fun z => Sel1.pt _
  | .bool, _, _ :: _, _, _ => by simp only [setP]; exact Sel1.no
  | .int _, _, _ :: _, _, _ => by simp only [setP]; exact Sel1.no
  | .str, _, _ :: _, _, _ => by simp only [setP]; exact Sel1.no
  | .np, _, _ :: _, _, _ => by simp only [setP]; exact Sel1.no
  | .sl _, _, _ :: _, _, _ => by simp only [setP]; exact Sel1.no
  | .ptr _, _, _ :: _, _, _ => by simp only [setP]; exact Sel1.no
  | .nil, _, _ :: _, _, _ => by simp only [setP]; exact Sel1.no
  | .arr _ _, _, .fd _ :: _, _, _ => by simp only [setP]; exact Sel1.no
  | .row _, _, .fd _ :: _, _, _ => by simp only [setP]; exact Sel1.no
  | .cons _ _, _, .ix _ :: _, _, _ => by simp only [setP]; exact Sel1.no

theorem sel_evLoad (x : AV) (ty : Ty) : Sel1 (evLoad H x ty) := by
  have tl : ∀ (fr : Bool) (d : Cd) (y : El d), Sel1 fun (K : AV → Prop) => match ty.code with | some d' => asC d y d' fun z => K (.t (fr || flat d') d' z) | none => False := by
    intro fr d y
    cases ty.code with
    | none => exact Sel1.no
    | some d' => exact Sel1.asC _ _ _ fun z => Sel1.pt _
  unfold evLoad
  cases x with
  | op r c p =>
    simp only
    generalize hk H r = b
    cases b with
    | val wr fr E c' x => exact Sel1.asC _ _ _ fun x => sel_getP _ _ _ fun d y => tl fr d y
    | av v => cases p <;> first | exact Sel1.no | exact Sel1.br _ (Sel1.pt _) Sel1.no
    | dead => exact Sel1.no
  | t fr c x => cases c <;> first | exact Sel1.no | exact tl _ _ _
  | _ => exact Sel1.no

theorem sel_toT (fz : Bool) (v : AV) (d : Cd) : Sel3 (toT fz H v d) := by
  unfold toT
  cases v with
  | t fr c x => exact Sel3.asC _ _ _ fun y => Sel3.pt _ _ _
  | ns => cases d <;> first | exact Sel3.no | exact Sel3.pt _ _ _
  | os r =>
    simp only
    generalize hk H r = b
    cases b with
    | val wr fr E c x => cases c <;> first | exact Sel3.no | exact Sel3.br _ (Sel3.asC _ _ _ fun y => Sel3.pt _ _ _) Sel3.no
    | _ => exact Sel3.no
  | ox r c lo hi =>
    simp only
    generalize hk H r = b
    cases b with
    | val wr fr E c x => cases c <;> first | exact Sel3.no | exact Sel3.br _ (Sel3.asC _ _ _ fun y => Sel3.pt _ _ _) Sel3.no
    | _ => exact Sel3.no
  | op r c p =>
    cases p with
    | cons _ _ => exact Sel3.no
    | nil =>
      simp only
      generalize hk H r = b
      cases b with
      | val wr fr E c x => exact Sel3.br _ (Sel3.asC _ _ _ fun y => Sel3.pt _ _ _) Sel3.no
      | _ => exact Sel3.no
  | _ => exact Sel3.no

theorem sel_lend (v : AV) (d : Cd) : Sel1 (lend H v d) := by
  have id1 : ∀ (c : Cd) (x : El c), Sel1 (asC c x d) := fun c x => Sel1.asC (F := fun z (K : El d → Prop) => K z) _ _ _ fun z => Sel1.pt z
  unfold lend
  cases v with
  | t fr c x => exact id1 _ _
  | ns => cases d <;> first | exact Sel1.no | exact Sel1.pt _
  | os r =>
    simp only
    generalize hk H r = b
    cases b with
    | val wr fr E c x => cases c <;> first | exact Sel1.no | exact id1 _ _
    | _ => exact Sel1.no
  | ox r c lo hi =>
    simp only
    generalize hk H r = b
    cases b with
    | val wr fr E c x => cases c <;> first | exact Sel1.no | exact Sel1.br _ (id1 _ _) Sel1.no
    | _ => exact Sel1.no
  | op r c p =>
    cases p with
    | cons s p =>
      simp only
      generalize hk H r = b
      cases b with
      | val wr fr E c' x => exact Sel1.asC (F := fun z (K : El d → Prop) => getP c z (s :: p) fun d' y => asC (.ptr d') y d K) _ _ _ fun z => sel_getP c z (s :: p) (F := fun d' y (K : El d → Prop) => asC (.ptr d') y d K) fun d' y => id1 (.ptr d') y
      | _ => exact Sel1.no
    | nil =>
      simp only
      generalize hk H r = b
      cases b with
      | val wr fr E c x => exact Sel1.asC _ _ _ fun y => id1 _ _
      | _ => exact Sel1.no
  | _ => exact Sel1.no

mutual
theorem sel_lendC : ∀ v : AV, Sel1 fun K => lendC H v K
  | .any => by simp only [lendC]; exact Sel1.no
  | .ns => by simp only [lendC]; exact Sel1.no
  | .ox _ _ _ _ => by simp only [lendC]; exact Sel1.no
  | .op _ _ (_ :: _) => by simp only [lendC]; exact Sel1.no
  | .tu _ => by simp only [lendC]; exact Sel1.no
  | .t fr c x => by simp only [lendC]; exact Sel1.br _ (Sel1.pt _) Sel1.no
  | .os r => by
    simp only [lendC]
    generalize hk H r = b
    cases b with
    | val wr fr E c x => cases c <;> first | exact Sel1.no | exact Sel1.br _ (Sel1.pt _) Sel1.no
    | _ => exact Sel1.no
  | .op r c [] => by
    simp only [lendC]
    generalize hk H r = b
    cases b with
    | val wr fr E c' x => exact Sel1.asC _ _ _ fun y => Sel1.br _ (Sel1.pt _) Sel1.no
    | av a => exact Sel1.br _ ((sel_lend a c).then1 fun y => Sel1.pt _) Sel1.no
    | dead => exact Sel1.no
  | .fn f vs => by simp only [lendC]; exact (sel_lendCs vs).then1 fun ws => Sel1.pt _
theorem sel_lendCs : ∀ vs : List AV, Sel1 fun K => lendCs H vs K
  | [] => by simp only [lendCs]; exact Sel1.pt _
  | v :: vs => by simp only [lendCs]; exact (sel_lendC v).then1 fun v' => (sel_lendCs vs).then1 fun ws => Sel1.pt _
end

theorem sel_lendA (v : AV) (ty : Ty) : Sel1 (lendA H v ty) := by
  have gen : ∀ v : AV, Sel1 fun (K : AV → Prop) => match ty.code with | some d => lend H v d fun y => K (.t (flat d) d y) | none => False := by
    intro v
    cases ty.code with
    | none => exact Sel1.no
    | some d => exact (sel_lend v d).then1 fun y => Sel1.pt _
  have g2 : ∀ v : AV, (∀ f vs, v ≠ .fn f vs) → (∀ fr x, v ≠ .t fr .np x) → Sel1 (lendA H v ty) := by
    intro v h1 h2
    have : (fun (K : AV → Prop) => lendA H v ty K) = fun (K : AV → Prop) => match ty.code with | some d => lend H v d fun y => K (.t (flat d) d y) | none => False := by
      funext K
      unfold lendA
      split
      · exact absurd rfl (h1 _ _)
      · exact absurd rfl (h2 _ _)
      · rename_i hc; rw [hc]
      · rename_i hc; rw [hc]
    have h3 := gen v
    rw [← this] at h3
    exact h3
  by_cases h1 : ∃ f vs, v = .fn f vs
  · obtain ⟨f, vs, rfl⟩ := h1
    unfold lendA; exact (sel_lendCs vs).then1 fun ws => Sel1.pt _
  · by_cases h2 : ∃ fr x, v = .t fr .np x
    · obtain ⟨fr, x, rfl⟩ := h2
      unfold lendA; exact Sel1.pt _
    · exact g2 v (fun f vs e => h1 ⟨f, vs, e⟩) (fun fr x e => h2 ⟨fr, x, e⟩)

theorem sel_lendAll (C : Cfg) : ∀ (vs : List AV) (ts : List TypeId), Sel1 fun K => lendAll C H vs ts K
  | [], ts => by simp only [lendAll]; exact Sel1.pt _
  | v :: vs, [] => by simp only [lendAll]; exact Sel1.no
  | v :: vs, t :: ts => by simp only [lendAll]; exact (sel_lendA v _).then1 fun x => (sel_lendAll C vs ts).then1 fun xs => Sel1.pt _

theorem sel_lendAllR (C : Cfg) : ∀ (vs : List AV) (ts : List TypeId), Sel1 fun K => lendAllR C H vs ts K
  | [], ts => by simp only [lendAllR]; exact Sel1.pt _
  | v :: vs, [] => by simp only [lendAllR]; exact Sel1.no
  | v :: vs, t :: ts => by
    simp only [lendAllR]
    split
    · exact (sel_lendAllR C vs ts).then1 fun xs => Sel1.pt _
    · exact (sel_lendA _ _).then1 fun x => (sel_lendAllR C vs ts).then1 fun xs => Sel1.pt _
theorem sel_lendM (C : Cfg) (b : Bool) (vs : List AV) (ts : List TypeId) : Sel1 (match b with | true => lendAllR C H vs ts | false => lendAll C H vs ts) := by
  cases b with
  | true => exact sel_lendAllR C vs ts
  | false => exact sel_lendAll C vs ts

theorem sel_evPure {C : Cfg} (hC : ∀ f e, C.fn f = some e → SelE e) (f : FuncId) (args : List AV) (ts : List TypeId) (caps : List AV) : Sel2 (evPure C H f args ts caps) := by
  unfold evPure
  cases h : C.fn f with
  | none => exact Sel2.no
  | some e => exact (sel_lendM C _ args ts).then2 fun xs => (sel_lendCs caps).then2 fun ys => (hC f e h _ _).then2 fun v bs => Sel2.br _ (Sel2.pt _ _) Sel2.no

theorem sel_iall (f : Int → Int → Int) (k : IntKind) : ∀ (vs : List AV) (a : Int), Sel1 fun K => iall f k a vs K
  | [], a => by simp only [iall]; exact Sel1.pt _
  | v :: vs, a => by
    cases v with
    | t fr c x => cases c <;> simp only [iall] <;> first | exact Sel1.no | exact Sel1.br _ (sel_iall f k vs _) Sel1.no
    | _ => simp only [iall]; exact Sel1.no

theorem sel_evMM (f : Int → Int → Int) (vs : List AV) : Sel1 (evMM f vs) := by
  unfold evMM
  cases vs with
  | nil => exact Sel1.no
  | cons v vs =>
    cases v with
    | t fr c x => cases c <;> first | exact Sel1.no | exact (sel_iall f _ vs _).then1 fun x => Sel1.pt _
    | _ => exact Sel1.no

theorem sel_elems0 (v : AV) (c : Cd) : Sel2 (elems0 H v c) := by
  unfold elems0
  cases v with
  | t fr c x => cases c <;> first | exact Sel2.no | exact Sel2.asC _ _ _ fun y => Sel2.pt _ _
  | ns => exact Sel2.pt _ _
  | os r =>
    simp only
    generalize hk H r = b
    cases b with
    | val wr fr E c x => cases c <;> first | exact Sel2.no | exact Sel2.asC _ _ _ fun y => Sel2.pt _ _
    | _ => exact Sel2.no
  | ox r c lo hi =>
    simp only
    generalize hk H r = b
    cases b with
    | val wr fr E c x => cases c <;> first | exact Sel2.no | exact Sel2.br _ (Sel2.asC _ _ _ fun y => Sel2.pt _ _) Sel2.no
    | _ => exact Sel2.no
  | _ => exact Sel2.no
theorem sel_elems (v : AV) (c : Cd) : Sel2 (elems H v c) := (sel_elems0 v c).then2 fun fr x => Sel2.pt _ _

theorem sel_evAppN (s x : AV) (ty ty' : Ty) : Sel2 (evAppN H s x ty ty') := by
  unfold evAppN
  split
  · exact Sel2.br _ (Sel2.pt _ _) Sel2.no
  · exact Sel2.no
theorem sel_evTrunc (x : AV) (ty : Ty) (lo hi : Option AV) : Sel2 (evTrunc H x ty lo hi) := by
  unfold evTrunc
  split
  · exact Sel2.br _ (Sel2.pt _ _) Sel2.no
  · split
    · exact Sel2.br _ (Sel2.pt _ _) Sel2.no
    · exact Sel2.no
  · exact Sel2.no
theorem sel_evAppend (s x : AV) (ty : Ty) : Sel2 (evAppend H s x ty) := by
  unfold evAppend
  cases ty with
  | sl e c b =>
    cases s with
    | ns => exact (sel_elems x c).then2 fun fr ys => Sel2.br _ (Sel2.pt _ _) Sel2.no
    | os r =>
      simp only
      generalize hk H r = b
      cases b with
      | val wr fr E c' x => cases wr <;> cases c' <;> first | exact Sel2.no | exact Sel2.br _ (Sel2.asC _ _ _ fun y => (sel_elems _ c).then2 fun fr ys => Sel2.br _ (Sel2.pt _ _) Sel2.no) Sel2.no
      | _ => exact Sel2.no
    | _ => exact Sel2.no
  | _ => exact Sel2.no

theorem sel_evCopy (d s : AV) (ty : Ty) : Sel2 (evCopy H d s ty) := by
  unfold evCopy
  cases ty with
  | sl e c b =>
    cases d with
    | os r =>
      simp only
      generalize hk H r = b
      cases b with
      | val wr fr E c' x => cases wr <;> cases c' <;> first | exact Sel2.no | exact Sel2.asC _ _ _ fun y => (sel_elems _ c).then2 fun fr ys => Sel2.pt _ _
      | _ => exact Sel2.no
    | ox r c lo hi =>
      simp only
      generalize hk H r = b
      cases b with
      | val wr fr E c' x => cases wr <;> cases c' <;> first | exact Sel2.no | exact Sel2.br _ (Sel2.asC _ _ _ fun y => (sel_elems _ _).then2 fun fr ys => Sel2.pt _ _) Sel2.no
      | _ => exact Sel2.no
    | _ => exact Sel2.no
  | _ => exact Sel2.no

theorem sel_fill (fz : Bool) (stp : Nat → Sg) (c : Cd) : ∀ (ps : List (Nat × AV)) (x : El c) (fr : Bool) (H : List Blk), Sel3 fun K => fill fz stp c x fr H ps K
  | [], x, fr, H => by simp only [fill]; exact Sel3.pt _ _ _
  | (i, v) :: ps, x, fr, H => by
    simp only [fill]
    cases pcode c [stp i] with
    | none => exact Sel3.no
    | some d => exact (sel_toT fz v d).then3 fun fr' y H' => (sel_setP c x _ d y).then3 fun z => sel_fill fz stp c ps z _ H'

theorem sel_gath (fz : Bool) (c : Cd) : ∀ (ps : List (Nat × AV)) (fr : Bool) (H : List Blk), Sel3 fun K => gath fz c fr H ps K
  | [], fr, H => by simp only [gath]; exact Sel3.pt _ _ _
  | (j, v) :: ps, fr, H => by
    simp only [gath]
    exact (sel_toT fz v c).then3 fun fr' y H' => (sel_gath fz c ps _ H').then3 fun ys fr2 H2 => Sel3.pt _ _ _
theorem sel_fillA (fz : Bool) (n : Nat) (c : Cd) (ps : List (Nat × AV)) : Sel3 (fillA fz n c H ps) := by
  unfold fillA
  cases (inOrd 0 ps && Nat.beq (lenP ps) n) with
  | true => exact sel_gath _ _ _ _ _
  | false => exact sel_fill fz .ix (.arr n c) ps (dflt (.arr n c)) true H
theorem sel_fillR (fz : Bool) (n : Nat) (c : Cd) (ps : List (Nat × AV)) : Sel3 (fillR fz n c H ps) := by
  unfold fillR
  cases (inOrd 0 ps && Nat.beq (lenP ps) n) with
  | true => exact sel_gath _ _ _ _ _
  | false => exact sel_fill fz .ix (.row c) ps (List.replicate n (dflt c)) true H

theorem sel_evAlloc (e : TypeId) (ty : Ty) : Sel2 (evAlloc H e ty) := by
  unfold evAlloc
  cases ty <;> first | exact Sel2.no | exact Sel2.pt _ _ | exact Sel2.br _ (Sel2.pt _ _) Sel2.no

theorem sel_evBox (e : TypeId) (v : AV) (ty : Ty) : Sel2 (evBox H e v ty) := by
  unfold evBox
  cases ty with
  | no => exact Sel2.no
  | sl e c b => cases v <;> first | exact Sel2.asC _ _ _ fun y => Sel2.pt _ _ | exact Sel2.br _ (Sel2.pt _ _) Sel2.no
  | pt e c =>
    cases v with
    | t fr c' x => cases c' <;> first | exact Sel2.asC _ _ _ fun y => Sel2.pt _ _ | exact Sel2.br _ (Sel2.pt _ _) Sel2.no
    | _ => exact Sel2.br _ (Sel2.pt _ _) Sel2.no
  | fn => exact Sel2.br _ (Sel2.pt _ _) Sel2.no
  | _ => cases v <;> first | exact Sel2.no | exact Sel2.asC _ _ _ fun y => Sel2.pt _ _

theorem sel_evMake (l c : AV) (ty : Ty) : Sel2 (evMake H l c ty) := by
  unfold evMake
  cases ty with
  | sl e d b =>
    cases l with
    | t fr cl l =>
      cases c with
      | t fr' cc c => cases cl <;> cases cc <;> first | exact Sel2.no | exact Sel2.br _ (Sel2.pt _ _) Sel2.no
      | _ => cases cl <;> exact Sel2.no
    | _ => exact Sel2.no
  | _ => exact Sel2.no

theorem sel_evStore (x v : AV) (ty : Ty) : Sel1 (evStore H x v ty) := by
  unfold evStore
  cases x with
  | op r c p =>
    simp only
    generalize hk H r = b
    cases b with
    | av _ => cases p <;> first | exact Sel1.no | exact Sel1.br _ (Sel1.pt _) Sel1.no
    | val wr fr E c' x =>
      simp only
      cases ty.code with
      | none => exact Sel1.no
      | some d =>
        rcases sel_toT (H := H) true v d with h | ⟨fr', y, H', h⟩
        · exact .inl fun K => h _
        · have h2 : Sel1 fun (K : List Blk → Prop) => (match hk H' r with
            | .val true fr E c' x => asC c' x c fun x => setP c x p d y fun z => K (hup H' r (.val true (fr && (fr' || flat d)) E c z))
            | _ => False) := by
            generalize hk H' r = b
            cases b with
            | val wr fr E c' x => cases wr <;> first | exact Sel1.no | exact Sel1.asC _ _ _ fun y => (sel_setP _ _ _ _ _).then1 fun z => Sel1.pt _
            | _ => exact Sel1.no
          rcases h2 with h2 | ⟨a, h2⟩
          · exact .inl fun K hk => h2 K ((h _).1 hk)
          · exact .inr ⟨a, fun K => (h _).trans (h2 K)⟩
    | dead => exact Sel1.no
  | _ => exact Sel1.no

theorem sel_rdN {α : Type} {f : List Value → (α → List Value → Prop) → Prop} (hf : ∀ vs, Sel2 (f vs)) : ∀ n vs, Sel2 fun K => rdN f n vs K
  | 0, vs => by simp only [rdN]; exact Sel2.pt _ _
  | n + 1, vs => by simp only [rdN]; exact (hf vs).then2 fun x r => (sel_rdN hf n r).then2 fun xs r' => Sel2.pt _ _

theorem sel_rd : ∀ (c : Cd) (vs : List Value), Sel2 fun K => rd c vs K
  | .bool, [] => by simp only [rd]; exact Sel2.no
  | .bool, v :: r => by cases v <;> simp only [rd] <;> first | exact Sel2.no | exact Sel2.pt _ _
  | .int k, [] => by simp only [rd]; exact Sel2.no
  | .int k, v :: r => by cases v <;> simp only [rd] <;> first | exact Sel2.no | exact Sel2.br _ (Sel2.pt _ _) Sel2.no
  | .str, [] => by simp only [rd]; exact Sel2.no
  | .str, v :: r => by cases v <;> simp only [rd] <;> first | exact Sel2.no | exact Sel2.pt _ _
  | .np, [] => by simp only [rd]; exact Sel2.no
  | .np, v :: r => by
    cases v with
    | pointer a => cases a <;> simp only [rd] <;> first | exact Sel2.no | exact Sel2.pt _ _
    | _ => simp only [rd]; exact Sel2.no
  | .sl c, [] => by simp only [rd]; exact Sel2.no
  | .sl c, v :: r => by
    cases v with
    | slice a n m => cases a <;> cases n <;> cases m <;> simp only [rd] <;> first | exact Sel2.no | exact Sel2.pt _ _
    | _ => simp only [rd]; exact Sel2.no
  | .ptr c, vs => by simp only [rd]; exact Sel2.no
  | .arr n c, vs => by simp only [rd]; exact sel_rdN (sel_rd c) n vs
  | .row c, vs => by simp only [rd]; exact Sel2.no
  | .nil, vs => by simp only [rd]; exact Sel2.pt _ _
  | .cons c d, vs => by simp only [rd]; exact (sel_rd c vs).then2 fun x r => (sel_rd d r).then2 fun y r' => Sel2.pt _ _

theorem sel_cap (v : AV) (y : Ty) : Sel2 fun (K : AV → List Blk → Prop) => (match v, y with | .ns, .sl _ _ _ => K (bI .i64 0) H | _, _ => False) := by
  cases v <;> cases y <;> first | exact Sel2.no | exact Sel2.pt _ _
theorem sel_evCall {C : Cfg} (hC : ∀ f e, C.fn f = some e → SelE e) (hd : Bool) (tmps : List AV) (c : Call) : Sel2 (evCall C hd H tmps c) := by
  unfold evCall
  obtain ⟨callee, args, ats⟩ := c
  cases callee with
  | builtin b =>
    simp only
    generalize args.toList = as
    generalize ats.toList = ts
    cases b
    case len => rcases as with _ | ⟨x, _ | ⟨y, as⟩⟩ <;> rcases ts with _ | ⟨t, _ | ⟨t', ts⟩⟩ <;> first | exact Sel2.no | exact (sel_evLen _ _).then2 fun v => Sel2.pt _ _
    case append => rcases as with _ | ⟨x, _ | ⟨y, _ | ⟨z, as⟩⟩⟩ <;> rcases ts with _ | ⟨t, _ | ⟨t', _ | ⟨t'', ts⟩⟩⟩ <;> first | exact Sel2.no | exact Sel2.br _ (Sel2.br _ (sel_evAppend _ _ _) (sel_evAppN _ _ _ _)) Sel2.no
    case cap => rcases as with _ | ⟨x, _ | ⟨y, as⟩⟩ <;> rcases ts with _ | ⟨t, _ | ⟨t', ts⟩⟩ <;> first | exact Sel2.no | exact sel_cap _ _
    case copy => rcases as with _ | ⟨x, _ | ⟨y, _ | ⟨z, as⟩⟩⟩ <;> rcases ts with _ | ⟨t, _ | ⟨t', _ | ⟨t'', ts⟩⟩⟩ <;> first | exact Sel2.no | exact Sel2.br _ (sel_evCopy _ _ _) Sel2.no
    case max => exact (sel_evMM _ _).then2 fun v => Sel2.pt _ _
    case min => exact (sel_evMM _ _).then2 fun v => Sel2.pt _ _
    all_goals exact Sel2.no
  | value f =>
    simp only
    generalize opv tmps f = v
    cases v with
    | fn g caps => exact sel_evPure hC _ _ _ _
    | _ => exact Sel2.no
  | invoke r m => exact Sel2.no

theorem sel_evOp {C : Cfg} (hC : ∀ f e, C.fn f = some e → SelE e) (hd : Bool) (tmps : List AV) (o : Oper) : Sel2 (evOp C hd tmps H o) := by
  have mv : ∀ x : Operand, Sel2 fun (K : AV → List Blk → Prop) => match x with
    | .const (.agg cs) => match (C.ty o.type).code with
      | some c => Br (agg c) (rd c cs.toList fun x r => match r with | [] => K (.t true c x) H | _ => False) False
      | none => False
    | x => K (opv tmps x) H := by
    intro x
    cases x with
    | const v =>
      cases v with
      | agg cs =>
        simp only
        cases (C.ty o.type).code with
        | none => exact Sel2.no
        | some c => exact Sel2.br _ ((sel_rd c _).then2 fun x r => by cases r <;> first | exact Sel2.no | exact Sel2.pt _ _) Sel2.no
      | _ => exact Sel2.pt _ _
    | _ => exact Sel2.pt _ _
  unfold evOp
  cases o.op with
  | move x => exact mv x
  | assign x => exact mv x
  | pick c a b =>
    simp only
    generalize opv tmps c = v
    cases v with
    | t fr c x => cases c <;> first | exact Sel2.no | exact Sel2.br _ (Sel2.pt _ _) (Sel2.pt _ _)
    | _ => exact Sel2.no
  | alloc e => exact sel_evAlloc _ _
  | box e v => exact Sel2.br _ (sel_evBox _ _ _) Sel2.no
  | build t ps =>
    simp only
    cases C.ty t with
    | st c => exact Sel2.br _ ((sel_fill _ _ _ _ _ _ _).then2 fun x fr H' => Sel2.pt _ _) Sel2.no
    | arr n e c => exact Sel2.br _ ((sel_fillA _ _ _ _).then2 fun x fr H' => Sel2.pt _ _) Sel2.no
    | _ => exact Sel2.no
  | buildSlice t n ps =>
    simp only
    cases C.ty t with
    | sl e c b => exact Sel2.br _ ((sel_fillR _ _ _ _).then2 fun x fr H' => Sel2.pt _ _) Sel2.no
    | _ => exact Sel2.no
  | load t a => exact (sel_evLoad _ _).then2 fun v => Sel2.pt _ _
  | store t a v => exact Sel2.br _ ((sel_evStore _ _ _).then2 fun v => Sel2.pt _ _) Sel2.no
  | nilCheck x =>
    simp only
    generalize opv tmps x = v
    cases v with
    | t fr c x => cases c <;> first | exact Sel2.no | exact Sel2.pt _ _
    | op r c p => exact Sel2.pt _ _
    | fn f vs => exact Sel2.pt _ _
    | _ => exact Sel2.no
  | binOp op t x y yt =>
    simp only
    cases C.eq t with
    | some c => exact (sel_evEq _ _ _ _).then2 fun v => Sel2.pt _ _
    | none => exact (sel_evBin _ _ _ _).then2 fun v => Sel2.pt _ _
  | unOp op t x => exact (sel_evUn _ _).then2 fun v => Sel2.pt _ _
  | convert s d x =>
    simp only
    cases C.ty s with
    | sc c1 =>
      cases C.ty d with
      | sc c2 =>
        generalize opv tmps x = v
        cases v with
        | t fr c x => cases c1 <;> cases c2 <;> cases c <;> first | exact Sel2.no | exact Sel2.pt _ _
        | _ => cases c1 <;> cases c2 <;> exact Sel2.no
      | _ => cases c1 <;> exact Sel2.no
    | _ => exact Sel2.no
  | makeFunc fn first caps =>
    simp only
    generalize first.toList = l
    cases fn <;> cases l <;> first | exact Sel2.no | exact Sel2.pt _ _
  | makeSlice t l c => exact sel_evMake _ _ _
  | slice t x lo hi mx =>
    cases mx with
    | some _ => exact Sel2.no
    | none =>
      simp only
      cases C.trunc && !hd with
      | true => exact sel_evTrunc _ _ _ _
      | false => exact (sel_evSlice _ _ _ _).then2 fun v => Sel2.pt _ _
  | fieldAddr t x f => exact (sel_evFieldAddr _ _ _).then2 fun v => Sel2.pt _ _
  | field t x f => exact (sel_evField _ _ _).then2 fun v => Sel2.pt _ _
  | indexAddr t x i => exact (sel_evIxAddr _ _ _).then2 fun v => Sel2.pt _ _
  | index t x i => exact (sel_evIndex _ _ _).then2 fun v => Sel2.pt _ _
  | extract x i =>
    simp only
    generalize opv tmps x = v
    cases v with
    | tu vs => exact Sel2.br _ (Sel2.pt _ _) Sel2.no
    | _ => exact Sel2.no
  | call c => exact sel_evCall hC _ _ _
  | _ => exact Sel2.no

theorem sel_settle1 (n : Nat) (v : AV) : Sel1 (settle1 n H v) := by
  unfold settle1
  cases v with
  | t fr c x => exact Sel1.pt _
  | os r =>
    refine Sel1.br _ (Sel1.pt _) ?_
    generalize hk H r = b
    cases b with
    | val wr fr E c x => cases c <;> first | exact Sel1.no | exact Sel1.pt _
    | _ => exact Sel1.no
  | _ => exact Sel1.br _ (Sel1.pt _) Sel1.no

theorem sel_settleL (n : Nat) : ∀ vs : List AV, Sel1 fun K => settleL n H vs K
  | [] => by simp only [settleL]; exact Sel1.pt _
  | v :: vs => by simp only [settleL]; exact (sel_settle1 n v).then1 fun x => (sel_settleL n vs).then1 fun xs => Sel1.pt _

theorem sel_settle (n : Nat) (v : AV) : Sel1 (settle n H v) := by
  unfold settle
  cases v with
  | tu vs => exact (sel_settleL n vs).then1 fun x => Sel1.pt _
  | _ => exact sel_settle1 n _

theorem sel_place (hot : Bool) (n : Nat) (M : List Blk) (v : AV) : Sel2 (place hot n H M v) := by
  unfold place
  cases (hot || !(liveBs (hdrop n H))) with
  | true => exact (sel_settle n v).then2 fun v' => Sel2.pt _ _
  | false => exact Sel2.pt _ _

end
end Go.Eng
