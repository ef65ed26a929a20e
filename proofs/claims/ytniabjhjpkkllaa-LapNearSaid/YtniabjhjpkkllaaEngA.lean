/- An abstract evaluator for the program's code: definitions. -/
import Derived.WalkKit
import Derived.StillTail
namespace Go.Eng
open Go

/-- Codes of pure values. 'row': the content of a slice's own block. 'nil', 'cons': the fields of a struct. -/
inductive Cd where
  | bool | int (k : IntKind) | str | np | sl (c : Cd) | ptr (c : Cd) | arr (n : Nat) (c : Cd) | row (c : Cd) | nil | cons (c d : Cd)
  deriving DecidableEq

@[reducible] def El : Cd → Type
  | .bool => Bool
  | .int _ => Int
  | .str => ByteArray
  | .np => Unit
  | .sl c => List (El c)
  | .ptr c => El c
  | .arr _ c => List (El c)
  | .row c => List (El c)
  | .nil => Unit
  | .cons c d => El c × El d

def csz : Cd → Nat
  | .arr n c => n * csz c
  | .row _ => 0
  | .nil => 0
  | .cons c d => csz c + csz d
  | _ => 1

def agg : Cd → Bool
  | .arr _ _ | .nil | .cons _ _ => true
  | _ => false

/-- No row inside. -/
def norow : Cd → Bool
  | .row _ => false
  | .sl c | .ptr c | .arr _ c => norow c
  | .cons c d => norow c && norow d
  | _ => true

def noptr : Cd → Bool
  | .ptr _ | .row _ => false
  | .arr _ c => noptr c
  | .cons c d => noptr c && noptr d
  | _ => true

def dflt : (c : Cd) → El c
  | .bool => false
  | .int _ => (0 : Int)
  | .str => ByteArray.empty
  | .np => ()
  | .sl _ => []
  | .ptr c => dflt c
  | .arr n c => List.replicate n (dflt c)
  | .row _ => []
  | .nil => ()
  | .cons c d => (dflt c, dflt d)

/-- Has no slice and no pointer inside: nothing of it lies in memory. -/
def flat : Cd → Bool
  | .sl _ | .ptr _ | .row _ => false
  | .arr _ c => flat c
  | .cons c d => flat c && flat d
  | _ => true

inductive Sg where
  | ix (i : Nat)
  | fd (j : Nat)
  deriving DecidableEq

/-- Abstract values: 'os' the whole of own row r; 'ox' a part of own block r; 'op' a pointer into own block r, whose code is c. -/
inductive AV where
  | any
  | t (fr : Bool) (c : Cd) (x : El c)
  | ns
  | os (r : Nat)
  | ox (r : Nat) (c : Cd) (lo hi : Nat)
  | op (r : Nat) (c : Cd) (p : List Sg)
  | fn (f : Nat) (caps : List AV)
  | tu (vs : List AV)

/-- Own blocks. E: the element type of the concrete block. -/
inductive Blk where
  | val (wr fr : Bool) (E : TypeId) (c : Cd) (x : El c)
  | av (a : AV)
  | dead

structure St where
  tmps : List AV
  H : List Blk

inductive Out where
  | nrm
  | exit (id : Nat)
  | ret
  deriving DecidableEq

def Br (b : Bool) (A B : Prop) : Prop := match b with | true => A | false => B

def lk : List AV → Nat → AV
  | [], _ => .any
  | v :: _, 0 => v
  | _ :: vs, n + 1 => lk vs n
def up : List AV → Nat → AV → List AV
  | [], _, _ => []
  | _ :: vs, 0, x => x :: vs
  | v :: vs, n + 1, x => v :: up vs n x
def hk : List Blk → Nat → Blk
  | [], _ => .dead
  | v :: _, 0 => v
  | _ :: vs, n + 1 => hk vs n
def hup : List Blk → Nat → Blk → List Blk
  | [], _, _ => []
  | _ :: vs, 0, x => x :: vs
  | v :: vs, n + 1, x => v :: hup vs n x
def hlen : List Blk → Nat
  | [] => 0
  | _ :: vs => hlen vs + 1
def happ : List Blk → List Blk → List Blk
  | [], k => k
  | v :: vs, k => v :: happ vs k

def St.put (σ : St) (dst : Option Tmp) (v : AV) : St :=
  match dst with
  | some d => { σ with tmps := up σ.tmps d v }
  | none => σ

/-- What a type id is, as far as the evaluator asks. -/
inductive Ty where
  | no
  | sc (c : Cd)
  | sl (e : TypeId) (c : Cd) (bytes : Nat)
  | arr (n : Nat) (e : TypeId) (c : Cd)
  | st (c : Cd)
  | pt (e : TypeId) (c : Cd)
  | fn

def Ty.code : Ty → Option Cd
  | .sc c => some c
  | .sl _ c _ => some (.sl c)
  | .arr n _ c => some (.arr n c)
  | .st c => some c
  | .pt _ c => some (.ptr c)
  | _ => none

/-- A cast between codes that are one. -/
def cast? (c d : Cd) (x : El c) : Option (El d) := if h : c = d then some (h ▸ x) else none

/-- CPS: the same as code d, or nothing. -/
def asC (c : Cd) (x : El c) (d : Cd) (K : El d → Prop) : Prop := if h : c = d then K (h ▸ x) else False

/-- The j-th field. -/
def fld : (c : Cd) → El c → Nat → ((d : Cd) → El d → Prop) → Prop
  | .cons c _, x, 0, K => K c x.1
  | .cons _ d, x, j + 1, K => fld d x.2 j K
  | _, _, _, _ => False

/-- Read along a path. -/
def getP : (c : Cd) → El c → List Sg → ((d : Cd) → El d → Prop) → Prop
  | c, x, [], K => K c x
  | .arr _ c, x, .ix i :: p, K => Br (decide (i < x.length)) (getP c (x.getD i (dflt c)) p K) False
  | .row c, x, .ix i :: p, K => Br (decide (i < x.length)) (getP c (x.getD i (dflt c)) p K) False
  | .cons c _, x, .fd 0 :: p, K => getP c x.1 p K
  | .cons _ d, x, .fd (j + 1) :: p, K => getP d x.2 (.fd j :: p) K
  | _, _, _, _ => False

/-- Write along a path a value of code d. -/
def setP : (c : Cd) → El c → List Sg → (d : Cd) → El d → (El c → Prop) → Prop
  | c, _, [], d, y, K => asC d y c K
  | .arr _ c, x, .ix i :: p, d, y, K => Br (decide (i < x.length)) (setP c (x.getD i (dflt c)) p d y fun z => K (x.set i z)) False
  | .row c, x, .ix i :: p, d, y, K => Br (decide (i < x.length)) (setP c (x.getD i (dflt c)) p d y fun z => K (x.set i z)) False
  | .cons c _, x, .fd 0 :: p, d, y, K => setP c x.1 p d y fun z => K (z, x.2)
  | .cons _ d', x, .fd (j + 1) :: p, d, y, K => setP d' x.2 (.fd j :: p) d y fun z => K (x.1, z)
  | _, _, _, _, _, _ => False

/-! ### Operations -/

abbrev Ent := List AV → Nat → (AV → List Blk → Prop) → Prop

/-- A round: from what is yielded, and the state of the rounds, whether it goes on, and the state. -/
abbrev Rnd (S : Type) := List AV → S → (Bool → S → Prop) → Prop
/-- What a function does that is ranged over. -/
abbrev ItE := List AV → (S : Type) → Rnd S → S → (S → Prop) → Prop

structure Cfg where
  ty : TypeId → Ty
  fn : FuncId → Option Ent
  /-- Functions that are ranged over. -/
  it : FuncId → Option ItE := fun _ => none
  /-- Functions that are told of a nil slice that they are given. -/
  raw : FuncId → Bool := fun _ => false
  /-- Own slices that are cut to nothing stay own. -/
  trunc : Bool := false
  /-- Arrays and structs that are compared. -/
  eq : TypeId → Option Cd := fun _ => none

/-- A constant. -/
def cst : Value → AV
  | .bool b => .t true .bool b
  | .int k n => .t true (.int k) n
  | .string s => .t true .str s
  | .slice none 0 0 => .ns
  | .pointer none => .t true .np ()
  | _ => .any

def opv (tmps : List AV) : Operand → AV
  | .tmp t => lk tmps t
  | .const v => cst v
  | .func f => .fn f []
  | .global _ => .any

def rdN {α : Type} (f : List Value → (α → List Value → Prop) → Prop) : Nat → List Value → (List α → List Value → Prop) → Prop
  | 0, vs, K => K [] vs
  | n + 1, vs, K => f vs fun x r => rdN f n r fun xs r' => K (x :: xs) r'

/-- Cells of a constant, read by a code. -/
def rd : (c : Cd) → List Value → (El c → List Value → Prop) → Prop
  | .bool, .bool b :: r, K => K b r
  | .int k, .int k' n :: r, K => Br (decide (k = k')) (K n r) False
  | .str, .string s :: r, K => K s r
  | .np, .pointer none :: r, K => K () r
  | .sl _, .slice none 0 0 :: r, K => K [] r
  | .arr n c, vs, K => rdN (rd c) n vs K
  | .nil, vs, K => K () vs
  | .cons c d, vs, K => rd c vs fun x r => rd d r fun y r' => K (x, y) r'
  | _, _, _ => False

/-- An abstract value as a pure one of code d, the own memory that it leads to not written any more ('fz': may that be said here?). -/
def toT (fz : Bool) (H : List Blk) (v : AV) (d : Cd) (K : Bool → El d → List Blk → Prop) : Prop :=
  match v with
  | .t fr c x => asC c x d fun y => K fr y H
  | .ns => match d with
    | .sl _ => K true [] H
    | _ => False
  | .os r => match hk H r with
    | .val _ fr E (.row c) x => Br fz (asC (.sl c) x d fun y => K fr y (hup H r (.val false fr E (.row c) x))) False
    | _ => False
  | .ox r c' lo hi => match hk H r with
    | .val _ fr E (.row c) x => Br (fz && decide (c = c') && decide (lo ≤ hi) && decide (hi ≤ x.length)) (asC (.sl c) ((x.drop lo).take (hi - lo)) d fun y => K fr y (hup H r (.val false fr E (.row c) x))) False
    | .val _ fr E (.arr n c) x => Br (fz && decide (c = c') && decide (lo ≤ hi) && decide (hi ≤ x.length)) (asC (.sl c) ((x.drop lo).take (hi - lo)) d fun y => K fr y (hup H r (.val false fr E (.arr n c) x))) False
    | _ => False
  | .op r c [] => match hk H r with
    | .val _ fr E c' x => Br (fz && decide (c' = c)) (asC (.ptr c') x d fun y => K fr y (hup H r (.val false fr E c' x))) False
    | _ => False
  | _ => False

/-- The same, only looked at: what is lent to a call. -/
def lend (H : List Blk) (v : AV) (d : Cd) (K : El d → Prop) : Prop :=
  match v with
  | .t _ c x => asC c x d K
  | .ns => match d with
    | .sl _ => K []
    | _ => False
  | .os r => match hk H r with
    | .val _ _ _ (.row c) x => asC (.sl c) x d K
    | _ => False
  | .ox r c' lo hi => match hk H r with
    | .val _ _ _ (.row c) x => Br (decide (c = c') && decide (lo ≤ hi) && decide (hi ≤ x.length)) (asC (.sl c) ((x.drop lo).take (hi - lo)) d K) False
    | .val _ _ _ (.arr _ c) x => Br (decide (c = c') && decide (lo ≤ hi) && decide (hi ≤ x.length)) (asC (.sl c) ((x.drop lo).take (hi - lo)) d K) False
    | _ => False
  | .op r c [] => match hk H r with
    | .val _ _ _ c' x => asC c' x c fun y => asC (.ptr c) y d K
    | _ => False
  | .op r c (s :: p) => match hk H r with
    | .val _ _ _ c' x => asC c' x c fun x => getP c x (s :: p) fun d' y => asC (.ptr d') y d K
    | _ => False
  | _ => False

def isOwn : AV → Bool
  | .os _ | .ox _ _ _ _ | .op _ _ _ => true
  | _ => false

mutual
/-- What a closure has taken along, lent. -/
def lendC (H : List Blk) : AV → (AV → Prop) → Prop
  | .t _ c x, K => Br (norow c) (K (.t (flat c) c x)) False
  | .os r, K => match hk H r with
    | .val _ _ _ (.row c) x => Br (norow c) (K (.t false (.sl c) x)) False
    | _ => False
  | .op r c [], K => match hk H r with
    | .val _ _ _ c' x => asC c' x c fun y => Br (norow c) (K (.t false (.ptr c) y)) False
    | .av a => Br (norow c && !agg c) (lend H a c fun y => K (.t false (.ptr c) y)) False
    | .dead => False
  | .fn f vs, K => lendCs H vs fun ws => K (.fn f ws)
  | _, _ => False
def lendCs (H : List Blk) : List AV → (List AV → Prop) → Prop
  | [], K => K []
  | v :: vs, K => lendC H v fun v' => lendCs H vs fun ws => K (v' :: ws)
end

mutual
/-- Does it lead to own memory? -/
def owns : AV → Bool
  | .os _ | .ox _ _ _ _ | .op _ _ _ => true
  | .fn _ vs | .tu vs => ownsL vs
  | _ => false
def ownsL : List AV → Bool
  | [] => false
  | v :: vs => owns v || ownsL vs
end

def lendA (H : List Blk) (v : AV) (ty : Ty) (K : AV → Prop) : Prop :=
  match v, ty.code with
  | .fn f vs, _ => lendCs H vs fun ws => K (.fn f ws)
  | .t _ .np _, _ => K (.t true .np ())
  | v, some d => lend H v d fun y => K (.t (flat d) d y)
  | _, none => False

def lendAll (C : Cfg) (H : List Blk) : List AV → List TypeId → (List AV → Prop) → Prop
  | [], _, K => K []
  | v :: vs, t :: ts, K => lendA H v (C.ty t) fun x => lendAll C H vs ts fun xs => K (x :: xs)
  | _ :: _, [], _ => False

/-- The same, nil slices told as such. -/
def lendAllR (C : Cfg) (H : List Blk) : List AV → List TypeId → (List AV → Prop) → Prop
  | [], _, K => K []
  | v :: vs, t :: ts, K => match v with
    | .ns => lendAllR C H vs ts fun xs => K (.ns :: xs)
    | v => lendA H v (C.ty t) fun x => lendAllR C H vs ts fun xs => K (x :: xs)
  | _ :: _, [], _ => False

mutual
/-- Does a result hold nothing that was lent? -/
def fresh : AV → Bool
  | .t fr c _ => fr || flat c
  | .tu vs => freshL vs
  | .any => false
  | .fn _ vs => freshL vs
  | _ => true
def freshL : List AV → Bool
  | [] => true
  | v :: vs => fresh v && freshL vs
end

def freshBs : List Blk → Bool
  | [] => true
  | .val _ fr _ (.row c) _ :: bs => (fr || flat c) && freshBs bs
  | .val _ fr _ c _ :: bs => (fr || flat c) && freshBs bs
  | _ :: _ => false

def app (a b : List AV) : List AV := match a with | [] => b | x :: r => x :: app r b

def iadd (k : IntKind) (a b : Int) : Int := k.wrap (a + b)
def isub (k : IntKind) (a b : Int) : Int := k.wrap (a - b)
def imul (k : IntKind) (a b : Int) : Int := k.wrap (a * b)
def iquo (k : IntKind) (a b : Int) : Int := k.wrap (a.tdiv b)
def irem (_ : IntKind) (a b : Int) : Int := a.tmod b
def ishl (k : IntKind) (a b : Int) : Int := k.wrap (a * 2 ^ (min b.toNat k.bits))
def ishr (k : IntKind) (a b : Int) : Int := a.fdiv (2 ^ (min b.toNat k.bits))
def iand (k : IntKind) (a b : Int) : Int := k.wrap (BitVec.ofInt k.bits a &&& BitVec.ofInt k.bits b).toNat
def ior (k : IntKind) (a b : Int) : Int := k.wrap (BitVec.ofInt k.bits a ||| BitVec.ofInt k.bits b).toNat
def ixor (k : IntKind) (a b : Int) : Int := k.wrap (BitVec.ofInt k.bits a ^^^ BitVec.ofInt k.bits b).toNat
def iandn (k : IntKind) (a b : Int) : Int := k.wrap (BitVec.ofInt k.bits a &&& ~~~BitVec.ofInt k.bits b).toNat
def imax (a b : Int) : Int := if b > a then b else a
def imin (a b : Int) : Int := if b < a then b else a

def bI (k : IntKind) (n : Int) : AV := .t true (.int k) n
def bB (b : Bool) : AV := .t true .bool b

def evBin (op : BinOp) (ty : Ty) (x y : AV) (K : AV → Prop) : Prop :=
  match x, y with
  | .t _ (.int k) a, .t _ (.int k') b =>
    match op with
    | .shl => Br (decide ((b : Int) < 0)) False (K (bI k (ishl k a b)))
    | .shr => Br (decide ((b : Int) < 0)) False (K (bI k (ishr k a b)))
    | .add => Br (decide (k = k')) (K (bI k (iadd k a b))) False
    | .sub => Br (decide (k = k')) (K (bI k (isub k a b))) False
    | .mul => Br (decide (k = k')) (K (bI k (imul k a b))) False
    | .quo => Br (decide (k = k')) (Br (decide ((b : Int) = 0)) False (K (bI k (iquo k a b)))) False
    | .rem => Br (decide (k = k')) (Br (decide ((b : Int) = 0)) False (K (bI k (irem k a b)))) False
    | .and => Br (decide (k = k')) (K (bI k (iand k a b))) False
    | .or => Br (decide (k = k')) (K (bI k (ior k a b))) False
    | .xor => Br (decide (k = k')) (K (bI k (ixor k a b))) False
    | .andNot => Br (decide (k = k')) (K (bI k (iandn k a b))) False
    | .eql => Br (decide (k = k')) (K (bB (decide ((a : Int) = b)))) False
    | .neq => Br (decide (k = k')) (K (bB (!decide ((a : Int) = b)))) False
    | .lss => Br (decide (k = k')) (K (bB (decide ((a : Int) < b)))) False
    | .leq => Br (decide (k = k')) (K (bB (decide ((a : Int) ≤ b)))) False
    | .gtr => Br (decide (k = k')) (K (bB (decide ((b : Int) < a)))) False
    | .geq => Br (decide (k = k')) (K (bB (decide ((b : Int) ≤ a)))) False
  | .t _ .bool a, .t _ .bool b =>
    match ty, op with
    | .sc .bool, .eql => K (bB (a == b))
    | .sc .bool, .neq => K (bB (!(a == b)))
    | _, _ => False
  | .t _ .np _, .t _ .np _ =>
    match ty, op with
    | .pt _ _, .eql => K (bB true)
    | .pt _ _, .neq => K (bB false)
    | _, _ => False
  | .t _ (.ptr _) _, .t _ .np _ =>
    match ty, op with
    | .pt _ _, .eql => K (bB false)
    | .pt _ _, .neq => K (bB true)
    | _, _ => False
  | .op _ _ _, .t _ .np _ =>
    match ty, op with
    | .pt _ _, .eql => K (bB false)
    | .pt _ _, .neq => K (bB true)
    | _, _ => False
  | .t _ (.sl _) a, .ns =>
    match ty, op with
    | .sl _ _ _, .eql => Br (decide (0 < List.length a)) (K (bB false)) False
    | .sl _ _ _, .neq => Br (decide (0 < List.length a)) (K (bB true)) False
    | _, _ => False
  | _, _ => False

/-- Are two values alike? -/
def eqv : (c : Cd) → El c → El c → Bool
  | .bool, a, b => a == b
  | .int _, a, b => decide ((a : Int) = b)
  | .arr n c, a, b => (List.range' 0 n).all fun i => eqv c (List.getD a i (dflt c)) (List.getD b i (dflt c))
  | .cons c d, a, b => eqv c a.1 b.1 && eqv d a.2 b.2
  | .nil, _, _ => true
  | _, _, _ => false

/-- Arrays and structs, compared. -/
def evEq (c : Cd) (op : BinOp) (x y : AV) (K : AV → Prop) : Prop :=
  match x, y with
  | .t _ c1 a, .t _ c2 b => asC c1 a c fun a => asC c2 b c fun b => match op with
    | .eql => K (bB (eqv c a b))
    | .neq => K (bB (!(eqv c a b)))
    | _ => False
  | _, _ => False

def evUn (op : UnOp) (x : AV) (K : AV → Prop) : Prop :=
  match op, x with
  | .neg, .t _ (.int k) a => K (bI k (isub k 0 a))
  | .xor, .t _ (.int k) a => K (bI k (ixor k (if k.signed then -1 else k.max) a))
  | .not, .t _ .bool b => K (bB (!b))
  | _, _ => False

/-- Places of a list from lo on, laid anew. -/
def splice {α : Type} (xs : List α) (lo : Nat) (ys : List α) : List α := xs.take lo ++ ys ++ xs.drop (lo + ys.length)

/-- The elements of a slice, to be read. -/
def elems0 (H : List Blk) (v : AV) (c : Cd) (K : Bool → List (El c) → Prop) : Prop :=
  match v with
  | .t fr (.sl c') x => asC (.sl c') x (.sl c) fun y => K fr y
  | .ns => K true []
  | .os r => match hk H r with
    | .val _ fr _ (.row c') x => asC (.sl c') x (.sl c) fun y => K fr y
    | _ => False
  | .ox r c'' lo hi => match hk H r with
    | .val _ fr _ (.row c') x => Br (decide (c' = c'') && decide (lo ≤ hi) && decide (hi ≤ x.length)) (asC (.sl c') ((x.drop lo).take (hi - lo)) (.sl c) fun y => K fr y) False
    | .val _ fr _ (.arr _ c') x => Br (decide (c' = c'') && decide (lo ≤ hi) && decide (hi ≤ x.length)) (asC (.sl c') ((x.drop lo).take (hi - lo)) (.sl c) fun y => K fr y) False
    | _ => False
  | _ => False

def elems (H : List Blk) (v : AV) (c : Cd) (K : Bool → List (El c) → Prop) : Prop := elems0 H v c fun fr x => K (fr || flat c) x

def evLen (H : List Blk) (v : AV) (ty : Ty) (K : AV → Prop) : Prop :=
  match ty, v with
  | .sl _ _ _, .t _ (.sl _) x => K (bI .i64 (x.length : Int))
  | .sl _ _ _, .ns => K (bI .i64 0)
  | .sl _ _ _, .os r => match hk H r with
    | .val _ _ _ (.row _) x => K (bI .i64 (x.length : Int))
    | _ => False
  | .sl _ _ _, .ox _ _ lo hi => K (bI .i64 ((hi - lo : Nat) : Int))
  | .sc .str, .t _ .str s => K (bI .i64 (s.size : Int))
  | .arr n _ _, _ => K (bI .i64 (n : Int))
  | _, _ => False

def evAppend (H : List Blk) (s x : AV) (ty : Ty) (K : AV → List Blk → Prop) : Prop :=
  match ty with
  | .sl e c by_ =>
    match s with
    | .ns => elems H x c fun fr ys => Br (decide (ys.length * by_ ≤ 140737488355328)) (K (.os (hlen H)) (happ H [.val true fr e (.row c) ys])) False
    | .os r => match hk H r with
      | .val true fr E (.row c') xs => Br (decide (E = e)) (asC (.row c') xs (.row c) fun xs => elems H x c fun fr' ys =>
          Br (decide ((xs.length + ys.length) * by_ ≤ 140737488355328)) (K (.os (hlen H)) (happ (hup H r .dead) [.val true (fr && fr') e (.row c) (xs ++ ys)])) False) False
      | _ => False
    | _ => False
  | _ => False

/-- As many zero values as x says, appended to nothing. -/
def evAppN (H : List Blk) (s x : AV) (ty ty' : Ty) (K : AV → List Blk → Prop) : Prop :=
  match ty, ty', s, x with
  | .sl e d by_, .sc (.int _), .ns, .t _ (.int _) n => Br (decide ((0 : Int) < n) && decide ((n : Int) * by_ ≤ 140737488355328)) (K (.os (hlen H)) (happ H [.val true true e (.row d) (List.replicate (n : Int).toNat (dflt d))])) False
  | _, _, _, _ => False

/-- A slice cut to nothing. -/
def evTrunc (H : List Blk) (x : AV) (ty : Ty) (lo hi : Option AV) (K : AV → List Blk → Prop) : Prop :=
  match x, lo, hi, ty with
  | .ns, none, some (.t _ (.int _) h), .sl _ _ _ => Br (decide ((h : Int) = 0)) (K .ns H) False
  | .os r, none, some (.t _ (.int _) h), .sl _ d _ => match hk H r with
    | .val true fr E (.row c) _ => Br (decide ((h : Int) = 0) && decide (c = d)) (K (.os (hlen H)) (happ (hup H r .dead) [.val true fr E (.row c) []])) False
    | _ => False
  | _, _, _, _ => False

def evCopy (H : List Blk) (d s : AV) (ty : Ty) (K : AV → List Blk → Prop) : Prop :=
  match ty with
  | .sl _ c _ =>
    match d with
    | .os r => match hk H r with
      | .val true fr E (.row c') xs => asC (.row c') xs (.row c) fun xs => elems H s c fun fr' ys =>
          K (bI .i64 ((min ys.length xs.length : Nat) : Int)) (hup H r (.val true (fr && fr') E (.row c) (splice xs 0 (ys.take xs.length))))
      | _ => False
    | .ox r c'' lo hi => match hk H r with
      | .val true fr E (.row c') xs => Br (decide (c' = c'') && decide (lo ≤ hi) && decide (hi ≤ xs.length)) (asC (.row c') xs (.row c) fun xs => elems H s c fun fr' ys =>
          K (bI .i64 ((min ys.length (hi - lo) : Nat) : Int)) (hup H r (.val true (fr && fr') E (.row c) (splice xs lo (ys.take (hi - lo)))))) False
      | _ => False
    | _ => False
  | _ => False

def iall (f : Int → Int → Int) (k : IntKind) (a : Int) : List AV → (Int → Prop) → Prop
  | [], K => K a
  | .t _ (.int k') b :: vs, K => Br (decide (k = k')) (iall f k (f a b) vs K) False
  | _, _ => False

def evMM (f : Int → Int → Int) (vs : List AV) (K : AV → Prop) : Prop :=
  match vs with
  | .t _ (.int k) a :: r => iall f k a r fun x => K (bI k x)
  | _ => False

/-- A bound of a slice expression: from 0 to n. -/
def bnd (v : Option AV) (n dfl : Nat) (K : Nat → Prop) : Prop :=
  match v with
  | none => K dfl
  | some (.t _ (.int _) i) => Br (decide (0 ≤ (i : Int)) && decide ((i : Int) ≤ (n : Int))) (K (i : Int).toNat) False
  | _ => False

def evSlice (H : List Blk) (x : AV) (ty : Ty) (lo hi : Option AV) (K : AV → Prop) : Prop :=
  match ty, x with
  | .sl _ c _, .t fr (.sl c') x => asC (.sl c') x (.sl c) fun x =>
      bnd hi x.length x.length fun h => bnd lo h 0 fun l => K (.t fr (.sl c) ((x.drop l).take (h - l)))
  | .sl _ c _, .os r => match hk H r with
    | .val _ _ _ (.row c') x =>
      match lo, hi with
      | none, none => K (.os r)
      | _, _ => Br (decide (c' = c)) (bnd hi x.length x.length fun h => bnd lo h 0 fun l => K (.ox r c l h)) False
    | _ => False
  | .sl _ c _, .ox r c' a b => Br (decide (c' = c)) (bnd hi (b - a) (b - a) fun h => bnd lo h 0 fun l => K (.ox r c (a + l) (a + h))) False
  | .arr n _ c, .op r c' [] => Br (decide (c' = .arr n c)) (bnd hi n n fun h => bnd lo h 0 fun l => K (.ox r c l h)) False
  | _, _ => False

def pcode : Cd → List Sg → Option Cd
  | c, [] => some c
  | .arr _ c, .ix _ :: p => pcode c p
  | .row c, .ix _ :: p => pcode c p
  | .cons c _, .fd 0 :: p => pcode c p
  | .cons _ d, .fd (j + 1) :: p => pcode d (.fd j :: p)
  | _, _ => none

def offs : Cd → List Sg → Nat
  | _, [] => 0
  | .arr _ c, .ix i :: p => i * csz c + offs c p
  | .row c, .ix i :: p => i * csz c + offs c p
  | .cons c _, .fd 0 :: p => offs c p
  | .cons c d, .fd (j + 1) :: p => csz c + offs d (.fd j :: p)
  | _, _ => 0

def inB (i : AV) (n : Nat) (K : Nat → Prop) : Prop :=
  match i with
  | .t _ (.int _) i => Br (decide (0 ≤ (i : Int)) && decide ((i : Int) < (n : Int))) (K (i : Int).toNat) False
  | _ => False

def optEq (x : Option Cd) (c : Cd) : Bool := match x with | some d => decide (d = c) | none => false

def evIxAddr (H : List Blk) (x i : AV) (ty : Ty) (K : AV → Prop) : Prop :=
  match ty, x with
  | .sl _ c _, .t fr (.sl c') x => asC (.sl c') x (.sl c) fun x => inB i x.length fun j => K (.t fr (.ptr c) (x.getD j (dflt c)))
  | .sl _ c _, .os r => match hk H r with
    | .val _ _ _ (.row c') x => Br (decide (c' = c)) (inB i x.length fun j => K (.op r (.row c) [.ix j])) False
    | _ => False
  | .sl _ c _, .ox r c'' lo hi => match hk H r with
    | .val _ _ _ (.row c') _ => Br (decide (c' = c) && decide (c'' = c)) (inB i (hi - lo) fun j => K (.op r (.row c) [.ix (lo + j)])) False
    | .val _ _ _ (.arr n c') _ => Br (decide (c' = c) && decide (c'' = c)) (inB i (hi - lo) fun j => K (.op r (.arr n c) [.ix (lo + j)])) False
    | _ => False
  | .arr n _ c, .t fr (.ptr c') x => asC c' x (.arr n c) fun x => inB i n fun j => K (.t fr (.ptr c) ((x : List (El c)).getD j (dflt c)))
  | .arr n _ c, .op r c' p => Br (optEq (pcode c' p) (.arr n c)) (inB i n fun j => K (.op r c' (p ++ [.ix j]))) False
  | _, _ => False

def evFieldAddr (x : AV) (ty : Ty) (f : Nat) (K : AV → Prop) : Prop :=
  match ty, x with
  | .st c, .t fr (.ptr c') x => asC c' x c fun x => fld c x f fun d y => K (.t fr (.ptr d) y)
  | .st c, .op r c' p => Br (optEq (pcode c' p) c && (pcode c [.fd f]).isSome) (K (.op r c' (p ++ [.fd f]))) False
  | _, _ => False

def evField (x : AV) (ty : Ty) (f : Nat) (K : AV → Prop) : Prop :=
  match ty, x with
  | .st c, .t fr c' x => asC c' x c fun x => fld c x f fun d y => K (.t fr d y)
  | _, _ => False

/-- A letter of a string. -/
def byteAt (s : ByteArray) (i : Nat) : Int := ((s.data.getD i 0).toNat : Int)

def evIndex (x i : AV) (ty : Ty) (K : AV → Prop) : Prop :=
  match ty, x with
  | .sc .str, .t _ .str s => inB i (ByteArray.size s) fun j => K (bI .u8 (byteAt s j))
  | .arr n _ c, .t fr c' x => asC c' x (.arr n c) fun x => inB i n fun j => K (.t fr c ((x : List (El c)).getD j (dflt c)))
  | _, _ => False

/-- Is v a value of one cell? -/
def one (H : List Blk) : AV → Bool
  | .t _ c _ => !agg c && (match c with | .row _ => false | _ => true)
  | .os r => match hk H r with
    | .val _ _ _ (.row _) _ => true
    | _ => false
  | .ns | .ox _ _ _ _ | .op _ _ _ | .fn _ _ => true
  | _ => false

def evLoad (H : List Blk) (x : AV) (ty : Ty) (K : AV → Prop) : Prop :=
  match x with
  | .op r c p => match hk H r with
    | .val _ fr _ c' x => asC c' x c fun x => getP c x p fun d y => match ty.code with
      | some d' => asC d y d' fun z => K (.t (fr || flat d') d' z)
      | none => False
    | .av v => match p with
      | [] => Br (match ty with | .st _ | .arr _ _ _ | .no => false | _ => true) (K v) False
      | _ => False
    | .dead => False
  | .t fr (.ptr c) x => match ty.code with
    | some d' => asC c x d' fun z => K (.t (fr || flat d') d' z)
    | none => False
  | _ => False

def evStore (H : List Blk) (x v : AV) (ty : Ty) (K : List Blk → Prop) : Prop :=
  match x with
  | .op r c p => match hk H r with
    | .av _ => match p with
      | [] => Br (one H v && (match ty with | .st _ | .arr _ _ _ | .no => false | _ => true)) (K (hup H r (.av v))) False
      | _ => False
    | .val _ _ _ _ _ => match ty.code with
      | some d => toT true H v d fun fr' y H' => match hk H' r with
        | .val true fr E c' x => asC c' x c fun x => setP c x p d y fun z => K (hup H' r (.val true (fr && (fr' || flat d)) E c z))
        | _ => False
      | none => False
    | .dead => False
  | _ => False

/-- The parts of a literal, one by one: 'w' is the step to a part. -/
def fill (fz : Bool) (w : Nat → Sg) (c : Cd) : El c → Bool → List Blk → List (Nat × AV) → (El c → Bool → List Blk → Prop) → Prop
  | x, fr, H, [], K => K x fr H
  | x, fr, H, (i, v) :: ps, K => match pcode c [w i] with
    | some d => toT fz H v d fun fr' y H' => setP c x [w i] d y fun z => fill fz w c z (fr && (fr' || flat d)) H' ps K
    | none => False

/-- A literal all of whose parts are there, in order. -/
def gath (fz : Bool) (c : Cd) : Bool → List Blk → List (Nat × AV) → (List (El c) → Bool → List Blk → Prop) → Prop
  | fr, H, [], K => K [] fr H
  | fr, H, (_, v) :: ps, K => toT fz H v c fun fr' y H' => gath fz c (fr && (fr' || flat c)) H' ps fun ys fr2 H2 => K (y :: ys) fr2 H2
def inOrd : Nat → List (Nat × AV) → Bool
  | _, [] => true
  | i, (j, _) :: ps => Nat.beq i j && inOrd (i + 1) ps
def lenP : List (Nat × AV) → Nat
  | [] => 0
  | _ :: ps => lenP ps + 1
def fillA (fz : Bool) (n : Nat) (c : Cd) (H : List Blk) (ps : List (Nat × AV)) (K : List (El c) → Bool → List Blk → Prop) : Prop :=
  match inOrd 0 ps && Nat.beq (lenP ps) n with
  | true => gath fz c true H ps K
  | false => fill fz .ix (.arr n c) (dflt (.arr n c)) true H ps K
def fillR (fz : Bool) (n : Nat) (c : Cd) (H : List Blk) (ps : List (Nat × AV)) (K : List (El c) → Bool → List Blk → Prop) : Prop :=
  match inOrd 0 ps && Nat.beq (lenP ps) n with
  | true => gath fz c true H ps K
  | false => fill fz .ix (.row c) (List.replicate n (dflt c)) true H ps K

def evAlloc (H : List Blk) (e : TypeId) (ty : Ty) (K : AV → List Blk → Prop) : Prop :=
  match ty with
  | .sl _ c _ => K (.op (hlen H) (.sl c) []) (happ H [.av .ns])
  | .sc c => K (.op (hlen H) c []) (happ H [.val true true e c (dflt c)])
  | .arr n _ c => Br (noptr c) (K (.op (hlen H) (.arr n c) []) (happ H [.val true true e (.arr n c) (dflt (.arr n c))])) False
  | .st c => Br (noptr c) (K (.op (hlen H) c []) (happ H [.val true true e c (dflt c)])) False
  | _ => False

def evBox (H : List Blk) (e : TypeId) (v : AV) (ty : Ty) (K : AV → List Blk → Prop) : Prop :=
  match ty with
  | .sl _ c _ => match v with
    | .t fr c' x => asC c' x (.sl c) fun x => K (.op (hlen H) (.sl c) []) (happ H [.val true (fr || flat (.sl c)) e (.sl c) x])
    | v => Br (one H v) (K (.op (hlen H) (.sl c) []) (happ H [.av v])) False
  | .fn => Br (one H v) (K (.op (hlen H) .np []) (happ H [.av v])) False
  | .pt _ c => match v with
    | .t fr (.ptr c') x => asC (.ptr c') x (.ptr c) fun x => K (.op (hlen H) (.ptr c) []) (happ H [.val true (fr || flat (.ptr c)) e (.ptr c) x])
    | v => Br (one H v) (K (.op (hlen H) (.ptr c) []) (happ H [.av v])) False
  | ty => match ty.code, v with
    | some c, .t fr c' x => asC c' x c fun x => K (.op (hlen H) c []) (happ H [.val true (fr || flat c) e c x])
    | _, _ => False

def evMake (H : List Blk) (l c : AV) (ty : Ty) (K : AV → List Blk → Prop) : Prop :=
  match ty, l, c with
  | .sl e d by_, .t _ (.int _) l, .t _ (.int _) c =>
    Br (decide (0 ≤ (l : Int)) && decide ((l : Int) ≤ c) && decide ((c : Int) * by_ ≤ 140737488355328))
      (K (.os (hlen H)) (happ H [.val true true e (.row d) (List.replicate (l : Int).toNat (dflt d))])) False
  | _, _, _ => False

def opvs (tmps : List AV) : List Operand → List AV
  | [] => []
  | x :: xs => opv tmps x :: opvs tmps xs

/-- A call of a function that only reads what it is given. -/
def evPure (C : Cfg) (H : List Blk) (f : FuncId) (args : List AV) (ts : List TypeId) (caps : List AV) (K : AV → List Blk → Prop) : Prop :=
  match C.fn f with
  | some ent => (match C.raw f with | true => lendAllR C H args ts | false => lendAll C H args ts) fun xs => lendCs H caps fun ys => ent (app xs ys) (hlen H) fun v bs => Br (!(ownsL args || ownsL caps) || (fresh v && freshBs bs)) (K v (happ H bs)) False
  | none => False

def evCall (C : Cfg) (hd : Bool) (H : List Blk) (tmps : List AV) (c : Call) (K : AV → List Blk → Prop) : Prop :=
  match c.callee with
  | .builtin b =>
    match b, c.args.toList, c.argTypes.toList with
    | .len, [x], [t] => evLen H (opv tmps x) (C.ty t) fun v => K v H
    | .cap, [x], [t] => match opv tmps x, C.ty t with
      | .ns, .sl _ _ _ => K (bI .i64 0) H
      | _, _ => False
    | .append, [s, x], [t, t'] => Br (!hd) (Br (Nat.beq t t') (evAppend H (opv tmps s) (opv tmps x) (C.ty t) K) (evAppN H (opv tmps s) (opv tmps x) (C.ty t) (C.ty t') K)) False
    | .copy, [s, x], [t, _] => Br (!hd) (evCopy H (opv tmps s) (opv tmps x) (C.ty t) K) False
    | .max, xs, _ => evMM imax (opvs tmps xs) fun v => K v H
    | .min, xs, _ => evMM imin (opvs tmps xs) fun v => K v H
    | _, _, _ => False
  | .value f => match opv tmps f with
    | .fn f caps => evPure C H f (opvs tmps c.args.toList) c.argTypes.toList caps K
    | _ => False
  | _ => False

def ops2 (tmps : List AV) : List (Nat × Operand) → List (Nat × AV)
  | [] => []
  | (i, x) :: ps => (i, opv tmps x) :: ops2 tmps ps

/-- One operation: its value, and the own memory behind it. 'hd': among operations whose order is open. -/
def evOp (C : Cfg) (hd : Bool) (tmps : List AV) (H : List Blk) (o : Oper) (K : AV → List Blk → Prop) : Prop :=
  match o.op with
  | .move x | .assign x => match x with
    | .const (.agg cs) => match (C.ty o.type).code with
      | some c => Br (agg c) (rd c cs.toList fun x r => match r with | [] => K (.t true c x) H | _ => False) False
      | none => False
    | x => K (opv tmps x) H
  | .pick c a b => match opv tmps c with
    | .t _ .bool x => Br x (K (opv tmps a) H) (K (opv tmps b) H)
    | _ => False
  | .alloc e => evAlloc H e (C.ty e) K
  | .box e x => Br (!hd) (evBox H e (opv tmps x) (C.ty e) K) False
  | .build t ps => match C.ty t with
    | .st c => Br (noptr c) (fill (!hd) .fd c (dflt c) true H (ops2 tmps ps.toList) fun x fr H' => K (.t (fr || flat c) c x) H') False
    | .arr n _ c => Br (noptr c) (fillA (!hd) n c H (ops2 tmps ps.toList) fun x fr H' => K (.t (fr || flat c) (.arr n c) x) H') False
    | _ => False
  | .buildSlice t n ps => match C.ty t with
    | .sl e c _ => Br (Nat.ble (n * csz c) 16777216) (fillR (!hd) n c H (ops2 tmps ps.toList) fun x fr H' =>
          K (.os (hlen H')) (happ H' [.val true fr e (.row c) x])) False
    | _ => False
  | .load t a => evLoad H (opv tmps a) (C.ty t) fun v => K v H
  | .store t a v => Br (!hd) (evStore H (opv tmps a) (opv tmps v) (C.ty t) fun H' => K .any H') False
  | .nilCheck x => match opv tmps x with
    | .op r c p => K (.op r c p) H
    | .t fr (.ptr c) x => K (.t fr (.ptr c) x) H
    | .fn f vs => K (.fn f vs) H
    | _ => False
  | .binOp op t x y _ => match C.eq t with
    | some c => evEq c op (opv tmps x) (opv tmps y) fun v => K v H
    | none => evBin op (C.ty t) (opv tmps x) (opv tmps y) fun v => K v H
  | .unOp op _ x => evUn op (opv tmps x) fun v => K v H
  | .convert s d x => match C.ty s, C.ty d, opv tmps x with
    | .sc (.int _), .sc (.int k), .t _ (.int _) n => K (bI k (k.wrap n)) H
    | _, _, _ => False
  | .makeFunc fn first caps => match fn, first.toList with
    | .func f, [] => K (.fn f (opvs tmps caps.toList)) H
    | _, _ => False
  | .makeSlice t l c => evMake H (opv tmps l) (opv tmps c) (C.ty t) K
  | .slice t x lo hi mx => match mx with
    | none => match C.trunc && !hd with
      | true => evTrunc H (opv tmps x) (C.ty t) (lo.map (opv tmps)) (hi.map (opv tmps)) K
      | false => evSlice H (opv tmps x) (C.ty t) (lo.map (opv tmps)) (hi.map (opv tmps)) fun v => K v H
    | some _ => False
  | .fieldAddr t x f => evFieldAddr (opv tmps x) (C.ty t) f fun v => K v H
  | .field t x f => evField (opv tmps x) (C.ty t) f fun v => K v H
  | .indexAddr t x i => evIxAddr H (opv tmps x) (opv tmps i) (C.ty t) fun v => K v H
  | .index t x i => evIndex (opv tmps x) (opv tmps i) (C.ty t) fun v => K v H
  | .extract x i => match opv tmps x with
    | .tu vs => Br (Nat.blt i vs.length) (K (lk vs i) H) False
    | _ => False
  | .call c => evCall C hd H tmps c K
  | _ => False

/-! ### Regions -/

def onth : List Oper → Nat → Option Oper
  | [], _ => none
  | o :: _, 0 => some o
  | _ :: r, n + 1 => onth r n

/-- Is the operation wanted here? In each case the slot that says so is known. -/
def want (ops : List Oper) (tmps : List AV) (o : Oper) (A B : List AV → Prop) : Prop :=
  match o.guard with
  | none => A tmps
  | some (j, b) => match onth ops j with
    | some oj => match oj.dst with
      | some d => match lk tmps d with
        | .t _ .bool x => match b with
          | true => Br x (A (up tmps d (bB true))) (B (up tmps d (bB false)))
          | false => Br x (B (up tmps d (bB true))) (A (up tmps d (bB false)))
        | .tu [] => B tmps
        | _ => False
      | none => False
    | none => False

/-- What an operation that was not wanted leaves. -/
def skp : AV := .tu []

def putT (tmps : List AV) (dst : Option Tmp) (v : AV) : List AV :=
  match dst with
  | some d => up tmps d v
  | none => tmps

def evOps (C : Cfg) (ops : List Oper) : List Oper → List AV → List Blk → (List AV → List Blk → Prop) → Prop
  | [], tmps, H, K => K tmps H
  | o :: r, tmps, H, K => want ops tmps o
      (fun tmps => evOp C false tmps H o fun v H' => evOps C ops r (putT tmps o.dst v) H' K)
      (fun tmps => evOps C ops r (putT tmps o.dst skp) H K)

mutual
/-- Does it lead to blocks below n alone? -/
def refsLt (n : Nat) : AV → Bool
  | .os r | .ox r _ _ _ | .op r _ _ => Nat.blt r n
  | .fn _ vs => refsLtL n vs
  | .tu vs => refsLtL n vs
  | _ => true
def refsLtL (n : Nat) : List AV → Bool
  | [] => true
  | v :: vs => refsLt n v && refsLtL n vs
end

/-- A value that leads to blocks from n on, as a pure one. -/
def settle1 (n : Nat) (H : List Blk) (v : AV) (K : AV → Prop) : Prop :=
  match v with
  | .t fr c x => K (.t fr c x)
  | .os r => Br (Nat.blt r n) (K (.os r)) (match hk H r with
    | .val _ fr _ (.row c) x => K (.t fr (.sl c) x)
    | _ => False)
  | v => Br (refsLt n v) (K v) False
def settleL (n : Nat) (H : List Blk) : List AV → (List AV → Prop) → Prop
  | [], K => K []
  | v :: vs, K => settle1 n H v fun v' => settleL n H vs fun ws => K (v' :: ws)
def settle (n : Nat) (H : List Blk) (v : AV) (K : AV → Prop) : Prop :=
  match v with
  | .tu vs => settleL n H vs fun ws => K (.tu ws)
  | v => settle1 n H v K

/-! What is made among operations whose order is open is laid behind the elder blocks, in the order of the text. -/

/-- The slot that an operation hands on, or of which it hands a part on. -/
def carry : Op → Option (Tmp × Option Nat)
  | .move (.tmp t) => some (t, none)
  | .assign (.tmp t) => some (t, none)
  | .extract (.tmp t) i => some (t, some i)
  | _ => none
def memT (t : Tmp) : List Operand → Bool
  | [] => false
  | .tmp s :: r => Nat.beq s t || memT t r
  | _ :: r => memT t r
/-- Does one of these operations do more with a slot's value than hand it on? -/
def usedBy (t : Tmp) : List Oper → Bool
  | [] => false
  | o :: r => (match carry o.op with
    | some (s, _) => Nat.beq s t && (match o.dst with
      | some d => usedBy d r
      | none => false)
    | none => memT t o.op.operands.toList) || usedBy t r
def hotB (dst : Option Tmp) (r : List Oper) : Bool := match dst with
  | some d => usedBy d r
  | none => true
def sh (n k r : Nat) : Nat := match Nat.blt r n with
  | true => r
  | false => r + k
mutual
def amap (f : Nat → Nat) : AV → AV
  | .os r => .os (f r)
  | .ox r c lo hi => .ox (f r) c lo hi
  | .op r c p => .op (f r) c p
  | .fn g vs => .fn g (amapL f vs)
  | .tu vs => .tu (amapL f vs)
  | .any => .any
  | .t fr c x => .t fr c x
  | .ns => .ns
def amapL (f : Nat → Nat) : List AV → List AV
  | [] => []
  | v :: vs => amap f v :: amapL f vs
end
def hdrop : Nat → List Blk → List Blk
  | 0, l => l
  | _ + 1, [] => []
  | n + 1, _ :: l => hdrop n l
def liveBs : List Blk → Bool
  | [] => true
  | .val wr _ _ _ _ :: l => wr && liveBs l
  | _ :: _ => false
def place (hot : Bool) (n : Nat) (H' M : List Blk) (v : AV) (K : AV → List Blk → Prop) : Prop :=
  match hot || !(liveBs (hdrop n H')) with
  | true => settle n H' v fun v' => K v' M
  | false => K (amap (sh n (hlen M)) v) (happ M (hdrop n H'))

/-- Operations whose order is open: none of them writes. M: what they have made. -/
def evHead (C : Cfg) (ops : List Oper) : List Oper → List AV → List Blk → List Blk → (List AV → List Blk → Prop) → Prop
  | [], tmps, _, M, K => K tmps M
  | o :: r, tmps, H, M, K => want ops tmps o
      (fun tmps => match carry o.op with
        | some (t, none) => evHead C ops r (putT tmps o.dst (lk tmps t)) H M K
        | some (t, some i) => match lk tmps t with
          | .tu vs => Br (Nat.blt i vs.length) (evHead C ops r (putT tmps o.dst (lk vs i)) H M K) False
          | _ => False
        | none => Br (refsLtL (hlen H) (opvs tmps o.op.operands.toList)) (evOp C true tmps H o fun v H' =>
            place (hotB o.dst r) (hlen H) H' M v fun v' M' => evHead C ops r (putT tmps o.dst v') H M' K) False)
      (fun tmps => evHead C ops r (putT tmps o.dst skp) H M K)

/-- May stand among operations whose order is open. -/
def quietOp : Op → Bool
  | .store _ _ _ | .alloc _ | .box _ _ => false
  | .call c => match c.callee with
    | .builtin .append | .builtin .copy => false
    | _ => true
  | _ => true

def dropL : Nat → List Oper → List Oper
  | 0, l => l
  | _ + 1, [] => []
  | n + 1, _ :: l => dropL n l
def takeL : Nat → List Oper → List Oper
  | 0, _ => []
  | _ + 1, [] => []
  | n + 1, x :: l => x :: takeL n l
/-- Memory that the head itself does not use. -/
def quietA (o : Oper) (r : List Oper) : Bool := match o.op with
  | .alloc _ => !(hotB o.dst r)
  | _ => false
def headLen : List Oper → Nat
  | [] => 0
  | o :: r => if quietOp o.op || quietA o (takeL (headLen r) r) then headLen r + 1 else 0


/-- An operation that only looks. -/
def mixPure : Op → Bool
  | .fieldAddr _ _ _ | .load _ _ => true
  | .move (.tmp _) | .assign (.tmp _) => true
  | .call c => match c.callee with
    | .builtin .len => true
    | _ => false
  | _ => false
/-- It writes to what lies from n0 on, alone. -/
def mixKeep (n0 : Nat) (T : List AV) (op : Op) : Bool := match op with
  | .alloc _ => true
  | .store _ a v => (match opv T a with
    | .op r _ [] => Nat.ble n0 r
    | _ => false) && !(owns (opv T v))
  | _ => false
/-- Operations whose order is open, some of which write: in the order of the text. -/
def evMix (C : Cfg) (n0 : Nat) : List Oper → List AV → List Blk → (List AV → List Blk → Prop) → Prop
  | [], T, H, K => K T H
  | o :: r, T, H, K => match mixPure o.op with
    | true => Br (refsLtL n0 (opvs T o.op.operands.toList)) (evOp C false T H o fun v H' => evMix C n0 r (putT T o.dst v) H' K) False
    | false => Br (mixKeep n0 T o.op) (evOp C false T H o fun v H' => evMix C n0 r (putT T o.dst v) H' K) False

def evRegion (C : Cfg) (ops : List Oper) (draw : Bool) (σ : St) (K : St → Prop) : Prop :=
  match draw with
  | false => evOps C ops ops σ.tmps σ.H fun t H => K ⟨t, H⟩
  | true => evHead C ops (takeL (headLen ops) ops) σ.tmps σ.H [] fun t M => evOps C ops (dropL (headLen ops) ops) t (happ σ.H M) fun t' H' => K ⟨t', H'⟩

/-! ### Layouts -/

inductive Kd where
  | tm (fr : Bool) (c : Cd)
  | fx (v : AV)
  | cl (f : Nat) (l : List (Bool × Cd))

inductive BK where
  | val (wr fr : Bool) (E : TypeId) (c : Cd)
  | av (v : AV)
  | dead

structure Lay where
  n : Nat
  slots : List (Nat × Kd)
  blks : List BK

/-- What a closure has taken along. -/
def CV : List (Bool × Cd) → Type
  | [] => Unit
  | (_, c) :: r => El c × CV r
def clV : (l : List (Bool × Cd)) → CV l → List AV
  | [], _ => []
  | (fr, c) :: r, x => .t fr c x.1 :: clV r x.2
def SV : List (Nat × Kd) → Type
  | [] => Unit
  | (_, .tm _ c) :: r => El c × SV r
  | (_, .fx _) :: r => SV r
  | (_, .cl _ l) :: r => CV l × SV r
def BV : List BK → Type
  | [] => Unit
  | .val _ _ _ c :: r => El c × BV r
  | _ :: r => BV r
abbrev Vals (l : Lay) : Type := SV l.slots × BV l.blks

def anys : Nat → List AV
  | 0 => []
  | n + 1 => .any :: anys n

def stS : (l : List (Nat × Kd)) → SV l → List AV → List AV
  | [], _, t => t
  | (s, .tm fr c) :: r, x, t => up (stS r x.2 t) s (.t fr c x.1)
  | (s, .fx v) :: r, x, t => up (stS r x t) s v
  | (s, .cl f l) :: r, x, t => up (stS r x.2 t) s (.fn f (clV l x.1))
def stB : (l : List BK) → BV l → List Blk
  | [], _ => []
  | .val wr fr E c :: r, x => .val wr fr E c x.1 :: stB r x.2
  | .av v :: r, x => .av v :: stB r x
  | .dead :: r, x => .dead :: stB r x
def st (l : Lay) (v : Vals l) : St := ⟨stS l.slots v.1 (anys l.n), stB l.blks v.2⟩

/-- A renaming of blocks: target, and where it comes from ('none': an empty row that is nowhere yet). -/
abbrev Ren := List (Nat × Option Nat)

def rlook : Ren → Nat → Option (Option Nat)
  | [], _ => none
  | (t, s) :: m, r => if Nat.beq t r then some s else rlook m r

def eqO : Option Nat → Option Nat → Bool
  | none, none => true
  | some a, some b => Nat.beq a b
  | _, _ => false

def radd (m : Ren) (t : Nat) (s : Option Nat) : Option Ren :=
  match rlook m t with
  | none => some ((t, s) :: m)
  | some s' => if eqO s s' then some m else none

mutual
/-- An actual value against one without data. -/
def mtch (a p : AV) (m : Ren) : Option Ren :=
  match a, p with
  | _, .any => some m
  | .ns, .ns => some m
  | .ns, .os t => radd m t none
  | .os r, .os t => radd m t (some r)
  | .op r c [], .op t c' [] => if c = c' then radd m t (some r) else none
  | .fn f vs, .fn g ws => if Nat.beq f g then mtchL vs ws m else none
  | _, _ => none
def mtchL (a p : List AV) (m : Ren) : Option Ren :=
  match a, p with
  | [], [] => some m
  | a :: as, p :: ps => match mtch a p m with
    | some m' => mtchL as ps m'
    | none => none
  | _, _ => none
end

def mtS (tmps : List AV) : List (Nat × Kd) → Ren → Option Ren
  | [], m => some m
  | (s, .fx v) :: r, m => match mtch (lk tmps s) v m with
    | some m' => mtS tmps r m'
    | none => none
  | _ :: r, m => mtS tmps r m

/-- Where target r comes from. -/
def src (m : Ren) (r : Nat) : Option Nat := match rlook m r with | some s => s | none => some r

def mtB (H : List Blk) : List BK → Nat → Ren → Option Ren
  | [], _, m => some m
  | .av v :: l, r, m => match src m r with
    | some s => match radd m r (some s) with
      | some m => match hk H s with
        | .av a => match mtch a v m with
          | some m' => mtB H l (r + 1) m'
          | none => none
        | _ => none
      | none => none
    | none => none
  | _ :: l, r, m => mtB H l (r + 1) m

/-- The sources of the live targets, from r on. -/
def srcs (m : Ren) : List BK → Nat → List Nat
  | [], _ => []
  | .dead :: l, r => srcs m l (r + 1)
  | _ :: l, r => match src m r with
    | some s => s :: srcs m l (r + 1)
    | none => srcs m l (r + 1)

def nmem (n : Nat) : List Nat → Bool
  | [] => false
  | x :: l => Nat.beq n x || nmem n l
def nodup : List Nat → Bool
  | [] => true
  | x :: l => !nmem x l && nodup l

def leb : Bool → Bool → Bool
  | true, false => false
  | _, _ => true

def deC : List AV → (l : List (Bool × Cd)) → (CV l → Prop) → Prop
  | [], [], J => J ()
  | a :: as, (fr, c) :: r, J => match a with
    | .t fr' c' x => Br (leb fr (fr' || flat c)) (asC c' x c fun y => deC as r fun z => J (y, z)) False
    | _ => False
  | [], _ :: _, _ => False
  | _ :: _, [], _ => False

def deS (tmps : List AV) (H : List Blk) : (l : List (Nat × Kd)) → (SV l → Prop) → Prop
  | [], J => J ()
  | (s, .tm fr c) :: r, J => match lk tmps s with
    | .t fr' c' x => Br (leb fr (fr' || flat c)) (asC c' x c fun y => deS tmps H r fun z => J (y, z)) False
    | .ns => match c with
      | .sl _ => deS tmps H r fun z => J ([], z)
      | _ => False
    | _ => False
  | (_, .fx _) :: r, J => deS tmps H r fun z => J z
  | (s, .cl f l) :: r, J => match lk tmps s with
    | .fn g vs => Br (Nat.beq f g) (deC vs l fun y => deS tmps H r fun z => J (y, z)) False
    | _ => False

def deB (m : Ren) (H : List Blk) : (l : List BK) → Nat → (BV l → Prop) → Prop
  | [], _, J => J ()
  | .val wr fr E c :: l, r, J => match src m r with
    | some s => match hk H s with
      | .val wr' fr' E' c' x => Br (leb wr wr' && leb fr fr' && Nat.beq E E') (asC c' x c fun y => deB m H l (r + 1) fun z => J (y, z)) False
      | _ => False
    | none => match c with
      | .row d => Br (norow d && Nat.blt 0 (csz d)) (deB m H l (r + 1) fun z => J ([], z)) False
      | _ => False
  | .av _ :: l, r, J => deB m H l (r + 1) fun z => J z
  | .dead :: l, r, J => deB m H l (r + 1) fun z => J z

def kdOK (n : Nat) : List (Nat × Kd) → Bool
  | [] => true
  | (_, .tm _ _) :: r => kdOK n r
  | (_, .fx v) :: r => refsLt n v && kdOK n r
  | (_, .cl _ _) :: r => kdOK n r
def bkOK (n : Nat) : List BK → Bool
  | [] => true
  | .av v :: r => refsLt n v && bkOK n r
  | _ :: r => bkOK n r
def Lay.ok (l : Lay) : Bool := kdOK l.blks.length l.slots && bkOK l.blks.length l.blks

/-- A state, as one of a layout: what stands in no slot of it is forgotten. -/
def dec (l : Lay) (σ : St) (J : Vals l → Prop) : Prop :=
  Br (l.ok && Nat.ble l.n σ.tmps.length) (match mtS σ.tmps l.slots [] with
  | some m => match mtB σ.H l.blks 0 m with
    | some m' => Br (nodup (srcs m' l.blks 0)) (deS σ.tmps σ.H l.slots fun x => deB m' σ.H l.blks 0 fun y => J (x, y)) False
    | none => False
  | none => False) False

/-- Behind a test the slot that was tested is known. -/
def learn (tmps : List AV) (c : Operand) (b : Bool) : List AV :=
  match c with
  | .tmp t => up tmps t (bB b)
  | _ => tmps

/-! ### Code -/

abbrev KK := Out → St → Prop

def outK (outs : Out → Option Lay) (o : Out) (σ : St) (K : KK) : Prop :=
  match outs o with
  | some l => dec l σ fun v => K o (st l v)
  | none => False

/-- A loop, or a place where ways meet: what it is, from a state of a layout on. -/
structure Cut where
  lay : Lay
  outs : Out → Option Lay
  F : Vals lay → KK → Prop

/-- The states of a range over a function: it goes on, or a round has left it. -/
inductive Rs (α β : Type) where
  | go (v : α)
  | jp (j : β)
def Rs.on {α β : Type} (s : Rs α β) (f : α → Prop) : Prop := match s with
  | .go v => f v
  | .jp _ => False
def Rs.fin {α β : Type} (s : Rs α β) (f : α → Prop) (g : β → Prop) : Prop := match s with
  | .go v => f v
  | .jp j => g j
def jon {α β : Type} (f : α → Prop) (g : β → Prop) (s : Sum α β) : Prop := match s with
  | .inl a => f a
  | .inr b => g b
/-- The ways out of a round. -/
def JV : List (Out × Lay) → Type
  | [] => Empty
  | (_, l) :: r => Sum (Vals l) (JV r)
def jK : (l : List (Out × Lay)) → KK → JV l → Prop
  | [], _, _ => False
  | (o, l) :: r, K, j => jon (fun v => K o (st l v)) (fun j => jK r K j) j
def outB : Out → Out → Bool
  | .ret, .ret => true
  | .exit i, .exit j => Nat.beq i j
  | _, _ => false
def decJ (o : Out) (σ : St) : (l : List (Out × Lay)) → (JV l → Prop) → Prop
  | [], _ => False
  | (o', l) :: r, J => Br (outB o o') (dec l σ fun v => J (.inl v)) (decJ o σ r fun j => J (.inr j))

/-- A range over a function. -/
structure RCut where
  f : Nat
  caps : List (Bool × Cd)
  es : List (Bool × Cd)
  lay : Lay
  outs : List (Out × Lay)
  F : CV caps → Vals lay → KK → Prop

/-- What a closure has taken along, not written any more. -/
def pureC (H : List Blk) : List AV → (List AV → List Blk → Prop) → Prop
  | [], K => K [] H
  | v :: vs, K => match v with
    | .t fr c x => pureC H vs fun ws H' => K (.t fr c x :: ws) H'
    | .op r c [] => toT true H (.op r c []) (.ptr c) fun fr y H1 => pureC H1 vs fun ws H' => K (.t fr (.ptr c) y :: ws) H'
    | _ => False

def upL : List AV → List Nat → List AV → List AV
  | t, p :: ps, v :: vs => upL (up t p v) ps vs
  | t, _, _ => t

structure Cuts where
  loop : Nat → List Cut
  join : Nat → List Cut
  rng : Nat → Option RCut := fun _ => none
  /-- Regions that are not gone through. -/
  bad : Nat → Bool := fun _ => false
  /-- Regions of open order some of whose operations write. -/
  mix : Nat → Bool := fun _ => false
  /-- The result is handed back as a pure one. -/
  stl : Option Cd := none

def fitC : List AV → List (Bool × Cd) → Bool
  | [], [] => true
  | a :: as, (fr, c) :: r => (match a with
    | .t fr' c' _ => leb fr (fr' || flat c') && decide (c' = c)
    | _ => false) && fitC as r
  | _, _ => false

/-- Does a state fit a layout, as far as its data don't matter? -/
def fitS (tmps : List AV) : List (Nat × Kd) → Bool
  | [] => true
  | (s, .tm fr c) :: r => (match lk tmps s with
    | .t fr' c' _ => leb fr (fr' || flat c') && decide (c' = c)
    | .ns => (match c with
      | .sl _ => true
      | _ => false)
    | _ => false) && fitS tmps r
  | (_, .fx _) :: r => fitS tmps r
  | (s, .cl f l) :: r => (match lk tmps s with
    | .fn g vs => Nat.beq f g && fitC vs l
    | _ => false) && fitS tmps r
def fitB (m : Ren) (H : List Blk) : List BK → Nat → Bool
  | [], _ => true
  | .val wr fr E c :: l, r => (match src m r with
    | some s => (match hk H s with
      | .val wr' fr' E' c' _ => leb wr wr' && leb fr fr' && Nat.beq E E' && decide (c' = c)
      | _ => false)
    | none => (match c with
      | .row _ => true
      | _ => false)) && fitB m H l (r + 1)
  | .av _ :: l, r => fitB m H l (r + 1)
  | .dead :: l, r => fitB m H l (r + 1)
def fits (l : Lay) (σ : St) : Bool :=
  match mtS σ.tmps l.slots [] with
  | some m => match mtB σ.H l.blks 0 m with
    | some m' => fitS σ.tmps l.slots && fitB m' σ.H l.blks 0
    | none => false
  | none => false

/-- The first that fits; the last one is taken unasked. -/
def pick : List Cut → St → Option Cut
  | [], _ => none
  | [c], _ => some c
  | c :: d :: l, σ => match fits c.lay σ with
    | true => some c
    | false => pick (d :: l) σ

def first : Code → Option Nat
  | .region id _ _ => some id
  | .seq a b => match first a with
    | some i => some i
    | none => first b
  | .cond _ a b => match first a with
    | some i => some i
    | none => first b
  | .block _ b => first b
  | .loop b => first b
  | .scope b => first b
  | _ => none

def evCode (C : Cfg) (L : Cuts) : Code → St → KK → Prop
  | .skip, σ, K => K .nrm σ
  | .label _, σ, K => K .nrm σ
  | .region id ops d, σ, K => match L.bad id with
    | true => False
    | false => match L.mix id with
      | true => evMix C (hlen σ.H) ops.toList σ.tmps σ.H fun t H => K .nrm ⟨t, H⟩
      | false => evRegion C ops.toList d σ fun σ' => K .nrm σ'
  | .seq a b, σ, K => evCode C L a σ fun o σ' => match o with
    | .nrm => match (first b).bind fun i => pick (L.join i) σ' with
      | some c => dec c.lay σ' fun v => c.F v K
      | none => evCode C L b σ' K
    | o => K o σ'
  | .cond c a b, σ, K => match opv σ.tmps c with
    | .t _ .bool x => Br x (evCode C L a ⟨learn σ.tmps c true, σ.H⟩ K) (evCode C L b ⟨learn σ.tmps c false, σ.H⟩ K)
    | _ => False
  | .block id b, σ, K => evCode C L b σ fun o σ' => match o with
    | .exit j => Br (Nat.beq j id) (K .nrm σ') (K (.exit j) σ')
    | o => K o σ'
  | .loop b, σ, K => match (first b).bind fun i => pick (L.loop i) σ with
    | some c => dec c.lay σ fun v => c.F v K
    | none => False
  | .exit id, σ, K => K (.exit id) σ
  | .ret, σ, K => K .ret σ
  | .scope b, σ, K => evCode C L b σ K
  | .rangeFunc g ps asg body, σ, K => match opv σ.tmps g with
    | .fn f cs => match (first (.seq asg body)).bind L.rng with
      | some c => Br (Nat.beq f c.f && Nat.beq ps.size c.es.length) (pureC σ.H cs fun cs' H' => deC cs' c.caps fun cv => dec c.lay ⟨σ.tmps, H'⟩ fun v => c.F cv v K) False
      | none => False
    | _ => False
  | _, _, _ => False

/-! ### Ranges over functions -/

def rEnd (c : RCut) (Kb : Bool → Rs (Vals c.lay) (JV c.outs) → Prop) : KK := fun o σ => match o with
  | .nrm => dec c.lay σ fun v => Kb true (.go v)
  | o => decJ o σ c.outs fun j => Kb false (.jp j)
/-- A round, by the code of its assignment and its body. -/
def rndE (C : Cfg) (L : Cuts) (c : RCut) (ps : List Nat) (asg body : Code) : Rnd (Rs (Vals c.lay) (JV c.outs)) := fun us s Kb => s.on fun v => deC us c.es fun x =>
  evCode C L asg ⟨upL (st c.lay v).tmps ps (clV c.es x), (st c.lay v).H⟩ fun o σ => match o with
    | .nrm => evCode C L body σ (rEnd c Kb)
    | _ => False
def finR (c : RCut) (K : KK) : Rs (Vals c.lay) (JV c.outs) → Prop := fun s => s.fin (fun v => K .nrm (st c.lay v)) (jK c.outs K)
def rngSem (C : Cfg) (L : Cuts) (c : RCut) (ps : List Nat) (asg body : Code) (cv : CV c.caps) (v : Vals c.lay) (K : KK) : Prop := match C.it c.f with
  | some it => it (clV c.caps cv) (Rs (Vals c.lay) (JV c.outs)) (rndE C L c ps asg body) (.go v) (finR c K)
  | none => False

/-! ### Functions that are ranged over -/

abbrev KI (S : Type) := Out → St → S → Prop
structure ICut where
  lay : Lay
  outs : Out → Option Lay
  F : Vals lay → (S : Type) → Rnd S → S → KI S → Prop
abbrev ICuts := Nat → Option ICut

def allT : List AV → Bool
  | [] => true
  | .t _ _ _ :: r => allT r
  | _ :: _ => false
/-- The call of yield, which lies in slot y. -/
def isYield (y : Nat) (o : Oper) : Option (List Operand) := match o.op with
  | .call c => match c.callee with
    | .value (.tmp z) => match Nat.beq y z with
      | true => match o.guard with
        | none => some c.args.toList
        | some _ => none
      | false => none
    | _ => none
  | _ => none
def findY (y : Nat) : List Oper → Option (List Oper × (Oper × List Operand) × List Oper)
  | [] => none
  | o :: r => match isYield y o with
    | some xs => some ([], (o, xs), r)
    | none => match findY y r with
      | some (p, c, q) => some (o :: p, c, q)
      | none => none
def noDstL (i : Nat) : List Oper → Bool
  | [] => true
  | o :: l => (match o.dst with
    | some d => !(Nat.beq d i)
    | none => true) && noDstL i l
/-- Yield, moved to slot y. -/
def mvY (o : Oper) : Option Nat := match o.op with
  | .move (.tmp t) => match Nat.beq t 0 with
    | true => match o.guard with
      | none => o.dst
      | some _ => none
    | false => none
  | _ => none
def splitY : List Oper → Option (Nat × List Oper × (Oper × List Operand) × List Oper)
  | [] => none
  | o :: r => match mvY o with
    | some y => match findY y r with
      | some (p, c, q) => match noDstL y p with
        | true => some (y, p, c, q)
        | false => none
      | none => none
    | none => none

def outI {S : Type} (outs : Out → Option Lay) (o : Out) (σ : St) (s : S) (K : KI S) : Prop :=
  match outs o with
  | some l => dec l σ fun v => K o (st l v) s
  | none => False

/-- What is yielded, as data of its type. -/
def pureY (C : Cfg) (H : List Blk) : List AV → List TypeId → (List AV → List Blk → Prop) → Prop
  | [], _, K => K [] H
  | v :: vs, t :: ts, K => match (C.ty t).code with
    | some d => toT true H v d fun fr y H1 => pureY C H1 vs ts fun ws H' => K (.t (fr || flat d) d y :: ws) H'
    | none => False
  | _ :: _, [], _ => False

def yTys (o : Oper) : List TypeId := match o.op with
  | .call c => c.argTypes.toList
  | _ => []

def evIt (C : Cfg) (L : ICuts) (S : Type) (rd : Rnd S) : Code → St → S → KI S → Prop
  | .skip, σ, s, K => K .nrm σ s
  | .label _, σ, s, K => K .nrm σ s
  | .region _ ops d, σ, s, K => match splitY ops.toList with
    | some (y, pre, c, post) => match d with
      | true => Br (Nat.blt y σ.tmps.length) (evHead C ops.toList (takeL (pre.length + 1) ops.toList) σ.tmps σ.H [] fun t M => pureY C (happ σ.H M) (opvs t c.2) (yTys c.1) fun us H => rd us s fun b s' => evOps C ops.toList post (putT t c.1.dst (bB b)) H fun t' H' => K .nrm ⟨t', H'⟩ s') False
      | false => Br (Nat.blt y σ.tmps.length) (evOps C ops.toList pre (up σ.tmps y .any) σ.H fun t H0 => pureY C H0 (opvs t c.2) (yTys c.1) fun us H => rd us s fun b s' => evOps C ops.toList post (putT t c.1.dst (bB b)) H fun t' H' => K .nrm ⟨t', H'⟩ s') False
    | none => evRegion C ops.toList d σ fun σ' => K .nrm σ' s
  | .seq a b, σ, s, K => evIt C L S rd a σ s fun o σ' s' => match o with
    | .nrm => evIt C L S rd b σ' s' K
    | o => K o σ' s'
  | .cond c a b, σ, s, K => match opv σ.tmps c with
    | .t _ .bool x => Br x (evIt C L S rd a ⟨learn σ.tmps c true, σ.H⟩ s K) (evIt C L S rd b ⟨learn σ.tmps c false, σ.H⟩ s K)
    | _ => False
  | .block id b, σ, s, K => evIt C L S rd b σ s fun o σ' s' => match o with
    | .exit j => Br (Nat.beq j id) (K .nrm σ' s') (K (.exit j) σ' s')
    | o => K o σ' s'
  | .loop b, σ, s, K => match (first b).bind L with
    | some c => dec c.lay σ fun v => c.F v S rd s K
    | none => False
  | .exit id, σ, s, K => K (.exit id) σ s
  | .ret, σ, s, K => K .ret σ s
  | .scope b, σ, s, K => evIt C L S rd b σ s K
  | _, _, _, _ => False

def loopI (c : ICut) {S : Type} (F : Vals c.lay → S → KI S → Prop) (K : KI S) : KI S := fun o σ s => match o with
  | .nrm => dec c.lay σ fun v => F v s K
  | o => outI c.outs o σ s K

/-- A function that is ranged over: its first slot holds yield. -/
def evItFn (C : Cfg) (L : ICuts) (fn : Func) : ItE := fun caps S rd s K =>
  match fn.body with
  | none => False
  | some c => Br (allT caps) (evIt C L S rd c ⟨app (.any :: caps) (anys (fn.ntmps - (caps.length + 1))), []⟩ s fun o _ s' => match o with
    | .exit _ => False
    | _ => K s') False

/-! ### Functions -/

mutual
/-- Own blocks that a result leads to, in order. -/
def refs : AV → List Nat → List Nat
  | .os r, l | .ox r _ _ _, l | .op r _ _, l => if nmem r l then l else l ++ [r]
  | .fn _ vs, l => refsL vs l
  | .tu vs, l => refsL vs l
  | _, l => l
def refsL : List AV → List Nat → List Nat
  | [], l => l
  | v :: vs, l => refsL vs (refs v l)
end

def pos : Nat → List Nat → Nat
  | _, [] => 0
  | r, x :: l => if Nat.beq r x then 0 else pos r l + 1

mutual
def ren (n : Nat) (l : List Nat) : AV → (AV → Prop) → Prop
  | .os r, K => K (.os (n + pos r l))
  | .ox r c a b, K => K (.ox (n + pos r l) c a b)
  | .op r c p, K => K (.op (n + pos r l) c p)
  | .t fr c x, K => K (.t fr c x)
  | .ns, K => K .ns
  | .fn f vs, K => renL n l vs fun ws => K (.fn f ws)
  | .tu vs, K => renL n l vs fun ws => K (.tu ws)
  | .any, _ => False
def renL (n : Nat) (l : List Nat) : List AV → (List AV → Prop) → Prop
  | [], K => K []
  | v :: vs, K => ren n l v fun v' => renL n l vs fun ws => K (v' :: ws)
end

def isVal : Blk → Bool
  | .val _ _ _ _ _ => true
  | _ => false

def pickB (H : List Blk) : List Nat → (List Blk → Prop) → Prop
  | [], K => K []
  | r :: l, K => Br (isVal (hk H r)) (pickB H l fun bs => K (hk H r :: bs)) False

def export_ (v : AV) (H : List Blk) (n : Nat) (K : AV → List Blk → Prop) : Prop :=
  pickB H (refs v []) fun bs => ren n (refs v []) v fun v' => K v' bs

def resV (C : Cfg) (σ : St) (rs : List ResultVar) (K : List AV → Prop) : Prop :=
  match rs with
  | [] => K []
  | .tmp t :: r => resV C σ r fun vs => K (lk σ.tmps t :: vs)
  | .cell a t :: r => evLoad σ.H (lk σ.tmps a) (C.ty t) fun v => resV C σ r fun vs => K (v :: vs)

def exportS (s : Option Cd) (v : AV) (H : List Blk) (n : Nat) (K : AV → List Blk → Prop) : Prop :=
  match s with
  | none => export_ v H n K
  | some d => toT true H v d fun fr y H' => export_ (.t fr d y) H' n K

def evFn (C : Cfg) (L : Cuts) (fn : Func) : Ent := fun args n K =>
  match fn.body with
  | none => False
  | some c => evCode C L c ⟨app args (anys (fn.ntmps - args.length)), []⟩ fun o σ => match o with
    | .exit _ => False
    | _ => resV C σ fn.results.toList fun vs => match vs with
      | [v] => exportS L.stl v σ.H n K
      | vs => export_ (.tu vs) σ.H n K

end Go.Eng
