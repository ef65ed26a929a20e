/-
  No cell of these rows narrows 'for every input' (looked for: loops, veiled, ifaces, maps, wideKeys, modest, calm, conditions, laid).
  DERIVED. THE GIVEN ROWS OF THIS SEAT. 7 by the template 'for every input the law returns true; each argument reads behind the call as it read before'; 0 by the template 'total and deterministic' (their statements: YtjfnkbbcnllfiabTotals.lean).
  GIVEN WITH THE SEED: the statements are not yours to turn. If you find one false, say at which input.
  Laid BY PROGRAM, IN A SANDBOX (cutbox-rows.mjs): the forced cells as the released guide's own fill.sh prints them over the translation c12d0480bc4a46cf… (all of the seat's roots in one cut). By AI agents, Wed Nov 11 2026. No macro, syntax, notation, axiom, sorry.
-/
import Derived.Test.YtjfnkbbcnllfiabChecked
import GoSem.Claim
import GoSem.ClaimJoined
import GoSem.ClaimMapViews
import Derived.JoinedTies
import Derived.KernelRfl
namespace Go.Proofs.Ytjfnkbbcnllfiab
/- THE CELL 'sum', in the pinned program and in every row, IS THE sha256 OF THE DUMP (.gsa) THAT YtjfnkbbcnllfiabProg.lean LOADS. Nothing in Lean hashes anything: it is a label: what it is worth is what the hold of that sum in a sandbox is worth. -/
noncomputable def Try.pinned : Pinned := { name := "ytjfnkbbcnllfiab", sum := "c12d0480bc4a46cfdadae8480066eab68c8531265b194457ea593e54b0d6841c", checked := Try.checked }
namespace Rows
def none {H : Type} : Left H := { results := [], args := [] }

/-- 'splicerlaw14.EnergyBack': WHATEVER THE INPUT: true; the input reads as it did. -/
def energyBackSpec : ChangeSpec := { name := "energyBack", fn := fun _ => fun
  | [d1, d2, d3] => { results := [.lit (.bool true)], args := [d1, d2, d3] }
  | _ => none }
def energyBackRow : OpenClaim := { program := "ytjfnkbbcnllfiab", sum := "c12d0480bc4a46cfdadae8480066eab68c8531265b194457ea593e54b0d6841c", func := "splicer/splicerlaw14.EnergyBack", spec := "energyBack", unfollowed := true, recurses := true, apart := false }
def EnergyBackSaid : Prop := energyBackRow.holds Try.pinned (OpenSpec.ofChange energyBackSpec)

/-- ITS FALSE NEIGHBOUR: 'it returns false'. Refute it at one input. -/
def energyBackWrong : ChangeSpec := { name := "energyBack", fn := fun _ => fun
  | [d1, d2, d3] => { results := [.lit (.bool false)], args := [d1, d2, d3] }
  | _ => none }
def EnergyBackWrongFalsely : Prop := energyBackRow.holds Try.pinned (OpenSpec.ofChange energyBackWrong)

/-- 'splicerlaw19.SideTells': WHATEVER THE INPUT: true; the input reads as it did. -/
def sideTellsSpec : ChangeSpec := { name := "sideTells", fn := fun _ => fun
  | [d1, d2] => { results := [.lit (.bool true)], args := [d1, d2] }
  | _ => none }
def sideTellsRow : OpenClaim := { program := "ytjfnkbbcnllfiab", sum := "c12d0480bc4a46cfdadae8480066eab68c8531265b194457ea593e54b0d6841c", func := "splicer/splicerlaw19.SideTells", spec := "sideTells", unfollowed := true, recurses := true, apart := false }
def SideTellsSaid : Prop := sideTellsRow.holds Try.pinned (OpenSpec.ofChange sideTellsSpec)

/-- ITS FALSE NEIGHBOUR: 'it returns false'. Refute it at one input. -/
def sideTellsWrong : ChangeSpec := { name := "sideTells", fn := fun _ => fun
  | [d1, d2] => { results := [.lit (.bool false)], args := [d1, d2] }
  | _ => none }
def SideTellsWrongFalsely : Prop := sideTellsRow.holds Try.pinned (OpenSpec.ofChange sideTellsWrong)

/-- 'splicerlaw19.SideBack': WHATEVER THE INPUT: true; the input reads as it did. -/
def sideBackSpec : ChangeSpec := { name := "sideBack", fn := fun _ => fun
  | [d1, d2] => { results := [.lit (.bool true)], args := [d1, d2] }
  | _ => none }
def sideBackRow : OpenClaim := { program := "ytjfnkbbcnllfiab", sum := "c12d0480bc4a46cfdadae8480066eab68c8531265b194457ea593e54b0d6841c", func := "splicer/splicerlaw19.SideBack", spec := "sideBack", unfollowed := true, recurses := true, apart := false }
def SideBackSaid : Prop := sideBackRow.holds Try.pinned (OpenSpec.ofChange sideBackSpec)

/-- ITS FALSE NEIGHBOUR: 'it returns false'. Refute it at one input. -/
def sideBackWrong : ChangeSpec := { name := "sideBack", fn := fun _ => fun
  | [d1, d2] => { results := [.lit (.bool false)], args := [d1, d2] }
  | _ => none }
def SideBackWrongFalsely : Prop := sideBackRow.holds Try.pinned (OpenSpec.ofChange sideBackWrong)

/-- 'splicerlaw07.TrigTells': WHATEVER THE INPUT: true; the input reads as it did. -/
def trigTellsSpec : ChangeSpec := { name := "trigTells", fn := fun _ => fun
  | [d1, d2, d3] => { results := [.lit (.bool true)], args := [d1, d2, d3] }
  | _ => none }
def trigTellsRow : OpenClaim := { program := "ytjfnkbbcnllfiab", sum := "c12d0480bc4a46cfdadae8480066eab68c8531265b194457ea593e54b0d6841c", func := "splicer/splicerlaw07.TrigTells", spec := "trigTells", apart := false }
def TrigTellsSaid : Prop := trigTellsRow.holds Try.pinned (OpenSpec.ofChange trigTellsSpec)

/-- ITS FALSE NEIGHBOUR: 'it returns false'. Refute it at one input. -/
def trigTellsWrong : ChangeSpec := { name := "trigTells", fn := fun _ => fun
  | [d1, d2, d3] => { results := [.lit (.bool false)], args := [d1, d2, d3] }
  | _ => none }
def TrigTellsWrongFalsely : Prop := trigTellsRow.holds Try.pinned (OpenSpec.ofChange trigTellsWrong)

/-- 'splicerlaw07.TrigSquares': WHATEVER THE INPUT: true; the input reads as it did. -/
def trigSquaresSpec : ChangeSpec := { name := "trigSquares", fn := fun _ => fun
  | [d] => { results := [.lit (.bool true)], args := [d] }
  | _ => none }
def trigSquaresRow : OpenClaim := { program := "ytjfnkbbcnllfiab", sum := "c12d0480bc4a46cfdadae8480066eab68c8531265b194457ea593e54b0d6841c", func := "splicer/splicerlaw07.TrigSquares", spec := "trigSquares", apart := false }
def TrigSquaresSaid : Prop := trigSquaresRow.holds Try.pinned (OpenSpec.ofChange trigSquaresSpec)

/-- ITS FALSE NEIGHBOUR: 'it returns false'. Refute it at one input. -/
def trigSquaresWrong : ChangeSpec := { name := "trigSquares", fn := fun _ => fun
  | [d] => { results := [.lit (.bool false)], args := [d] }
  | _ => none }
def TrigSquaresWrongFalsely : Prop := trigSquaresRow.holds Try.pinned (OpenSpec.ofChange trigSquaresWrong)

/-- 'splicerlaw07.TrigQuarter': WHATEVER THE INPUT: true; the input reads as it did. -/
def trigQuarterSpec : ChangeSpec := { name := "trigQuarter", fn := fun _ => fun
  | [d1, d2, d3] => { results := [.lit (.bool true)], args := [d1, d2, d3] }
  | _ => none }
def trigQuarterRow : OpenClaim := { program := "ytjfnkbbcnllfiab", sum := "c12d0480bc4a46cfdadae8480066eab68c8531265b194457ea593e54b0d6841c", func := "splicer/splicerlaw07.TrigQuarter", spec := "trigQuarter", apart := false }
def TrigQuarterSaid : Prop := trigQuarterRow.holds Try.pinned (OpenSpec.ofChange trigQuarterSpec)

/-- ITS FALSE NEIGHBOUR: 'it returns false'. Refute it at one input. -/
def trigQuarterWrong : ChangeSpec := { name := "trigQuarter", fn := fun _ => fun
  | [d1, d2, d3] => { results := [.lit (.bool false)], args := [d1, d2, d3] }
  | _ => none }
def TrigQuarterWrongFalsely : Prop := trigQuarterRow.holds Try.pinned (OpenSpec.ofChange trigQuarterWrong)

/-- 'splicerlaw07.TrigWhole': WHATEVER THE INPUT: true; the input reads as it did. -/
def trigWholeSpec : ChangeSpec := { name := "trigWhole", fn := fun _ => fun
  | [d] => { results := [.lit (.bool true)], args := [d] }
  | _ => none }
def trigWholeRow : OpenClaim := { program := "ytjfnkbbcnllfiab", sum := "c12d0480bc4a46cfdadae8480066eab68c8531265b194457ea593e54b0d6841c", func := "splicer/splicerlaw07.TrigWhole", spec := "trigWhole", apart := false }
def TrigWholeSaid : Prop := trigWholeRow.holds Try.pinned (OpenSpec.ofChange trigWholeSpec)

/-- ITS FALSE NEIGHBOUR: 'it returns false'. Refute it at one input. -/
def trigWholeWrong : ChangeSpec := { name := "trigWhole", fn := fun _ => fun
  | [d] => { results := [.lit (.bool false)], args := [d] }
  | _ => none }
def TrigWholeWrongFalsely : Prop := trigWholeRow.holds Try.pinned (OpenSpec.ofChange trigWholeWrong)

/- THE SECOND FORM. 'bulk': how many values and letters a reading holds, each counted each time it is reached (what is shared counts as often as it is met; a slice's spare places count too). A statement '..UptoSaid' is the law's where the arguments, and the package variables that the reading takes, are together of bulk at most 1048576: NARROWER than '..Said'. Prove '..Said' where nothing that the law and all that it calls make is longer than what came in: it says more and counts as full. Else prove '..UptoSaid'. A law counts once. -/
mutual
def uptoBulk {H : Type} : DataW H → Nat
  | .lit (.string bytes) => bytes.length + 1
  | .lit _ => 1
  | .nil => 1
  | .ptr d => uptoBulk d + 1
  | .slice elems spare => uptoBulkAll elems + uptoBulkAll spare + 1
  | .agg parts => uptoBulkAll parts + 1
  | .iface _ d => uptoBulk d + 1
  | .map entries => uptoBulkEntries entries + 1
  | .held _ => 1
def uptoBulkAll {H : Type} : List (DataW H) → Nat
  | [] => 0
  | d :: r => uptoBulk d + uptoBulkAll r
def uptoBulkEntries {H : Type} : List (Lit × DataW H) → Nat
  | [] => 0
  | x :: r => uptoBulkEntry x + uptoBulkEntries r
def uptoBulkEntry {H : Type} : Lit × DataW H → Nat
  | (.string bytes, d) => bytes.length + uptoBulk d + 1
  | (_, d) => uptoBulk d + 1
 end
def uptoSmall : (H : Type) → List (DataW H) → Bool := fun _ ds => decide (uptoBulkAll ds ≤ 1048576)
def OpenSpec.upto (s : _root_.Go.ChangeSpec) : _root_.Go.OpenSpec := { _root_.Go.OpenSpec.ofChange s with cond := some uptoSmall }

/-- 'splicerlaw14.EnergyBack', WHERE WHAT IT READS IS OF BULK AT MOST 1048576: true; the input reads as it did. -/
def energyBackUptoRow : OpenClaim := { program := "ytjfnkbbcnllfiab", sum := "c12d0480bc4a46cfdadae8480066eab68c8531265b194457ea593e54b0d6841c", func := "splicer/splicerlaw14.EnergyBack", spec := "energyBack", unfollowed := true, recurses := true, apart := false, narrowed := true }
def EnergyBackUptoSaid : Prop := energyBackUptoRow.holds Try.pinned (OpenSpec.upto energyBackSpec)

/-- 'splicerlaw19.SideTells', WHERE WHAT IT READS IS OF BULK AT MOST 1048576: true; the input reads as it did. -/
def sideTellsUptoRow : OpenClaim := { program := "ytjfnkbbcnllfiab", sum := "c12d0480bc4a46cfdadae8480066eab68c8531265b194457ea593e54b0d6841c", func := "splicer/splicerlaw19.SideTells", spec := "sideTells", unfollowed := true, recurses := true, apart := false, narrowed := true }
def SideTellsUptoSaid : Prop := sideTellsUptoRow.holds Try.pinned (OpenSpec.upto sideTellsSpec)

/-- 'splicerlaw19.SideBack', WHERE WHAT IT READS IS OF BULK AT MOST 1048576: true; the input reads as it did. -/
def sideBackUptoRow : OpenClaim := { program := "ytjfnkbbcnllfiab", sum := "c12d0480bc4a46cfdadae8480066eab68c8531265b194457ea593e54b0d6841c", func := "splicer/splicerlaw19.SideBack", spec := "sideBack", unfollowed := true, recurses := true, apart := false, narrowed := true }
def SideBackUptoSaid : Prop := sideBackUptoRow.holds Try.pinned (OpenSpec.upto sideBackSpec)

/-- 'splicerlaw07.TrigTells', WHERE WHAT IT READS IS OF BULK AT MOST 1048576: true; the input reads as it did. -/
def trigTellsUptoRow : OpenClaim := { program := "ytjfnkbbcnllfiab", sum := "c12d0480bc4a46cfdadae8480066eab68c8531265b194457ea593e54b0d6841c", func := "splicer/splicerlaw07.TrigTells", spec := "trigTells", apart := false, narrowed := true }
def TrigTellsUptoSaid : Prop := trigTellsUptoRow.holds Try.pinned (OpenSpec.upto trigTellsSpec)

/-- 'splicerlaw07.TrigSquares', WHERE WHAT IT READS IS OF BULK AT MOST 1048576: true; the input reads as it did. -/
def trigSquaresUptoRow : OpenClaim := { program := "ytjfnkbbcnllfiab", sum := "c12d0480bc4a46cfdadae8480066eab68c8531265b194457ea593e54b0d6841c", func := "splicer/splicerlaw07.TrigSquares", spec := "trigSquares", apart := false, narrowed := true }
def TrigSquaresUptoSaid : Prop := trigSquaresUptoRow.holds Try.pinned (OpenSpec.upto trigSquaresSpec)

/-- 'splicerlaw07.TrigQuarter', WHERE WHAT IT READS IS OF BULK AT MOST 1048576: true; the input reads as it did. -/
def trigQuarterUptoRow : OpenClaim := { program := "ytjfnkbbcnllfiab", sum := "c12d0480bc4a46cfdadae8480066eab68c8531265b194457ea593e54b0d6841c", func := "splicer/splicerlaw07.TrigQuarter", spec := "trigQuarter", apart := false, narrowed := true }
def TrigQuarterUptoSaid : Prop := trigQuarterUptoRow.holds Try.pinned (OpenSpec.upto trigQuarterSpec)

/-- 'splicerlaw07.TrigWhole', WHERE WHAT IT READS IS OF BULK AT MOST 1048576: true; the input reads as it did. -/
def trigWholeUptoRow : OpenClaim := { program := "ytjfnkbbcnllfiab", sum := "c12d0480bc4a46cfdadae8480066eab68c8531265b194457ea593e54b0d6841c", func := "splicer/splicerlaw07.TrigWhole", spec := "trigWhole", apart := false, narrowed := true }
def TrigWholeUptoSaid : Prop := trigWholeUptoRow.holds Try.pinned (OpenSpec.upto trigWholeSpec)

end Rows
end Go.Proofs.Ytjfnkbbcnllfiab
