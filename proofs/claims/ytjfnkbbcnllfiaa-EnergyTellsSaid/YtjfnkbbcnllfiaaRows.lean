/-
  No cell of these rows narrows 'for every input' (looked for: loops, veiled, ifaces, maps, wideKeys, modest, calm, conditions, laid).
  DERIVED. THE GIVEN ROWS OF THIS SEAT. 8 by the template 'for every input the law returns true; each argument reads behind the call as it read before'; 0 by the template 'total and deterministic' (their statements: YtjfnkbbcnllfiaaTotals.lean).
  GIVEN WITH THE SEED: the statements are not yours to turn. If you find one false, say at which input.
  Laid BY PROGRAM, IN A SANDBOX (cutbox-rows.mjs): the forced cells as the released guide's own fill.sh prints them over the translation 6477f50afb445cb6… (all of the seat's roots in one cut). By AI agents, Wed Nov 11 2026. No macro, syntax, notation, axiom, sorry.
-/
import Derived.Test.YtjfnkbbcnllfiaaChecked
import GoSem.Claim
import GoSem.ClaimJoined
import GoSem.ClaimMapViews
import Derived.JoinedTies
import Derived.KernelRfl
namespace Go.Proofs.Ytjfnkbbcnllfiaa
/- THE CELL 'sum', in the pinned program and in every row, IS THE sha256 OF THE DUMP (.gsa) THAT YtjfnkbbcnllfiaaProg.lean LOADS. Nothing in Lean hashes anything: it is a label: what it is worth is what the hold of that sum in a sandbox is worth. -/
noncomputable def Try.pinned : Pinned := { name := "ytjfnkbbcnllfiaa", sum := "6477f50afb445cb6a041e2d6b89d00d908ea802f0adfec00bbd8b1217fba4718", checked := Try.checked }
namespace Rows
def none {H : Type} : Left H := { results := [], args := [] }

/-- 'splicerlaw23.TransientTells': WHATEVER THE INPUT: true; the input reads as it did. -/
def transientTellsSpec : ChangeSpec := { name := "transientTells", fn := fun _ => fun
  | [d] => { results := [.lit (.bool true)], args := [d] }
  | _ => none }
def transientTellsRow : OpenClaim := { program := "ytjfnkbbcnllfiaa", sum := "6477f50afb445cb6a041e2d6b89d00d908ea802f0adfec00bbd8b1217fba4718", func := "splicer/splicerlaw23.TransientTells", spec := "transientTells", apart := false }
def TransientTellsSaid : Prop := transientTellsRow.holds Try.pinned (OpenSpec.ofChange transientTellsSpec)

/-- ITS FALSE NEIGHBOUR: 'it returns false'. Refute it at one input. -/
def transientTellsWrong : ChangeSpec := { name := "transientTells", fn := fun _ => fun
  | [d] => { results := [.lit (.bool false)], args := [d] }
  | _ => none }
def TransientTellsWrongFalsely : Prop := transientTellsRow.holds Try.pinned (OpenSpec.ofChange transientTellsWrong)

/-- 'splicerlaw23.TransientStill': WHATEVER THE INPUT: true; the input reads as it did. -/
def transientStillSpec : ChangeSpec := { name := "transientStill", fn := fun _ => fun
  | [d1, d2, d3] => { results := [.lit (.bool true)], args := [d1, d2, d3] }
  | _ => none }
def transientStillRow : OpenClaim := { program := "ytjfnkbbcnllfiaa", sum := "6477f50afb445cb6a041e2d6b89d00d908ea802f0adfec00bbd8b1217fba4718", func := "splicer/splicerlaw23.TransientStill", spec := "transientStill", apart := false }
def TransientStillSaid : Prop := transientStillRow.holds Try.pinned (OpenSpec.ofChange transientStillSpec)

/-- ITS FALSE NEIGHBOUR: 'it returns false'. Refute it at one input. -/
def transientStillWrong : ChangeSpec := { name := "transientStill", fn := fun _ => fun
  | [d1, d2, d3] => { results := [.lit (.bool false)], args := [d1, d2, d3] }
  | _ => none }
def TransientStillWrongFalsely : Prop := transientStillRow.holds Try.pinned (OpenSpec.ofChange transientStillWrong)

/-- 'splicerlaw06.RootTells': WHATEVER THE INPUT: true; the input reads as it did. -/
def rootTellsSpec : ChangeSpec := { name := "rootTells", fn := fun _ => fun
  | [d] => { results := [.lit (.bool true)], args := [d] }
  | _ => none }
def rootTellsRow : OpenClaim := { program := "ytjfnkbbcnllfiaa", sum := "6477f50afb445cb6a041e2d6b89d00d908ea802f0adfec00bbd8b1217fba4718", func := "splicer/splicerlaw06.RootTells", spec := "rootTells", apart := false }
def RootTellsSaid : Prop := rootTellsRow.holds Try.pinned (OpenSpec.ofChange rootTellsSpec)

/-- ITS FALSE NEIGHBOUR: 'it returns false'. Refute it at one input. -/
def rootTellsWrong : ChangeSpec := { name := "rootTells", fn := fun _ => fun
  | [d] => { results := [.lit (.bool false)], args := [d] }
  | _ => none }
def RootTellsWrongFalsely : Prop := rootTellsRow.holds Try.pinned (OpenSpec.ofChange rootTellsWrong)

/-- 'splicerlaw06.RootSquares': WHATEVER THE INPUT: true; the input reads as it did. -/
def rootSquaresSpec : ChangeSpec := { name := "rootSquares", fn := fun _ => fun
  | [d1, d2] => { results := [.lit (.bool true)], args := [d1, d2] }
  | _ => none }
def rootSquaresRow : OpenClaim := { program := "ytjfnkbbcnllfiaa", sum := "6477f50afb445cb6a041e2d6b89d00d908ea802f0adfec00bbd8b1217fba4718", func := "splicer/splicerlaw06.RootSquares", spec := "rootSquares", apart := false }
def RootSquaresSaid : Prop := rootSquaresRow.holds Try.pinned (OpenSpec.ofChange rootSquaresSpec)

/-- ITS FALSE NEIGHBOUR: 'it returns false'. Refute it at one input. -/
def rootSquaresWrong : ChangeSpec := { name := "rootSquares", fn := fun _ => fun
  | [d1, d2] => { results := [.lit (.bool false)], args := [d1, d2] }
  | _ => none }
def RootSquaresWrongFalsely : Prop := rootSquaresRow.holds Try.pinned (OpenSpec.ofChange rootSquaresWrong)

/-- 'splicerlaw15.AllocTells': WHATEVER THE INPUT: true; the input reads as it did. -/
def allocTellsSpec : ChangeSpec := { name := "allocTells", fn := fun _ => fun
  | [d1, d2, d3, d4] => { results := [.lit (.bool true)], args := [d1, d2, d3, d4] }
  | _ => none }
def allocTellsRow : OpenClaim := { program := "ytjfnkbbcnllfiaa", sum := "6477f50afb445cb6a041e2d6b89d00d908ea802f0adfec00bbd8b1217fba4718", func := "splicer/splicerlaw15.AllocTells", spec := "allocTells", apart := false }
def AllocTellsSaid : Prop := allocTellsRow.holds Try.pinned (OpenSpec.ofChange allocTellsSpec)

/-- ITS FALSE NEIGHBOUR: 'it returns false'. Refute it at one input. -/
def allocTellsWrong : ChangeSpec := { name := "allocTells", fn := fun _ => fun
  | [d1, d2, d3, d4] => { results := [.lit (.bool false)], args := [d1, d2, d3, d4] }
  | _ => none }
def AllocTellsWrongFalsely : Prop := allocTellsRow.holds Try.pinned (OpenSpec.ofChange allocTellsWrong)

/-- 'splicerlaw15.AllocGrows': WHATEVER THE INPUT: true; the input reads as it did. -/
def allocGrowsSpec : ChangeSpec := { name := "allocGrows", fn := fun _ => fun
  | [d1, d2, d3] => { results := [.lit (.bool true)], args := [d1, d2, d3] }
  | _ => none }
def allocGrowsRow : OpenClaim := { program := "ytjfnkbbcnllfiaa", sum := "6477f50afb445cb6a041e2d6b89d00d908ea802f0adfec00bbd8b1217fba4718", func := "splicer/splicerlaw15.AllocGrows", spec := "allocGrows", apart := false }
def AllocGrowsSaid : Prop := allocGrowsRow.holds Try.pinned (OpenSpec.ofChange allocGrowsSpec)

/-- ITS FALSE NEIGHBOUR: 'it returns false'. Refute it at one input. -/
def allocGrowsWrong : ChangeSpec := { name := "allocGrows", fn := fun _ => fun
  | [d1, d2, d3] => { results := [.lit (.bool false)], args := [d1, d2, d3] }
  | _ => none }
def AllocGrowsWrongFalsely : Prop := allocGrowsRow.holds Try.pinned (OpenSpec.ofChange allocGrowsWrong)

/-- 'splicerlaw11.WindowFolds': WHATEVER THE INPUT: true; the input reads as it did. -/
def windowFoldsSpec : ChangeSpec := { name := "windowFolds", fn := fun _ => fun
  | [d] => { results := [.lit (.bool true)], args := [d] }
  | _ => none }
def windowFoldsRow : OpenClaim := { program := "ytjfnkbbcnllfiaa", sum := "6477f50afb445cb6a041e2d6b89d00d908ea802f0adfec00bbd8b1217fba4718", func := "splicer/splicerlaw11.WindowFolds", spec := "windowFolds", apart := false }
def WindowFoldsSaid : Prop := windowFoldsRow.holds Try.pinned (OpenSpec.ofChange windowFoldsSpec)

/-- ITS FALSE NEIGHBOUR: 'it returns false'. Refute it at one input. -/
def windowFoldsWrong : ChangeSpec := { name := "windowFolds", fn := fun _ => fun
  | [d] => { results := [.lit (.bool false)], args := [d] }
  | _ => none }
def WindowFoldsWrongFalsely : Prop := windowFoldsRow.holds Try.pinned (OpenSpec.ofChange windowFoldsWrong)

/-- 'splicerlaw14.EnergyTells': WHATEVER THE INPUT: true; the input reads as it did. -/
def energyTellsSpec : ChangeSpec := { name := "energyTells", fn := fun _ => fun
  | [d1, d2, d3] => { results := [.lit (.bool true)], args := [d1, d2, d3] }
  | _ => none }
def energyTellsRow : OpenClaim := { program := "ytjfnkbbcnllfiaa", sum := "6477f50afb445cb6a041e2d6b89d00d908ea802f0adfec00bbd8b1217fba4718", func := "splicer/splicerlaw14.EnergyTells", spec := "energyTells", unfollowed := true, recurses := true, apart := false }
def EnergyTellsSaid : Prop := energyTellsRow.holds Try.pinned (OpenSpec.ofChange energyTellsSpec)

/-- ITS FALSE NEIGHBOUR: 'it returns false'. Refute it at one input. -/
def energyTellsWrong : ChangeSpec := { name := "energyTells", fn := fun _ => fun
  | [d1, d2, d3] => { results := [.lit (.bool false)], args := [d1, d2, d3] }
  | _ => none }
def EnergyTellsWrongFalsely : Prop := energyTellsRow.holds Try.pinned (OpenSpec.ofChange energyTellsWrong)

/- THE SECOND FORM. 'bulk': how many values and letters a reading holds, each counted each time it is reached (what is shared counts as often as it is met; a slice's spare places count too). A statement '..UptoSaid' is the law's where the arguments, and the package variables that the reading takes, are together of bulk at most 1048576: NARROWER than '..Said'. Prove '..Said' where nothing that the law and all that it calls make is longer than what came in: it says more and counts as full. Else prove '..UptoSaid'. A law counts once. -/
mutual
def uptoBulk {H : Type} : DataW H → Nat
  | .lit (.string bytes) => bytes.length + 1
  | .lit _ => 1
  | .nil => 1
  | .ptr d => uptoBulk d + 1
  | .slice elems spare => uptoBulkAll elems + uptoBulkAll spare + 1
  | .agg parts => uptoBulkAll parts + 1
  | .iface _ d => uptoBulk d + 1
  | .map entries => uptoBulkEntries entries + 1
  | .held _ => 1
def uptoBulkAll {H : Type} : List (DataW H) → Nat
  | [] => 0
  | d :: r => uptoBulk d + uptoBulkAll r
def uptoBulkEntries {H : Type} : List (Lit × DataW H) → Nat
  | [] => 0
  | x :: r => uptoBulkEntry x + uptoBulkEntries r
def uptoBulkEntry {H : Type} : Lit × DataW H → Nat
  | (.string bytes, d) => bytes.length + uptoBulk d + 1
  | (_, d) => uptoBulk d + 1
 end
def uptoSmall : (H : Type) → List (DataW H) → Bool := fun _ ds => decide (uptoBulkAll ds ≤ 1048576)
def OpenSpec.upto (s : _root_.Go.ChangeSpec) : _root_.Go.OpenSpec := { _root_.Go.OpenSpec.ofChange s with cond := some uptoSmall }

/-- 'splicerlaw23.TransientTells', WHERE WHAT IT READS IS OF BULK AT MOST 1048576: true; the input reads as it did. -/
def transientTellsUptoRow : OpenClaim := { program := "ytjfnkbbcnllfiaa", sum := "6477f50afb445cb6a041e2d6b89d00d908ea802f0adfec00bbd8b1217fba4718", func := "splicer/splicerlaw23.TransientTells", spec := "transientTells", apart := false, narrowed := true }
def TransientTellsUptoSaid : Prop := transientTellsUptoRow.holds Try.pinned (OpenSpec.upto transientTellsSpec)

/-- 'splicerlaw23.TransientStill', WHERE WHAT IT READS IS OF BULK AT MOST 1048576: true; the input reads as it did. -/
def transientStillUptoRow : OpenClaim := { program := "ytjfnkbbcnllfiaa", sum := "6477f50afb445cb6a041e2d6b89d00d908ea802f0adfec00bbd8b1217fba4718", func := "splicer/splicerlaw23.TransientStill", spec := "transientStill", apart := false, narrowed := true }
def TransientStillUptoSaid : Prop := transientStillUptoRow.holds Try.pinned (OpenSpec.upto transientStillSpec)

/-- 'splicerlaw06.RootTells', WHERE WHAT IT READS IS OF BULK AT MOST 1048576: true; the input reads as it did. -/
def rootTellsUptoRow : OpenClaim := { program := "ytjfnkbbcnllfiaa", sum := "6477f50afb445cb6a041e2d6b89d00d908ea802f0adfec00bbd8b1217fba4718", func := "splicer/splicerlaw06.RootTells", spec := "rootTells", apart := false, narrowed := true }
def RootTellsUptoSaid : Prop := rootTellsUptoRow.holds Try.pinned (OpenSpec.upto rootTellsSpec)

/-- 'splicerlaw06.RootSquares', WHERE WHAT IT READS IS OF BULK AT MOST 1048576: true; the input reads as it did. -/
def rootSquaresUptoRow : OpenClaim := { program := "ytjfnkbbcnllfiaa", sum := "6477f50afb445cb6a041e2d6b89d00d908ea802f0adfec00bbd8b1217fba4718", func := "splicer/splicerlaw06.RootSquares", spec := "rootSquares", apart := false, narrowed := true }
def RootSquaresUptoSaid : Prop := rootSquaresUptoRow.holds Try.pinned (OpenSpec.upto rootSquaresSpec)

/-- 'splicerlaw15.AllocTells', WHERE WHAT IT READS IS OF BULK AT MOST 1048576: true; the input reads as it did. -/
def allocTellsUptoRow : OpenClaim := { program := "ytjfnkbbcnllfiaa", sum := "6477f50afb445cb6a041e2d6b89d00d908ea802f0adfec00bbd8b1217fba4718", func := "splicer/splicerlaw15.AllocTells", spec := "allocTells", apart := false, narrowed := true }
def AllocTellsUptoSaid : Prop := allocTellsUptoRow.holds Try.pinned (OpenSpec.upto allocTellsSpec)

/-- 'splicerlaw15.AllocGrows', WHERE WHAT IT READS IS OF BULK AT MOST 1048576: true; the input reads as it did. -/
def allocGrowsUptoRow : OpenClaim := { program := "ytjfnkbbcnllfiaa", sum := "6477f50afb445cb6a041e2d6b89d00d908ea802f0adfec00bbd8b1217fba4718", func := "splicer/splicerlaw15.AllocGrows", spec := "allocGrows", apart := false, narrowed := true }
def AllocGrowsUptoSaid : Prop := allocGrowsUptoRow.holds Try.pinned (OpenSpec.upto allocGrowsSpec)

/-- 'splicerlaw11.WindowFolds', WHERE WHAT IT READS IS OF BULK AT MOST 1048576: true; the input reads as it did. -/
def windowFoldsUptoRow : OpenClaim := { program := "ytjfnkbbcnllfiaa", sum := "6477f50afb445cb6a041e2d6b89d00d908ea802f0adfec00bbd8b1217fba4718", func := "splicer/splicerlaw11.WindowFolds", spec := "windowFolds", apart := false, narrowed := true }
def WindowFoldsUptoSaid : Prop := windowFoldsUptoRow.holds Try.pinned (OpenSpec.upto windowFoldsSpec)

/-- 'splicerlaw14.EnergyTells', WHERE WHAT IT READS IS OF BULK AT MOST 1048576: true; the input reads as it did. -/
def energyTellsUptoRow : OpenClaim := { program := "ytjfnkbbcnllfiaa", sum := "6477f50afb445cb6a041e2d6b89d00d908ea802f0adfec00bbd8b1217fba4718", func := "splicer/splicerlaw14.EnergyTells", spec := "energyTells", unfollowed := true, recurses := true, apart := false, narrowed := true }
def EnergyTellsUptoSaid : Prop := energyTellsUptoRow.holds Try.pinned (OpenSpec.upto energyTellsSpec)

end Rows
end Go.Proofs.Ytjfnkbbcnllfiaa
