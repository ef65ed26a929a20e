/-
  No cell of these rows narrows 'for every input' (looked for: loops, veiled, ifaces, maps, wideKeys, modest, calm, conditions, laid).
  DERIVED. THE GIVEN ROWS OF THIS SEAT. 8 by the template 'for every input the law returns true; each argument reads behind the call as it read before'; 0 by the template 'total and deterministic' (their statements: YtkgapcdnpcjcmaaTotals.lean).
  GIVEN WITH THE SEED: the statements are not yours to turn. If you find one false, say at which input.
  Laid BY PROGRAM, IN A SANDBOX (cutbox-rows.mjs): the forced cells as the released guide's own fill.sh prints them over the translation 918c24ad4f0fb538… (all of the seat's roots in one cut). By AI agents, Wed Nov 11 2026. No macro, syntax, notation, axiom, sorry.
-/
import Derived.Test.YtkgapcdnpcjcmaaChecked
import GoSem.Claim
import GoSem.ClaimJoined
import GoSem.ClaimMapViews
import Derived.JoinedTies
import Derived.KernelRfl
namespace Go.Proofs.Ytkgapcdnpcjcmaa
/- THE CELL 'sum', in the pinned program and in every row, IS THE sha256 OF THE DUMP (.gsa) THAT YtkgapcdnpcjcmaaProg.lean LOADS. Nothing in Lean hashes anything: it is a label: what it is worth is what the hold of that sum in a sandbox is worth. -/
noncomputable def Try.pinned : Pinned := { name := "ytkgapcdnpcjcmaa", sum := "918c24ad4f0fb538d6fa112bf35e18fa28e772709b84c5c1ed81add0ef44836b", checked := Try.checked }
namespace Rows
def none {H : Type} : Left H := { results := [], args := [] }

/-- 'splicerlaw11.WindowLeaves': WHATEVER THE INPUT: true; the input reads as it did. -/
def windowLeavesSpec : ChangeSpec := { name := "windowLeaves", fn := fun _ => fun
  | [d1, d2, d3] => { results := [.lit (.bool true)], args := [d1, d2, d3] }
  | _ => none }
def windowLeavesRow : OpenClaim := { program := "ytkgapcdnpcjcmaa", sum := "918c24ad4f0fb538d6fa112bf35e18fa28e772709b84c5c1ed81add0ef44836b", func := "splicer/splicerlaw11.WindowLeaves", spec := "windowLeaves", apart := false }
def WindowLeavesSaid : Prop := windowLeavesRow.holds Try.pinned (OpenSpec.ofChange windowLeavesSpec)

/-- ITS FALSE NEIGHBOUR: 'it returns false'. Refute it at one input. -/
def windowLeavesWrong : ChangeSpec := { name := "windowLeaves", fn := fun _ => fun
  | [d1, d2, d3] => { results := [.lit (.bool false)], args := [d1, d2, d3] }
  | _ => none }
def WindowLeavesWrongFalsely : Prop := windowLeavesRow.holds Try.pinned (OpenSpec.ofChange windowLeavesWrong)

/-- 'splicerlaw11.WindowMeets': WHATEVER THE INPUT: true; the input reads as it did. -/
def windowMeetsSpec : ChangeSpec := { name := "windowMeets", fn := fun _ => fun
  | [d] => { results := [.lit (.bool true)], args := [d] }
  | _ => none }
def windowMeetsRow : OpenClaim := { program := "ytkgapcdnpcjcmaa", sum := "918c24ad4f0fb538d6fa112bf35e18fa28e772709b84c5c1ed81add0ef44836b", func := "splicer/splicerlaw11.WindowMeets", spec := "windowMeets", apart := false }
def WindowMeetsSaid : Prop := windowMeetsRow.holds Try.pinned (OpenSpec.ofChange windowMeetsSpec)

/-- ITS FALSE NEIGHBOUR: 'it returns false'. Refute it at one input. -/
def windowMeetsWrong : ChangeSpec := { name := "windowMeets", fn := fun _ => fun
  | [d] => { results := [.lit (.bool false)], args := [d] }
  | _ => none }
def WindowMeetsWrongFalsely : Prop := windowMeetsRow.holds Try.pinned (OpenSpec.ofChange windowMeetsWrong)

/-- 'splicerlaw13.LayoutTells': WHATEVER THE INPUT: true; the input reads as it did. -/
def layoutTellsSpec : ChangeSpec := { name := "layoutTells", fn := fun _ => fun
  | [d1, d2, d3] => { results := [.lit (.bool true)], args := [d1, d2, d3] }
  | _ => none }
def layoutTellsRow : OpenClaim := { program := "ytkgapcdnpcjcmaa", sum := "918c24ad4f0fb538d6fa112bf35e18fa28e772709b84c5c1ed81add0ef44836b", func := "splicer/splicerlaw13.LayoutTells", spec := "layoutTells", unfollowed := true, recurses := true, apart := false }
def LayoutTellsSaid : Prop := layoutTellsRow.holds Try.pinned (OpenSpec.ofChange layoutTellsSpec)

/-- ITS FALSE NEIGHBOUR: 'it returns false'. Refute it at one input. -/
def layoutTellsWrong : ChangeSpec := { name := "layoutTells", fn := fun _ => fun
  | [d1, d2, d3] => { results := [.lit (.bool false)], args := [d1, d2, d3] }
  | _ => none }
def LayoutTellsWrongFalsely : Prop := layoutTellsRow.holds Try.pinned (OpenSpec.ofChange layoutTellsWrong)

/-- 'splicerlaw13.LayoutOnce': WHATEVER THE INPUT: true; the input reads as it did. -/
def layoutOnceSpec : ChangeSpec := { name := "layoutOnce", fn := fun _ => fun
  | [d1, d2] => { results := [.lit (.bool true)], args := [d1, d2] }
  | _ => none }
def layoutOnceRow : OpenClaim := { program := "ytkgapcdnpcjcmaa", sum := "918c24ad4f0fb538d6fa112bf35e18fa28e772709b84c5c1ed81add0ef44836b", func := "splicer/splicerlaw13.LayoutOnce", spec := "layoutOnce", unfollowed := true, recurses := true, apart := false }
def LayoutOnceSaid : Prop := layoutOnceRow.holds Try.pinned (OpenSpec.ofChange layoutOnceSpec)

/-- ITS FALSE NEIGHBOUR: 'it returns false'. Refute it at one input. -/
def layoutOnceWrong : ChangeSpec := { name := "layoutOnce", fn := fun _ => fun
  | [d1, d2] => { results := [.lit (.bool false)], args := [d1, d2] }
  | _ => none }
def LayoutOnceWrongFalsely : Prop := layoutOnceRow.holds Try.pinned (OpenSpec.ofChange layoutOnceWrong)

/-- 'splicerlaw16.PvqCounts': WHATEVER THE INPUT: true; the input reads as it did. -/
def pvqCountsSpec : ChangeSpec := { name := "pvqCounts", fn := fun _ => fun
  | [d1, d2, d3] => { results := [.lit (.bool true)], args := [d1, d2, d3] }
  | _ => none }
def pvqCountsRow : OpenClaim := { program := "ytkgapcdnpcjcmaa", sum := "918c24ad4f0fb538d6fa112bf35e18fa28e772709b84c5c1ed81add0ef44836b", func := "splicer/splicerlaw16.PvqCounts", spec := "pvqCounts", apart := false }
def PvqCountsSaid : Prop := pvqCountsRow.holds Try.pinned (OpenSpec.ofChange pvqCountsSpec)

/-- ITS FALSE NEIGHBOUR: 'it returns false'. Refute it at one input. -/
def pvqCountsWrong : ChangeSpec := { name := "pvqCounts", fn := fun _ => fun
  | [d1, d2, d3] => { results := [.lit (.bool false)], args := [d1, d2, d3] }
  | _ => none }
def PvqCountsWrongFalsely : Prop := pvqCountsRow.holds Try.pinned (OpenSpec.ofChange pvqCountsWrong)

/-- 'splicerlaw16.PvqNumbers': WHATEVER THE INPUT: true; the input reads as it did. -/
def pvqNumbersSpec : ChangeSpec := { name := "pvqNumbers", fn := fun _ => fun
  | [d1, d2, d3, d4] => { results := [.lit (.bool true)], args := [d1, d2, d3, d4] }
  | _ => none }
def pvqNumbersRow : OpenClaim := { program := "ytkgapcdnpcjcmaa", sum := "918c24ad4f0fb538d6fa112bf35e18fa28e772709b84c5c1ed81add0ef44836b", func := "splicer/splicerlaw16.PvqNumbers", spec := "pvqNumbers", apart := false }
def PvqNumbersSaid : Prop := pvqNumbersRow.holds Try.pinned (OpenSpec.ofChange pvqNumbersSpec)

/-- ITS FALSE NEIGHBOUR: 'it returns false'. Refute it at one input. -/
def pvqNumbersWrong : ChangeSpec := { name := "pvqNumbers", fn := fun _ => fun
  | [d1, d2, d3, d4] => { results := [.lit (.bool false)], args := [d1, d2, d3, d4] }
  | _ => none }
def PvqNumbersWrongFalsely : Prop := pvqNumbersRow.holds Try.pinned (OpenSpec.ofChange pvqNumbersWrong)

/-- 'splicerlaw16.PvqBack': WHATEVER THE INPUT: true; the input reads as it did. -/
def pvqBackSpec : ChangeSpec := { name := "pvqBack", fn := fun _ => fun
  | [d1, d2, d3, d4] => { results := [.lit (.bool true)], args := [d1, d2, d3, d4] }
  | _ => none }
def pvqBackRow : OpenClaim := { program := "ytkgapcdnpcjcmaa", sum := "918c24ad4f0fb538d6fa112bf35e18fa28e772709b84c5c1ed81add0ef44836b", func := "splicer/splicerlaw16.PvqBack", spec := "pvqBack", apart := false }
def PvqBackSaid : Prop := pvqBackRow.holds Try.pinned (OpenSpec.ofChange pvqBackSpec)

/-- ITS FALSE NEIGHBOUR: 'it returns false'. Refute it at one input. -/
def pvqBackWrong : ChangeSpec := { name := "pvqBack", fn := fun _ => fun
  | [d1, d2, d3, d4] => { results := [.lit (.bool false)], args := [d1, d2, d3, d4] }
  | _ => none }
def PvqBackWrongFalsely : Prop := pvqBackRow.holds Try.pinned (OpenSpec.ofChange pvqBackWrong)

/-- 'splicerlaw16.PvqOrder': WHATEVER THE INPUT: true; the input reads as it did. -/
def pvqOrderSpec : ChangeSpec := { name := "pvqOrder", fn := fun _ => fun
  | [d1, d2, d3, d4] => { results := [.lit (.bool true)], args := [d1, d2, d3, d4] }
  | _ => none }
def pvqOrderRow : OpenClaim := { program := "ytkgapcdnpcjcmaa", sum := "918c24ad4f0fb538d6fa112bf35e18fa28e772709b84c5c1ed81add0ef44836b", func := "splicer/splicerlaw16.PvqOrder", spec := "pvqOrder", apart := false }
def PvqOrderSaid : Prop := pvqOrderRow.holds Try.pinned (OpenSpec.ofChange pvqOrderSpec)

/-- ITS FALSE NEIGHBOUR: 'it returns false'. Refute it at one input. -/
def pvqOrderWrong : ChangeSpec := { name := "pvqOrder", fn := fun _ => fun
  | [d1, d2, d3, d4] => { results := [.lit (.bool false)], args := [d1, d2, d3, d4] }
  | _ => none }
def PvqOrderWrongFalsely : Prop := pvqOrderRow.holds Try.pinned (OpenSpec.ofChange pvqOrderWrong)

/- THE SECOND FORM. 'bulk': how many values and letters a reading holds, each counted each time it is reached (what is shared counts as often as it is met; a slice's spare places count too). A statement '..UptoSaid' is the law's where the arguments, and the package variables that the reading takes, are together of bulk at most 1048576: NARROWER than '..Said'. Prove '..Said' where nothing that the law and all that it calls make is longer than what came in: it says more and counts as full. Else prove '..UptoSaid'. A law counts once. -/
mutual
def uptoBulk {H : Type} : DataW H → Nat
  | .lit (.string bytes) => bytes.length + 1
  | .lit _ => 1
  | .nil => 1
  | .ptr d => uptoBulk d + 1
  | .slice elems spare => uptoBulkAll elems + uptoBulkAll spare + 1
  | .agg parts => uptoBulkAll parts + 1
  | .iface _ d => uptoBulk d + 1
  | .map entries => uptoBulkEntries entries + 1
  | .held _ => 1
def uptoBulkAll {H : Type} : List (DataW H) → Nat
  | [] => 0
  | d :: r => uptoBulk d + uptoBulkAll r
def uptoBulkEntries {H : Type} : List (Lit × DataW H) → Nat
  | [] => 0
  | x :: r => uptoBulkEntry x + uptoBulkEntries r
def uptoBulkEntry {H : Type} : Lit × DataW H → Nat
  | (.string bytes, d) => bytes.length + uptoBulk d + 1
  | (_, d) => uptoBulk d + 1
 end
def uptoSmall : (H : Type) → List (DataW H) → Bool := fun _ ds => decide (uptoBulkAll ds ≤ 1048576)
def OpenSpec.upto (s : _root_.Go.ChangeSpec) : _root_.Go.OpenSpec := { _root_.Go.OpenSpec.ofChange s with cond := some uptoSmall }

/-- 'splicerlaw11.WindowLeaves', WHERE WHAT IT READS IS OF BULK AT MOST 1048576: true; the input reads as it did. -/
def windowLeavesUptoRow : OpenClaim := { program := "ytkgapcdnpcjcmaa", sum := "918c24ad4f0fb538d6fa112bf35e18fa28e772709b84c5c1ed81add0ef44836b", func := "splicer/splicerlaw11.WindowLeaves", spec := "windowLeaves", apart := false, narrowed := true }
def WindowLeavesUptoSaid : Prop := windowLeavesUptoRow.holds Try.pinned (OpenSpec.upto windowLeavesSpec)

/-- 'splicerlaw11.WindowMeets', WHERE WHAT IT READS IS OF BULK AT MOST 1048576: true; the input reads as it did. -/
def windowMeetsUptoRow : OpenClaim := { program := "ytkgapcdnpcjcmaa", sum := "918c24ad4f0fb538d6fa112bf35e18fa28e772709b84c5c1ed81add0ef44836b", func := "splicer/splicerlaw11.WindowMeets", spec := "windowMeets", apart := false, narrowed := true }
def WindowMeetsUptoSaid : Prop := windowMeetsUptoRow.holds Try.pinned (OpenSpec.upto windowMeetsSpec)

/-- 'splicerlaw13.LayoutTells', WHERE WHAT IT READS IS OF BULK AT MOST 1048576: true; the input reads as it did. -/
def layoutTellsUptoRow : OpenClaim := { program := "ytkgapcdnpcjcmaa", sum := "918c24ad4f0fb538d6fa112bf35e18fa28e772709b84c5c1ed81add0ef44836b", func := "splicer/splicerlaw13.LayoutTells", spec := "layoutTells", unfollowed := true, recurses := true, apart := false, narrowed := true }
def LayoutTellsUptoSaid : Prop := layoutTellsUptoRow.holds Try.pinned (OpenSpec.upto layoutTellsSpec)

/-- 'splicerlaw13.LayoutOnce', WHERE WHAT IT READS IS OF BULK AT MOST 1048576: true; the input reads as it did. -/
def layoutOnceUptoRow : OpenClaim := { program := "ytkgapcdnpcjcmaa", sum := "918c24ad4f0fb538d6fa112bf35e18fa28e772709b84c5c1ed81add0ef44836b", func := "splicer/splicerlaw13.LayoutOnce", spec := "layoutOnce", unfollowed := true, recurses := true, apart := false, narrowed := true }
def LayoutOnceUptoSaid : Prop := layoutOnceUptoRow.holds Try.pinned (OpenSpec.upto layoutOnceSpec)

/-- 'splicerlaw16.PvqCounts', WHERE WHAT IT READS IS OF BULK AT MOST 1048576: true; the input reads as it did. -/
def pvqCountsUptoRow : OpenClaim := { program := "ytkgapcdnpcjcmaa", sum := "918c24ad4f0fb538d6fa112bf35e18fa28e772709b84c5c1ed81add0ef44836b", func := "splicer/splicerlaw16.PvqCounts", spec := "pvqCounts", apart := false, narrowed := true }
def PvqCountsUptoSaid : Prop := pvqCountsUptoRow.holds Try.pinned (OpenSpec.upto pvqCountsSpec)

/-- 'splicerlaw16.PvqNumbers', WHERE WHAT IT READS IS OF BULK AT MOST 1048576: true; the input reads as it did. -/
def pvqNumbersUptoRow : OpenClaim := { program := "ytkgapcdnpcjcmaa", sum := "918c24ad4f0fb538d6fa112bf35e18fa28e772709b84c5c1ed81add0ef44836b", func := "splicer/splicerlaw16.PvqNumbers", spec := "pvqNumbers", apart := false, narrowed := true }
def PvqNumbersUptoSaid : Prop := pvqNumbersUptoRow.holds Try.pinned (OpenSpec.upto pvqNumbersSpec)

/-- 'splicerlaw16.PvqBack', WHERE WHAT IT READS IS OF BULK AT MOST 1048576: true; the input reads as it did. -/
def pvqBackUptoRow : OpenClaim := { program := "ytkgapcdnpcjcmaa", sum := "918c24ad4f0fb538d6fa112bf35e18fa28e772709b84c5c1ed81add0ef44836b", func := "splicer/splicerlaw16.PvqBack", spec := "pvqBack", apart := false, narrowed := true }
def PvqBackUptoSaid : Prop := pvqBackUptoRow.holds Try.pinned (OpenSpec.upto pvqBackSpec)

/-- 'splicerlaw16.PvqOrder', WHERE WHAT IT READS IS OF BULK AT MOST 1048576: true; the input reads as it did. -/
def pvqOrderUptoRow : OpenClaim := { program := "ytkgapcdnpcjcmaa", sum := "918c24ad4f0fb538d6fa112bf35e18fa28e772709b84c5c1ed81add0ef44836b", func := "splicer/splicerlaw16.PvqOrder", spec := "pvqOrder", apart := false, narrowed := true }
def PvqOrderUptoSaid : Prop := pvqOrderUptoRow.holds Try.pinned (OpenSpec.upto pvqOrderSpec)

end Rows
end Go.Proofs.Ytkgapcdnpcjcmaa
