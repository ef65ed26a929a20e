/-
  No cell of these rows narrows 'for every input' (looked for: loops, veiled, ifaces, maps, wideKeys, modest, calm, conditions, laid).
  DERIVED. THE GIVEN ROWS OF THIS SEAT. 8 by the template 'for every input the law returns true; each argument reads behind the call as it read before'; 0 by the template 'total and deterministic' (their statements: YtniabjhjpkkllaaTotals.lean).
  GIVEN WITH THE SEED: the statements are not yours to turn. If you find one false, say at which input.
  Laid BY PROGRAM, IN A SANDBOX (cutbox-rows.mjs): the forced cells as the released guide's own fill.sh prints them over the translation 0bc37369e996ccfd… (all of the seat's roots in one cut). By AI agents, Wed Nov 11 2026. No macro, syntax, notation, axiom, sorry.
-/
import Derived.Test.YtniabjhjpkkllaaChecked
import GoSem.Claim
import GoSem.ClaimJoined
import GoSem.ClaimMapViews
import Derived.JoinedTies
import Derived.KernelRfl
namespace Go.Proofs.Ytniabjhjpkkllaa
/- THE CELL 'sum', in the pinned program and in every row, IS THE sha256 OF THE DUMP (.gsa) THAT YtniabjhjpkkllaaProg.lean LOADS. Nothing in Lean hashes anything: it is a label: what it is worth is what the hold of that sum in a sandbox is worth. -/
noncomputable def Try.pinned : Pinned := { name := "ytniabjhjpkkllaa", sum := "0bc37369e996ccfd5cacb0894410b824dbd9d62ac5dab5de5ee701effee75107", checked := Try.checked }
namespace Rows
def none {H : Type} : Left H := { results := [], args := [] }

/-- 'splicerlaw10.DctBack': WHATEVER THE INPUT: true; the input reads as it did. -/
def dctBackSpec : ChangeSpec := { name := "dctBack", fn := fun _ => fun
  | [d] => { results := [.lit (.bool true)], args := [d] }
  | _ => none }
def dctBackRow : OpenClaim := { program := "ytniabjhjpkkllaa", sum := "0bc37369e996ccfd5cacb0894410b824dbd9d62ac5dab5de5ee701effee75107", func := "splicer/splicerlaw10.DctBack", spec := "dctBack", unfollowed := true, recurses := true, apart := false }
def DctBackSaid : Prop := dctBackRow.holds Try.pinned (OpenSpec.ofChange dctBackSpec)

/-- ITS FALSE NEIGHBOUR: 'it returns false'. Refute it at one input. -/
def dctBackWrong : ChangeSpec := { name := "dctBack", fn := fun _ => fun
  | [d] => { results := [.lit (.bool false)], args := [d] }
  | _ => none }
def DctBackWrongFalsely : Prop := dctBackRow.holds Try.pinned (OpenSpec.ofChange dctBackWrong)

/-- 'splicerlaw10.DctSums': WHATEVER THE INPUT: true; the input reads as it did. -/
def dctSumsSpec : ChangeSpec := { name := "dctSums", fn := fun _ => fun
  | [d1, d2] => { results := [.lit (.bool true)], args := [d1, d2] }
  | _ => none }
def dctSumsRow : OpenClaim := { program := "ytniabjhjpkkllaa", sum := "0bc37369e996ccfd5cacb0894410b824dbd9d62ac5dab5de5ee701effee75107", func := "splicer/splicerlaw10.DctSums", spec := "dctSums", unfollowed := true, recurses := true, apart := false }
def DctSumsSaid : Prop := dctSumsRow.holds Try.pinned (OpenSpec.ofChange dctSumsSpec)

/-- ITS FALSE NEIGHBOUR: 'it returns false'. Refute it at one input. -/
def dctSumsWrong : ChangeSpec := { name := "dctSums", fn := fun _ => fun
  | [d1, d2] => { results := [.lit (.bool false)], args := [d1, d2] }
  | _ => none }
def DctSumsWrongFalsely : Prop := dctSumsRow.holds Try.pinned (OpenSpec.ofChange dctSumsWrong)

/-- 'splicerlaw09.FftTells': WHATEVER THE INPUT: true; the input reads as it did. -/
def fftTellsSpec : ChangeSpec := { name := "fftTells", fn := fun _ => fun
  | [d1, d2] => { results := [.lit (.bool true)], args := [d1, d2] }
  | _ => none }
def fftTellsRow : OpenClaim := { program := "ytniabjhjpkkllaa", sum := "0bc37369e996ccfd5cacb0894410b824dbd9d62ac5dab5de5ee701effee75107", func := "splicer/splicerlaw09.FftTells", spec := "fftTells", recurses := true, apart := false }
def FftTellsSaid : Prop := fftTellsRow.holds Try.pinned (OpenSpec.ofChange fftTellsSpec)

/-- ITS FALSE NEIGHBOUR: 'it returns false'. Refute it at one input. -/
def fftTellsWrong : ChangeSpec := { name := "fftTells", fn := fun _ => fun
  | [d1, d2] => { results := [.lit (.bool false)], args := [d1, d2] }
  | _ => none }
def FftTellsWrongFalsely : Prop := fftTellsRow.holds Try.pinned (OpenSpec.ofChange fftTellsWrong)

/-- 'splicerlaw09.FftNear': WHATEVER THE INPUT: true; the input reads as it did. -/
def fftNearSpec : ChangeSpec := { name := "fftNear", fn := fun _ => fun
  | [d1, d2] => { results := [.lit (.bool true)], args := [d1, d2] }
  | _ => none }
def fftNearRow : OpenClaim := { program := "ytniabjhjpkkllaa", sum := "0bc37369e996ccfd5cacb0894410b824dbd9d62ac5dab5de5ee701effee75107", func := "splicer/splicerlaw09.FftNear", spec := "fftNear", apart := false }
def FftNearSaid : Prop := fftNearRow.holds Try.pinned (OpenSpec.ofChange fftNearSpec)

/-- ITS FALSE NEIGHBOUR: 'it returns false'. Refute it at one input. -/
def fftNearWrong : ChangeSpec := { name := "fftNear", fn := fun _ => fun
  | [d1, d2] => { results := [.lit (.bool false)], args := [d1, d2] }
  | _ => none }
def FftNearWrongFalsely : Prop := fftNearRow.holds Try.pinned (OpenSpec.ofChange fftNearWrong)

/-- 'splicerlaw17.ShapeTells': WHATEVER THE INPUT: true; the input reads as it did. -/
def shapeTellsSpec : ChangeSpec := { name := "shapeTells", fn := fun _ => fun
  | [d1, d2, d3, d4] => { results := [.lit (.bool true)], args := [d1, d2, d3, d4] }
  | _ => none }
def shapeTellsRow : OpenClaim := { program := "ytniabjhjpkkllaa", sum := "0bc37369e996ccfd5cacb0894410b824dbd9d62ac5dab5de5ee701effee75107", func := "splicer/splicerlaw17.ShapeTells", spec := "shapeTells", apart := false }
def ShapeTellsSaid : Prop := shapeTellsRow.holds Try.pinned (OpenSpec.ofChange shapeTellsSpec)

/-- ITS FALSE NEIGHBOUR: 'it returns false'. Refute it at one input. -/
def shapeTellsWrong : ChangeSpec := { name := "shapeTells", fn := fun _ => fun
  | [d1, d2, d3, d4] => { results := [.lit (.bool false)], args := [d1, d2, d3, d4] }
  | _ => none }
def ShapeTellsWrongFalsely : Prop := shapeTellsRow.holds Try.pinned (OpenSpec.ofChange shapeTellsWrong)

/-- 'splicerlaw17.ShapeLoud': WHATEVER THE INPUT: true; the input reads as it did. -/
def shapeLoudSpec : ChangeSpec := { name := "shapeLoud", fn := fun _ => fun
  | [d1, d2, d3] => { results := [.lit (.bool true)], args := [d1, d2, d3] }
  | _ => none }
def shapeLoudRow : OpenClaim := { program := "ytniabjhjpkkllaa", sum := "0bc37369e996ccfd5cacb0894410b824dbd9d62ac5dab5de5ee701effee75107", func := "splicer/splicerlaw17.ShapeLoud", spec := "shapeLoud", apart := false }
def ShapeLoudSaid : Prop := shapeLoudRow.holds Try.pinned (OpenSpec.ofChange shapeLoudSpec)

/-- ITS FALSE NEIGHBOUR: 'it returns false'. Refute it at one input. -/
def shapeLoudWrong : ChangeSpec := { name := "shapeLoud", fn := fun _ => fun
  | [d1, d2, d3] => { results := [.lit (.bool false)], args := [d1, d2, d3] }
  | _ => none }
def ShapeLoudWrongFalsely : Prop := shapeLoudRow.holds Try.pinned (OpenSpec.ofChange shapeLoudWrong)

/-- 'splicerlaw12.LapNear': WHATEVER THE INPUT: true; the input reads as it did. -/
def lapNearSpec : ChangeSpec := { name := "lapNear", fn := fun _ => fun
  | [d1, d2, d3, d4] => { results := [.lit (.bool true)], args := [d1, d2, d3, d4] }
  | _ => none }
def lapNearRow : OpenClaim := { program := "ytniabjhjpkkllaa", sum := "0bc37369e996ccfd5cacb0894410b824dbd9d62ac5dab5de5ee701effee75107", func := "splicer/splicerlaw12.LapNear", spec := "lapNear", unfollowed := true, recurses := true, apart := false }
def LapNearSaid : Prop := lapNearRow.holds Try.pinned (OpenSpec.ofChange lapNearSpec)

/-- ITS FALSE NEIGHBOUR: 'it returns false'. Refute it at one input. -/
def lapNearWrong : ChangeSpec := { name := "lapNear", fn := fun _ => fun
  | [d1, d2, d3, d4] => { results := [.lit (.bool false)], args := [d1, d2, d3, d4] }
  | _ => none }
def LapNearWrongFalsely : Prop := lapNearRow.holds Try.pinned (OpenSpec.ofChange lapNearWrong)

/-- 'splicerlaw10.DctTells': WHATEVER THE INPUT: true; the input reads as it did. -/
def dctTellsSpec : ChangeSpec := { name := "dctTells", fn := fun _ => fun
  | [d] => { results := [.lit (.bool true)], args := [d] }
  | _ => none }
def dctTellsRow : OpenClaim := { program := "ytniabjhjpkkllaa", sum := "0bc37369e996ccfd5cacb0894410b824dbd9d62ac5dab5de5ee701effee75107", func := "splicer/splicerlaw10.DctTells", spec := "dctTells", unfollowed := true, recurses := true, apart := false }
def DctTellsSaid : Prop := dctTellsRow.holds Try.pinned (OpenSpec.ofChange dctTellsSpec)

/-- ITS FALSE NEIGHBOUR: 'it returns false'. Refute it at one input. -/
def dctTellsWrong : ChangeSpec := { name := "dctTells", fn := fun _ => fun
  | [d] => { results := [.lit (.bool false)], args := [d] }
  | _ => none }
def DctTellsWrongFalsely : Prop := dctTellsRow.holds Try.pinned (OpenSpec.ofChange dctTellsWrong)

/- THE SECOND FORM. 'bulk': how many values and letters a reading holds, each counted each time it is reached (what is shared counts as often as it is met; a slice's spare places count too). A statement '..UptoSaid' is the law's where the arguments, and the package variables that the reading takes, are together of bulk at most 1048576: NARROWER than '..Said'. Prove '..Said' where nothing that the law and all that it calls make is longer than what came in: it says more and counts as full. Else prove '..UptoSaid'. A law counts once. -/
mutual
def uptoBulk {H : Type} : DataW H → Nat
  | .lit (.string bytes) => bytes.length + 1
  | .lit _ => 1
  | .nil => 1
  | .ptr d => uptoBulk d + 1
  | .slice elems spare => uptoBulkAll elems + uptoBulkAll spare + 1
  | .agg parts => uptoBulkAll parts + 1
  | .iface _ d => uptoBulk d + 1
  | .map entries => uptoBulkEntries entries + 1
  | .held _ => 1
def uptoBulkAll {H : Type} : List (DataW H) → Nat
  | [] => 0
  | d :: r => uptoBulk d + uptoBulkAll r
def uptoBulkEntries {H : Type} : List (Lit × DataW H) → Nat
  | [] => 0
  | x :: r => uptoBulkEntry x + uptoBulkEntries r
def uptoBulkEntry {H : Type} : Lit × DataW H → Nat
  | (.string bytes, d) => bytes.length + uptoBulk d + 1
  | (_, d) => uptoBulk d + 1
 end
def uptoSmall : (H : Type) → List (DataW H) → Bool := fun _ ds => decide (uptoBulkAll ds ≤ 1048576)
def OpenSpec.upto (s : _root_.Go.ChangeSpec) : _root_.Go.OpenSpec := { _root_.Go.OpenSpec.ofChange s with cond := some uptoSmall }

/-- 'splicerlaw10.DctBack', WHERE WHAT IT READS IS OF BULK AT MOST 1048576: true; the input reads as it did. -/
def dctBackUptoRow : OpenClaim := { program := "ytniabjhjpkkllaa", sum := "0bc37369e996ccfd5cacb0894410b824dbd9d62ac5dab5de5ee701effee75107", func := "splicer/splicerlaw10.DctBack", spec := "dctBack", unfollowed := true, recurses := true, apart := false, narrowed := true }
def DctBackUptoSaid : Prop := dctBackUptoRow.holds Try.pinned (OpenSpec.upto dctBackSpec)

/-- 'splicerlaw10.DctSums', WHERE WHAT IT READS IS OF BULK AT MOST 1048576: true; the input reads as it did. -/
def dctSumsUptoRow : OpenClaim := { program := "ytniabjhjpkkllaa", sum := "0bc37369e996ccfd5cacb0894410b824dbd9d62ac5dab5de5ee701effee75107", func := "splicer/splicerlaw10.DctSums", spec := "dctSums", unfollowed := true, recurses := true, apart := false, narrowed := true }
def DctSumsUptoSaid : Prop := dctSumsUptoRow.holds Try.pinned (OpenSpec.upto dctSumsSpec)

/-- 'splicerlaw09.FftTells', WHERE WHAT IT READS IS OF BULK AT MOST 1048576: true; the input reads as it did. -/
def fftTellsUptoRow : OpenClaim := { program := "ytniabjhjpkkllaa", sum := "0bc37369e996ccfd5cacb0894410b824dbd9d62ac5dab5de5ee701effee75107", func := "splicer/splicerlaw09.FftTells", spec := "fftTells", recurses := true, apart := false, narrowed := true }
def FftTellsUptoSaid : Prop := fftTellsUptoRow.holds Try.pinned (OpenSpec.upto fftTellsSpec)

/-- 'splicerlaw09.FftNear', WHERE WHAT IT READS IS OF BULK AT MOST 1048576: true; the input reads as it did. -/
def fftNearUptoRow : OpenClaim := { program := "ytniabjhjpkkllaa", sum := "0bc37369e996ccfd5cacb0894410b824dbd9d62ac5dab5de5ee701effee75107", func := "splicer/splicerlaw09.FftNear", spec := "fftNear", apart := false, narrowed := true }
def FftNearUptoSaid : Prop := fftNearUptoRow.holds Try.pinned (OpenSpec.upto fftNearSpec)

/-- 'splicerlaw17.ShapeTells', WHERE WHAT IT READS IS OF BULK AT MOST 1048576: true; the input reads as it did. -/
def shapeTellsUptoRow : OpenClaim := { program := "ytniabjhjpkkllaa", sum := "0bc37369e996ccfd5cacb0894410b824dbd9d62ac5dab5de5ee701effee75107", func := "splicer/splicerlaw17.ShapeTells", spec := "shapeTells", apart := false, narrowed := true }
def ShapeTellsUptoSaid : Prop := shapeTellsUptoRow.holds Try.pinned (OpenSpec.upto shapeTellsSpec)

/-- 'splicerlaw17.ShapeLoud', WHERE WHAT IT READS IS OF BULK AT MOST 1048576: true; the input reads as it did. -/
def shapeLoudUptoRow : OpenClaim := { program := "ytniabjhjpkkllaa", sum := "0bc37369e996ccfd5cacb0894410b824dbd9d62ac5dab5de5ee701effee75107", func := "splicer/splicerlaw17.ShapeLoud", spec := "shapeLoud", apart := false, narrowed := true }
def ShapeLoudUptoSaid : Prop := shapeLoudUptoRow.holds Try.pinned (OpenSpec.upto shapeLoudSpec)

/-- 'splicerlaw12.LapNear', WHERE WHAT IT READS IS OF BULK AT MOST 1048576: true; the input reads as it did. -/
def lapNearUptoRow : OpenClaim := { program := "ytniabjhjpkkllaa", sum := "0bc37369e996ccfd5cacb0894410b824dbd9d62ac5dab5de5ee701effee75107", func := "splicer/splicerlaw12.LapNear", spec := "lapNear", unfollowed := true, recurses := true, apart := false, narrowed := true }
def LapNearUptoSaid : Prop := lapNearUptoRow.holds Try.pinned (OpenSpec.upto lapNearSpec)

/-- 'splicerlaw10.DctTells', WHERE WHAT IT READS IS OF BULK AT MOST 1048576: true; the input reads as it did. -/
def dctTellsUptoRow : OpenClaim := { program := "ytniabjhjpkkllaa", sum := "0bc37369e996ccfd5cacb0894410b824dbd9d62ac5dab5de5ee701effee75107", func := "splicer/splicerlaw10.DctTells", spec := "dctTells", unfollowed := true, recurses := true, apart := false, narrowed := true }
def DctTellsUptoSaid : Prop := dctTellsUptoRow.holds Try.pinned (OpenSpec.upto dctTellsSpec)

end Rows
end Go.Proofs.Ytniabjhjpkkllaa
