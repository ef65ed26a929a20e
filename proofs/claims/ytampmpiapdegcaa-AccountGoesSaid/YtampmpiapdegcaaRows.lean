/-
  No cell of these rows narrows 'for every input' (looked for: loops, veiled, ifaces, maps, wideKeys, modest, calm, conditions, laid).
  DERIVED. THE GIVEN ROWS OF THIS SEAT. 8 by the template 'for every input the law returns true; each argument reads behind the call as it read before'; 0 by the template 'total and deterministic' (their statements: YtampmpiapdegcaaTotals.lean).
  GIVEN WITH THE SEED: the statements are not yours to turn. If you find one false, say at which input.
  Laid BY PROGRAM, IN A SANDBOX (cutbox-rows.mjs): the forced cells as the released guide's own fill.sh prints them over the translation fd51829f52dbe906… (all of the seat's roots in one cut). By AI agents, Wed Nov 11 2026. No macro, syntax, notation, axiom, sorry.
-/
import Derived.Test.YtampmpiapdegcaaChecked
import GoSem.Claim
import GoSem.ClaimJoined
import GoSem.ClaimMapViews
import Derived.JoinedTies
import Derived.KernelRfl
namespace Go.Proofs.Ytampmpiapdegcaa
/- THE CELL 'sum', in the pinned program and in every row, IS THE sha256 OF THE DUMP (.gsa) THAT YtampmpiapdegcaaProg.lean LOADS. Nothing in Lean hashes anything: it is a label: what it is worth is what the hold of that sum in a sandbox is worth. -/
noncomputable def Try.pinned : Pinned := { name := "ytampmpiapdegcaa", sum := "fd51829f52dbe906c4d716cfefdb0917542a29a51c008739dc54e3d9f754752a", checked := Try.checked }
namespace Rows
def none {H : Type} : Left H := { results := [], args := [] }

/-- 'splicerlaw28.AccountGoes': WHATEVER THE INPUT: true; the input reads as it did. -/
def accountGoesSpec : ChangeSpec := { name := "accountGoes", fn := fun _ => fun
  | [d] => { results := [.lit (.bool true)], args := [d] }
  | _ => none }
def accountGoesRow : OpenClaim := { program := "ytampmpiapdegcaa", sum := "fd51829f52dbe906c4d716cfefdb0917542a29a51c008739dc54e3d9f754752a", func := "splicer/splicerlaw28.AccountGoes", spec := "accountGoes", unfollowed := true, recurses := true, apart := false }
def AccountGoesSaid : Prop := accountGoesRow.holds Try.pinned (OpenSpec.ofChange accountGoesSpec)

/-- ITS FALSE NEIGHBOUR: 'it returns false'. Refute it at one input. -/
def accountGoesWrong : ChangeSpec := { name := "accountGoes", fn := fun _ => fun
  | [d] => { results := [.lit (.bool false)], args := [d] }
  | _ => none }
def AccountGoesWrongFalsely : Prop := accountGoesRow.holds Try.pinned (OpenSpec.ofChange accountGoesWrong)

/-- 'splicerlaw20.FrameTells': WHATEVER THE INPUT: true; the input reads as it did. -/
def frameTellsSpec : ChangeSpec := { name := "frameTells", fn := fun _ => fun
  | [d1, d2, d3, d4] => { results := [.lit (.bool true)], args := [d1, d2, d3, d4] }
  | _ => none }
def frameTellsRow : OpenClaim := { program := "ytampmpiapdegcaa", sum := "fd51829f52dbe906c4d716cfefdb0917542a29a51c008739dc54e3d9f754752a", func := "splicer/splicerlaw20.FrameTells", spec := "frameTells", unfollowed := true, recurses := true, apart := false }
def FrameTellsSaid : Prop := frameTellsRow.holds Try.pinned (OpenSpec.ofChange frameTellsSpec)

/-- ITS FALSE NEIGHBOUR: 'it returns false'. Refute it at one input. -/
def frameTellsWrong : ChangeSpec := { name := "frameTells", fn := fun _ => fun
  | [d1, d2, d3, d4] => { results := [.lit (.bool false)], args := [d1, d2, d3, d4] }
  | _ => none }
def FrameTellsWrongFalsely : Prop := frameTellsRow.holds Try.pinned (OpenSpec.ofChange frameTellsWrong)

/-- 'splicerlaw20.FrameCopies': WHATEVER THE INPUT: true; the input reads as it did. -/
def frameCopiesSpec : ChangeSpec := { name := "frameCopies", fn := fun _ => fun
  | [d1, d2, d3] => { results := [.lit (.bool true)], args := [d1, d2, d3] }
  | _ => none }
def frameCopiesRow : OpenClaim := { program := "ytampmpiapdegcaa", sum := "fd51829f52dbe906c4d716cfefdb0917542a29a51c008739dc54e3d9f754752a", func := "splicer/splicerlaw20.FrameCopies", spec := "frameCopies", unfollowed := true, recurses := true, apart := false }
def FrameCopiesSaid : Prop := frameCopiesRow.holds Try.pinned (OpenSpec.ofChange frameCopiesSpec)

/-- ITS FALSE NEIGHBOUR: 'it returns false'. Refute it at one input. -/
def frameCopiesWrong : ChangeSpec := { name := "frameCopies", fn := fun _ => fun
  | [d1, d2, d3] => { results := [.lit (.bool false)], args := [d1, d2, d3] }
  | _ => none }
def FrameCopiesWrongFalsely : Prop := frameCopiesRow.holds Try.pinned (OpenSpec.ofChange frameCopiesWrong)

/-- 'splicerlaw28.AccountTells': WHATEVER THE INPUT: true; the input reads as it did. -/
def accountTellsSpec : ChangeSpec := { name := "accountTells", fn := fun _ => fun
  | [d1, d2, d3] => { results := [.lit (.bool true)], args := [d1, d2, d3] }
  | _ => none }
def accountTellsRow : OpenClaim := { program := "ytampmpiapdegcaa", sum := "fd51829f52dbe906c4d716cfefdb0917542a29a51c008739dc54e3d9f754752a", func := "splicer/splicerlaw28.AccountTells", spec := "accountTells", unfollowed := true, recurses := true, apart := false }
def AccountTellsSaid : Prop := accountTellsRow.holds Try.pinned (OpenSpec.ofChange accountTellsSpec)

/-- ITS FALSE NEIGHBOUR: 'it returns false'. Refute it at one input. -/
def accountTellsWrong : ChangeSpec := { name := "accountTells", fn := fun _ => fun
  | [d1, d2, d3] => { results := [.lit (.bool false)], args := [d1, d2, d3] }
  | _ => none }
def AccountTellsWrongFalsely : Prop := accountTellsRow.holds Try.pinned (OpenSpec.ofChange accountTellsWrong)

/-- 'splicerlaw21.SpecTells': WHATEVER THE INPUT: true; the input reads as it did. -/
def specTellsSpec : ChangeSpec := { name := "specTells", fn := fun _ => fun
  | [d1, d2] => { results := [.lit (.bool true)], args := [d1, d2] }
  | _ => none }
def specTellsRow : OpenClaim := { program := "ytampmpiapdegcaa", sum := "fd51829f52dbe906c4d716cfefdb0917542a29a51c008739dc54e3d9f754752a", func := "splicer/splicerlaw21.SpecTells", spec := "specTells", unfollowed := true, recurses := true, apart := false }
def SpecTellsSaid : Prop := specTellsRow.holds Try.pinned (OpenSpec.ofChange specTellsSpec)

/-- ITS FALSE NEIGHBOUR: 'it returns false'. Refute it at one input. -/
def specTellsWrong : ChangeSpec := { name := "specTells", fn := fun _ => fun
  | [d1, d2] => { results := [.lit (.bool false)], args := [d1, d2] }
  | _ => none }
def SpecTellsWrongFalsely : Prop := specTellsRow.holds Try.pinned (OpenSpec.ofChange specTellsWrong)

/-- 'splicerlaw21.SpecFits': WHATEVER THE INPUT: true; the input reads as it did. -/
def specFitsSpec : ChangeSpec := { name := "specFits", fn := fun _ => fun
  | [d1, d2] => { results := [.lit (.bool true)], args := [d1, d2] }
  | _ => none }
def specFitsRow : OpenClaim := { program := "ytampmpiapdegcaa", sum := "fd51829f52dbe906c4d716cfefdb0917542a29a51c008739dc54e3d9f754752a", func := "splicer/splicerlaw21.SpecFits", spec := "specFits", unfollowed := true, recurses := true, apart := false }
def SpecFitsSaid : Prop := specFitsRow.holds Try.pinned (OpenSpec.ofChange specFitsSpec)

/-- ITS FALSE NEIGHBOUR: 'it returns false'. Refute it at one input. -/
def specFitsWrong : ChangeSpec := { name := "specFits", fn := fun _ => fun
  | [d1, d2] => { results := [.lit (.bool false)], args := [d1, d2] }
  | _ => none }
def SpecFitsWrongFalsely : Prop := specFitsRow.holds Try.pinned (OpenSpec.ofChange specFitsWrong)

/-- 'splicerlaw18.SearchFinds': WHATEVER THE INPUT: true; the input reads as it did. -/
def searchFindsSpec : ChangeSpec := { name := "searchFinds", fn := fun _ => fun
  | [d1, d2] => { results := [.lit (.bool true)], args := [d1, d2] }
  | _ => none }
def searchFindsRow : OpenClaim := { program := "ytampmpiapdegcaa", sum := "fd51829f52dbe906c4d716cfefdb0917542a29a51c008739dc54e3d9f754752a", func := "splicer/splicerlaw18.SearchFinds", spec := "searchFinds", unfollowed := true, recurses := true, apart := false }
def SearchFindsSaid : Prop := searchFindsRow.holds Try.pinned (OpenSpec.ofChange searchFindsSpec)

/-- ITS FALSE NEIGHBOUR: 'it returns false'. Refute it at one input. -/
def searchFindsWrong : ChangeSpec := { name := "searchFinds", fn := fun _ => fun
  | [d1, d2] => { results := [.lit (.bool false)], args := [d1, d2] }
  | _ => none }
def SearchFindsWrongFalsely : Prop := searchFindsRow.holds Try.pinned (OpenSpec.ofChange searchFindsWrong)

/-- 'splicerlaw18.SearchShares': WHATEVER THE INPUT: true; the input reads as it did. -/
def searchSharesSpec : ChangeSpec := { name := "searchShares", fn := fun _ => fun
  | [d1, d2] => { results := [.lit (.bool true)], args := [d1, d2] }
  | _ => none }
def searchSharesRow : OpenClaim := { program := "ytampmpiapdegcaa", sum := "fd51829f52dbe906c4d716cfefdb0917542a29a51c008739dc54e3d9f754752a", func := "splicer/splicerlaw18.SearchShares", spec := "searchShares", unfollowed := true, recurses := true, apart := false }
def SearchSharesSaid : Prop := searchSharesRow.holds Try.pinned (OpenSpec.ofChange searchSharesSpec)

/-- ITS FALSE NEIGHBOUR: 'it returns false'. Refute it at one input. -/
def searchSharesWrong : ChangeSpec := { name := "searchShares", fn := fun _ => fun
  | [d1, d2] => { results := [.lit (.bool false)], args := [d1, d2] }
  | _ => none }
def SearchSharesWrongFalsely : Prop := searchSharesRow.holds Try.pinned (OpenSpec.ofChange searchSharesWrong)

/- THE SECOND FORM. 'bulk': how many values and letters a reading holds, each counted each time it is reached (what is shared counts as often as it is met; a slice's spare places count too). A statement '..UptoSaid' is the law's where the arguments, and the package variables that the reading takes, are together of bulk at most 1048576: NARROWER than '..Said'. Prove '..Said' where nothing that the law and all that it calls make is longer than what came in: it says more and counts as full. Else prove '..UptoSaid'. A law counts once. -/
mutual
def uptoBulk {H : Type} : DataW H → Nat
  | .lit (.string bytes) => bytes.length + 1
  | .lit _ => 1
  | .nil => 1
  | .ptr d => uptoBulk d + 1
  | .slice elems spare => uptoBulkAll elems + uptoBulkAll spare + 1
  | .agg parts => uptoBulkAll parts + 1
  | .iface _ d => uptoBulk d + 1
  | .map entries => uptoBulkEntries entries + 1
  | .held _ => 1
def uptoBulkAll {H : Type} : List (DataW H) → Nat
  | [] => 0
  | d :: r => uptoBulk d + uptoBulkAll r
def uptoBulkEntries {H : Type} : List (Lit × DataW H) → Nat
  | [] => 0
  | x :: r => uptoBulkEntry x + uptoBulkEntries r
def uptoBulkEntry {H : Type} : Lit × DataW H → Nat
  | (.string bytes, d) => bytes.length + uptoBulk d + 1
  | (_, d) => uptoBulk d + 1
 end
def uptoSmall : (H : Type) → List (DataW H) → Bool := fun _ ds => decide (uptoBulkAll ds ≤ 1048576)
def OpenSpec.upto (s : _root_.Go.ChangeSpec) : _root_.Go.OpenSpec := { _root_.Go.OpenSpec.ofChange s with cond := some uptoSmall }

/-- 'splicerlaw28.AccountGoes', WHERE WHAT IT READS IS OF BULK AT MOST 1048576: true; the input reads as it did. -/
def accountGoesUptoRow : OpenClaim := { program := "ytampmpiapdegcaa", sum := "fd51829f52dbe906c4d716cfefdb0917542a29a51c008739dc54e3d9f754752a", func := "splicer/splicerlaw28.AccountGoes", spec := "accountGoes", unfollowed := true, recurses := true, apart := false, narrowed := true }
def AccountGoesUptoSaid : Prop := accountGoesUptoRow.holds Try.pinned (OpenSpec.upto accountGoesSpec)

/-- 'splicerlaw20.FrameTells', WHERE WHAT IT READS IS OF BULK AT MOST 1048576: true; the input reads as it did. -/
def frameTellsUptoRow : OpenClaim := { program := "ytampmpiapdegcaa", sum := "fd51829f52dbe906c4d716cfefdb0917542a29a51c008739dc54e3d9f754752a", func := "splicer/splicerlaw20.FrameTells", spec := "frameTells", unfollowed := true, recurses := true, apart := false, narrowed := true }
def FrameTellsUptoSaid : Prop := frameTellsUptoRow.holds Try.pinned (OpenSpec.upto frameTellsSpec)

/-- 'splicerlaw20.FrameCopies', WHERE WHAT IT READS IS OF BULK AT MOST 1048576: true; the input reads as it did. -/
def frameCopiesUptoRow : OpenClaim := { program := "ytampmpiapdegcaa", sum := "fd51829f52dbe906c4d716cfefdb0917542a29a51c008739dc54e3d9f754752a", func := "splicer/splicerlaw20.FrameCopies", spec := "frameCopies", unfollowed := true, recurses := true, apart := false, narrowed := true }
def FrameCopiesUptoSaid : Prop := frameCopiesUptoRow.holds Try.pinned (OpenSpec.upto frameCopiesSpec)

/-- 'splicerlaw28.AccountTells', WHERE WHAT IT READS IS OF BULK AT MOST 1048576: true; the input reads as it did. -/
def accountTellsUptoRow : OpenClaim := { program := "ytampmpiapdegcaa", sum := "fd51829f52dbe906c4d716cfefdb0917542a29a51c008739dc54e3d9f754752a", func := "splicer/splicerlaw28.AccountTells", spec := "accountTells", unfollowed := true, recurses := true, apart := false, narrowed := true }
def AccountTellsUptoSaid : Prop := accountTellsUptoRow.holds Try.pinned (OpenSpec.upto accountTellsSpec)

/-- 'splicerlaw21.SpecTells', WHERE WHAT IT READS IS OF BULK AT MOST 1048576: true; the input reads as it did. -/
def specTellsUptoRow : OpenClaim := { program := "ytampmpiapdegcaa", sum := "fd51829f52dbe906c4d716cfefdb0917542a29a51c008739dc54e3d9f754752a", func := "splicer/splicerlaw21.SpecTells", spec := "specTells", unfollowed := true, recurses := true, apart := false, narrowed := true }
def SpecTellsUptoSaid : Prop := specTellsUptoRow.holds Try.pinned (OpenSpec.upto specTellsSpec)

/-- 'splicerlaw21.SpecFits', WHERE WHAT IT READS IS OF BULK AT MOST 1048576: true; the input reads as it did. -/
def specFitsUptoRow : OpenClaim := { program := "ytampmpiapdegcaa", sum := "fd51829f52dbe906c4d716cfefdb0917542a29a51c008739dc54e3d9f754752a", func := "splicer/splicerlaw21.SpecFits", spec := "specFits", unfollowed := true, recurses := true, apart := false, narrowed := true }
def SpecFitsUptoSaid : Prop := specFitsUptoRow.holds Try.pinned (OpenSpec.upto specFitsSpec)

/-- 'splicerlaw18.SearchFinds', WHERE WHAT IT READS IS OF BULK AT MOST 1048576: true; the input reads as it did. -/
def searchFindsUptoRow : OpenClaim := { program := "ytampmpiapdegcaa", sum := "fd51829f52dbe906c4d716cfefdb0917542a29a51c008739dc54e3d9f754752a", func := "splicer/splicerlaw18.SearchFinds", spec := "searchFinds", unfollowed := true, recurses := true, apart := false, narrowed := true }
def SearchFindsUptoSaid : Prop := searchFindsUptoRow.holds Try.pinned (OpenSpec.upto searchFindsSpec)

/-- 'splicerlaw18.SearchShares', WHERE WHAT IT READS IS OF BULK AT MOST 1048576: true; the input reads as it did. -/
def searchSharesUptoRow : OpenClaim := { program := "ytampmpiapdegcaa", sum := "fd51829f52dbe906c4d716cfefdb0917542a29a51c008739dc54e3d9f754752a", func := "splicer/splicerlaw18.SearchShares", spec := "searchShares", unfollowed := true, recurses := true, apart := false, narrowed := true }
def SearchSharesUptoSaid : Prop := searchSharesUptoRow.holds Try.pinned (OpenSpec.upto searchSharesSpec)

end Rows
end Go.Proofs.Ytampmpiapdegcaa
