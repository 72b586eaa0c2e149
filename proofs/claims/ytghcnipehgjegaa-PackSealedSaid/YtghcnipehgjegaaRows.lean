/-
  No cell of these rows narrows 'for every input' (looked for: loops, veiled, ifaces, maps, wideKeys, modest, calm, conditions, laid).
  DERIVED. THE GIVEN ROWS OF THIS SEAT. 6 by the template 'for every input the law returns true; each argument reads behind the call as it read before'; 0 by the template 'total and deterministic' (their statements: YtghcnipehgjegaaTotals.lean).
  GIVEN WITH THE SEED: the statements are not yours to turn. If you find one false, say at which input.
  Laid BY PROGRAM, IN A SANDBOX (cutbox-rows.mjs): the forced cells as the released guide's own fill.sh prints them over the translation c9777c423d1c71f4… (all of the seat's roots in one cut). By AI agents, Wed Nov 11 2026. No macro, syntax, notation, axiom, sorry.
-/
import Derived.Test.YtghcnipehgjegaaChecked
import GoSem.Claim
import GoSem.ClaimJoined
import GoSem.ClaimMapViews
import Derived.JoinedTies
import Derived.KernelRfl
namespace Go.Proofs.Ytghcnipehgjegaa
/- THE CELL 'sum', in the pinned program and in every row, IS THE sha256 OF THE DUMP (.gsa) THAT YtghcnipehgjegaaProg.lean LOADS. Nothing in Lean hashes anything: it is a label: what it is worth is what the hold of that sum in a sandbox is worth. -/
noncomputable def Try.pinned : Pinned := { name := "ytghcnipehgjegaa", sum := "c9777c423d1c71f4905e9cd78c5dfd73ff1ff0590421090a836ca268468528a2", checked := Try.checked }
namespace Rows
def none {H : Type} : Left H := { results := [], args := [] }

/-- 'erewhilelaw13.PackParts': WHATEVER THE INPUT: true; the input reads as it did. -/
def packPartsSpec : ChangeSpec := { name := "packParts", fn := fun _ => fun
  | [d1, d2] => { results := [.lit (.bool true)], args := [d1, d2] }
  | _ => none }
def packPartsRow : OpenClaim := { program := "ytghcnipehgjegaa", sum := "c9777c423d1c71f4905e9cd78c5dfd73ff1ff0590421090a836ca268468528a2", func := "erewhile/erewhilelaw13.PackParts", spec := "packParts", unfollowed := true, recurses := true, apart := false }
def PackPartsSaid : Prop := packPartsRow.holds Try.pinned (OpenSpec.ofChange packPartsSpec)

/-- ITS FALSE NEIGHBOUR: 'it returns false'. Refute it at one input. -/
def packPartsWrong : ChangeSpec := { name := "packParts", fn := fun _ => fun
  | [d1, d2] => { results := [.lit (.bool false)], args := [d1, d2] }
  | _ => none }
def PackPartsWrongFalsely : Prop := packPartsRow.holds Try.pinned (OpenSpec.ofChange packPartsWrong)

/-- 'erewhilelaw13.PackFills': WHATEVER THE INPUT: true; the input reads as it did. -/
def packFillsSpec : ChangeSpec := { name := "packFills", fn := fun _ => fun
  | [d1, d2] => { results := [.lit (.bool true)], args := [d1, d2] }
  | _ => none }
def packFillsRow : OpenClaim := { program := "ytghcnipehgjegaa", sum := "c9777c423d1c71f4905e9cd78c5dfd73ff1ff0590421090a836ca268468528a2", func := "erewhile/erewhilelaw13.PackFills", spec := "packFills", unfollowed := true, recurses := true, apart := false }
def PackFillsSaid : Prop := packFillsRow.holds Try.pinned (OpenSpec.ofChange packFillsSpec)

/-- ITS FALSE NEIGHBOUR: 'it returns false'. Refute it at one input. -/
def packFillsWrong : ChangeSpec := { name := "packFills", fn := fun _ => fun
  | [d1, d2] => { results := [.lit (.bool false)], args := [d1, d2] }
  | _ => none }
def PackFillsWrongFalsely : Prop := packFillsRow.holds Try.pinned (OpenSpec.ofChange packFillsWrong)

/-- 'erewhilelaw13.PackOpens': WHATEVER THE INPUT: true; the input reads as it did. -/
def packOpensSpec : ChangeSpec := { name := "packOpens", fn := fun _ => fun
  | [d] => { results := [.lit (.bool true)], args := [d] }
  | _ => none }
def packOpensRow : OpenClaim := { program := "ytghcnipehgjegaa", sum := "c9777c423d1c71f4905e9cd78c5dfd73ff1ff0590421090a836ca268468528a2", func := "erewhile/erewhilelaw13.PackOpens", spec := "packOpens", unfollowed := true, recurses := true, apart := false }
def PackOpensSaid : Prop := packOpensRow.holds Try.pinned (OpenSpec.ofChange packOpensSpec)

/-- ITS FALSE NEIGHBOUR: 'it returns false'. Refute it at one input. -/
def packOpensWrong : ChangeSpec := { name := "packOpens", fn := fun _ => fun
  | [d] => { results := [.lit (.bool false)], args := [d] }
  | _ => none }
def PackOpensWrongFalsely : Prop := packOpensRow.holds Try.pinned (OpenSpec.ofChange packOpensWrong)

/-- 'erewhilelaw13.PackCuts': WHATEVER THE INPUT: true; the input reads as it did. -/
def packCutsSpec : ChangeSpec := { name := "packCuts", fn := fun _ => fun
  | [d1, d2, d3] => { results := [.lit (.bool true)], args := [d1, d2, d3] }
  | _ => none }
def packCutsRow : OpenClaim := { program := "ytghcnipehgjegaa", sum := "c9777c423d1c71f4905e9cd78c5dfd73ff1ff0590421090a836ca268468528a2", func := "erewhile/erewhilelaw13.PackCuts", spec := "packCuts", unfollowed := true, recurses := true, apart := false }
def PackCutsSaid : Prop := packCutsRow.holds Try.pinned (OpenSpec.ofChange packCutsSpec)

/-- ITS FALSE NEIGHBOUR: 'it returns false'. Refute it at one input. -/
def packCutsWrong : ChangeSpec := { name := "packCuts", fn := fun _ => fun
  | [d1, d2, d3] => { results := [.lit (.bool false)], args := [d1, d2, d3] }
  | _ => none }
def PackCutsWrongFalsely : Prop := packCutsRow.holds Try.pinned (OpenSpec.ofChange packCutsWrong)

/-- 'erewhilelaw13.PackAgain': WHATEVER THE INPUT: true; the input reads as it did. -/
def packAgainSpec : ChangeSpec := { name := "packAgain", fn := fun _ => fun
  | [d] => { results := [.lit (.bool true)], args := [d] }
  | _ => none }
def packAgainRow : OpenClaim := { program := "ytghcnipehgjegaa", sum := "c9777c423d1c71f4905e9cd78c5dfd73ff1ff0590421090a836ca268468528a2", func := "erewhile/erewhilelaw13.PackAgain", spec := "packAgain", unfollowed := true, recurses := true, apart := false }
def PackAgainSaid : Prop := packAgainRow.holds Try.pinned (OpenSpec.ofChange packAgainSpec)

/-- ITS FALSE NEIGHBOUR: 'it returns false'. Refute it at one input. -/
def packAgainWrong : ChangeSpec := { name := "packAgain", fn := fun _ => fun
  | [d] => { results := [.lit (.bool false)], args := [d] }
  | _ => none }
def PackAgainWrongFalsely : Prop := packAgainRow.holds Try.pinned (OpenSpec.ofChange packAgainWrong)

/-- 'erewhilelaw13.PackSealed': WHATEVER THE INPUT: true; the input reads as it did. -/
def packSealedSpec : ChangeSpec := { name := "packSealed", fn := fun _ => fun
  | [d1, d2, d3] => { results := [.lit (.bool true)], args := [d1, d2, d3] }
  | _ => none }
def packSealedRow : OpenClaim := { program := "ytghcnipehgjegaa", sum := "c9777c423d1c71f4905e9cd78c5dfd73ff1ff0590421090a836ca268468528a2", func := "erewhile/erewhilelaw13.PackSealed", spec := "packSealed", unfollowed := true, recurses := true, apart := false }
def PackSealedSaid : Prop := packSealedRow.holds Try.pinned (OpenSpec.ofChange packSealedSpec)

/-- ITS FALSE NEIGHBOUR: 'it returns false'. Refute it at one input. -/
def packSealedWrong : ChangeSpec := { name := "packSealed", fn := fun _ => fun
  | [d1, d2, d3] => { results := [.lit (.bool false)], args := [d1, d2, d3] }
  | _ => none }
def PackSealedWrongFalsely : Prop := packSealedRow.holds Try.pinned (OpenSpec.ofChange packSealedWrong)

/- THE SECOND FORM. 'bulk': how many values and letters a reading holds, each counted each time it is reached (what is shared counts as often as it is met; a slice's spare places count too). A statement '..UptoSaid' is the law's where the arguments, and the package variables that the reading takes, are together of bulk at most 1048576: NARROWER than '..Said'. Prove '..Said' where nothing that the law and all that it calls make is longer than what came in: it says more and counts as full. Else prove '..UptoSaid'. A law counts once. -/
mutual
def uptoBulk {H : Type} : DataW H → Nat
  | .lit (.string bytes) => bytes.length + 1
  | .lit _ => 1
  | .nil => 1
  | .ptr d => uptoBulk d + 1
  | .slice elems spare => uptoBulkAll elems + uptoBulkAll spare + 1
  | .agg parts => uptoBulkAll parts + 1
  | .iface _ d => uptoBulk d + 1
  | .map entries => uptoBulkEntries entries + 1
  | .held _ => 1
def uptoBulkAll {H : Type} : List (DataW H) → Nat
  | [] => 0
  | d :: r => uptoBulk d + uptoBulkAll r
def uptoBulkEntries {H : Type} : List (Lit × DataW H) → Nat
  | [] => 0
  | x :: r => uptoBulkEntry x + uptoBulkEntries r
def uptoBulkEntry {H : Type} : Lit × DataW H → Nat
  | (.string bytes, d) => bytes.length + uptoBulk d + 1
  | (_, d) => uptoBulk d + 1
 end
def uptoSmall : (H : Type) → List (DataW H) → Bool := fun _ ds => decide (uptoBulkAll ds ≤ 1048576)
def OpenSpec.upto (s : _root_.Go.ChangeSpec) : _root_.Go.OpenSpec := { _root_.Go.OpenSpec.ofChange s with cond := some uptoSmall }

/-- 'erewhilelaw13.PackParts', WHERE WHAT IT READS IS OF BULK AT MOST 1048576: true; the input reads as it did. -/
def packPartsUptoRow : OpenClaim := { program := "ytghcnipehgjegaa", sum := "c9777c423d1c71f4905e9cd78c5dfd73ff1ff0590421090a836ca268468528a2", func := "erewhile/erewhilelaw13.PackParts", spec := "packParts", unfollowed := true, recurses := true, apart := false, narrowed := true }
def PackPartsUptoSaid : Prop := packPartsUptoRow.holds Try.pinned (OpenSpec.upto packPartsSpec)

/-- 'erewhilelaw13.PackFills', WHERE WHAT IT READS IS OF BULK AT MOST 1048576: true; the input reads as it did. -/
def packFillsUptoRow : OpenClaim := { program := "ytghcnipehgjegaa", sum := "c9777c423d1c71f4905e9cd78c5dfd73ff1ff0590421090a836ca268468528a2", func := "erewhile/erewhilelaw13.PackFills", spec := "packFills", unfollowed := true, recurses := true, apart := false, narrowed := true }
def PackFillsUptoSaid : Prop := packFillsUptoRow.holds Try.pinned (OpenSpec.upto packFillsSpec)

/-- 'erewhilelaw13.PackOpens', WHERE WHAT IT READS IS OF BULK AT MOST 1048576: true; the input reads as it did. -/
def packOpensUptoRow : OpenClaim := { program := "ytghcnipehgjegaa", sum := "c9777c423d1c71f4905e9cd78c5dfd73ff1ff0590421090a836ca268468528a2", func := "erewhile/erewhilelaw13.PackOpens", spec := "packOpens", unfollowed := true, recurses := true, apart := false, narrowed := true }
def PackOpensUptoSaid : Prop := packOpensUptoRow.holds Try.pinned (OpenSpec.upto packOpensSpec)

/-- 'erewhilelaw13.PackCuts', WHERE WHAT IT READS IS OF BULK AT MOST 1048576: true; the input reads as it did. -/
def packCutsUptoRow : OpenClaim := { program := "ytghcnipehgjegaa", sum := "c9777c423d1c71f4905e9cd78c5dfd73ff1ff0590421090a836ca268468528a2", func := "erewhile/erewhilelaw13.PackCuts", spec := "packCuts", unfollowed := true, recurses := true, apart := false, narrowed := true }
def PackCutsUptoSaid : Prop := packCutsUptoRow.holds Try.pinned (OpenSpec.upto packCutsSpec)

/-- 'erewhilelaw13.PackAgain', WHERE WHAT IT READS IS OF BULK AT MOST 1048576: true; the input reads as it did. -/
def packAgainUptoRow : OpenClaim := { program := "ytghcnipehgjegaa", sum := "c9777c423d1c71f4905e9cd78c5dfd73ff1ff0590421090a836ca268468528a2", func := "erewhile/erewhilelaw13.PackAgain", spec := "packAgain", unfollowed := true, recurses := true, apart := false, narrowed := true }
def PackAgainUptoSaid : Prop := packAgainUptoRow.holds Try.pinned (OpenSpec.upto packAgainSpec)

/-- 'erewhilelaw13.PackSealed', WHERE WHAT IT READS IS OF BULK AT MOST 1048576: true; the input reads as it did. -/
def packSealedUptoRow : OpenClaim := { program := "ytghcnipehgjegaa", sum := "c9777c423d1c71f4905e9cd78c5dfd73ff1ff0590421090a836ca268468528a2", func := "erewhile/erewhilelaw13.PackSealed", spec := "packSealed", unfollowed := true, recurses := true, apart := false, narrowed := true }
def PackSealedUptoSaid : Prop := packSealedUptoRow.holds Try.pinned (OpenSpec.upto packSealedSpec)

end Rows
end Go.Proofs.Ytghcnipehgjegaa
