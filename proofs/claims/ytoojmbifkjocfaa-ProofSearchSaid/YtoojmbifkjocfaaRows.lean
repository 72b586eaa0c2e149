/-
  No cell of these rows narrows 'for every input' (looked for: loops, veiled, ifaces, maps, wideKeys, modest, calm, conditions, laid).
  DERIVED. THE GIVEN ROWS OF THIS SEAT. 7 by the template 'for every input the law returns true; each argument reads behind the call as it read before'; 0 by the template 'total and deterministic' (their statements: YtoojmbifkjocfaaTotals.lean).
  GIVEN WITH THE SEED: the statements are not yours to turn. If you find one false, say at which input.
  Laid BY PROGRAM, IN A SANDBOX (cutbox-rows.mjs): the forced cells as the released guide's own fill.sh prints them over the translation d28dd256285360cb… (all of the seat's roots in one cut). By AI agents, Wed Nov 11 2026. No macro, syntax, notation, axiom, sorry.
-/
import Derived.Test.YtoojmbifkjocfaaChecked
import GoSem.Claim
import GoSem.ClaimJoined
import GoSem.ClaimMapViews
import Derived.JoinedTies
import Derived.KernelRfl
namespace Go.Proofs.Ytoojmbifkjocfaa
/- THE CELL 'sum', in the pinned program and in every row, IS THE sha256 OF THE DUMP (.gsa) THAT YtoojmbifkjocfaaProg.lean LOADS. Nothing in Lean hashes anything: it is a label: what it is worth is what the hold of that sum in a sandbox is worth. -/
noncomputable def Try.pinned : Pinned := { name := "ytoojmbifkjocfaa", sum := "d28dd256285360cbe1da1da5a103978c4cbb2826e9dceaca32190474c3c54c5c", checked := Try.checked }
namespace Rows
def none {H : Type} : Left H := { results := [], args := [] }

/-- 'erewhilelaw53.ProofChecks': WHATEVER THE INPUT: true; the input reads as it did. -/
def proofChecksSpec : ChangeSpec := { name := "proofChecks", fn := fun _ => fun
  | [d1, d2] => { results := [.lit (.bool true)], args := [d1, d2] }
  | _ => none }
def proofChecksRow : OpenClaim := { program := "ytoojmbifkjocfaa", sum := "d28dd256285360cbe1da1da5a103978c4cbb2826e9dceaca32190474c3c54c5c", func := "erewhile/erewhilelaw53.ProofChecks", spec := "proofChecks", apart := false }
def ProofChecksSaid : Prop := proofChecksRow.holds Try.pinned (OpenSpec.ofChange proofChecksSpec)

/-- ITS FALSE NEIGHBOUR: 'it returns false'. Refute it at one input. -/
def proofChecksWrong : ChangeSpec := { name := "proofChecks", fn := fun _ => fun
  | [d1, d2] => { results := [.lit (.bool false)], args := [d1, d2] }
  | _ => none }
def ProofChecksWrongFalsely : Prop := proofChecksRow.holds Try.pinned (OpenSpec.ofChange proofChecksWrong)

/-- 'erewhilelaw53.ProofMore': WHATEVER THE INPUT: true; the input reads as it did. -/
def proofMoreSpec : ChangeSpec := { name := "proofMore", fn := fun _ => fun
  | [d1, d2, d3] => { results := [.lit (.bool true)], args := [d1, d2, d3] }
  | _ => none }
def proofMoreRow : OpenClaim := { program := "ytoojmbifkjocfaa", sum := "d28dd256285360cbe1da1da5a103978c4cbb2826e9dceaca32190474c3c54c5c", func := "erewhile/erewhilelaw53.ProofMore", spec := "proofMore", apart := false }
def ProofMoreSaid : Prop := proofMoreRow.holds Try.pinned (OpenSpec.ofChange proofMoreSpec)

/-- ITS FALSE NEIGHBOUR: 'it returns false'. Refute it at one input. -/
def proofMoreWrong : ChangeSpec := { name := "proofMore", fn := fun _ => fun
  | [d1, d2, d3] => { results := [.lit (.bool false)], args := [d1, d2, d3] }
  | _ => none }
def ProofMoreWrongFalsely : Prop := proofMoreRow.holds Try.pinned (OpenSpec.ofChange proofMoreWrong)

/-- 'erewhilelaw53.ProofLies': WHATEVER THE INPUT: true; the input reads as it did. -/
def proofLiesSpec : ChangeSpec := { name := "proofLies", fn := fun _ => fun
  | [d1, d2, d3, d4] => { results := [.lit (.bool true)], args := [d1, d2, d3, d4] }
  | _ => none }
def proofLiesRow : OpenClaim := { program := "ytoojmbifkjocfaa", sum := "d28dd256285360cbe1da1da5a103978c4cbb2826e9dceaca32190474c3c54c5c", func := "erewhile/erewhilelaw53.ProofLies", spec := "proofLies", apart := false }
def ProofLiesSaid : Prop := proofLiesRow.holds Try.pinned (OpenSpec.ofChange proofLiesSpec)

/-- ITS FALSE NEIGHBOUR: 'it returns false'. Refute it at one input. -/
def proofLiesWrong : ChangeSpec := { name := "proofLies", fn := fun _ => fun
  | [d1, d2, d3, d4] => { results := [.lit (.bool false)], args := [d1, d2, d3, d4] }
  | _ => none }
def ProofLiesWrongFalsely : Prop := proofLiesRow.holds Try.pinned (OpenSpec.ofChange proofLiesWrong)

/-- 'erewhilelaw53.ProofTrue': WHATEVER THE INPUT: true; the input reads as it did. -/
def proofTrueSpec : ChangeSpec := { name := "proofTrue", fn := fun _ => fun
  | [d1, d2, d3] => { results := [.lit (.bool true)], args := [d1, d2, d3] }
  | _ => none }
def proofTrueRow : OpenClaim := { program := "ytoojmbifkjocfaa", sum := "d28dd256285360cbe1da1da5a103978c4cbb2826e9dceaca32190474c3c54c5c", func := "erewhile/erewhilelaw53.ProofTrue", spec := "proofTrue", unfollowed := true, recurses := true, apart := false }
def ProofTrueSaid : Prop := proofTrueRow.holds Try.pinned (OpenSpec.ofChange proofTrueSpec)

/-- ITS FALSE NEIGHBOUR: 'it returns false'. Refute it at one input. -/
def proofTrueWrong : ChangeSpec := { name := "proofTrue", fn := fun _ => fun
  | [d1, d2, d3] => { results := [.lit (.bool false)], args := [d1, d2, d3] }
  | _ => none }
def ProofTrueWrongFalsely : Prop := proofTrueRow.holds Try.pinned (OpenSpec.ofChange proofTrueWrong)

/-- 'erewhilelaw53.ProofAgain': WHATEVER THE INPUT: true; the input reads as it did. -/
def proofAgainSpec : ChangeSpec := { name := "proofAgain", fn := fun _ => fun
  | [d1, d2, d3] => { results := [.lit (.bool true)], args := [d1, d2, d3] }
  | _ => none }
def proofAgainRow : OpenClaim := { program := "ytoojmbifkjocfaa", sum := "d28dd256285360cbe1da1da5a103978c4cbb2826e9dceaca32190474c3c54c5c", func := "erewhile/erewhilelaw53.ProofAgain", spec := "proofAgain", unfollowed := true, recurses := true, apart := false }
def ProofAgainSaid : Prop := proofAgainRow.holds Try.pinned (OpenSpec.ofChange proofAgainSpec)

/-- ITS FALSE NEIGHBOUR: 'it returns false'. Refute it at one input. -/
def proofAgainWrong : ChangeSpec := { name := "proofAgain", fn := fun _ => fun
  | [d1, d2, d3] => { results := [.lit (.bool false)], args := [d1, d2, d3] }
  | _ => none }
def ProofAgainWrongFalsely : Prop := proofAgainRow.holds Try.pinned (OpenSpec.ofChange proofAgainWrong)

/-- 'erewhilelaw53.ProofBytes': WHATEVER THE INPUT: true; the input reads as it did. -/
def proofBytesSpec : ChangeSpec := { name := "proofBytes", fn := fun _ => fun
  | [d1, d2, d3] => { results := [.lit (.bool true)], args := [d1, d2, d3] }
  | _ => none }
def proofBytesRow : OpenClaim := { program := "ytoojmbifkjocfaa", sum := "d28dd256285360cbe1da1da5a103978c4cbb2826e9dceaca32190474c3c54c5c", func := "erewhile/erewhilelaw53.ProofBytes", spec := "proofBytes", unfollowed := true, recurses := true, apart := false }
def ProofBytesSaid : Prop := proofBytesRow.holds Try.pinned (OpenSpec.ofChange proofBytesSpec)

/-- ITS FALSE NEIGHBOUR: 'it returns false'. Refute it at one input. -/
def proofBytesWrong : ChangeSpec := { name := "proofBytes", fn := fun _ => fun
  | [d1, d2, d3] => { results := [.lit (.bool false)], args := [d1, d2, d3] }
  | _ => none }
def ProofBytesWrongFalsely : Prop := proofBytesRow.holds Try.pinned (OpenSpec.ofChange proofBytesWrong)

/-- 'erewhilelaw53.ProofSearch': WHATEVER THE INPUT: true; the input reads as it did. -/
def proofSearchSpec : ChangeSpec := { name := "proofSearch", fn := fun _ => fun
  | [d1, d2, d3] => { results := [.lit (.bool true)], args := [d1, d2, d3] }
  | _ => none }
def proofSearchRow : OpenClaim := { program := "ytoojmbifkjocfaa", sum := "d28dd256285360cbe1da1da5a103978c4cbb2826e9dceaca32190474c3c54c5c", func := "erewhile/erewhilelaw53.ProofSearch", spec := "proofSearch", unfollowed := true, recurses := true, apart := false }
def ProofSearchSaid : Prop := proofSearchRow.holds Try.pinned (OpenSpec.ofChange proofSearchSpec)

/-- ITS FALSE NEIGHBOUR: 'it returns false'. Refute it at one input. -/
def proofSearchWrong : ChangeSpec := { name := "proofSearch", fn := fun _ => fun
  | [d1, d2, d3] => { results := [.lit (.bool false)], args := [d1, d2, d3] }
  | _ => none }
def ProofSearchWrongFalsely : Prop := proofSearchRow.holds Try.pinned (OpenSpec.ofChange proofSearchWrong)

/- THE SECOND FORM. 'bulk': how many values and letters a reading holds, each counted each time it is reached (what is shared counts as often as it is met; a slice's spare places count too). A statement '..UptoSaid' is the law's where the arguments, and the package variables that the reading takes, are together of bulk at most 1048576: NARROWER than '..Said'. Prove '..Said' where nothing that the law and all that it calls make is longer than what came in: it says more and counts as full. Else prove '..UptoSaid'. A law counts once. -/
mutual
def uptoBulk {H : Type} : DataW H → Nat
  | .lit (.string bytes) => bytes.length + 1
  | .lit _ => 1
  | .nil => 1
  | .ptr d => uptoBulk d + 1
  | .slice elems spare => uptoBulkAll elems + uptoBulkAll spare + 1
  | .agg parts => uptoBulkAll parts + 1
  | .iface _ d => uptoBulk d + 1
  | .map entries => uptoBulkEntries entries + 1
  | .held _ => 1
def uptoBulkAll {H : Type} : List (DataW H) → Nat
  | [] => 0
  | d :: r => uptoBulk d + uptoBulkAll r
def uptoBulkEntries {H : Type} : List (Lit × DataW H) → Nat
  | [] => 0
  | x :: r => uptoBulkEntry x + uptoBulkEntries r
def uptoBulkEntry {H : Type} : Lit × DataW H → Nat
  | (.string bytes, d) => bytes.length + uptoBulk d + 1
  | (_, d) => uptoBulk d + 1
 end
def uptoSmall : (H : Type) → List (DataW H) → Bool := fun _ ds => decide (uptoBulkAll ds ≤ 1048576)
def OpenSpec.upto (s : _root_.Go.ChangeSpec) : _root_.Go.OpenSpec := { _root_.Go.OpenSpec.ofChange s with cond := some uptoSmall }

/-- 'erewhilelaw53.ProofChecks', WHERE WHAT IT READS IS OF BULK AT MOST 1048576: true; the input reads as it did. -/
def proofChecksUptoRow : OpenClaim := { program := "ytoojmbifkjocfaa", sum := "d28dd256285360cbe1da1da5a103978c4cbb2826e9dceaca32190474c3c54c5c", func := "erewhile/erewhilelaw53.ProofChecks", spec := "proofChecks", apart := false, narrowed := true }
def ProofChecksUptoSaid : Prop := proofChecksUptoRow.holds Try.pinned (OpenSpec.upto proofChecksSpec)

/-- 'erewhilelaw53.ProofMore', WHERE WHAT IT READS IS OF BULK AT MOST 1048576: true; the input reads as it did. -/
def proofMoreUptoRow : OpenClaim := { program := "ytoojmbifkjocfaa", sum := "d28dd256285360cbe1da1da5a103978c4cbb2826e9dceaca32190474c3c54c5c", func := "erewhile/erewhilelaw53.ProofMore", spec := "proofMore", apart := false, narrowed := true }
def ProofMoreUptoSaid : Prop := proofMoreUptoRow.holds Try.pinned (OpenSpec.upto proofMoreSpec)

/-- 'erewhilelaw53.ProofLies', WHERE WHAT IT READS IS OF BULK AT MOST 1048576: true; the input reads as it did. -/
def proofLiesUptoRow : OpenClaim := { program := "ytoojmbifkjocfaa", sum := "d28dd256285360cbe1da1da5a103978c4cbb2826e9dceaca32190474c3c54c5c", func := "erewhile/erewhilelaw53.ProofLies", spec := "proofLies", apart := false, narrowed := true }
def ProofLiesUptoSaid : Prop := proofLiesUptoRow.holds Try.pinned (OpenSpec.upto proofLiesSpec)

/-- 'erewhilelaw53.ProofTrue', WHERE WHAT IT READS IS OF BULK AT MOST 1048576: true; the input reads as it did. -/
def proofTrueUptoRow : OpenClaim := { program := "ytoojmbifkjocfaa", sum := "d28dd256285360cbe1da1da5a103978c4cbb2826e9dceaca32190474c3c54c5c", func := "erewhile/erewhilelaw53.ProofTrue", spec := "proofTrue", unfollowed := true, recurses := true, apart := false, narrowed := true }
def ProofTrueUptoSaid : Prop := proofTrueUptoRow.holds Try.pinned (OpenSpec.upto proofTrueSpec)

/-- 'erewhilelaw53.ProofAgain', WHERE WHAT IT READS IS OF BULK AT MOST 1048576: true; the input reads as it did. -/
def proofAgainUptoRow : OpenClaim := { program := "ytoojmbifkjocfaa", sum := "d28dd256285360cbe1da1da5a103978c4cbb2826e9dceaca32190474c3c54c5c", func := "erewhile/erewhilelaw53.ProofAgain", spec := "proofAgain", unfollowed := true, recurses := true, apart := false, narrowed := true }
def ProofAgainUptoSaid : Prop := proofAgainUptoRow.holds Try.pinned (OpenSpec.upto proofAgainSpec)

/-- 'erewhilelaw53.ProofBytes', WHERE WHAT IT READS IS OF BULK AT MOST 1048576: true; the input reads as it did. -/
def proofBytesUptoRow : OpenClaim := { program := "ytoojmbifkjocfaa", sum := "d28dd256285360cbe1da1da5a103978c4cbb2826e9dceaca32190474c3c54c5c", func := "erewhile/erewhilelaw53.ProofBytes", spec := "proofBytes", unfollowed := true, recurses := true, apart := false, narrowed := true }
def ProofBytesUptoSaid : Prop := proofBytesUptoRow.holds Try.pinned (OpenSpec.upto proofBytesSpec)

/-- 'erewhilelaw53.ProofSearch', WHERE WHAT IT READS IS OF BULK AT MOST 1048576: true; the input reads as it did. -/
def proofSearchUptoRow : OpenClaim := { program := "ytoojmbifkjocfaa", sum := "d28dd256285360cbe1da1da5a103978c4cbb2826e9dceaca32190474c3c54c5c", func := "erewhile/erewhilelaw53.ProofSearch", spec := "proofSearch", unfollowed := true, recurses := true, apart := false, narrowed := true }
def ProofSearchUptoSaid : Prop := proofSearchUptoRow.holds Try.pinned (OpenSpec.upto proofSearchSpec)

end Rows
end Go.Proofs.Ytoojmbifkjocfaa
