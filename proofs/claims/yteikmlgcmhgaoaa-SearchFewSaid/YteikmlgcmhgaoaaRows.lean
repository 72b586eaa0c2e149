/-
  No cell of these rows narrows 'for every input' (looked for: loops, veiled, ifaces, maps, wideKeys, modest, calm, conditions, laid).
  DERIVED. THE GIVEN ROWS OF THIS SEAT. 8 by the template 'for every input the law returns true; each argument reads behind the call as it read before'; 0 by the template 'total and deterministic' (their statements: YteikmlgcmhgaoaaTotals.lean).
  GIVEN WITH THE SEED: the statements are not yours to turn. If you find one false, say at which input.
  Laid BY PROGRAM, IN A SANDBOX (cutbox-rows.mjs): the forced cells as the released guide's own fill.sh prints them over the translation 7773be7a63b94140… (all of the seat's roots in one cut). By AI agents, Wed Nov 11 2026. No macro, syntax, notation, axiom, sorry.
-/
import Derived.Test.YteikmlgcmhgaoaaChecked
import GoSem.Claim
import GoSem.ClaimJoined
import GoSem.ClaimMapViews
import Derived.JoinedTies
import Derived.KernelRfl
namespace Go.Proofs.Yteikmlgcmhgaoaa
/- THE CELL 'sum', in the pinned program and in every row, IS THE sha256 OF THE DUMP (.gsa) THAT YteikmlgcmhgaoaaProg.lean LOADS. Nothing in Lean hashes anything: it is a label: what it is worth is what the hold of that sum in a sandbox is worth. -/
noncomputable def Try.pinned : Pinned := { name := "yteikmlgcmhgaoaa", sum := "7773be7a63b94140ec3b089c52ce3924cfc8e4308e9a785f9acec0a1f80e40cb", checked := Try.checked }
namespace Rows
def none {H : Type} : Left H := { results := [], args := [] }

/-- 'erewhilelaw52.SearchLast': WHATEVER THE INPUT: true; the input reads as it did. -/
def searchLastSpec : ChangeSpec := { name := "searchLast", fn := fun _ => fun
  | [d1, d2] => { results := [.lit (.bool true)], args := [d1, d2] }
  | _ => none }
def searchLastRow : OpenClaim := { program := "yteikmlgcmhgaoaa", sum := "7773be7a63b94140ec3b089c52ce3924cfc8e4308e9a785f9acec0a1f80e40cb", func := "erewhile/erewhilelaw52.SearchLast", spec := "searchLast", unfollowed := true, recurses := true, apart := false }
def SearchLastSaid : Prop := searchLastRow.holds Try.pinned (OpenSpec.ofChange searchLastSpec)

/-- ITS FALSE NEIGHBOUR: 'it returns false'. Refute it at one input. -/
def searchLastWrong : ChangeSpec := { name := "searchLast", fn := fun _ => fun
  | [d1, d2] => { results := [.lit (.bool false)], args := [d1, d2] }
  | _ => none }
def SearchLastWrongFalsely : Prop := searchLastRow.holds Try.pinned (OpenSpec.ofChange searchLastWrong)

/-- 'erewhilelaw52.SearchFew': WHATEVER THE INPUT: true; the input reads as it did. -/
def searchFewSpec : ChangeSpec := { name := "searchFew", fn := fun _ => fun
  | [d1, d2] => { results := [.lit (.bool true)], args := [d1, d2] }
  | _ => none }
def searchFewRow : OpenClaim := { program := "yteikmlgcmhgaoaa", sum := "7773be7a63b94140ec3b089c52ce3924cfc8e4308e9a785f9acec0a1f80e40cb", func := "erewhile/erewhilelaw52.SearchFew", spec := "searchFew", unfollowed := true, recurses := true, apart := false }
def SearchFewSaid : Prop := searchFewRow.holds Try.pinned (OpenSpec.ofChange searchFewSpec)

/-- ITS FALSE NEIGHBOUR: 'it returns false'. Refute it at one input. -/
def searchFewWrong : ChangeSpec := { name := "searchFew", fn := fun _ => fun
  | [d1, d2] => { results := [.lit (.bool false)], args := [d1, d2] }
  | _ => none }
def SearchFewWrongFalsely : Prop := searchFewRow.holds Try.pinned (OpenSpec.ofChange searchFewWrong)

/-- 'erewhilelaw52.SearchEdge': WHATEVER THE INPUT: true; the input reads as it did. -/
def searchEdgeSpec : ChangeSpec := { name := "searchEdge", fn := fun _ => fun
  | [d1, d2] => { results := [.lit (.bool true)], args := [d1, d2] }
  | _ => none }
def searchEdgeRow : OpenClaim := { program := "yteikmlgcmhgaoaa", sum := "7773be7a63b94140ec3b089c52ce3924cfc8e4308e9a785f9acec0a1f80e40cb", func := "erewhile/erewhilelaw52.SearchEdge", spec := "searchEdge", unfollowed := true, recurses := true, apart := false }
def SearchEdgeSaid : Prop := searchEdgeRow.holds Try.pinned (OpenSpec.ofChange searchEdgeSpec)

/-- ITS FALSE NEIGHBOUR: 'it returns false'. Refute it at one input. -/
def searchEdgeWrong : ChangeSpec := { name := "searchEdge", fn := fun _ => fun
  | [d1, d2] => { results := [.lit (.bool false)], args := [d1, d2] }
  | _ => none }
def SearchEdgeWrongFalsely : Prop := searchEdgeRow.holds Try.pinned (OpenSpec.ofChange searchEdgeWrong)

/-- 'erewhilelaw52.SearchEach': WHATEVER THE INPUT: true; the input reads as it did. -/
def searchEachSpec : ChangeSpec := { name := "searchEach", fn := fun _ => fun
  | [d1, d2] => { results := [.lit (.bool true)], args := [d1, d2] }
  | _ => none }
def searchEachRow : OpenClaim := { program := "yteikmlgcmhgaoaa", sum := "7773be7a63b94140ec3b089c52ce3924cfc8e4308e9a785f9acec0a1f80e40cb", func := "erewhile/erewhilelaw52.SearchEach", spec := "searchEach", unfollowed := true, recurses := true, apart := false }
def SearchEachSaid : Prop := searchEachRow.holds Try.pinned (OpenSpec.ofChange searchEachSpec)

/-- ITS FALSE NEIGHBOUR: 'it returns false'. Refute it at one input. -/
def searchEachWrong : ChangeSpec := { name := "searchEach", fn := fun _ => fun
  | [d1, d2] => { results := [.lit (.bool false)], args := [d1, d2] }
  | _ => none }
def SearchEachWrongFalsely : Prop := searchEachRow.holds Try.pinned (OpenSpec.ofChange searchEachWrong)

/-- 'erewhilelaw52.SearchStays': WHATEVER THE INPUT: true; the input reads as it did. -/
def searchStaysSpec : ChangeSpec := { name := "searchStays", fn := fun _ => fun
  | [d1, d2] => { results := [.lit (.bool true)], args := [d1, d2] }
  | _ => none }
def searchStaysRow : OpenClaim := { program := "yteikmlgcmhgaoaa", sum := "7773be7a63b94140ec3b089c52ce3924cfc8e4308e9a785f9acec0a1f80e40cb", func := "erewhile/erewhilelaw52.SearchStays", spec := "searchStays", unfollowed := true, recurses := true, apart := false }
def SearchStaysSaid : Prop := searchStaysRow.holds Try.pinned (OpenSpec.ofChange searchStaysSpec)

/-- ITS FALSE NEIGHBOUR: 'it returns false'. Refute it at one input. -/
def searchStaysWrong : ChangeSpec := { name := "searchStays", fn := fun _ => fun
  | [d1, d2] => { results := [.lit (.bool false)], args := [d1, d2] }
  | _ => none }
def SearchStaysWrongFalsely : Prop := searchStaysRow.holds Try.pinned (OpenSpec.ofChange searchStaysWrong)

/-- 'erewhilelaw52.SearchNone': WHATEVER THE INPUT: true; the input reads as it did. -/
def searchNoneSpec : ChangeSpec := { name := "searchNone", fn := fun _ => fun
  | [d] => { results := [.lit (.bool true)], args := [d] }
  | _ => none }
def searchNoneRow : OpenClaim := { program := "yteikmlgcmhgaoaa", sum := "7773be7a63b94140ec3b089c52ce3924cfc8e4308e9a785f9acec0a1f80e40cb", func := "erewhile/erewhilelaw52.SearchNone", spec := "searchNone", unfollowed := true, recurses := true, apart := false }
def SearchNoneSaid : Prop := searchNoneRow.holds Try.pinned (OpenSpec.ofChange searchNoneSpec)

/-- ITS FALSE NEIGHBOUR: 'it returns false'. Refute it at one input. -/
def searchNoneWrong : ChangeSpec := { name := "searchNone", fn := fun _ => fun
  | [d] => { results := [.lit (.bool false)], args := [d] }
  | _ => none }
def SearchNoneWrongFalsely : Prop := searchNoneRow.holds Try.pinned (OpenSpec.ofChange searchNoneWrong)

/-- 'erewhilelaw52.SearchMore': WHATEVER THE INPUT: true; the input reads as it did. -/
def searchMoreSpec : ChangeSpec := { name := "searchMore", fn := fun _ => fun
  | [d1, d2, d3] => { results := [.lit (.bool true)], args := [d1, d2, d3] }
  | _ => none }
def searchMoreRow : OpenClaim := { program := "yteikmlgcmhgaoaa", sum := "7773be7a63b94140ec3b089c52ce3924cfc8e4308e9a785f9acec0a1f80e40cb", func := "erewhile/erewhilelaw52.SearchMore", spec := "searchMore", unfollowed := true, recurses := true, apart := false }
def SearchMoreSaid : Prop := searchMoreRow.holds Try.pinned (OpenSpec.ofChange searchMoreSpec)

/-- ITS FALSE NEIGHBOUR: 'it returns false'. Refute it at one input. -/
def searchMoreWrong : ChangeSpec := { name := "searchMore", fn := fun _ => fun
  | [d1, d2, d3] => { results := [.lit (.bool false)], args := [d1, d2, d3] }
  | _ => none }
def SearchMoreWrongFalsely : Prop := searchMoreRow.holds Try.pinned (OpenSpec.ofChange searchMoreWrong)

/-- 'erewhilelaw52.SearchAsks': WHATEVER THE INPUT: true; the input reads as it did. -/
def searchAsksSpec : ChangeSpec := { name := "searchAsks", fn := fun _ => fun
  | [d1, d2, d3] => { results := [.lit (.bool true)], args := [d1, d2, d3] }
  | _ => none }
def searchAsksRow : OpenClaim := { program := "yteikmlgcmhgaoaa", sum := "7773be7a63b94140ec3b089c52ce3924cfc8e4308e9a785f9acec0a1f80e40cb", func := "erewhile/erewhilelaw52.SearchAsks", spec := "searchAsks", unfollowed := true, recurses := true, apart := false }
def SearchAsksSaid : Prop := searchAsksRow.holds Try.pinned (OpenSpec.ofChange searchAsksSpec)

/-- ITS FALSE NEIGHBOUR: 'it returns false'. Refute it at one input. -/
def searchAsksWrong : ChangeSpec := { name := "searchAsks", fn := fun _ => fun
  | [d1, d2, d3] => { results := [.lit (.bool false)], args := [d1, d2, d3] }
  | _ => none }
def SearchAsksWrongFalsely : Prop := searchAsksRow.holds Try.pinned (OpenSpec.ofChange searchAsksWrong)

/- THE SECOND FORM. 'bulk': how many values and letters a reading holds, each counted each time it is reached (what is shared counts as often as it is met; a slice's spare places count too). A statement '..UptoSaid' is the law's where the arguments, and the package variables that the reading takes, are together of bulk at most 1048576: NARROWER than '..Said'. Prove '..Said' where nothing that the law and all that it calls make is longer than what came in: it says more and counts as full. Else prove '..UptoSaid'. A law counts once. -/
mutual
def uptoBulk {H : Type} : DataW H → Nat
  | .lit (.string bytes) => bytes.length + 1
  | .lit _ => 1
  | .nil => 1
  | .ptr d => uptoBulk d + 1
  | .slice elems spare => uptoBulkAll elems + uptoBulkAll spare + 1
  | .agg parts => uptoBulkAll parts + 1
  | .iface _ d => uptoBulk d + 1
  | .map entries => uptoBulkEntries entries + 1
  | .held _ => 1
def uptoBulkAll {H : Type} : List (DataW H) → Nat
  | [] => 0
  | d :: r => uptoBulk d + uptoBulkAll r
def uptoBulkEntries {H : Type} : List (Lit × DataW H) → Nat
  | [] => 0
  | x :: r => uptoBulkEntry x + uptoBulkEntries r
def uptoBulkEntry {H : Type} : Lit × DataW H → Nat
  | (.string bytes, d) => bytes.length + uptoBulk d + 1
  | (_, d) => uptoBulk d + 1
 end
def uptoSmall : (H : Type) → List (DataW H) → Bool := fun _ ds => decide (uptoBulkAll ds ≤ 1048576)
def OpenSpec.upto (s : _root_.Go.ChangeSpec) : _root_.Go.OpenSpec := { _root_.Go.OpenSpec.ofChange s with cond := some uptoSmall }

/-- 'erewhilelaw52.SearchLast', WHERE WHAT IT READS IS OF BULK AT MOST 1048576: true; the input reads as it did. -/
def searchLastUptoRow : OpenClaim := { program := "yteikmlgcmhgaoaa", sum := "7773be7a63b94140ec3b089c52ce3924cfc8e4308e9a785f9acec0a1f80e40cb", func := "erewhile/erewhilelaw52.SearchLast", spec := "searchLast", unfollowed := true, recurses := true, apart := false, narrowed := true }
def SearchLastUptoSaid : Prop := searchLastUptoRow.holds Try.pinned (OpenSpec.upto searchLastSpec)

/-- 'erewhilelaw52.SearchFew', WHERE WHAT IT READS IS OF BULK AT MOST 1048576: true; the input reads as it did. -/
def searchFewUptoRow : OpenClaim := { program := "yteikmlgcmhgaoaa", sum := "7773be7a63b94140ec3b089c52ce3924cfc8e4308e9a785f9acec0a1f80e40cb", func := "erewhile/erewhilelaw52.SearchFew", spec := "searchFew", unfollowed := true, recurses := true, apart := false, narrowed := true }
def SearchFewUptoSaid : Prop := searchFewUptoRow.holds Try.pinned (OpenSpec.upto searchFewSpec)

/-- 'erewhilelaw52.SearchEdge', WHERE WHAT IT READS IS OF BULK AT MOST 1048576: true; the input reads as it did. -/
def searchEdgeUptoRow : OpenClaim := { program := "yteikmlgcmhgaoaa", sum := "7773be7a63b94140ec3b089c52ce3924cfc8e4308e9a785f9acec0a1f80e40cb", func := "erewhile/erewhilelaw52.SearchEdge", spec := "searchEdge", unfollowed := true, recurses := true, apart := false, narrowed := true }
def SearchEdgeUptoSaid : Prop := searchEdgeUptoRow.holds Try.pinned (OpenSpec.upto searchEdgeSpec)

/-- 'erewhilelaw52.SearchEach', WHERE WHAT IT READS IS OF BULK AT MOST 1048576: true; the input reads as it did. -/
def searchEachUptoRow : OpenClaim := { program := "yteikmlgcmhgaoaa", sum := "7773be7a63b94140ec3b089c52ce3924cfc8e4308e9a785f9acec0a1f80e40cb", func := "erewhile/erewhilelaw52.SearchEach", spec := "searchEach", unfollowed := true, recurses := true, apart := false, narrowed := true }
def SearchEachUptoSaid : Prop := searchEachUptoRow.holds Try.pinned (OpenSpec.upto searchEachSpec)

/-- 'erewhilelaw52.SearchStays', WHERE WHAT IT READS IS OF BULK AT MOST 1048576: true; the input reads as it did. -/
def searchStaysUptoRow : OpenClaim := { program := "yteikmlgcmhgaoaa", sum := "7773be7a63b94140ec3b089c52ce3924cfc8e4308e9a785f9acec0a1f80e40cb", func := "erewhile/erewhilelaw52.SearchStays", spec := "searchStays", unfollowed := true, recurses := true, apart := false, narrowed := true }
def SearchStaysUptoSaid : Prop := searchStaysUptoRow.holds Try.pinned (OpenSpec.upto searchStaysSpec)

/-- 'erewhilelaw52.SearchNone', WHERE WHAT IT READS IS OF BULK AT MOST 1048576: true; the input reads as it did. -/
def searchNoneUptoRow : OpenClaim := { program := "yteikmlgcmhgaoaa", sum := "7773be7a63b94140ec3b089c52ce3924cfc8e4308e9a785f9acec0a1f80e40cb", func := "erewhile/erewhilelaw52.SearchNone", spec := "searchNone", unfollowed := true, recurses := true, apart := false, narrowed := true }
def SearchNoneUptoSaid : Prop := searchNoneUptoRow.holds Try.pinned (OpenSpec.upto searchNoneSpec)

/-- 'erewhilelaw52.SearchMore', WHERE WHAT IT READS IS OF BULK AT MOST 1048576: true; the input reads as it did. -/
def searchMoreUptoRow : OpenClaim := { program := "yteikmlgcmhgaoaa", sum := "7773be7a63b94140ec3b089c52ce3924cfc8e4308e9a785f9acec0a1f80e40cb", func := "erewhile/erewhilelaw52.SearchMore", spec := "searchMore", unfollowed := true, recurses := true, apart := false, narrowed := true }
def SearchMoreUptoSaid : Prop := searchMoreUptoRow.holds Try.pinned (OpenSpec.upto searchMoreSpec)

/-- 'erewhilelaw52.SearchAsks', WHERE WHAT IT READS IS OF BULK AT MOST 1048576: true; the input reads as it did. -/
def searchAsksUptoRow : OpenClaim := { program := "yteikmlgcmhgaoaa", sum := "7773be7a63b94140ec3b089c52ce3924cfc8e4308e9a785f9acec0a1f80e40cb", func := "erewhile/erewhilelaw52.SearchAsks", spec := "searchAsks", unfollowed := true, recurses := true, apart := false, narrowed := true }
def SearchAsksUptoSaid : Prop := searchAsksUptoRow.holds Try.pinned (OpenSpec.upto searchAsksSpec)

end Rows
end Go.Proofs.Yteikmlgcmhgaoaa
