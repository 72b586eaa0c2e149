/-
  No cell of these rows narrows 'for every input' (looked for: loops, veiled, ifaces, maps, wideKeys, modest, calm, conditions, laid).
  DERIVED. THE GIVEN ROWS OF THIS SEAT. 9 by the template 'for every input the law returns true; each argument reads behind the call as it read before'; 0 by the template 'total and deterministic' (their statements: YtbbnjcpeikklgaaTotals.lean).
  GIVEN WITH THE SEED: the statements are not yours to turn. If you find one false, say at which input.
  Laid BY PROGRAM, IN A SANDBOX (cutbox-rows.mjs): the forced cells as the released guide's own fill.sh prints them over the translation 8fcbe27c90317a71… (all of the seat's roots in one cut). By AI agents, Wed Nov 11 2026. No macro, syntax, notation, axiom, sorry.
-/
import Derived.Test.YtbbnjcpeikklgaaChecked
import GoSem.Claim
import GoSem.ClaimJoined
import GoSem.ClaimMapViews
import Derived.JoinedTies
import Derived.KernelRfl
namespace Go.Proofs.Ytbbnjcpeikklgaa
/- THE CELL 'sum', in the pinned program and in every row, IS THE sha256 OF THE DUMP (.gsa) THAT YtbbnjcpeikklgaaProg.lean LOADS. Nothing in Lean hashes anything: it is a label: what it is worth is what the hold of that sum in a sandbox is worth. -/
noncomputable def Try.pinned : Pinned := { name := "ytbbnjcpeikklgaa", sum := "8fcbe27c90317a716056d69c7c65c9b3911cd67e0baafaa800c60c9c74ea9d04", checked := Try.checked }
namespace Rows
def none {H : Type} : Left H := { results := [], args := [] }

/-- 'erewhilelaw12.CellEncodes': WHATEVER THE INPUT: true; the input reads as it did. -/
def cellEncodesSpec : ChangeSpec := { name := "cellEncodes", fn := fun _ => fun
  | [d] => { results := [.lit (.bool true)], args := [d] }
  | _ => none }
def cellEncodesRow : OpenClaim := { program := "ytbbnjcpeikklgaa", sum := "8fcbe27c90317a716056d69c7c65c9b3911cd67e0baafaa800c60c9c74ea9d04", func := "erewhile/erewhilelaw12.CellEncodes", spec := "cellEncodes", unfollowed := true, recurses := true, apart := false }
def CellEncodesSaid : Prop := cellEncodesRow.holds Try.pinned (OpenSpec.ofChange cellEncodesSpec)

/-- ITS FALSE NEIGHBOUR: 'it returns false'. Refute it at one input. -/
def cellEncodesWrong : ChangeSpec := { name := "cellEncodes", fn := fun _ => fun
  | [d] => { results := [.lit (.bool false)], args := [d] }
  | _ => none }
def CellEncodesWrongFalsely : Prop := cellEncodesRow.holds Try.pinned (OpenSpec.ofChange cellEncodesWrong)

/-- 'erewhilelaw12.CellSame': WHATEVER THE INPUT: true; the input reads as it did. -/
def cellSameSpec : ChangeSpec := { name := "cellSame", fn := fun _ => fun
  | [d1, d2] => { results := [.lit (.bool true)], args := [d1, d2] }
  | _ => none }
def cellSameRow : OpenClaim := { program := "ytbbnjcpeikklgaa", sum := "8fcbe27c90317a716056d69c7c65c9b3911cd67e0baafaa800c60c9c74ea9d04", func := "erewhile/erewhilelaw12.CellSame", spec := "cellSame", unfollowed := true, recurses := true, apart := false }
def CellSameSaid : Prop := cellSameRow.holds Try.pinned (OpenSpec.ofChange cellSameSpec)

/-- ITS FALSE NEIGHBOUR: 'it returns false'. Refute it at one input. -/
def cellSameWrong : ChangeSpec := { name := "cellSame", fn := fun _ => fun
  | [d1, d2] => { results := [.lit (.bool false)], args := [d1, d2] }
  | _ => none }
def CellSameWrongFalsely : Prop := cellSameRow.holds Try.pinned (OpenSpec.ofChange cellSameWrong)

/-- 'erewhilelaw12.CellFields': WHATEVER THE INPUT: true; the input reads as it did. -/
def cellFieldsSpec : ChangeSpec := { name := "cellFields", fn := fun _ => fun
  | [d1, d2, d3, d4] => { results := [.lit (.bool true)], args := [d1, d2, d3, d4] }
  | _ => none }
def cellFieldsRow : OpenClaim := { program := "ytbbnjcpeikklgaa", sum := "8fcbe27c90317a716056d69c7c65c9b3911cd67e0baafaa800c60c9c74ea9d04", func := "erewhile/erewhilelaw12.CellFields", spec := "cellFields", unfollowed := true, recurses := true, apart := false }
def CellFieldsSaid : Prop := cellFieldsRow.holds Try.pinned (OpenSpec.ofChange cellFieldsSpec)

/-- ITS FALSE NEIGHBOUR: 'it returns false'. Refute it at one input. -/
def cellFieldsWrong : ChangeSpec := { name := "cellFields", fn := fun _ => fun
  | [d1, d2, d3, d4] => { results := [.lit (.bool false)], args := [d1, d2, d3, d4] }
  | _ => none }
def CellFieldsWrongFalsely : Prop := cellFieldsRow.holds Try.pinned (OpenSpec.ofChange cellFieldsWrong)

/-- 'erewhilelaw12.CellRight': WHATEVER THE INPUT: true; the input reads as it did. -/
def cellRightSpec : ChangeSpec := { name := "cellRight", fn := fun _ => fun
  | [d] => { results := [.lit (.bool true)], args := [d] }
  | _ => none }
def cellRightRow : OpenClaim := { program := "ytbbnjcpeikklgaa", sum := "8fcbe27c90317a716056d69c7c65c9b3911cd67e0baafaa800c60c9c74ea9d04", func := "erewhile/erewhilelaw12.CellRight", spec := "cellRight", unfollowed := true, recurses := true, apart := false }
def CellRightSaid : Prop := cellRightRow.holds Try.pinned (OpenSpec.ofChange cellRightSpec)

/-- ITS FALSE NEIGHBOUR: 'it returns false'. Refute it at one input. -/
def cellRightWrong : ChangeSpec := { name := "cellRight", fn := fun _ => fun
  | [d] => { results := [.lit (.bool false)], args := [d] }
  | _ => none }
def CellRightWrongFalsely : Prop := cellRightRow.holds Try.pinned (OpenSpec.ofChange cellRightWrong)

/-- 'erewhilelaw12.CellDecodes': WHATEVER THE INPUT: true; the input reads as it did. -/
def cellDecodesSpec : ChangeSpec := { name := "cellDecodes", fn := fun _ => fun
  | [d] => { results := [.lit (.bool true)], args := [d] }
  | _ => none }
def cellDecodesRow : OpenClaim := { program := "ytbbnjcpeikklgaa", sum := "8fcbe27c90317a716056d69c7c65c9b3911cd67e0baafaa800c60c9c74ea9d04", func := "erewhile/erewhilelaw12.CellDecodes", spec := "cellDecodes", unfollowed := true, recurses := true, apart := false }
def CellDecodesSaid : Prop := cellDecodesRow.holds Try.pinned (OpenSpec.ofChange cellDecodesSpec)

/-- ITS FALSE NEIGHBOUR: 'it returns false'. Refute it at one input. -/
def cellDecodesWrong : ChangeSpec := { name := "cellDecodes", fn := fun _ => fun
  | [d] => { results := [.lit (.bool false)], args := [d] }
  | _ => none }
def CellDecodesWrongFalsely : Prop := cellDecodesRow.holds Try.pinned (OpenSpec.ofChange cellDecodesWrong)

/-- 'erewhilelaw12.CellBytes': WHATEVER THE INPUT: true; the input reads as it did. -/
def cellBytesSpec : ChangeSpec := { name := "cellBytes", fn := fun _ => fun
  | [d] => { results := [.lit (.bool true)], args := [d] }
  | _ => none }
def cellBytesRow : OpenClaim := { program := "ytbbnjcpeikklgaa", sum := "8fcbe27c90317a716056d69c7c65c9b3911cd67e0baafaa800c60c9c74ea9d04", func := "erewhile/erewhilelaw12.CellBytes", spec := "cellBytes", unfollowed := true, recurses := true, apart := false }
def CellBytesSaid : Prop := cellBytesRow.holds Try.pinned (OpenSpec.ofChange cellBytesSpec)

/-- ITS FALSE NEIGHBOUR: 'it returns false'. Refute it at one input. -/
def cellBytesWrong : ChangeSpec := { name := "cellBytes", fn := fun _ => fun
  | [d] => { results := [.lit (.bool false)], args := [d] }
  | _ => none }
def CellBytesWrongFalsely : Prop := cellBytesRow.holds Try.pinned (OpenSpec.ofChange cellBytesWrong)

/-- 'erewhilelaw12.CellApart': WHATEVER THE INPUT: true; the input reads as it did. -/
def cellApartSpec : ChangeSpec := { name := "cellApart", fn := fun _ => fun
  | [d1, d2] => { results := [.lit (.bool true)], args := [d1, d2] }
  | _ => none }
def cellApartRow : OpenClaim := { program := "ytbbnjcpeikklgaa", sum := "8fcbe27c90317a716056d69c7c65c9b3911cd67e0baafaa800c60c9c74ea9d04", func := "erewhile/erewhilelaw12.CellApart", spec := "cellApart", unfollowed := true, recurses := true, apart := false }
def CellApartSaid : Prop := cellApartRow.holds Try.pinned (OpenSpec.ofChange cellApartSpec)

/-- ITS FALSE NEIGHBOUR: 'it returns false'. Refute it at one input. -/
def cellApartWrong : ChangeSpec := { name := "cellApart", fn := fun _ => fun
  | [d1, d2] => { results := [.lit (.bool false)], args := [d1, d2] }
  | _ => none }
def CellApartWrongFalsely : Prop := cellApartRow.holds Try.pinned (OpenSpec.ofChange cellApartWrong)

/-- 'erewhilelaw12.CellBack': WHATEVER THE INPUT: true; the input reads as it did. -/
def cellBackSpec : ChangeSpec := { name := "cellBack", fn := fun _ => fun
  | [d1, d2, d3] => { results := [.lit (.bool true)], args := [d1, d2, d3] }
  | _ => none }
def cellBackRow : OpenClaim := { program := "ytbbnjcpeikklgaa", sum := "8fcbe27c90317a716056d69c7c65c9b3911cd67e0baafaa800c60c9c74ea9d04", func := "erewhile/erewhilelaw12.CellBack", spec := "cellBack", unfollowed := true, recurses := true, apart := false }
def CellBackSaid : Prop := cellBackRow.holds Try.pinned (OpenSpec.ofChange cellBackSpec)

/-- ITS FALSE NEIGHBOUR: 'it returns false'. Refute it at one input. -/
def cellBackWrong : ChangeSpec := { name := "cellBack", fn := fun _ => fun
  | [d1, d2, d3] => { results := [.lit (.bool false)], args := [d1, d2, d3] }
  | _ => none }
def CellBackWrongFalsely : Prop := cellBackRow.holds Try.pinned (OpenSpec.ofChange cellBackWrong)

/-- 'erewhilelaw12.CellRows': WHATEVER THE INPUT: true; the input reads as it did. -/
def cellRowsSpec : ChangeSpec := { name := "cellRows", fn := fun _ => fun
  | [d] => { results := [.lit (.bool true)], args := [d] }
  | _ => none }
def cellRowsRow : OpenClaim := { program := "ytbbnjcpeikklgaa", sum := "8fcbe27c90317a716056d69c7c65c9b3911cd67e0baafaa800c60c9c74ea9d04", func := "erewhile/erewhilelaw12.CellRows", spec := "cellRows", unfollowed := true, recurses := true, apart := false }
def CellRowsSaid : Prop := cellRowsRow.holds Try.pinned (OpenSpec.ofChange cellRowsSpec)

/-- ITS FALSE NEIGHBOUR: 'it returns false'. Refute it at one input. -/
def cellRowsWrong : ChangeSpec := { name := "cellRows", fn := fun _ => fun
  | [d] => { results := [.lit (.bool false)], args := [d] }
  | _ => none }
def CellRowsWrongFalsely : Prop := cellRowsRow.holds Try.pinned (OpenSpec.ofChange cellRowsWrong)

/- THE SECOND FORM. 'bulk': how many values and letters a reading holds, each counted each time it is reached (what is shared counts as often as it is met; a slice's spare places count too). A statement '..UptoSaid' is the law's where the arguments, and the package variables that the reading takes, are together of bulk at most 1048576: NARROWER than '..Said'. Prove '..Said' where nothing that the law and all that it calls make is longer than what came in: it says more and counts as full. Else prove '..UptoSaid'. A law counts once. -/
mutual
def uptoBulk {H : Type} : DataW H → Nat
  | .lit (.string bytes) => bytes.length + 1
  | .lit _ => 1
  | .nil => 1
  | .ptr d => uptoBulk d + 1
  | .slice elems spare => uptoBulkAll elems + uptoBulkAll spare + 1
  | .agg parts => uptoBulkAll parts + 1
  | .iface _ d => uptoBulk d + 1
  | .map entries => uptoBulkEntries entries + 1
  | .held _ => 1
def uptoBulkAll {H : Type} : List (DataW H) → Nat
  | [] => 0
  | d :: r => uptoBulk d + uptoBulkAll r
def uptoBulkEntries {H : Type} : List (Lit × DataW H) → Nat
  | [] => 0
  | x :: r => uptoBulkEntry x + uptoBulkEntries r
def uptoBulkEntry {H : Type} : Lit × DataW H → Nat
  | (.string bytes, d) => bytes.length + uptoBulk d + 1
  | (_, d) => uptoBulk d + 1
 end
def uptoSmall : (H : Type) → List (DataW H) → Bool := fun _ ds => decide (uptoBulkAll ds ≤ 1048576)
def OpenSpec.upto (s : _root_.Go.ChangeSpec) : _root_.Go.OpenSpec := { _root_.Go.OpenSpec.ofChange s with cond := some uptoSmall }

/-- 'erewhilelaw12.CellEncodes', WHERE WHAT IT READS IS OF BULK AT MOST 1048576: true; the input reads as it did. -/
def cellEncodesUptoRow : OpenClaim := { program := "ytbbnjcpeikklgaa", sum := "8fcbe27c90317a716056d69c7c65c9b3911cd67e0baafaa800c60c9c74ea9d04", func := "erewhile/erewhilelaw12.CellEncodes", spec := "cellEncodes", unfollowed := true, recurses := true, apart := false, narrowed := true }
def CellEncodesUptoSaid : Prop := cellEncodesUptoRow.holds Try.pinned (OpenSpec.upto cellEncodesSpec)

/-- 'erewhilelaw12.CellSame', WHERE WHAT IT READS IS OF BULK AT MOST 1048576: true; the input reads as it did. -/
def cellSameUptoRow : OpenClaim := { program := "ytbbnjcpeikklgaa", sum := "8fcbe27c90317a716056d69c7c65c9b3911cd67e0baafaa800c60c9c74ea9d04", func := "erewhile/erewhilelaw12.CellSame", spec := "cellSame", unfollowed := true, recurses := true, apart := false, narrowed := true }
def CellSameUptoSaid : Prop := cellSameUptoRow.holds Try.pinned (OpenSpec.upto cellSameSpec)

/-- 'erewhilelaw12.CellFields', WHERE WHAT IT READS IS OF BULK AT MOST 1048576: true; the input reads as it did. -/
def cellFieldsUptoRow : OpenClaim := { program := "ytbbnjcpeikklgaa", sum := "8fcbe27c90317a716056d69c7c65c9b3911cd67e0baafaa800c60c9c74ea9d04", func := "erewhile/erewhilelaw12.CellFields", spec := "cellFields", unfollowed := true, recurses := true, apart := false, narrowed := true }
def CellFieldsUptoSaid : Prop := cellFieldsUptoRow.holds Try.pinned (OpenSpec.upto cellFieldsSpec)

/-- 'erewhilelaw12.CellRight', WHERE WHAT IT READS IS OF BULK AT MOST 1048576: true; the input reads as it did. -/
def cellRightUptoRow : OpenClaim := { program := "ytbbnjcpeikklgaa", sum := "8fcbe27c90317a716056d69c7c65c9b3911cd67e0baafaa800c60c9c74ea9d04", func := "erewhile/erewhilelaw12.CellRight", spec := "cellRight", unfollowed := true, recurses := true, apart := false, narrowed := true }
def CellRightUptoSaid : Prop := cellRightUptoRow.holds Try.pinned (OpenSpec.upto cellRightSpec)

/-- 'erewhilelaw12.CellDecodes', WHERE WHAT IT READS IS OF BULK AT MOST 1048576: true; the input reads as it did. -/
def cellDecodesUptoRow : OpenClaim := { program := "ytbbnjcpeikklgaa", sum := "8fcbe27c90317a716056d69c7c65c9b3911cd67e0baafaa800c60c9c74ea9d04", func := "erewhile/erewhilelaw12.CellDecodes", spec := "cellDecodes", unfollowed := true, recurses := true, apart := false, narrowed := true }
def CellDecodesUptoSaid : Prop := cellDecodesUptoRow.holds Try.pinned (OpenSpec.upto cellDecodesSpec)

/-- 'erewhilelaw12.CellBytes', WHERE WHAT IT READS IS OF BULK AT MOST 1048576: true; the input reads as it did. -/
def cellBytesUptoRow : OpenClaim := { program := "ytbbnjcpeikklgaa", sum := "8fcbe27c90317a716056d69c7c65c9b3911cd67e0baafaa800c60c9c74ea9d04", func := "erewhile/erewhilelaw12.CellBytes", spec := "cellBytes", unfollowed := true, recurses := true, apart := false, narrowed := true }
def CellBytesUptoSaid : Prop := cellBytesUptoRow.holds Try.pinned (OpenSpec.upto cellBytesSpec)

/-- 'erewhilelaw12.CellApart', WHERE WHAT IT READS IS OF BULK AT MOST 1048576: true; the input reads as it did. -/
def cellApartUptoRow : OpenClaim := { program := "ytbbnjcpeikklgaa", sum := "8fcbe27c90317a716056d69c7c65c9b3911cd67e0baafaa800c60c9c74ea9d04", func := "erewhile/erewhilelaw12.CellApart", spec := "cellApart", unfollowed := true, recurses := true, apart := false, narrowed := true }
def CellApartUptoSaid : Prop := cellApartUptoRow.holds Try.pinned (OpenSpec.upto cellApartSpec)

/-- 'erewhilelaw12.CellBack', WHERE WHAT IT READS IS OF BULK AT MOST 1048576: true; the input reads as it did. -/
def cellBackUptoRow : OpenClaim := { program := "ytbbnjcpeikklgaa", sum := "8fcbe27c90317a716056d69c7c65c9b3911cd67e0baafaa800c60c9c74ea9d04", func := "erewhile/erewhilelaw12.CellBack", spec := "cellBack", unfollowed := true, recurses := true, apart := false, narrowed := true }
def CellBackUptoSaid : Prop := cellBackUptoRow.holds Try.pinned (OpenSpec.upto cellBackSpec)

/-- 'erewhilelaw12.CellRows', WHERE WHAT IT READS IS OF BULK AT MOST 1048576: true; the input reads as it did. -/
def cellRowsUptoRow : OpenClaim := { program := "ytbbnjcpeikklgaa", sum := "8fcbe27c90317a716056d69c7c65c9b3911cd67e0baafaa800c60c9c74ea9d04", func := "erewhile/erewhilelaw12.CellRows", spec := "cellRows", unfollowed := true, recurses := true, apart := false, narrowed := true }
def CellRowsUptoSaid : Prop := cellRowsUptoRow.holds Try.pinned (OpenSpec.upto cellRowsSpec)

end Rows
end Go.Proofs.Ytbbnjcpeikklgaa
