/-
  No cell of these rows narrows 'for every input' (looked for: loops, veiled, ifaces, maps, wideKeys, modest, calm, conditions, laid).
  DERIVED. THE GIVEN ROWS OF THIS SEAT. 8 by the template 'for every input the law returns true; each argument reads behind the call as it read before'; 0 by the template 'total and deterministic' (their statements: YtfbbnodlikcocaaTotals.lean).
  GIVEN WITH THE SEED: the statements are not yours to turn. If you find one false, say at which input.
  Laid BY PROGRAM, IN A SANDBOX (cutbox-rows.mjs): the forced cells as the released guide's own fill.sh prints them over the translation 816cdf7d3082cbc1… (all of the seat's roots in one cut). By AI agents, Wed Nov 11 2026. No macro, syntax, notation, axiom, sorry.
-/
import Derived.Test.YtfbbnodlikcocaaChecked
import GoSem.Claim
import GoSem.ClaimJoined
import GoSem.ClaimMapViews
import Derived.JoinedTies
import Derived.KernelRfl
namespace Go.Proofs.Ytfbbnodlikcocaa
/- THE CELL 'sum', in the pinned program and in every row, IS THE sha256 OF THE DUMP (.gsa) THAT YtfbbnodlikcocaaProg.lean LOADS. Nothing in Lean hashes anything: it is a label: what it is worth is what the hold of that sum in a sandbox is worth. -/
noncomputable def Try.pinned : Pinned := { name := "ytfbbnodlikcocaa", sum := "816cdf7d3082cbc1cb81998d89b80b8493effca5c10e0337eff501e160fbf04a", checked := Try.checked }
namespace Rows
def none {H : Type} : Left H := { results := [], args := [] }

/-- 'erewhilelaw01.WireXors': WHATEVER THE INPUT: true; the input reads as it did. -/
def wireXorsSpec : ChangeSpec := { name := "wireXors", fn := fun _ => fun
  | [d1, d2] => { results := [.lit (.bool true)], args := [d1, d2] }
  | _ => none }
def wireXorsRow : OpenClaim := { program := "ytfbbnodlikcocaa", sum := "816cdf7d3082cbc1cb81998d89b80b8493effca5c10e0337eff501e160fbf04a", func := "erewhile/erewhilelaw01.WireXors", spec := "wireXors", apart := false }
def WireXorsSaid : Prop := wireXorsRow.holds Try.pinned (OpenSpec.ofChange wireXorsSpec)

/-- ITS FALSE NEIGHBOUR: 'it returns false'. Refute it at one input. -/
def wireXorsWrong : ChangeSpec := { name := "wireXors", fn := fun _ => fun
  | [d1, d2] => { results := [.lit (.bool false)], args := [d1, d2] }
  | _ => none }
def WireXorsWrongFalsely : Prop := wireXorsRow.holds Try.pinned (OpenSpec.ofChange wireXorsWrong)

/-- 'erewhilelaw01.WireThree': WHATEVER THE INPUT: true; the input reads as it did. -/
def wireThreeSpec : ChangeSpec := { name := "wireThree", fn := fun _ => fun
  | [d1, d2, d3] => { results := [.lit (.bool true)], args := [d1, d2, d3] }
  | _ => none }
def wireThreeRow : OpenClaim := { program := "ytfbbnodlikcocaa", sum := "816cdf7d3082cbc1cb81998d89b80b8493effca5c10e0337eff501e160fbf04a", func := "erewhile/erewhilelaw01.WireThree", spec := "wireThree", apart := false }
def WireThreeSaid : Prop := wireThreeRow.holds Try.pinned (OpenSpec.ofChange wireThreeSpec)

/-- ITS FALSE NEIGHBOUR: 'it returns false'. Refute it at one input. -/
def wireThreeWrong : ChangeSpec := { name := "wireThree", fn := fun _ => fun
  | [d1, d2, d3] => { results := [.lit (.bool false)], args := [d1, d2, d3] }
  | _ => none }
def WireThreeWrongFalsely : Prop := wireThreeRow.holds Try.pinned (OpenSpec.ofChange wireThreeWrong)

/-- 'erewhilelaw01.WireNumbers': WHATEVER THE INPUT: true; the input reads as it did. -/
def wireNumbersSpec : ChangeSpec := { name := "wireNumbers", fn := fun _ => fun
  | [d1, d2, d3] => { results := [.lit (.bool true)], args := [d1, d2, d3] }
  | _ => none }
def wireNumbersRow : OpenClaim := { program := "ytfbbnodlikcocaa", sum := "816cdf7d3082cbc1cb81998d89b80b8493effca5c10e0337eff501e160fbf04a", func := "erewhile/erewhilelaw01.WireNumbers", spec := "wireNumbers", apart := false }
def WireNumbersSaid : Prop := wireNumbersRow.holds Try.pinned (OpenSpec.ofChange wireNumbersSpec)

/-- ITS FALSE NEIGHBOUR: 'it returns false'. Refute it at one input. -/
def wireNumbersWrong : ChangeSpec := { name := "wireNumbers", fn := fun _ => fun
  | [d1, d2, d3] => { results := [.lit (.bool false)], args := [d1, d2, d3] }
  | _ => none }
def WireNumbersWrongFalsely : Prop := wireNumbersRow.holds Try.pinned (OpenSpec.ofChange wireNumbersWrong)

/-- 'erewhilelaw01.WireAgain': WHATEVER THE INPUT: true; the input reads as it did. -/
def wireAgainSpec : ChangeSpec := { name := "wireAgain", fn := fun _ => fun
  | [d1, d2, d3] => { results := [.lit (.bool true)], args := [d1, d2, d3] }
  | _ => none }
def wireAgainRow : OpenClaim := { program := "ytfbbnodlikcocaa", sum := "816cdf7d3082cbc1cb81998d89b80b8493effca5c10e0337eff501e160fbf04a", func := "erewhile/erewhilelaw01.WireAgain", spec := "wireAgain", apart := false }
def WireAgainSaid : Prop := wireAgainRow.holds Try.pinned (OpenSpec.ofChange wireAgainSpec)

/-- ITS FALSE NEIGHBOUR: 'it returns false'. Refute it at one input. -/
def wireAgainWrong : ChangeSpec := { name := "wireAgain", fn := fun _ => fun
  | [d1, d2, d3] => { results := [.lit (.bool false)], args := [d1, d2, d3] }
  | _ => none }
def WireAgainWrongFalsely : Prop := wireAgainRow.holds Try.pinned (OpenSpec.ofChange wireAgainWrong)

/-- 'erewhilelaw01.WireDigits': WHATEVER THE INPUT: true; the input reads as it did. -/
def wireDigitsSpec : ChangeSpec := { name := "wireDigits", fn := fun _ => fun
  | [d1, d2, d3] => { results := [.lit (.bool true)], args := [d1, d2, d3] }
  | _ => none }
def wireDigitsRow : OpenClaim := { program := "ytfbbnodlikcocaa", sum := "816cdf7d3082cbc1cb81998d89b80b8493effca5c10e0337eff501e160fbf04a", func := "erewhile/erewhilelaw01.WireDigits", spec := "wireDigits", apart := false }
def WireDigitsSaid : Prop := wireDigitsRow.holds Try.pinned (OpenSpec.ofChange wireDigitsSpec)

/-- ITS FALSE NEIGHBOUR: 'it returns false'. Refute it at one input. -/
def wireDigitsWrong : ChangeSpec := { name := "wireDigits", fn := fun _ => fun
  | [d1, d2, d3] => { results := [.lit (.bool false)], args := [d1, d2, d3] }
  | _ => none }
def WireDigitsWrongFalsely : Prop := wireDigitsRow.holds Try.pinned (OpenSpec.ofChange wireDigitsWrong)

/-- 'erewhilelaw01.WireFrames': WHATEVER THE INPUT: true; the input reads as it did. -/
def wireFramesSpec : ChangeSpec := { name := "wireFrames", fn := fun _ => fun
  | [d1, d2] => { results := [.lit (.bool true)], args := [d1, d2] }
  | _ => none }
def wireFramesRow : OpenClaim := { program := "ytfbbnodlikcocaa", sum := "816cdf7d3082cbc1cb81998d89b80b8493effca5c10e0337eff501e160fbf04a", func := "erewhile/erewhilelaw01.WireFrames", spec := "wireFrames", apart := false }
def WireFramesSaid : Prop := wireFramesRow.holds Try.pinned (OpenSpec.ofChange wireFramesSpec)

/-- ITS FALSE NEIGHBOUR: 'it returns false'. Refute it at one input. -/
def wireFramesWrong : ChangeSpec := { name := "wireFrames", fn := fun _ => fun
  | [d1, d2] => { results := [.lit (.bool false)], args := [d1, d2] }
  | _ => none }
def WireFramesWrongFalsely : Prop := wireFramesRow.holds Try.pinned (OpenSpec.ofChange wireFramesWrong)

/-- 'erewhilelaw01.WireCuts': WHATEVER THE INPUT: true; the input reads as it did. -/
def wireCutsSpec : ChangeSpec := { name := "wireCuts", fn := fun _ => fun
  | [d1, d2, d3] => { results := [.lit (.bool true)], args := [d1, d2, d3] }
  | _ => none }
def wireCutsRow : OpenClaim := { program := "ytfbbnodlikcocaa", sum := "816cdf7d3082cbc1cb81998d89b80b8493effca5c10e0337eff501e160fbf04a", func := "erewhile/erewhilelaw01.WireCuts", spec := "wireCuts", apart := false }
def WireCutsSaid : Prop := wireCutsRow.holds Try.pinned (OpenSpec.ofChange wireCutsSpec)

/-- ITS FALSE NEIGHBOUR: 'it returns false'. Refute it at one input. -/
def wireCutsWrong : ChangeSpec := { name := "wireCuts", fn := fun _ => fun
  | [d1, d2, d3] => { results := [.lit (.bool false)], args := [d1, d2, d3] }
  | _ => none }
def WireCutsWrongFalsely : Prop := wireCutsRow.holds Try.pinned (OpenSpec.ofChange wireCutsWrong)

/-- 'erewhilelaw01.WireNests': WHATEVER THE INPUT: true; the input reads as it did. -/
def wireNestsSpec : ChangeSpec := { name := "wireNests", fn := fun _ => fun
  | [d] => { results := [.lit (.bool true)], args := [d] }
  | _ => none }
def wireNestsRow : OpenClaim := { program := "ytfbbnodlikcocaa", sum := "816cdf7d3082cbc1cb81998d89b80b8493effca5c10e0337eff501e160fbf04a", func := "erewhile/erewhilelaw01.WireNests", spec := "wireNests", apart := false }
def WireNestsSaid : Prop := wireNestsRow.holds Try.pinned (OpenSpec.ofChange wireNestsSpec)

/-- ITS FALSE NEIGHBOUR: 'it returns false'. Refute it at one input. -/
def wireNestsWrong : ChangeSpec := { name := "wireNests", fn := fun _ => fun
  | [d] => { results := [.lit (.bool false)], args := [d] }
  | _ => none }
def WireNestsWrongFalsely : Prop := wireNestsRow.holds Try.pinned (OpenSpec.ofChange wireNestsWrong)

/- THE SECOND FORM. 'bulk': how many values and letters a reading holds, each counted each time it is reached (what is shared counts as often as it is met; a slice's spare places count too). A statement '..UptoSaid' is the law's where the arguments, and the package variables that the reading takes, are together of bulk at most 1048576: NARROWER than '..Said'. Prove '..Said' where nothing that the law and all that it calls make is longer than what came in: it says more and counts as full. Else prove '..UptoSaid'. A law counts once. -/
mutual
def uptoBulk {H : Type} : DataW H → Nat
  | .lit (.string bytes) => bytes.length + 1
  | .lit _ => 1
  | .nil => 1
  | .ptr d => uptoBulk d + 1
  | .slice elems spare => uptoBulkAll elems + uptoBulkAll spare + 1
  | .agg parts => uptoBulkAll parts + 1
  | .iface _ d => uptoBulk d + 1
  | .map entries => uptoBulkEntries entries + 1
  | .held _ => 1
def uptoBulkAll {H : Type} : List (DataW H) → Nat
  | [] => 0
  | d :: r => uptoBulk d + uptoBulkAll r
def uptoBulkEntries {H : Type} : List (Lit × DataW H) → Nat
  | [] => 0
  | x :: r => uptoBulkEntry x + uptoBulkEntries r
def uptoBulkEntry {H : Type} : Lit × DataW H → Nat
  | (.string bytes, d) => bytes.length + uptoBulk d + 1
  | (_, d) => uptoBulk d + 1
 end
def uptoSmall : (H : Type) → List (DataW H) → Bool := fun _ ds => decide (uptoBulkAll ds ≤ 1048576)
def OpenSpec.upto (s : _root_.Go.ChangeSpec) : _root_.Go.OpenSpec := { _root_.Go.OpenSpec.ofChange s with cond := some uptoSmall }

/-- 'erewhilelaw01.WireXors', WHERE WHAT IT READS IS OF BULK AT MOST 1048576: true; the input reads as it did. -/
def wireXorsUptoRow : OpenClaim := { program := "ytfbbnodlikcocaa", sum := "816cdf7d3082cbc1cb81998d89b80b8493effca5c10e0337eff501e160fbf04a", func := "erewhile/erewhilelaw01.WireXors", spec := "wireXors", apart := false, narrowed := true }
def WireXorsUptoSaid : Prop := wireXorsUptoRow.holds Try.pinned (OpenSpec.upto wireXorsSpec)

/-- 'erewhilelaw01.WireThree', WHERE WHAT IT READS IS OF BULK AT MOST 1048576: true; the input reads as it did. -/
def wireThreeUptoRow : OpenClaim := { program := "ytfbbnodlikcocaa", sum := "816cdf7d3082cbc1cb81998d89b80b8493effca5c10e0337eff501e160fbf04a", func := "erewhile/erewhilelaw01.WireThree", spec := "wireThree", apart := false, narrowed := true }
def WireThreeUptoSaid : Prop := wireThreeUptoRow.holds Try.pinned (OpenSpec.upto wireThreeSpec)

/-- 'erewhilelaw01.WireNumbers', WHERE WHAT IT READS IS OF BULK AT MOST 1048576: true; the input reads as it did. -/
def wireNumbersUptoRow : OpenClaim := { program := "ytfbbnodlikcocaa", sum := "816cdf7d3082cbc1cb81998d89b80b8493effca5c10e0337eff501e160fbf04a", func := "erewhile/erewhilelaw01.WireNumbers", spec := "wireNumbers", apart := false, narrowed := true }
def WireNumbersUptoSaid : Prop := wireNumbersUptoRow.holds Try.pinned (OpenSpec.upto wireNumbersSpec)

/-- 'erewhilelaw01.WireAgain', WHERE WHAT IT READS IS OF BULK AT MOST 1048576: true; the input reads as it did. -/
def wireAgainUptoRow : OpenClaim := { program := "ytfbbnodlikcocaa", sum := "816cdf7d3082cbc1cb81998d89b80b8493effca5c10e0337eff501e160fbf04a", func := "erewhile/erewhilelaw01.WireAgain", spec := "wireAgain", apart := false, narrowed := true }
def WireAgainUptoSaid : Prop := wireAgainUptoRow.holds Try.pinned (OpenSpec.upto wireAgainSpec)

/-- 'erewhilelaw01.WireDigits', WHERE WHAT IT READS IS OF BULK AT MOST 1048576: true; the input reads as it did. -/
def wireDigitsUptoRow : OpenClaim := { program := "ytfbbnodlikcocaa", sum := "816cdf7d3082cbc1cb81998d89b80b8493effca5c10e0337eff501e160fbf04a", func := "erewhile/erewhilelaw01.WireDigits", spec := "wireDigits", apart := false, narrowed := true }
def WireDigitsUptoSaid : Prop := wireDigitsUptoRow.holds Try.pinned (OpenSpec.upto wireDigitsSpec)

/-- 'erewhilelaw01.WireFrames', WHERE WHAT IT READS IS OF BULK AT MOST 1048576: true; the input reads as it did. -/
def wireFramesUptoRow : OpenClaim := { program := "ytfbbnodlikcocaa", sum := "816cdf7d3082cbc1cb81998d89b80b8493effca5c10e0337eff501e160fbf04a", func := "erewhile/erewhilelaw01.WireFrames", spec := "wireFrames", apart := false, narrowed := true }
def WireFramesUptoSaid : Prop := wireFramesUptoRow.holds Try.pinned (OpenSpec.upto wireFramesSpec)

/-- 'erewhilelaw01.WireCuts', WHERE WHAT IT READS IS OF BULK AT MOST 1048576: true; the input reads as it did. -/
def wireCutsUptoRow : OpenClaim := { program := "ytfbbnodlikcocaa", sum := "816cdf7d3082cbc1cb81998d89b80b8493effca5c10e0337eff501e160fbf04a", func := "erewhile/erewhilelaw01.WireCuts", spec := "wireCuts", apart := false, narrowed := true }
def WireCutsUptoSaid : Prop := wireCutsUptoRow.holds Try.pinned (OpenSpec.upto wireCutsSpec)

/-- 'erewhilelaw01.WireNests', WHERE WHAT IT READS IS OF BULK AT MOST 1048576: true; the input reads as it did. -/
def wireNestsUptoRow : OpenClaim := { program := "ytfbbnodlikcocaa", sum := "816cdf7d3082cbc1cb81998d89b80b8493effca5c10e0337eff501e160fbf04a", func := "erewhile/erewhilelaw01.WireNests", spec := "wireNests", apart := false, narrowed := true }
def WireNestsUptoSaid : Prop := wireNestsUptoRow.holds Try.pinned (OpenSpec.upto wireNestsSpec)

end Rows
end Go.Proofs.Ytfbbnodlikcocaa
