/-
  No cell of these rows narrows 'for every input' (looked for: loops, veiled, ifaces, maps, wideKeys, modest, calm, conditions, laid).
  DERIVED. THE GIVEN ROWS OF THIS SEAT. 8 by the template 'for every input the law returns true; each argument reads behind the call as it read before'; 0 by the template 'total and deterministic' (their statements: YtfaahcgoinkmlaaTotals.lean).
  GIVEN WITH THE SEED: the statements are not yours to turn. If you find one false, say at which input.
  Laid BY PROGRAM, IN A SANDBOX (cutbox-rows.mjs): the forced cells as the released guide's own fill.sh prints them over the translation 1231222ebeed424d… (all of the seat's roots in one cut). By AI agents, Wed Nov 11 2026. No macro, syntax, notation, axiom, sorry.
-/
import Derived.Test.YtfaahcgoinkmlaaChecked
import GoSem.Claim
import GoSem.ClaimJoined
import GoSem.ClaimMapViews
import Derived.JoinedTies
import Derived.KernelRfl
namespace Go.Proofs.Ytfaahcgoinkmlaa
/- THE CELL 'sum', in the pinned program and in every row, IS THE sha256 OF THE DUMP (.gsa) THAT YtfaahcgoinkmlaaProg.lean LOADS. Nothing in Lean hashes anything: it is a label: what it is worth is what the hold of that sum in a sandbox is worth. -/
noncomputable def Try.pinned : Pinned := { name := "ytfaahcgoinkmlaa", sum := "1231222ebeed424d00ebed4d1b2e7ce4307ee8a24615a49fbe44a2e14b5f3276", checked := Try.checked }
namespace Rows
def none {H : Type} : Left H := { results := [], args := [] }

/-- 'glyphcutterlaw16.NormSteps': WHATEVER THE INPUT: true; the input reads as it did. -/
def normStepsSpec : ChangeSpec := { name := "normSteps", fn := fun _ => fun
  | [d1, d2, d3, d4, d5] => { results := [.lit (.bool true)], args := [d1, d2, d3, d4, d5] }
  | _ => none }
def normStepsRow : OpenClaim := { program := "ytfaahcgoinkmlaa", sum := "1231222ebeed424d00ebed4d1b2e7ce4307ee8a24615a49fbe44a2e14b5f3276", func := "glyphcutter/glyphcutterlaw16.NormSteps", spec := "normSteps", unfollowed := true, recurses := true, apart := false }
def NormStepsSaid : Prop := normStepsRow.holds Try.pinned (OpenSpec.ofChange normStepsSpec)

/-- ITS FALSE NEIGHBOUR: 'it returns false'. Refute it at one input. -/
def normStepsWrong : ChangeSpec := { name := "normSteps", fn := fun _ => fun
  | [d1, d2, d3, d4, d5] => { results := [.lit (.bool false)], args := [d1, d2, d3, d4, d5] }
  | _ => none }
def NormStepsWrongFalsely : Prop := normStepsRow.holds Try.pinned (OpenSpec.ofChange normStepsWrong)

/-- 'glyphcutterlaw16.NormLines': WHATEVER THE INPUT: true; the input reads as it did. -/
def normLinesSpec : ChangeSpec := { name := "normLines", fn := fun _ => fun
  | [d] => { results := [.lit (.bool true)], args := [d] }
  | _ => none }
def normLinesRow : OpenClaim := { program := "ytfaahcgoinkmlaa", sum := "1231222ebeed424d00ebed4d1b2e7ce4307ee8a24615a49fbe44a2e14b5f3276", func := "glyphcutter/glyphcutterlaw16.NormLines", spec := "normLines", unfollowed := true, recurses := true, apart := false }
def NormLinesSaid : Prop := normLinesRow.holds Try.pinned (OpenSpec.ofChange normLinesSpec)

/-- ITS FALSE NEIGHBOUR: 'it returns false'. Refute it at one input. -/
def normLinesWrong : ChangeSpec := { name := "normLines", fn := fun _ => fun
  | [d] => { results := [.lit (.bool false)], args := [d] }
  | _ => none }
def NormLinesWrongFalsely : Prop := normLinesRow.holds Try.pinned (OpenSpec.ofChange normLinesWrong)

/-- 'glyphcutterlaw16.NormPairs': WHATEVER THE INPUT: true; the input reads as it did. -/
def normPairsSpec : ChangeSpec := { name := "normPairs", fn := fun _ => fun
  | [d1, d2, d3, d4, d5] => { results := [.lit (.bool true)], args := [d1, d2, d3, d4, d5] }
  | _ => none }
def normPairsRow : OpenClaim := { program := "ytfaahcgoinkmlaa", sum := "1231222ebeed424d00ebed4d1b2e7ce4307ee8a24615a49fbe44a2e14b5f3276", func := "glyphcutter/glyphcutterlaw16.NormPairs", spec := "normPairs", unfollowed := true, recurses := true, apart := false }
def NormPairsSaid : Prop := normPairsRow.holds Try.pinned (OpenSpec.ofChange normPairsSpec)

/-- ITS FALSE NEIGHBOUR: 'it returns false'. Refute it at one input. -/
def normPairsWrong : ChangeSpec := { name := "normPairs", fn := fun _ => fun
  | [d1, d2, d3, d4, d5] => { results := [.lit (.bool false)], args := [d1, d2, d3, d4, d5] }
  | _ => none }
def NormPairsWrongFalsely : Prop := normPairsRow.holds Try.pinned (OpenSpec.ofChange normPairsWrong)

/-- 'glyphcutterlaw16.NormTexts': WHATEVER THE INPUT: true; the input reads as it did. -/
def normTextsSpec : ChangeSpec := { name := "normTexts", fn := fun _ => fun
  | [d1, d2, d3, d4, d5] => { results := [.lit (.bool true)], args := [d1, d2, d3, d4, d5] }
  | _ => none }
def normTextsRow : OpenClaim := { program := "ytfaahcgoinkmlaa", sum := "1231222ebeed424d00ebed4d1b2e7ce4307ee8a24615a49fbe44a2e14b5f3276", func := "glyphcutter/glyphcutterlaw16.NormTexts", spec := "normTexts", unfollowed := true, recurses := true, apart := false }
def NormTextsSaid : Prop := normTextsRow.holds Try.pinned (OpenSpec.ofChange normTextsSpec)

/-- ITS FALSE NEIGHBOUR: 'it returns false'. Refute it at one input. -/
def normTextsWrong : ChangeSpec := { name := "normTexts", fn := fun _ => fun
  | [d1, d2, d3, d4, d5] => { results := [.lit (.bool false)], args := [d1, d2, d3, d4, d5] }
  | _ => none }
def NormTextsWrongFalsely : Prop := normTextsRow.holds Try.pinned (OpenSpec.ofChange normTextsWrong)

/-- 'glyphcutterlaw16.NormBoth': WHATEVER THE INPUT: true; the input reads as it did. -/
def normBothSpec : ChangeSpec := { name := "normBoth", fn := fun _ => fun
  | [d1, d2, d3, d4, d5] => { results := [.lit (.bool true)], args := [d1, d2, d3, d4, d5] }
  | _ => none }
def normBothRow : OpenClaim := { program := "ytfaahcgoinkmlaa", sum := "1231222ebeed424d00ebed4d1b2e7ce4307ee8a24615a49fbe44a2e14b5f3276", func := "glyphcutter/glyphcutterlaw16.NormBoth", spec := "normBoth", unfollowed := true, recurses := true, apart := false }
def NormBothSaid : Prop := normBothRow.holds Try.pinned (OpenSpec.ofChange normBothSpec)

/-- ITS FALSE NEIGHBOUR: 'it returns false'. Refute it at one input. -/
def normBothWrong : ChangeSpec := { name := "normBoth", fn := fun _ => fun
  | [d1, d2, d3, d4, d5] => { results := [.lit (.bool false)], args := [d1, d2, d3, d4, d5] }
  | _ => none }
def NormBothWrongFalsely : Prop := normBothRow.holds Try.pinned (OpenSpec.ofChange normBothWrong)

/-- 'glyphcutterlaw16.NormShort': WHATEVER THE INPUT: true; the input reads as it did. -/
def normShortSpec : ChangeSpec := { name := "normShort", fn := fun _ => fun
  | [d1, d2] => { results := [.lit (.bool true)], args := [d1, d2] }
  | _ => none }
def normShortRow : OpenClaim := { program := "ytfaahcgoinkmlaa", sum := "1231222ebeed424d00ebed4d1b2e7ce4307ee8a24615a49fbe44a2e14b5f3276", func := "glyphcutter/glyphcutterlaw16.NormShort", spec := "normShort", unfollowed := true, recurses := true, apart := false }
def NormShortSaid : Prop := normShortRow.holds Try.pinned (OpenSpec.ofChange normShortSpec)

/-- ITS FALSE NEIGHBOUR: 'it returns false'. Refute it at one input. -/
def normShortWrong : ChangeSpec := { name := "normShort", fn := fun _ => fun
  | [d1, d2] => { results := [.lit (.bool false)], args := [d1, d2] }
  | _ => none }
def NormShortWrongFalsely : Prop := normShortRow.holds Try.pinned (OpenSpec.ofChange normShortWrong)

/-- 'glyphcutterlaw16.NormKeeps': WHATEVER THE INPUT: true; the input reads as it did. -/
def normKeepsSpec : ChangeSpec := { name := "normKeeps", fn := fun _ => fun
  | [d1, d2, d3] => { results := [.lit (.bool true)], args := [d1, d2, d3] }
  | _ => none }
def normKeepsRow : OpenClaim := { program := "ytfaahcgoinkmlaa", sum := "1231222ebeed424d00ebed4d1b2e7ce4307ee8a24615a49fbe44a2e14b5f3276", func := "glyphcutter/glyphcutterlaw16.NormKeeps", spec := "normKeeps", unfollowed := true, recurses := true, apart := false }
def NormKeepsSaid : Prop := normKeepsRow.holds Try.pinned (OpenSpec.ofChange normKeepsSpec)

/-- ITS FALSE NEIGHBOUR: 'it returns false'. Refute it at one input. -/
def normKeepsWrong : ChangeSpec := { name := "normKeeps", fn := fun _ => fun
  | [d1, d2, d3] => { results := [.lit (.bool false)], args := [d1, d2, d3] }
  | _ => none }
def NormKeepsWrongFalsely : Prop := normKeepsRow.holds Try.pinned (OpenSpec.ofChange normKeepsWrong)

/-- 'glyphcutterlaw16.NormParts': WHATEVER THE INPUT: true; the input reads as it did. -/
def normPartsSpec : ChangeSpec := { name := "normParts", fn := fun _ => fun
  | [d1, d2, d3, d4] => { results := [.lit (.bool true)], args := [d1, d2, d3, d4] }
  | _ => none }
def normPartsRow : OpenClaim := { program := "ytfaahcgoinkmlaa", sum := "1231222ebeed424d00ebed4d1b2e7ce4307ee8a24615a49fbe44a2e14b5f3276", func := "glyphcutter/glyphcutterlaw16.NormParts", spec := "normParts", unfollowed := true, recurses := true, apart := false }
def NormPartsSaid : Prop := normPartsRow.holds Try.pinned (OpenSpec.ofChange normPartsSpec)

/-- ITS FALSE NEIGHBOUR: 'it returns false'. Refute it at one input. -/
def normPartsWrong : ChangeSpec := { name := "normParts", fn := fun _ => fun
  | [d1, d2, d3, d4] => { results := [.lit (.bool false)], args := [d1, d2, d3, d4] }
  | _ => none }
def NormPartsWrongFalsely : Prop := normPartsRow.holds Try.pinned (OpenSpec.ofChange normPartsWrong)

/- THE SECOND FORM. 'bulk': how many values and letters a reading holds, each counted each time it is reached (what is shared counts as often as it is met; a slice's spare places count too). A statement '..UptoSaid' is the law's where the arguments, and the package variables that the reading takes, are together of bulk at most 1048576: NARROWER than '..Said'. Prove '..Said' where nothing that the law and all that it calls make is longer than what came in: it says more and counts as full. Else prove '..UptoSaid'. A law counts once. -/
mutual
def uptoBulk {H : Type} : DataW H → Nat
  | .lit (.string bytes) => bytes.length + 1
  | .lit _ => 1
  | .nil => 1
  | .ptr d => uptoBulk d + 1
  | .slice elems spare => uptoBulkAll elems + uptoBulkAll spare + 1
  | .agg parts => uptoBulkAll parts + 1
  | .iface _ d => uptoBulk d + 1
  | .map entries => uptoBulkEntries entries + 1
  | .held _ => 1
def uptoBulkAll {H : Type} : List (DataW H) → Nat
  | [] => 0
  | d :: r => uptoBulk d + uptoBulkAll r
def uptoBulkEntries {H : Type} : List (Lit × DataW H) → Nat
  | [] => 0
  | x :: r => uptoBulkEntry x + uptoBulkEntries r
def uptoBulkEntry {H : Type} : Lit × DataW H → Nat
  | (.string bytes, d) => bytes.length + uptoBulk d + 1
  | (_, d) => uptoBulk d + 1
 end
def uptoSmall : (H : Type) → List (DataW H) → Bool := fun _ ds => decide (uptoBulkAll ds ≤ 1048576)
def OpenSpec.upto (s : _root_.Go.ChangeSpec) : _root_.Go.OpenSpec := { _root_.Go.OpenSpec.ofChange s with cond := some uptoSmall }

/-- 'glyphcutterlaw16.NormSteps', WHERE WHAT IT READS IS OF BULK AT MOST 1048576: true; the input reads as it did. -/
def normStepsUptoRow : OpenClaim := { program := "ytfaahcgoinkmlaa", sum := "1231222ebeed424d00ebed4d1b2e7ce4307ee8a24615a49fbe44a2e14b5f3276", func := "glyphcutter/glyphcutterlaw16.NormSteps", spec := "normSteps", unfollowed := true, recurses := true, apart := false, narrowed := true }
def NormStepsUptoSaid : Prop := normStepsUptoRow.holds Try.pinned (OpenSpec.upto normStepsSpec)

/-- 'glyphcutterlaw16.NormLines', WHERE WHAT IT READS IS OF BULK AT MOST 1048576: true; the input reads as it did. -/
def normLinesUptoRow : OpenClaim := { program := "ytfaahcgoinkmlaa", sum := "1231222ebeed424d00ebed4d1b2e7ce4307ee8a24615a49fbe44a2e14b5f3276", func := "glyphcutter/glyphcutterlaw16.NormLines", spec := "normLines", unfollowed := true, recurses := true, apart := false, narrowed := true }
def NormLinesUptoSaid : Prop := normLinesUptoRow.holds Try.pinned (OpenSpec.upto normLinesSpec)

/-- 'glyphcutterlaw16.NormPairs', WHERE WHAT IT READS IS OF BULK AT MOST 1048576: true; the input reads as it did. -/
def normPairsUptoRow : OpenClaim := { program := "ytfaahcgoinkmlaa", sum := "1231222ebeed424d00ebed4d1b2e7ce4307ee8a24615a49fbe44a2e14b5f3276", func := "glyphcutter/glyphcutterlaw16.NormPairs", spec := "normPairs", unfollowed := true, recurses := true, apart := false, narrowed := true }
def NormPairsUptoSaid : Prop := normPairsUptoRow.holds Try.pinned (OpenSpec.upto normPairsSpec)

/-- 'glyphcutterlaw16.NormTexts', WHERE WHAT IT READS IS OF BULK AT MOST 1048576: true; the input reads as it did. -/
def normTextsUptoRow : OpenClaim := { program := "ytfaahcgoinkmlaa", sum := "1231222ebeed424d00ebed4d1b2e7ce4307ee8a24615a49fbe44a2e14b5f3276", func := "glyphcutter/glyphcutterlaw16.NormTexts", spec := "normTexts", unfollowed := true, recurses := true, apart := false, narrowed := true }
def NormTextsUptoSaid : Prop := normTextsUptoRow.holds Try.pinned (OpenSpec.upto normTextsSpec)

/-- 'glyphcutterlaw16.NormBoth', WHERE WHAT IT READS IS OF BULK AT MOST 1048576: true; the input reads as it did. -/
def normBothUptoRow : OpenClaim := { program := "ytfaahcgoinkmlaa", sum := "1231222ebeed424d00ebed4d1b2e7ce4307ee8a24615a49fbe44a2e14b5f3276", func := "glyphcutter/glyphcutterlaw16.NormBoth", spec := "normBoth", unfollowed := true, recurses := true, apart := false, narrowed := true }
def NormBothUptoSaid : Prop := normBothUptoRow.holds Try.pinned (OpenSpec.upto normBothSpec)

/-- 'glyphcutterlaw16.NormShort', WHERE WHAT IT READS IS OF BULK AT MOST 1048576: true; the input reads as it did. -/
def normShortUptoRow : OpenClaim := { program := "ytfaahcgoinkmlaa", sum := "1231222ebeed424d00ebed4d1b2e7ce4307ee8a24615a49fbe44a2e14b5f3276", func := "glyphcutter/glyphcutterlaw16.NormShort", spec := "normShort", unfollowed := true, recurses := true, apart := false, narrowed := true }
def NormShortUptoSaid : Prop := normShortUptoRow.holds Try.pinned (OpenSpec.upto normShortSpec)

/-- 'glyphcutterlaw16.NormKeeps', WHERE WHAT IT READS IS OF BULK AT MOST 1048576: true; the input reads as it did. -/
def normKeepsUptoRow : OpenClaim := { program := "ytfaahcgoinkmlaa", sum := "1231222ebeed424d00ebed4d1b2e7ce4307ee8a24615a49fbe44a2e14b5f3276", func := "glyphcutter/glyphcutterlaw16.NormKeeps", spec := "normKeeps", unfollowed := true, recurses := true, apart := false, narrowed := true }
def NormKeepsUptoSaid : Prop := normKeepsUptoRow.holds Try.pinned (OpenSpec.upto normKeepsSpec)

/-- 'glyphcutterlaw16.NormParts', WHERE WHAT IT READS IS OF BULK AT MOST 1048576: true; the input reads as it did. -/
def normPartsUptoRow : OpenClaim := { program := "ytfaahcgoinkmlaa", sum := "1231222ebeed424d00ebed4d1b2e7ce4307ee8a24615a49fbe44a2e14b5f3276", func := "glyphcutter/glyphcutterlaw16.NormParts", spec := "normParts", unfollowed := true, recurses := true, apart := false, narrowed := true }
def NormPartsUptoSaid : Prop := normPartsUptoRow.holds Try.pinned (OpenSpec.upto normPartsSpec)

end Rows
end Go.Proofs.Ytfaahcgoinkmlaa
