/-
  No cell of these rows narrows 'for every input' (looked for: loops, veiled, ifaces, maps, wideKeys, modest, calm, conditions, laid).
  DERIVED. THE GIVEN ROWS OF THIS SEAT. 7 by the template 'for every input the law returns true; each argument reads behind the call as it read before'; 0 by the template 'total and deterministic' (their statements: YtbhfaeliklaffaaTotals.lean).
  GIVEN WITH THE SEED: the statements are not yours to turn. If you find one false, say at which input.
  Laid BY PROGRAM, IN A SANDBOX (cutbox-rows.mjs): the forced cells as the released guide's own fill.sh prints them over the translation 0cfa9e8100301d79… (all of the seat's roots in one cut). By AI agents, Wed Nov 11 2026. No macro, syntax, notation, axiom, sorry.
-/
import Derived.Test.YtbhfaeliklaffaaChecked
import GoSem.Claim
import GoSem.ClaimJoined
import GoSem.ClaimMapViews
import Derived.JoinedTies
import Derived.KernelRfl
namespace Go.Proofs.Ytbhfaeliklaffaa
/- THE CELL 'sum', in the pinned program and in every row, IS THE sha256 OF THE DUMP (.gsa) THAT YtbhfaeliklaffaaProg.lean LOADS. Nothing in Lean hashes anything: it is a label: what it is worth is what the hold of that sum in a sandbox is worth. -/
noncomputable def Try.pinned : Pinned := { name := "ytbhfaeliklaffaa", sum := "0cfa9e8100301d799afe28397a6f73f0619724f2637ba24969e216dfe48b0a55", checked := Try.checked }
namespace Rows
def none {H : Type} : Left H := { results := [], args := [] }

/-- 'glyphcutterlaw03.SeqsBoth': WHATEVER THE INPUT: true; the input reads as it did. -/
def seqsBothSpec : ChangeSpec := { name := "seqsBoth", fn := fun _ => fun
  | [d1, d2] => { results := [.lit (.bool true)], args := [d1, d2] }
  | _ => none }
def seqsBothRow : OpenClaim := { program := "ytbhfaeliklaffaa", sum := "0cfa9e8100301d799afe28397a6f73f0619724f2637ba24969e216dfe48b0a55", func := "glyphcutter/glyphcutterlaw03.SeqsBoth", spec := "seqsBoth", unfollowed := true, recurses := true, apart := false }
def SeqsBothSaid : Prop := seqsBothRow.holds Try.pinned (OpenSpec.ofChange seqsBothSpec)

/-- ITS FALSE NEIGHBOUR: 'it returns false'. Refute it at one input. -/
def seqsBothWrong : ChangeSpec := { name := "seqsBoth", fn := fun _ => fun
  | [d1, d2] => { results := [.lit (.bool false)], args := [d1, d2] }
  | _ => none }
def SeqsBothWrongFalsely : Prop := seqsBothRow.holds Try.pinned (OpenSpec.ofChange seqsBothWrong)

/-- 'glyphcutterlaw03.SeqsOne': WHATEVER THE INPUT: true; the input reads as it did. -/
def seqsOneSpec : ChangeSpec := { name := "seqsOne", fn := fun _ => fun
  | [d] => { results := [.lit (.bool true)], args := [d] }
  | _ => none }
def seqsOneRow : OpenClaim := { program := "ytbhfaeliklaffaa", sum := "0cfa9e8100301d799afe28397a6f73f0619724f2637ba24969e216dfe48b0a55", func := "glyphcutter/glyphcutterlaw03.SeqsOne", spec := "seqsOne", unfollowed := true, recurses := true, apart := false }
def SeqsOneSaid : Prop := seqsOneRow.holds Try.pinned (OpenSpec.ofChange seqsOneSpec)

/-- ITS FALSE NEIGHBOUR: 'it returns false'. Refute it at one input. -/
def seqsOneWrong : ChangeSpec := { name := "seqsOne", fn := fun _ => fun
  | [d] => { results := [.lit (.bool false)], args := [d] }
  | _ => none }
def SeqsOneWrongFalsely : Prop := seqsOneRow.holds Try.pinned (OpenSpec.ofChange seqsOneWrong)

/-- 'glyphcutterlaw03.SeqsOf': WHATEVER THE INPUT: true; the input reads as it did. -/
def seqsOfSpec : ChangeSpec := { name := "seqsOf", fn := fun _ => fun
  | [d1, d2] => { results := [.lit (.bool true)], args := [d1, d2] }
  | _ => none }
def seqsOfRow : OpenClaim := { program := "ytbhfaeliklaffaa", sum := "0cfa9e8100301d799afe28397a6f73f0619724f2637ba24969e216dfe48b0a55", func := "glyphcutter/glyphcutterlaw03.SeqsOf", spec := "seqsOf", unfollowed := true, recurses := true, apart := false }
def SeqsOfSaid : Prop := seqsOfRow.holds Try.pinned (OpenSpec.ofChange seqsOfSpec)

/-- ITS FALSE NEIGHBOUR: 'it returns false'. Refute it at one input. -/
def seqsOfWrong : ChangeSpec := { name := "seqsOf", fn := fun _ => fun
  | [d1, d2] => { results := [.lit (.bool false)], args := [d1, d2] }
  | _ => none }
def SeqsOfWrongFalsely : Prop := seqsOfRow.holds Try.pinned (OpenSpec.ofChange seqsOfWrong)

/-- 'glyphcutterlaw03.SeqsMatch': WHATEVER THE INPUT: true; the input reads as it did. -/
def seqsMatchSpec : ChangeSpec := { name := "seqsMatch", fn := fun _ => fun
  | [d1, d2] => { results := [.lit (.bool true)], args := [d1, d2] }
  | _ => none }
def seqsMatchRow : OpenClaim := { program := "ytbhfaeliklaffaa", sum := "0cfa9e8100301d799afe28397a6f73f0619724f2637ba24969e216dfe48b0a55", func := "glyphcutter/glyphcutterlaw03.SeqsMatch", spec := "seqsMatch", unfollowed := true, recurses := true, apart := false }
def SeqsMatchSaid : Prop := seqsMatchRow.holds Try.pinned (OpenSpec.ofChange seqsMatchSpec)

/-- ITS FALSE NEIGHBOUR: 'it returns false'. Refute it at one input. -/
def seqsMatchWrong : ChangeSpec := { name := "seqsMatch", fn := fun _ => fun
  | [d1, d2] => { results := [.lit (.bool false)], args := [d1, d2] }
  | _ => none }
def SeqsMatchWrongFalsely : Prop := seqsMatchRow.holds Try.pinned (OpenSpec.ofChange seqsMatchWrong)

/-- 'glyphcutterlaw03.SeqsHas': WHATEVER THE INPUT: true; the input reads as it did. -/
def seqsHasSpec : ChangeSpec := { name := "seqsHas", fn := fun _ => fun
  | [d1, d2, d3] => { results := [.lit (.bool true)], args := [d1, d2, d3] }
  | _ => none }
def seqsHasRow : OpenClaim := { program := "ytbhfaeliklaffaa", sum := "0cfa9e8100301d799afe28397a6f73f0619724f2637ba24969e216dfe48b0a55", func := "glyphcutter/glyphcutterlaw03.SeqsHas", spec := "seqsHas", unfollowed := true, recurses := true, apart := false }
def SeqsHasSaid : Prop := seqsHasRow.holds Try.pinned (OpenSpec.ofChange seqsHasSpec)

/-- ITS FALSE NEIGHBOUR: 'it returns false'. Refute it at one input. -/
def seqsHasWrong : ChangeSpec := { name := "seqsHas", fn := fun _ => fun
  | [d1, d2, d3] => { results := [.lit (.bool false)], args := [d1, d2, d3] }
  | _ => none }
def SeqsHasWrongFalsely : Prop := seqsHasRow.holds Try.pinned (OpenSpec.ofChange seqsHasWrong)

/-- 'glyphcutterlaw03.SeqsCounts': WHATEVER THE INPUT: true; the input reads as it did. -/
def seqsCountsSpec : ChangeSpec := { name := "seqsCounts", fn := fun _ => fun
  | [d1, d2] => { results := [.lit (.bool true)], args := [d1, d2] }
  | _ => none }
def seqsCountsRow : OpenClaim := { program := "ytbhfaeliklaffaa", sum := "0cfa9e8100301d799afe28397a6f73f0619724f2637ba24969e216dfe48b0a55", func := "glyphcutter/glyphcutterlaw03.SeqsCounts", spec := "seqsCounts", unfollowed := true, recurses := true, apart := false }
def SeqsCountsSaid : Prop := seqsCountsRow.holds Try.pinned (OpenSpec.ofChange seqsCountsSpec)

/-- ITS FALSE NEIGHBOUR: 'it returns false'. Refute it at one input. -/
def seqsCountsWrong : ChangeSpec := { name := "seqsCounts", fn := fun _ => fun
  | [d1, d2] => { results := [.lit (.bool false)], args := [d1, d2] }
  | _ => none }
def SeqsCountsWrongFalsely : Prop := seqsCountsRow.holds Try.pinned (OpenSpec.ofChange seqsCountsWrong)

/-- 'glyphcutterlaw03.SeqsRise': WHATEVER THE INPUT: true; the input reads as it did. -/
def seqsRiseSpec : ChangeSpec := { name := "seqsRise", fn := fun _ => fun
  | [d1, d2] => { results := [.lit (.bool true)], args := [d1, d2] }
  | _ => none }
def seqsRiseRow : OpenClaim := { program := "ytbhfaeliklaffaa", sum := "0cfa9e8100301d799afe28397a6f73f0619724f2637ba24969e216dfe48b0a55", func := "glyphcutter/glyphcutterlaw03.SeqsRise", spec := "seqsRise", unfollowed := true, recurses := true, apart := false }
def SeqsRiseSaid : Prop := seqsRiseRow.holds Try.pinned (OpenSpec.ofChange seqsRiseSpec)

/-- ITS FALSE NEIGHBOUR: 'it returns false'. Refute it at one input. -/
def seqsRiseWrong : ChangeSpec := { name := "seqsRise", fn := fun _ => fun
  | [d1, d2] => { results := [.lit (.bool false)], args := [d1, d2] }
  | _ => none }
def SeqsRiseWrongFalsely : Prop := seqsRiseRow.holds Try.pinned (OpenSpec.ofChange seqsRiseWrong)

/- THE SECOND FORM. 'bulk': how many values and letters a reading holds, each counted each time it is reached (what is shared counts as often as it is met; a slice's spare places count too). A statement '..UptoSaid' is the law's where the arguments, and the package variables that the reading takes, are together of bulk at most 1048576: NARROWER than '..Said'. Prove '..Said' where nothing that the law and all that it calls make is longer than what came in: it says more and counts as full. Else prove '..UptoSaid'. A law counts once. -/
mutual
def uptoBulk {H : Type} : DataW H → Nat
  | .lit (.string bytes) => bytes.length + 1
  | .lit _ => 1
  | .nil => 1
  | .ptr d => uptoBulk d + 1
  | .slice elems spare => uptoBulkAll elems + uptoBulkAll spare + 1
  | .agg parts => uptoBulkAll parts + 1
  | .iface _ d => uptoBulk d + 1
  | .map entries => uptoBulkEntries entries + 1
  | .held _ => 1
def uptoBulkAll {H : Type} : List (DataW H) → Nat
  | [] => 0
  | d :: r => uptoBulk d + uptoBulkAll r
def uptoBulkEntries {H : Type} : List (Lit × DataW H) → Nat
  | [] => 0
  | x :: r => uptoBulkEntry x + uptoBulkEntries r
def uptoBulkEntry {H : Type} : Lit × DataW H → Nat
  | (.string bytes, d) => bytes.length + uptoBulk d + 1
  | (_, d) => uptoBulk d + 1
 end
def uptoSmall : (H : Type) → List (DataW H) → Bool := fun _ ds => decide (uptoBulkAll ds ≤ 1048576)
def OpenSpec.upto (s : _root_.Go.ChangeSpec) : _root_.Go.OpenSpec := { _root_.Go.OpenSpec.ofChange s with cond := some uptoSmall }

/-- 'glyphcutterlaw03.SeqsBoth', WHERE WHAT IT READS IS OF BULK AT MOST 1048576: true; the input reads as it did. -/
def seqsBothUptoRow : OpenClaim := { program := "ytbhfaeliklaffaa", sum := "0cfa9e8100301d799afe28397a6f73f0619724f2637ba24969e216dfe48b0a55", func := "glyphcutter/glyphcutterlaw03.SeqsBoth", spec := "seqsBoth", unfollowed := true, recurses := true, apart := false, narrowed := true }
def SeqsBothUptoSaid : Prop := seqsBothUptoRow.holds Try.pinned (OpenSpec.upto seqsBothSpec)

/-- 'glyphcutterlaw03.SeqsOne', WHERE WHAT IT READS IS OF BULK AT MOST 1048576: true; the input reads as it did. -/
def seqsOneUptoRow : OpenClaim := { program := "ytbhfaeliklaffaa", sum := "0cfa9e8100301d799afe28397a6f73f0619724f2637ba24969e216dfe48b0a55", func := "glyphcutter/glyphcutterlaw03.SeqsOne", spec := "seqsOne", unfollowed := true, recurses := true, apart := false, narrowed := true }
def SeqsOneUptoSaid : Prop := seqsOneUptoRow.holds Try.pinned (OpenSpec.upto seqsOneSpec)

/-- 'glyphcutterlaw03.SeqsOf', WHERE WHAT IT READS IS OF BULK AT MOST 1048576: true; the input reads as it did. -/
def seqsOfUptoRow : OpenClaim := { program := "ytbhfaeliklaffaa", sum := "0cfa9e8100301d799afe28397a6f73f0619724f2637ba24969e216dfe48b0a55", func := "glyphcutter/glyphcutterlaw03.SeqsOf", spec := "seqsOf", unfollowed := true, recurses := true, apart := false, narrowed := true }
def SeqsOfUptoSaid : Prop := seqsOfUptoRow.holds Try.pinned (OpenSpec.upto seqsOfSpec)

/-- 'glyphcutterlaw03.SeqsMatch', WHERE WHAT IT READS IS OF BULK AT MOST 1048576: true; the input reads as it did. -/
def seqsMatchUptoRow : OpenClaim := { program := "ytbhfaeliklaffaa", sum := "0cfa9e8100301d799afe28397a6f73f0619724f2637ba24969e216dfe48b0a55", func := "glyphcutter/glyphcutterlaw03.SeqsMatch", spec := "seqsMatch", unfollowed := true, recurses := true, apart := false, narrowed := true }
def SeqsMatchUptoSaid : Prop := seqsMatchUptoRow.holds Try.pinned (OpenSpec.upto seqsMatchSpec)

/-- 'glyphcutterlaw03.SeqsHas', WHERE WHAT IT READS IS OF BULK AT MOST 1048576: true; the input reads as it did. -/
def seqsHasUptoRow : OpenClaim := { program := "ytbhfaeliklaffaa", sum := "0cfa9e8100301d799afe28397a6f73f0619724f2637ba24969e216dfe48b0a55", func := "glyphcutter/glyphcutterlaw03.SeqsHas", spec := "seqsHas", unfollowed := true, recurses := true, apart := false, narrowed := true }
def SeqsHasUptoSaid : Prop := seqsHasUptoRow.holds Try.pinned (OpenSpec.upto seqsHasSpec)

/-- 'glyphcutterlaw03.SeqsCounts', WHERE WHAT IT READS IS OF BULK AT MOST 1048576: true; the input reads as it did. -/
def seqsCountsUptoRow : OpenClaim := { program := "ytbhfaeliklaffaa", sum := "0cfa9e8100301d799afe28397a6f73f0619724f2637ba24969e216dfe48b0a55", func := "glyphcutter/glyphcutterlaw03.SeqsCounts", spec := "seqsCounts", unfollowed := true, recurses := true, apart := false, narrowed := true }
def SeqsCountsUptoSaid : Prop := seqsCountsUptoRow.holds Try.pinned (OpenSpec.upto seqsCountsSpec)

/-- 'glyphcutterlaw03.SeqsRise', WHERE WHAT IT READS IS OF BULK AT MOST 1048576: true; the input reads as it did. -/
def seqsRiseUptoRow : OpenClaim := { program := "ytbhfaeliklaffaa", sum := "0cfa9e8100301d799afe28397a6f73f0619724f2637ba24969e216dfe48b0a55", func := "glyphcutter/glyphcutterlaw03.SeqsRise", spec := "seqsRise", unfollowed := true, recurses := true, apart := false, narrowed := true }
def SeqsRiseUptoSaid : Prop := seqsRiseUptoRow.holds Try.pinned (OpenSpec.upto seqsRiseSpec)

end Rows
end Go.Proofs.Ytbhfaeliklaffaa
