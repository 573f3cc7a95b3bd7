/-
  No cell of these rows narrows 'for every input' (looked for: loops, veiled, ifaces, maps, wideKeys, modest, calm, conditions, laid).
  DERIVED. THE GIVEN ROWS OF THIS SEAT. 6 by the template 'for every input the law returns true; each argument reads behind the call as it read before'; 0 by the template 'total and deterministic' (their statements: YtpcljaidlihafaaTotals.lean).
  GIVEN WITH THE SEED: the statements are not yours to turn. If you find one false, say at which input.
  Laid BY PROGRAM, IN A SANDBOX (cutbox-rows.mjs): the forced cells as the released guide's own fill.sh prints them over the translation a631d846d81a50c5… (all of the seat's roots in one cut). By AI agents, Wed Nov 11 2026. No macro, syntax, notation, axiom, sorry.
-/
import Derived.Test.YtpcljaidlihafaaChecked
import GoSem.Claim
import GoSem.ClaimJoined
import GoSem.ClaimMapViews
import Derived.JoinedTies
import Derived.KernelRfl
namespace Go.Proofs.Ytpcljaidlihafaa
/- THE CELL 'sum', in the pinned program and in every row, IS THE sha256 OF THE DUMP (.gsa) THAT YtpcljaidlihafaaProg.lean LOADS. Nothing in Lean hashes anything: it is a label: what it is worth is what the hold of that sum in a sandbox is worth. -/
noncomputable def Try.pinned : Pinned := { name := "ytpcljaidlihafaa", sum := "a631d846d81a50c5d87b9a2d0025e2d53f2e1f2a8f67916d91758aed6114c1f6", checked := Try.checked }
namespace Rows
def none {H : Type} : Left H := { results := [], args := [] }

/-- 'glyphcutterlaw05.PropsApart': WHATEVER THE INPUT: true; the input reads as it did. -/
def propsApartSpec : ChangeSpec := { name := "propsApart", fn := fun _ => fun
  | [d] => { results := [.lit (.bool true)], args := [d] }
  | _ => none }
def propsApartRow : OpenClaim := { program := "ytpcljaidlihafaa", sum := "a631d846d81a50c5d87b9a2d0025e2d53f2e1f2a8f67916d91758aed6114c1f6", func := "glyphcutter/glyphcutterlaw05.PropsApart", spec := "propsApart", unfollowed := true, recurses := true, apart := false }
def PropsApartSaid : Prop := propsApartRow.holds Try.pinned (OpenSpec.ofChange propsApartSpec)

/-- ITS FALSE NEIGHBOUR: 'it returns false'. Refute it at one input. -/
def propsApartWrong : ChangeSpec := { name := "propsApart", fn := fun _ => fun
  | [d] => { results := [.lit (.bool false)], args := [d] }
  | _ => none }
def PropsApartWrongFalsely : Prop := propsApartRow.holds Try.pinned (OpenSpec.ofChange propsApartWrong)

/-- 'glyphcutterlaw05.PropsAll': WHATEVER THE INPUT: true; the input reads as it did. -/
def propsAllSpec : ChangeSpec := { name := "propsAll", fn := fun _ => fun
  | [d] => { results := [.lit (.bool true)], args := [d] }
  | _ => none }
def propsAllRow : OpenClaim := { program := "ytpcljaidlihafaa", sum := "a631d846d81a50c5d87b9a2d0025e2d53f2e1f2a8f67916d91758aed6114c1f6", func := "glyphcutter/glyphcutterlaw05.PropsAll", spec := "propsAll", unfollowed := true, recurses := true, apart := false }
def PropsAllSaid : Prop := propsAllRow.holds Try.pinned (OpenSpec.ofChange propsAllSpec)

/-- ITS FALSE NEIGHBOUR: 'it returns false'. Refute it at one input. -/
def propsAllWrong : ChangeSpec := { name := "propsAll", fn := fun _ => fun
  | [d] => { results := [.lit (.bool false)], args := [d] }
  | _ => none }
def PropsAllWrongFalsely : Prop := propsAllRow.holds Try.pinned (OpenSpec.ofChange propsAllWrong)

/-- 'glyphcutterlaw05.PropsOf': WHATEVER THE INPUT: true; the input reads as it did. -/
def propsOfSpec : ChangeSpec := { name := "propsOf", fn := fun _ => fun
  | [d1, d2] => { results := [.lit (.bool true)], args := [d1, d2] }
  | _ => none }
def propsOfRow : OpenClaim := { program := "ytpcljaidlihafaa", sum := "a631d846d81a50c5d87b9a2d0025e2d53f2e1f2a8f67916d91758aed6114c1f6", func := "glyphcutter/glyphcutterlaw05.PropsOf", spec := "propsOf", unfollowed := true, recurses := true, apart := false }
def PropsOfSaid : Prop := propsOfRow.holds Try.pinned (OpenSpec.ofChange propsOfSpec)

/-- ITS FALSE NEIGHBOUR: 'it returns false'. Refute it at one input. -/
def propsOfWrong : ChangeSpec := { name := "propsOf", fn := fun _ => fun
  | [d1, d2] => { results := [.lit (.bool false)], args := [d1, d2] }
  | _ => none }
def PropsOfWrongFalsely : Prop := propsOfRow.holds Try.pinned (OpenSpec.ofChange propsOfWrong)

/-- 'glyphcutterlaw05.PropsNames': WHATEVER THE INPUT: true; the input reads as it did. -/
def propsNamesSpec : ChangeSpec := { name := "propsNames", fn := fun _ => fun
  | [d] => { results := [.lit (.bool true)], args := [d] }
  | _ => none }
def propsNamesRow : OpenClaim := { program := "ytpcljaidlihafaa", sum := "a631d846d81a50c5d87b9a2d0025e2d53f2e1f2a8f67916d91758aed6114c1f6", func := "glyphcutter/glyphcutterlaw05.PropsNames", spec := "propsNames", unfollowed := true, recurses := true, apart := false }
def PropsNamesSaid : Prop := propsNamesRow.holds Try.pinned (OpenSpec.ofChange propsNamesSpec)

/-- ITS FALSE NEIGHBOUR: 'it returns false'. Refute it at one input. -/
def propsNamesWrong : ChangeSpec := { name := "propsNames", fn := fun _ => fun
  | [d] => { results := [.lit (.bool false)], args := [d] }
  | _ => none }
def PropsNamesWrongFalsely : Prop := propsNamesRow.holds Try.pinned (OpenSpec.ofChange propsNamesWrong)

/-- 'glyphcutterlaw05.PropsLoose': WHATEVER THE INPUT: true; the input reads as it did. -/
def propsLooseSpec : ChangeSpec := { name := "propsLoose", fn := fun _ => fun
  | [d1, d2, d3] => { results := [.lit (.bool true)], args := [d1, d2, d3] }
  | _ => none }
def propsLooseRow : OpenClaim := { program := "ytpcljaidlihafaa", sum := "a631d846d81a50c5d87b9a2d0025e2d53f2e1f2a8f67916d91758aed6114c1f6", func := "glyphcutter/glyphcutterlaw05.PropsLoose", spec := "propsLoose", unfollowed := true, recurses := true, apart := false }
def PropsLooseSaid : Prop := propsLooseRow.holds Try.pinned (OpenSpec.ofChange propsLooseSpec)

/-- ITS FALSE NEIGHBOUR: 'it returns false'. Refute it at one input. -/
def propsLooseWrong : ChangeSpec := { name := "propsLoose", fn := fun _ => fun
  | [d1, d2, d3] => { results := [.lit (.bool false)], args := [d1, d2, d3] }
  | _ => none }
def PropsLooseWrongFalsely : Prop := propsLooseRow.holds Try.pinned (OpenSpec.ofChange propsLooseWrong)

/-- 'glyphcutterlaw05.PropsMade': WHATEVER THE INPUT: true; the input reads as it did. -/
def propsMadeSpec : ChangeSpec := { name := "propsMade", fn := fun _ => fun
  | [d] => { results := [.lit (.bool true)], args := [d] }
  | _ => none }
def propsMadeRow : OpenClaim := { program := "ytpcljaidlihafaa", sum := "a631d846d81a50c5d87b9a2d0025e2d53f2e1f2a8f67916d91758aed6114c1f6", func := "glyphcutter/glyphcutterlaw05.PropsMade", spec := "propsMade", unfollowed := true, recurses := true, apart := false }
def PropsMadeSaid : Prop := propsMadeRow.holds Try.pinned (OpenSpec.ofChange propsMadeSpec)

/-- ITS FALSE NEIGHBOUR: 'it returns false'. Refute it at one input. -/
def propsMadeWrong : ChangeSpec := { name := "propsMade", fn := fun _ => fun
  | [d] => { results := [.lit (.bool false)], args := [d] }
  | _ => none }
def PropsMadeWrongFalsely : Prop := propsMadeRow.holds Try.pinned (OpenSpec.ofChange propsMadeWrong)

/- THE SECOND FORM. 'bulk': how many values and letters a reading holds, each counted each time it is reached (what is shared counts as often as it is met; a slice's spare places count too). A statement '..UptoSaid' is the law's where the arguments, and the package variables that the reading takes, are together of bulk at most 1048576: NARROWER than '..Said'. Prove '..Said' where nothing that the law and all that it calls make is longer than what came in: it says more and counts as full. Else prove '..UptoSaid'. A law counts once. -/
mutual
def uptoBulk {H : Type} : DataW H → Nat
  | .lit (.string bytes) => bytes.length + 1
  | .lit _ => 1
  | .nil => 1
  | .ptr d => uptoBulk d + 1
  | .slice elems spare => uptoBulkAll elems + uptoBulkAll spare + 1
  | .agg parts => uptoBulkAll parts + 1
  | .iface _ d => uptoBulk d + 1
  | .map entries => uptoBulkEntries entries + 1
  | .held _ => 1
def uptoBulkAll {H : Type} : List (DataW H) → Nat
  | [] => 0
  | d :: r => uptoBulk d + uptoBulkAll r
def uptoBulkEntries {H : Type} : List (Lit × DataW H) → Nat
  | [] => 0
  | x :: r => uptoBulkEntry x + uptoBulkEntries r
def uptoBulkEntry {H : Type} : Lit × DataW H → Nat
  | (.string bytes, d) => bytes.length + uptoBulk d + 1
  | (_, d) => uptoBulk d + 1
 end
def uptoSmall : (H : Type) → List (DataW H) → Bool := fun _ ds => decide (uptoBulkAll ds ≤ 1048576)
def OpenSpec.upto (s : _root_.Go.ChangeSpec) : _root_.Go.OpenSpec := { _root_.Go.OpenSpec.ofChange s with cond := some uptoSmall }

/-- 'glyphcutterlaw05.PropsApart', WHERE WHAT IT READS IS OF BULK AT MOST 1048576: true; the input reads as it did. -/
def propsApartUptoRow : OpenClaim := { program := "ytpcljaidlihafaa", sum := "a631d846d81a50c5d87b9a2d0025e2d53f2e1f2a8f67916d91758aed6114c1f6", func := "glyphcutter/glyphcutterlaw05.PropsApart", spec := "propsApart", unfollowed := true, recurses := true, apart := false, narrowed := true }
def PropsApartUptoSaid : Prop := propsApartUptoRow.holds Try.pinned (OpenSpec.upto propsApartSpec)

/-- 'glyphcutterlaw05.PropsAll', WHERE WHAT IT READS IS OF BULK AT MOST 1048576: true; the input reads as it did. -/
def propsAllUptoRow : OpenClaim := { program := "ytpcljaidlihafaa", sum := "a631d846d81a50c5d87b9a2d0025e2d53f2e1f2a8f67916d91758aed6114c1f6", func := "glyphcutter/glyphcutterlaw05.PropsAll", spec := "propsAll", unfollowed := true, recurses := true, apart := false, narrowed := true }
def PropsAllUptoSaid : Prop := propsAllUptoRow.holds Try.pinned (OpenSpec.upto propsAllSpec)

/-- 'glyphcutterlaw05.PropsOf', WHERE WHAT IT READS IS OF BULK AT MOST 1048576: true; the input reads as it did. -/
def propsOfUptoRow : OpenClaim := { program := "ytpcljaidlihafaa", sum := "a631d846d81a50c5d87b9a2d0025e2d53f2e1f2a8f67916d91758aed6114c1f6", func := "glyphcutter/glyphcutterlaw05.PropsOf", spec := "propsOf", unfollowed := true, recurses := true, apart := false, narrowed := true }
def PropsOfUptoSaid : Prop := propsOfUptoRow.holds Try.pinned (OpenSpec.upto propsOfSpec)

/-- 'glyphcutterlaw05.PropsNames', WHERE WHAT IT READS IS OF BULK AT MOST 1048576: true; the input reads as it did. -/
def propsNamesUptoRow : OpenClaim := { program := "ytpcljaidlihafaa", sum := "a631d846d81a50c5d87b9a2d0025e2d53f2e1f2a8f67916d91758aed6114c1f6", func := "glyphcutter/glyphcutterlaw05.PropsNames", spec := "propsNames", unfollowed := true, recurses := true, apart := false, narrowed := true }
def PropsNamesUptoSaid : Prop := propsNamesUptoRow.holds Try.pinned (OpenSpec.upto propsNamesSpec)

/-- 'glyphcutterlaw05.PropsLoose', WHERE WHAT IT READS IS OF BULK AT MOST 1048576: true; the input reads as it did. -/
def propsLooseUptoRow : OpenClaim := { program := "ytpcljaidlihafaa", sum := "a631d846d81a50c5d87b9a2d0025e2d53f2e1f2a8f67916d91758aed6114c1f6", func := "glyphcutter/glyphcutterlaw05.PropsLoose", spec := "propsLoose", unfollowed := true, recurses := true, apart := false, narrowed := true }
def PropsLooseUptoSaid : Prop := propsLooseUptoRow.holds Try.pinned (OpenSpec.upto propsLooseSpec)

/-- 'glyphcutterlaw05.PropsMade', WHERE WHAT IT READS IS OF BULK AT MOST 1048576: true; the input reads as it did. -/
def propsMadeUptoRow : OpenClaim := { program := "ytpcljaidlihafaa", sum := "a631d846d81a50c5d87b9a2d0025e2d53f2e1f2a8f67916d91758aed6114c1f6", func := "glyphcutter/glyphcutterlaw05.PropsMade", spec := "propsMade", unfollowed := true, recurses := true, apart := false, narrowed := true }
def PropsMadeUptoSaid : Prop := propsMadeUptoRow.holds Try.pinned (OpenSpec.upto propsMadeSpec)

end Rows
end Go.Proofs.Ytpcljaidlihafaa
