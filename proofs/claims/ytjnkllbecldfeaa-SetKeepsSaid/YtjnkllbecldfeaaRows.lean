/-
  No cell of these rows narrows 'for every input' (looked for: loops, veiled, ifaces, maps, wideKeys, modest, calm, conditions, laid).
  DERIVED. THE GIVEN ROWS OF THIS SEAT. 9 by the template 'for every input the law returns true; each argument reads behind the call as it read before'; 0 by the template 'total and deterministic' (their statements: YtjnkllbecldfeaaTotals.lean).
  GIVEN WITH THE SEED: the statements are not yours to turn. If you find one false, say at which input.
  Laid BY PROGRAM, IN A SANDBOX (cutbox-rows.mjs): the forced cells as the released guide's own fill.sh prints them over the translation c496a4dcd4f7a5ed… (all of the seat's roots in one cut). By AI agents, Wed Nov 11 2026. No macro, syntax, notation, axiom, sorry.
-/
import Derived.Test.YtjnkllbecldfeaaChecked
import GoSem.Claim
import GoSem.ClaimJoined
import GoSem.ClaimMapViews
import Derived.JoinedTies
import Derived.KernelRfl
namespace Go.Proofs.Ytjnkllbecldfeaa
/- THE CELL 'sum', in the pinned program and in every row, IS THE sha256 OF THE DUMP (.gsa) THAT YtjnkllbecldfeaaProg.lean LOADS. Nothing in Lean hashes anything: it is a label: what it is worth is what the hold of that sum in a sandbox is worth. -/
noncomputable def Try.pinned : Pinned := { name := "ytjnkllbecldfeaa", sum := "c496a4dcd4f7a5edf665b5839c2a83a469cd9b8cb259807eab35e5c8fc2666d1", checked := Try.checked }
namespace Rows
def none {H : Type} : Left H := { results := [], args := [] }

/-- 'glyphcutterlaw01.SetOne': WHATEVER THE INPUT: true; the input reads as it did. -/
def setOneSpec : ChangeSpec := { name := "setOne", fn := fun _ => fun
  | [d1, d2, d3] => { results := [.lit (.bool true)], args := [d1, d2, d3] }
  | _ => none }
def setOneRow : OpenClaim := { program := "ytjnkllbecldfeaa", sum := "c496a4dcd4f7a5edf665b5839c2a83a469cd9b8cb259807eab35e5c8fc2666d1", func := "glyphcutter/glyphcutterlaw01.SetOne", spec := "setOne", unfollowed := true, recurses := true, apart := false }
def SetOneSaid : Prop := setOneRow.holds Try.pinned (OpenSpec.ofChange setOneSpec)

/-- ITS FALSE NEIGHBOUR: 'it returns false'. Refute it at one input. -/
def setOneWrong : ChangeSpec := { name := "setOne", fn := fun _ => fun
  | [d1, d2, d3] => { results := [.lit (.bool false)], args := [d1, d2, d3] }
  | _ => none }
def SetOneWrongFalsely : Prop := setOneRow.holds Try.pinned (OpenSpec.ofChange setOneWrong)

/-- 'glyphcutterlaw01.SetNorms': WHATEVER THE INPUT: true; the input reads as it did. -/
def setNormsSpec : ChangeSpec := { name := "setNorms", fn := fun _ => fun
  | [d1, d2, d3] => { results := [.lit (.bool true)], args := [d1, d2, d3] }
  | _ => none }
def setNormsRow : OpenClaim := { program := "ytjnkllbecldfeaa", sum := "c496a4dcd4f7a5edf665b5839c2a83a469cd9b8cb259807eab35e5c8fc2666d1", func := "glyphcutter/glyphcutterlaw01.SetNorms", spec := "setNorms", unfollowed := true, recurses := true, apart := false }
def SetNormsSaid : Prop := setNormsRow.holds Try.pinned (OpenSpec.ofChange setNormsSpec)

/-- ITS FALSE NEIGHBOUR: 'it returns false'. Refute it at one input. -/
def setNormsWrong : ChangeSpec := { name := "setNorms", fn := fun _ => fun
  | [d1, d2, d3] => { results := [.lit (.bool false)], args := [d1, d2, d3] }
  | _ => none }
def SetNormsWrongFalsely : Prop := setNormsRow.holds Try.pinned (OpenSpec.ofChange setNormsWrong)

/-- 'glyphcutterlaw01.SetTwo': WHATEVER THE INPUT: true; the input reads as it did. -/
def setTwoSpec : ChangeSpec := { name := "setTwo", fn := fun _ => fun
  | [d1, d2, d3, d4] => { results := [.lit (.bool true)], args := [d1, d2, d3, d4] }
  | _ => none }
def setTwoRow : OpenClaim := { program := "ytjnkllbecldfeaa", sum := "c496a4dcd4f7a5edf665b5839c2a83a469cd9b8cb259807eab35e5c8fc2666d1", func := "glyphcutter/glyphcutterlaw01.SetTwo", spec := "setTwo", unfollowed := true, recurses := true, apart := false }
def SetTwoSaid : Prop := setTwoRow.holds Try.pinned (OpenSpec.ofChange setTwoSpec)

/-- ITS FALSE NEIGHBOUR: 'it returns false'. Refute it at one input. -/
def setTwoWrong : ChangeSpec := { name := "setTwo", fn := fun _ => fun
  | [d1, d2, d3, d4] => { results := [.lit (.bool false)], args := [d1, d2, d3, d4] }
  | _ => none }
def SetTwoWrongFalsely : Prop := setTwoRow.holds Try.pinned (OpenSpec.ofChange setTwoWrong)

/-- 'glyphcutterlaw01.SetUnions': WHATEVER THE INPUT: true; the input reads as it did. -/
def setUnionsSpec : ChangeSpec := { name := "setUnions", fn := fun _ => fun
  | [d1, d2, d3, d4] => { results := [.lit (.bool true)], args := [d1, d2, d3, d4] }
  | _ => none }
def setUnionsRow : OpenClaim := { program := "ytjnkllbecldfeaa", sum := "c496a4dcd4f7a5edf665b5839c2a83a469cd9b8cb259807eab35e5c8fc2666d1", func := "glyphcutter/glyphcutterlaw01.SetUnions", spec := "setUnions", unfollowed := true, recurses := true, apart := false }
def SetUnionsSaid : Prop := setUnionsRow.holds Try.pinned (OpenSpec.ofChange setUnionsSpec)

/-- ITS FALSE NEIGHBOUR: 'it returns false'. Refute it at one input. -/
def setUnionsWrong : ChangeSpec := { name := "setUnions", fn := fun _ => fun
  | [d1, d2, d3, d4] => { results := [.lit (.bool false)], args := [d1, d2, d3, d4] }
  | _ => none }
def SetUnionsWrongFalsely : Prop := setUnionsRow.holds Try.pinned (OpenSpec.ofChange setUnionsWrong)

/-- 'glyphcutterlaw01.SetMembers': WHATEVER THE INPUT: true; the input reads as it did. -/
def setMembersSpec : ChangeSpec := { name := "setMembers", fn := fun _ => fun
  | [d1, d2, d3, d4] => { results := [.lit (.bool true)], args := [d1, d2, d3, d4] }
  | _ => none }
def setMembersRow : OpenClaim := { program := "ytjnkllbecldfeaa", sum := "c496a4dcd4f7a5edf665b5839c2a83a469cd9b8cb259807eab35e5c8fc2666d1", func := "glyphcutter/glyphcutterlaw01.SetMembers", spec := "setMembers", unfollowed := true, recurses := true, apart := false }
def SetMembersSaid : Prop := setMembersRow.holds Try.pinned (OpenSpec.ofChange setMembersSpec)

/-- ITS FALSE NEIGHBOUR: 'it returns false'. Refute it at one input. -/
def setMembersWrong : ChangeSpec := { name := "setMembers", fn := fun _ => fun
  | [d1, d2, d3, d4] => { results := [.lit (.bool false)], args := [d1, d2, d3, d4] }
  | _ => none }
def SetMembersWrongFalsely : Prop := setMembersRow.holds Try.pinned (OpenSpec.ofChange setMembersWrong)

/-- 'glyphcutterlaw01.SetLaws': WHATEVER THE INPUT: true; the input reads as it did. -/
def setLawsSpec : ChangeSpec := { name := "setLaws", fn := fun _ => fun
  | [d1, d2, d3] => { results := [.lit (.bool true)], args := [d1, d2, d3] }
  | _ => none }
def setLawsRow : OpenClaim := { program := "ytjnkllbecldfeaa", sum := "c496a4dcd4f7a5edf665b5839c2a83a469cd9b8cb259807eab35e5c8fc2666d1", func := "glyphcutter/glyphcutterlaw01.SetLaws", spec := "setLaws", unfollowed := true, recurses := true, apart := false }
def SetLawsSaid : Prop := setLawsRow.holds Try.pinned (OpenSpec.ofChange setLawsSpec)

/-- ITS FALSE NEIGHBOUR: 'it returns false'. Refute it at one input. -/
def setLawsWrong : ChangeSpec := { name := "setLaws", fn := fun _ => fun
  | [d1, d2, d3] => { results := [.lit (.bool false)], args := [d1, d2, d3] }
  | _ => none }
def SetLawsWrongFalsely : Prop := setLawsRow.holds Try.pinned (OpenSpec.ofChange setLawsWrong)

/-- 'glyphcutterlaw01.SetSizes': WHATEVER THE INPUT: true; the input reads as it did. -/
def setSizesSpec : ChangeSpec := { name := "setSizes", fn := fun _ => fun
  | [d1, d2] => { results := [.lit (.bool true)], args := [d1, d2] }
  | _ => none }
def setSizesRow : OpenClaim := { program := "ytjnkllbecldfeaa", sum := "c496a4dcd4f7a5edf665b5839c2a83a469cd9b8cb259807eab35e5c8fc2666d1", func := "glyphcutter/glyphcutterlaw01.SetSizes", spec := "setSizes", unfollowed := true, recurses := true, apart := false }
def SetSizesSaid : Prop := setSizesRow.holds Try.pinned (OpenSpec.ofChange setSizesSpec)

/-- ITS FALSE NEIGHBOUR: 'it returns false'. Refute it at one input. -/
def setSizesWrong : ChangeSpec := { name := "setSizes", fn := fun _ => fun
  | [d1, d2] => { results := [.lit (.bool false)], args := [d1, d2] }
  | _ => none }
def SetSizesWrongFalsely : Prop := setSizesRow.holds Try.pinned (OpenSpec.ofChange setSizesWrong)

/-- 'glyphcutterlaw01.SetShort': WHATEVER THE INPUT: true; the input reads as it did. -/
def setShortSpec : ChangeSpec := { name := "setShort", fn := fun _ => fun
  | [d1, d2] => { results := [.lit (.bool true)], args := [d1, d2] }
  | _ => none }
def setShortRow : OpenClaim := { program := "ytjnkllbecldfeaa", sum := "c496a4dcd4f7a5edf665b5839c2a83a469cd9b8cb259807eab35e5c8fc2666d1", func := "glyphcutter/glyphcutterlaw01.SetShort", spec := "setShort", unfollowed := true, recurses := true, apart := false }
def SetShortSaid : Prop := setShortRow.holds Try.pinned (OpenSpec.ofChange setShortSpec)

/-- ITS FALSE NEIGHBOUR: 'it returns false'. Refute it at one input. -/
def setShortWrong : ChangeSpec := { name := "setShort", fn := fun _ => fun
  | [d1, d2] => { results := [.lit (.bool false)], args := [d1, d2] }
  | _ => none }
def SetShortWrongFalsely : Prop := setShortRow.holds Try.pinned (OpenSpec.ofChange setShortWrong)

/-- 'glyphcutterlaw01.SetKeeps': WHATEVER THE INPUT: true; the input reads as it did. -/
def setKeepsSpec : ChangeSpec := { name := "setKeeps", fn := fun _ => fun
  | [d1, d2] => { results := [.lit (.bool true)], args := [d1, d2] }
  | _ => none }
def setKeepsRow : OpenClaim := { program := "ytjnkllbecldfeaa", sum := "c496a4dcd4f7a5edf665b5839c2a83a469cd9b8cb259807eab35e5c8fc2666d1", func := "glyphcutter/glyphcutterlaw01.SetKeeps", spec := "setKeeps", unfollowed := true, recurses := true, apart := false }
def SetKeepsSaid : Prop := setKeepsRow.holds Try.pinned (OpenSpec.ofChange setKeepsSpec)

/-- ITS FALSE NEIGHBOUR: 'it returns false'. Refute it at one input. -/
def setKeepsWrong : ChangeSpec := { name := "setKeeps", fn := fun _ => fun
  | [d1, d2] => { results := [.lit (.bool false)], args := [d1, d2] }
  | _ => none }
def SetKeepsWrongFalsely : Prop := setKeepsRow.holds Try.pinned (OpenSpec.ofChange setKeepsWrong)

/- THE SECOND FORM. 'bulk': how many values and letters a reading holds, each counted each time it is reached (what is shared counts as often as it is met; a slice's spare places count too). A statement '..UptoSaid' is the law's where the arguments, and the package variables that the reading takes, are together of bulk at most 1048576: NARROWER than '..Said'. Prove '..Said' where nothing that the law and all that it calls make is longer than what came in: it says more and counts as full. Else prove '..UptoSaid'. A law counts once. -/
mutual
def uptoBulk {H : Type} : DataW H → Nat
  | .lit (.string bytes) => bytes.length + 1
  | .lit _ => 1
  | .nil => 1
  | .ptr d => uptoBulk d + 1
  | .slice elems spare => uptoBulkAll elems + uptoBulkAll spare + 1
  | .agg parts => uptoBulkAll parts + 1
  | .iface _ d => uptoBulk d + 1
  | .map entries => uptoBulkEntries entries + 1
  | .held _ => 1
def uptoBulkAll {H : Type} : List (DataW H) → Nat
  | [] => 0
  | d :: r => uptoBulk d + uptoBulkAll r
def uptoBulkEntries {H : Type} : List (Lit × DataW H) → Nat
  | [] => 0
  | x :: r => uptoBulkEntry x + uptoBulkEntries r
def uptoBulkEntry {H : Type} : Lit × DataW H → Nat
  | (.string bytes, d) => bytes.length + uptoBulk d + 1
  | (_, d) => uptoBulk d + 1
 end
def uptoSmall : (H : Type) → List (DataW H) → Bool := fun _ ds => decide (uptoBulkAll ds ≤ 1048576)
def OpenSpec.upto (s : _root_.Go.ChangeSpec) : _root_.Go.OpenSpec := { _root_.Go.OpenSpec.ofChange s with cond := some uptoSmall }

/-- 'glyphcutterlaw01.SetOne', WHERE WHAT IT READS IS OF BULK AT MOST 1048576: true; the input reads as it did. -/
def setOneUptoRow : OpenClaim := { program := "ytjnkllbecldfeaa", sum := "c496a4dcd4f7a5edf665b5839c2a83a469cd9b8cb259807eab35e5c8fc2666d1", func := "glyphcutter/glyphcutterlaw01.SetOne", spec := "setOne", unfollowed := true, recurses := true, apart := false, narrowed := true }
def SetOneUptoSaid : Prop := setOneUptoRow.holds Try.pinned (OpenSpec.upto setOneSpec)

/-- 'glyphcutterlaw01.SetNorms', WHERE WHAT IT READS IS OF BULK AT MOST 1048576: true; the input reads as it did. -/
def setNormsUptoRow : OpenClaim := { program := "ytjnkllbecldfeaa", sum := "c496a4dcd4f7a5edf665b5839c2a83a469cd9b8cb259807eab35e5c8fc2666d1", func := "glyphcutter/glyphcutterlaw01.SetNorms", spec := "setNorms", unfollowed := true, recurses := true, apart := false, narrowed := true }
def SetNormsUptoSaid : Prop := setNormsUptoRow.holds Try.pinned (OpenSpec.upto setNormsSpec)

/-- 'glyphcutterlaw01.SetTwo', WHERE WHAT IT READS IS OF BULK AT MOST 1048576: true; the input reads as it did. -/
def setTwoUptoRow : OpenClaim := { program := "ytjnkllbecldfeaa", sum := "c496a4dcd4f7a5edf665b5839c2a83a469cd9b8cb259807eab35e5c8fc2666d1", func := "glyphcutter/glyphcutterlaw01.SetTwo", spec := "setTwo", unfollowed := true, recurses := true, apart := false, narrowed := true }
def SetTwoUptoSaid : Prop := setTwoUptoRow.holds Try.pinned (OpenSpec.upto setTwoSpec)

/-- 'glyphcutterlaw01.SetUnions', WHERE WHAT IT READS IS OF BULK AT MOST 1048576: true; the input reads as it did. -/
def setUnionsUptoRow : OpenClaim := { program := "ytjnkllbecldfeaa", sum := "c496a4dcd4f7a5edf665b5839c2a83a469cd9b8cb259807eab35e5c8fc2666d1", func := "glyphcutter/glyphcutterlaw01.SetUnions", spec := "setUnions", unfollowed := true, recurses := true, apart := false, narrowed := true }
def SetUnionsUptoSaid : Prop := setUnionsUptoRow.holds Try.pinned (OpenSpec.upto setUnionsSpec)

/-- 'glyphcutterlaw01.SetMembers', WHERE WHAT IT READS IS OF BULK AT MOST 1048576: true; the input reads as it did. -/
def setMembersUptoRow : OpenClaim := { program := "ytjnkllbecldfeaa", sum := "c496a4dcd4f7a5edf665b5839c2a83a469cd9b8cb259807eab35e5c8fc2666d1", func := "glyphcutter/glyphcutterlaw01.SetMembers", spec := "setMembers", unfollowed := true, recurses := true, apart := false, narrowed := true }
def SetMembersUptoSaid : Prop := setMembersUptoRow.holds Try.pinned (OpenSpec.upto setMembersSpec)

/-- 'glyphcutterlaw01.SetLaws', WHERE WHAT IT READS IS OF BULK AT MOST 1048576: true; the input reads as it did. -/
def setLawsUptoRow : OpenClaim := { program := "ytjnkllbecldfeaa", sum := "c496a4dcd4f7a5edf665b5839c2a83a469cd9b8cb259807eab35e5c8fc2666d1", func := "glyphcutter/glyphcutterlaw01.SetLaws", spec := "setLaws", unfollowed := true, recurses := true, apart := false, narrowed := true }
def SetLawsUptoSaid : Prop := setLawsUptoRow.holds Try.pinned (OpenSpec.upto setLawsSpec)

/-- 'glyphcutterlaw01.SetSizes', WHERE WHAT IT READS IS OF BULK AT MOST 1048576: true; the input reads as it did. -/
def setSizesUptoRow : OpenClaim := { program := "ytjnkllbecldfeaa", sum := "c496a4dcd4f7a5edf665b5839c2a83a469cd9b8cb259807eab35e5c8fc2666d1", func := "glyphcutter/glyphcutterlaw01.SetSizes", spec := "setSizes", unfollowed := true, recurses := true, apart := false, narrowed := true }
def SetSizesUptoSaid : Prop := setSizesUptoRow.holds Try.pinned (OpenSpec.upto setSizesSpec)

/-- 'glyphcutterlaw01.SetShort', WHERE WHAT IT READS IS OF BULK AT MOST 1048576: true; the input reads as it did. -/
def setShortUptoRow : OpenClaim := { program := "ytjnkllbecldfeaa", sum := "c496a4dcd4f7a5edf665b5839c2a83a469cd9b8cb259807eab35e5c8fc2666d1", func := "glyphcutter/glyphcutterlaw01.SetShort", spec := "setShort", unfollowed := true, recurses := true, apart := false, narrowed := true }
def SetShortUptoSaid : Prop := setShortUptoRow.holds Try.pinned (OpenSpec.upto setShortSpec)

/-- 'glyphcutterlaw01.SetKeeps', WHERE WHAT IT READS IS OF BULK AT MOST 1048576: true; the input reads as it did. -/
def setKeepsUptoRow : OpenClaim := { program := "ytjnkllbecldfeaa", sum := "c496a4dcd4f7a5edf665b5839c2a83a469cd9b8cb259807eab35e5c8fc2666d1", func := "glyphcutter/glyphcutterlaw01.SetKeeps", spec := "setKeeps", unfollowed := true, recurses := true, apart := false, narrowed := true }
def SetKeepsUptoSaid : Prop := setKeepsUptoRow.holds Try.pinned (OpenSpec.upto setKeepsSpec)

end Rows
end Go.Proofs.Ytjnkllbecldfeaa
