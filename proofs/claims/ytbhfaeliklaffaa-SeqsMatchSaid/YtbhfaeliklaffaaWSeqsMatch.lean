/- The law SeqsMatch: the walk and the plain law together. -/
import Derived.Test.YtbhfaeliklaffaaPx0
import Derived.Test.YtbhfaeliklaffaaPx16
import Derived.Test.YtbhfaeliklaffaaGMatch
import Derived.Test.YtbhfaeliklaffaaGParts
import Derived.Test.YtbhfaeliklaffaaPEnc
import Derived.Test.YtbhfaeliklaffaaPEv
import Derived.Test.YtbhfaeliklaffaaPMat
import Derived.Test.YtbhfaeliklaffaaPNf
import Derived.Test.YtbhfaeliklaffaaPSeq
import Derived.Test.YtbhfaeliklaffaaWOpenR
namespace Go.Proofs.Ytbhfaeliklaffaa.P
set_option linter.unusedVariables false
set_option linter.unusedSimpArgs false
section
open Go.RowKit Go.Proofs.YtbhfaeliklaffaaW.PrintWords Go.Proofs.YtbhfaeliklaffaaW.PrintLast Go.Proofs.YtbhfaeliklaffaaW.PrintMore
theorem sm_of {n : Nat} {l : List Int} (h : l.length * n ≤ 140737488351232) (hn : 0 < n := by decide) : Sm l := by
  have := Nat.le_mul_of_pos_right l.length hn
  unfold Sm; omega
end
section
open Go.RowKit Go.Proofs.YtbhfaeliklaffaaW.PrintWords Go.Proofs.YtbhfaeliklaffaaW.PrintLast Go.Proofs.YtbhfaeliklaffaaW.PrintMore
def U8 (l : List Int) : Prop := ∀ x ∈ l, 0 ≤ x ∧ x ≤ 255
theorem u8_of {l : List Int} (h : ∀ x ∈ l, (Lit.int .u8 x).wf = true) : U8 l := fun x hx => wf_u8 (h x hx)
theorem SeqsMatch.calls (W : World) (A0 : Option Addr) (c0 : Nat) (l0 : List (List S57)) (hr0 : Kd.C (Kd.slice 57 k57) W A0 l0.length l0) (hc0 : l0.length ≤ c0) (hw0 : ∀ m ∈ l0, WfR m) (z0 : Sm l0 ∧ ∀ m ∈ l0, Sm m)
    (A1 : Option Addr) (c1 : Nat) (l1 : List Int) (hr1 : Kd.C (Kd.int .u8) W A1 l1.length l1) (hc1 : l1.length ≤ c1) (u1 : U8 l1) (z1 : Sm l1) :
    Calls Try.prog 6 #[.slice A0 l0.length c0, .slice A1 l1.length c1] W fun e W' => e = .returned (.bool true) ∧ Below W.heap.size W W' := by
  obtain ⟨k, hk⟩ := (law_match l0 l1).rounds
  exact glyphcutterlaw03_SeqsMatch.calls k A0 c0 l0 A1 c1 l1 true W hr0 hc0 hr1 hc1 hk
end
end Go.Proofs.Ytbhfaeliklaffaa.P
