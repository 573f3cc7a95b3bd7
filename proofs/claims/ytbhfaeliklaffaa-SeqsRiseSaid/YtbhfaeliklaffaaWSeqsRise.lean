/- The law SeqsRise: the walk and the plain law together. -/
import Derived.Test.YtbhfaeliklaffaaPx0
import Derived.Test.YtbhfaeliklaffaaPx19
import Derived.Test.YtbhfaeliklaffaaGBase
import Derived.Test.YtbhfaeliklaffaaGParts
import Derived.Test.YtbhfaeliklaffaaPBase
import Derived.Test.YtbhfaeliklaffaaPLaw3
import Derived.Test.YtbhfaeliklaffaaPMat
import Derived.Test.YtbhfaeliklaffaaPRise
import Derived.Test.YtbhfaeliklaffaaPRow
import Derived.Test.YtbhfaeliklaffaaPRowAll
import Derived.Test.YtbhfaeliklaffaaPSeq
import Derived.Test.YtbhfaeliklaffaaWOpenS
namespace Go.Proofs.Ytbhfaeliklaffaa.P
set_option linter.unusedVariables false
set_option linter.unusedSimpArgs false
section
open Go.RowKit Go.Proofs.YtbhfaeliklaffaaW.PrintWords Go.Proofs.YtbhfaeliklaffaaW.PrintLast Go.Proofs.YtbhfaeliklaffaaW.PrintMore
theorem SeqsRise.calls (W : World) (A0 : Option Addr) (c0 : Nat) (l0 : List Int) (hr0 : Kd.C (Kd.int .u16) W A0 l0.length l0) (hc0 : l0.length ≤ c0) (u0 : U16 l0) (z0 : Sm l0) (A1 : Option Addr) (c1 : Nat) (l1 : List S43) (hr1 : Kd.C k43 W A1 l1.length l1) (hc1 : l1.length ≤ c1) (w1 : Wf l1) (z1 : Sm l1) :
    Calls Try.prog 9 #[.slice A0 l0.length c0, .slice A1 l1.length c1] W fun e W' => e = .returned (.bool true) ∧ Below W.heap.size W W' := by
  obtain ⟨k, hk⟩ := (law_rise l0 l1 u0 z0 w1).rounds
  exact glyphcutterlaw03_SeqsRise.calls k A0 c0 l0 A1 c1 l1 true W hr0 hc0 hr1 hc1 hk
end
end Go.Proofs.Ytbhfaeliklaffaa.P
