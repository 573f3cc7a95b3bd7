/- The law PropsOf: the walk and the plain law together. -/
import Derived.Test.YtpcljaidlihafaaPx0
import Derived.Test.YtpcljaidlihafaaPx12
import Derived.Test.YtpcljaidlihafaaGConcat
import Derived.Test.YtpcljaidlihafaaGNames
import Derived.Test.YtpcljaidlihafaaGNorm
import Derived.Test.YtpcljaidlihafaaGProps
import Derived.Test.YtpcljaidlihafaaGProps2
import Derived.Test.YtpcljaidlihafaaGPropsOf
import Derived.Test.YtpcljaidlihafaaPBase
import Derived.Test.YtpcljaidlihafaaPLoose
import Derived.Test.YtpcljaidlihafaaPProps
import Derived.Test.YtpcljaidlihafaaPPropsO
import Derived.Test.YtpcljaidlihafaaPPropsR
import Derived.Test.YtpcljaidlihafaaPSpec
namespace Go.Proofs.Ytpcljaidlihafaa.P
set_option linter.unusedVariables false
set_option linter.unusedSimpArgs false
section
open Go.RowKit Go.Proofs.YtpcljaidlihafaaW.PrintWords Go.Proofs.YtpcljaidlihafaaW.PrintLast Go.Proofs.YtpcljaidlihafaaW.PrintMore
theorem PropsOf.calls (W : World) (a0 : ByteArray) (w0 : a0.size ≤ maxLen) (a1 : Int) (w1 : (Lit.int .u8 a1).wf = true) :
    Calls Try.prog 5 #[.string a0, .int .u8 a1] W fun e W' => e = .returned (.bool true) ∧ Below W.heap.size W W' := by
  obtain ⟨k, hk⟩ := (law_of a0 a1 (u8_in w1).1 (u8_in w1).2).rounds
  exact glyphcutterlaw05_PropsOf.calls k a0 a1 true W hk
end
end Go.Proofs.Ytpcljaidlihafaa.P
