/- The law PropsNames: the walk and the plain law together. -/
import Derived.Test.YtpcljaidlihafaaPx0
import Derived.Test.YtpcljaidlihafaaPx13
import Derived.Test.YtpcljaidlihafaaGMapH
import Derived.Test.YtpcljaidlihafaaGNames
import Derived.Test.YtpcljaidlihafaaGNorm
import Derived.Test.YtpcljaidlihafaaGProps
import Derived.Test.YtpcljaidlihafaaGProps2
import Derived.Test.YtpcljaidlihafaaGPropsOf
import Derived.Test.YtpcljaidlihafaaPBase
import Derived.Test.YtpcljaidlihafaaPLoose
import Derived.Test.YtpcljaidlihafaaPProps
import Derived.Test.YtpcljaidlihafaaPPropsN
import Derived.Test.YtpcljaidlihafaaPSpec
namespace Go.Proofs.Ytpcljaidlihafaa.P
set_option linter.unusedVariables false
set_option linter.unusedSimpArgs false
section
open Go.RowKit Go.Proofs.YtpcljaidlihafaaW.PrintWords Go.Proofs.YtpcljaidlihafaaW.PrintLast Go.Proofs.YtpcljaidlihafaaW.PrintMore
theorem PropsNames.calls (W : World) (a0 : Int) (w0 : (Lit.int .u8 a0).wf = true) :
    Calls Try.prog 6 #[.int .u8 a0] W fun e W' => e = .returned (.bool true) ∧ Below W.heap.size W W' := by
  obtain ⟨k, hk⟩ := (law_names a0 (u8_in w0).1 (u8_in w0).2).rounds
  exact glyphcutterlaw05_PropsNames.calls k a0 true W rfl hk
end
end Go.Proofs.Ytpcljaidlihafaa.P
