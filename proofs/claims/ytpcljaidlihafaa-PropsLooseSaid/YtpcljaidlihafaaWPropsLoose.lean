/- The law PropsLoose: the walk and the plain law together. -/
import Derived.Test.YtpcljaidlihafaaPx0
import Derived.Test.YtpcljaidlihafaaPx14
import Derived.Test.YtpcljaidlihafaaGMapH
import Derived.Test.YtpcljaidlihafaaGNames
import Derived.Test.YtpcljaidlihafaaGNorm
import Derived.Test.YtpcljaidlihafaaGProps
import Derived.Test.YtpcljaidlihafaaGProps2
import Derived.Test.YtpcljaidlihafaaGPropsOf
import Derived.Test.YtpcljaidlihafaaPBase
import Derived.Test.YtpcljaidlihafaaPLoose
import Derived.Test.YtpcljaidlihafaaPNameAt
import Derived.Test.YtpcljaidlihafaaPProps
import Derived.Test.YtpcljaidlihafaaPPropsL
import Derived.Test.YtpcljaidlihafaaPPropsR
import Derived.Test.YtpcljaidlihafaaPSpec
namespace Go.Proofs.Ytpcljaidlihafaa.P
set_option linter.unusedVariables false
set_option linter.unusedSimpArgs false
section
open Go.RowKit Go.Proofs.YtpcljaidlihafaaW.PrintWords Go.Proofs.YtpcljaidlihafaaW.PrintLast Go.Proofs.YtpcljaidlihafaaW.PrintMore
def U8 (l : List Int) : Prop := ∀ x ∈ l, 0 ≤ x ∧ x ≤ 255
theorem u8_of {l : List Int} (h : ∀ x ∈ l, (Lit.int .u8 x).wf = true) : U8 l := fun x hx => u8_in (h x hx)
theorem sm_of {n : Nat} {l : List Int} (h : l.length * n ≤ 140737488351232) (hn : 0 < n := by decide) : Sm l := by
  have := Nat.le_mul_of_pos_right l.length hn
  unfold Sm; omega
theorem PropsLoose.calls (W : World) (a0 : Int) (w0 : (Lit.int .u8 a0).wf = true) (A1 : Option Addr) (c1 : Nat) (l1 : List Int) (hr1 : Kd.C (Kd.int .u8) W A1 l1.length l1) (hc1 : l1.length ≤ c1) (u1 : U8 l1) (z1 : Sm l1) (a2 : Bool) :
    Calls Try.prog 7 #[.int .u8 a0, .slice A1 l1.length c1, .bool a2] W fun e W' => e = .returned (.bool true) ∧ Below W.heap.size W W' := by
  obtain ⟨k, hk⟩ := (law_loose a0 (u8_in w0).1 (u8_in w0).2 l1 u1 z1 a2).rounds
  exact glyphcutterlaw05_PropsLoose.calls k a0 A1 c1 l1 a2 true W rfl hr1 hc1 hk
end
end Go.Proofs.Ytpcljaidlihafaa.P
