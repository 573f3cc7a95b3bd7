/- The law PropsApart: the walk and the plain law together. -/
import Derived.Test.YtpcljaidlihafaaPx0
import Derived.Test.YtpcljaidlihafaaPx10
import Derived.Test.YtpcljaidlihafaaGNames
import Derived.Test.YtpcljaidlihafaaGNorm
import Derived.Test.YtpcljaidlihafaaGProps
import Derived.Test.YtpcljaidlihafaaGProps2
import Derived.Test.YtpcljaidlihafaaGPropsOf
import Derived.Test.YtpcljaidlihafaaPBase
import Derived.Test.YtpcljaidlihafaaPLoose
import Derived.Test.YtpcljaidlihafaaPProps
namespace Go.Proofs.Ytpcljaidlihafaa.P
set_option linter.unusedVariables false
set_option linter.unusedSimpArgs false
section
open Go.RowKit Go.Proofs.YtpcljaidlihafaaW.PrintWords Go.Proofs.YtpcljaidlihafaaW.PrintLast Go.Proofs.YtpcljaidlihafaaW.PrintMore
theorem law_apart (r : Int) : Ev (fun k => glyphcutterlaw05_PropsApart.f k r) true := by
  obtain ⟨K0, h0⟩ := known_ev
  obtain ⟨K1, h1⟩ := of_ev class_upper (by decide) r
  obtain ⟨K2, h2⟩ := of_ev class_lower (by decide) r
  obtain ⟨K3, h3⟩ := of_ev class_letter (by decide) r
  obtain ⟨K4, h4⟩ := of_ev class_digit (by decide) r
  obtain ⟨K5, h5⟩ := of_ev class_word (by decide) r
  obtain ⟨K6, h6⟩ := of_ev class_blank (by decide) r
  refine ⟨K0 + K1 + K2 + K3 + K4 + K5 + K6, fun k hk => ?_⟩
  unfold glyphcutterlaw05_PropsApart.f
  simp only [h0 k (by omega), h1 k (by omega), h2 k (by omega), h3 k (by omega), h4 k (by omega), h5 k (by omega), h6 k (by omega), Option.bind_some]
  obtain ⟨m1, m2, m3⟩ := mem2 r
  have n1 : hasP upperL r = true → hasP lowerL r = true → False := fun a b => m1 ((hasP_iff _ _).1 a).2 ((hasP_iff _ _).1 b).2
  have n2 : hasP letterL r = true → hasP digitL r = true → False := fun a b => m2 ((hasP_iff _ _).1 a).2 ((hasP_iff _ _).1 b).2
  have n3 : hasP wordL r = true → hasP blankL r = true → False := fun a b => m3 ((hasP_iff _ _).1 a).2 ((hasP_iff _ _).1 b).2
  clear h0 h1 h2 h3 h4 h5 h6 m1 m2 m3 hk
  generalize hasP upperL r = b1 at *
  generalize hasP lowerL r = b2 at *
  generalize hasP letterL r = b3 at *
  generalize hasP digitL r = b4 at *
  generalize hasP wordL r = b5 at *
  generalize hasP blankL r = b6 at *
  revert b1 b2 b3 b4 b5 b6
  decide
end
section
open Go.RowKit Go.Proofs.YtpcljaidlihafaaW.PrintWords Go.Proofs.YtpcljaidlihafaaW.PrintLast Go.Proofs.YtpcljaidlihafaaW.PrintMore
theorem PropsApart.calls (W : World) (a0 : Int) (w0 : (Lit.int .i64 a0).wf = true) :
    Calls Try.prog 3 #[.int .i64 a0] W fun e W' => e = .returned (.bool true) ∧ Below W.heap.size W W' := by
  obtain ⟨k, hk⟩ := (law_apart a0).rounds
  exact glyphcutterlaw05_PropsApart.calls k a0 true W hk
end
end Go.Proofs.Ytpcljaidlihafaa.P
