/- The law NormSteps: the walk and the plain law together. -/
import Derived.Test.YtfaahcgoinkmlaaPx0
import Derived.Test.YtfaahcgoinkmlaaPx14
import Derived.Test.YtfaahcgoinkmlaaGApply
import Derived.Test.YtfaahcgoinkmlaaGCheck
import Derived.Test.YtfaahcgoinkmlaaGDecode
import Derived.Test.YtfaahcgoinkmlaaGFold
import Derived.Test.YtfaahcgoinkmlaaGKnown
import Derived.Test.YtfaahcgoinkmlaaGMapP
import Derived.Test.YtfaahcgoinkmlaaGSteps
import Derived.Test.YtfaahcgoinkmlaaPBase
import Derived.Test.YtfaahcgoinkmlaaPLaw0
import Derived.Test.YtfaahcgoinkmlaaPPairs16
namespace Go.Proofs.Ytfaahcgoinkmlaa.P
set_option linter.unusedVariables false
set_option linter.unusedSimpArgs false
section
open Go.RowKit Go.Proofs.YtfaahcgoinkmlaaW.PrintWords Go.Proofs.YtfaahcgoinkmlaaW.PrintLast Go.Proofs.YtfaahcgoinkmlaaW.PrintMore
theorem law_steps (kinds more : List Int) (c : List S58) (r raw : Int) (hk : U8B kinds) (hm : U8B more) (hc : WfT c) (hr : 0 ≤ r) : Ev (fun k => glyphcutterlaw16_NormSteps.f k kinds more c r raw) true := by
  unfold glyphcutterlaw16_NormSteps.f
  by_cases h : (c.length : Int) > 30
  · refine Ev.pos h ?_
    refine Ev.step (fun k => by rw [glyphcutterlaw16_NormSteps.j0]) ?_
    exact Ev.pos rfl (Ev.bindc known_f16 (Ev.now _))
  · refine Ev.neg h (Ev.bindc known_f16 ?_)
    refine Ev.step (fun k => by rw [glyphcutterlaw16_NormSteps.j0]) ?_
    have h8 := tm8b hr
    have l1 := steps_len kinds c
    have l2 := steps_len more c
    refine Ev.neg (by simp) (Ev.bindc (steps_f hk hc (by omega)) (Ev.bindc (steps_f hm hc (by omega)) ?_))
    refine Ev.pos (by simp only [List.length_nil]; omega) (Ev.bindc rfl (Ev.pos (by simp only [List.nil_append]; omega) (Ev.bindc rfl ?_)))
    refine Ev.pos h8.1 (Ev.pos h8.2 (Ev.bindc rfl (Ev.bindc rfl (Ev.bindc rfl ?_))))
    refine Ev.pos (by rw [List.nil_append]; exact apply_append _ _ _) (Ev.bindc rfl ?_)
    have e : ∀ x : Int, (applyP [] x == x) = true := fun x => by simp [applyP]
    rw [e]
    exact Ev.now _
end
section
open Go.RowKit Go.Proofs.YtfaahcgoinkmlaaW.PrintWords Go.Proofs.YtfaahcgoinkmlaaW.PrintLast Go.Proofs.YtfaahcgoinkmlaaW.PrintMore
theorem NormSteps.calls (W : World) (A0 : Option Addr) (c0 : Nat) (l0 : List Int) (hr0 : Kd.C (Kd.int .u8) W A0 l0.length l0) (hc0 : l0.length ≤ c0) (u0 : U8B l0) (z0 : Sm l0) (A1 : Option Addr) (c1 : Nat) (l1 : List Int) (hr1 : Kd.C (Kd.int .u8) W A1 l1.length l1) (hc1 : l1.length ≤ c1) (u1 : U8B l1) (z1 : Sm l1) (A2 : Option Addr) (c2 : Nat) (l2 : List S58) (hr2 : Kd.C k58 W A2 l2.length l2) (hc2 : l2.length ≤ c2) (u2 : WfT l2) (z2 : Sm l2) (a3 : Int) (w3 : (Lit.int .u8 a3).wf = true) (a4 : Int) (w4 : (Lit.int .i64 a4).wf = true) :
    Calls Try.prog 3 #[.slice A0 l0.length c0, .slice A1 l1.length c1, .slice A2 l2.length c2, .int .u8 a3, .int .i64 a4] W fun e W' => e = .returned (.bool true) ∧ Below W.heap.size W W' := by
  obtain ⟨k, hk⟩ := (law_steps l0 l1 l2 a3 a4 u0 u1 u2 (wf_u8 w3).1).rounds
  exact glyphcutterlaw16_NormSteps.calls k A0 c0 l0 A1 c1 l1 A2 c2 l2 a3 a4 true W rfl hr0 hc0 hr1 hc1 hr2 hc2 hk
end
end Go.Proofs.Ytfaahcgoinkmlaa.P
