/- The law NormBoth: the walk and the plain law together. -/
import Derived.Test.YtfaahcgoinkmlaaPx0
import Derived.Test.YtfaahcgoinkmlaaPx18
import Derived.Test.YtfaahcgoinkmlaaGCheck
import Derived.Test.YtfaahcgoinkmlaaGCompose
import Derived.Test.YtfaahcgoinkmlaaGFold
import Derived.Test.YtfaahcgoinkmlaaGKnown
import Derived.Test.YtfaahcgoinkmlaaGMapP
import Derived.Test.YtfaahcgoinkmlaaPBase
import Derived.Test.YtfaahcgoinkmlaaPCom16
import Derived.Test.YtfaahcgoinkmlaaPLaw0
import Derived.Test.YtfaahcgoinkmlaaPPairs16
namespace Go.Proofs.Ytfaahcgoinkmlaa.P
set_option linter.unusedVariables false
set_option linter.unusedSimpArgs false
section
open Go.RowKit Go.Proofs.YtfaahcgoinkmlaaW.PrintWords Go.Proofs.YtfaahcgoinkmlaaW.PrintLast Go.Proofs.YtfaahcgoinkmlaaW.PrintMore
theorem law_both (c d e : List S58) (r raw : Int) (hc : WfT c) (hd : WfT d) (he : WfT e) (hr : 0 ≤ r) : Ev (fun k => glyphcutterlaw16_NormBoth.f k c d e r raw) true := by
  have jt : Ev (fun k => glyphcutterlaw16_NormBoth.j0 k c d e r raw true) true := by
    refine Ev.step (fun k => by rw [glyphcutterlaw16_NormBoth.j0]) ?_
    exact Ev.pos rfl (Ev.bindc known_f16 (Ev.now _))
  unfold glyphcutterlaw16_NormBoth.f
  by_cases h : (c.length : Int) > 30
  · exact Ev.pos h jt
  refine Ev.neg h ?_
  by_cases h2 : (d.length : Int) > 30
  · exact Ev.pos h2 jt
  refine Ev.neg h2 ?_
  by_cases h3 : (e.length : Int) > 30
  · exact Ev.pos h3 jt
  refine Ev.neg h3 (Ev.bindc known_f16 ?_)
  refine Ev.step (fun k => by rw [glyphcutterlaw16_NormBoth.j0]) ?_
  have h8 := tm8b hr
  have la := pairs_len c
  have lb := pairs_len d
  have lx := pairs_len e
  have m1 := compose_len (pairsP c) (pairsP d)
  have m2 := compose_len (composeP (pairsP c) (pairsP d)) (pairsP e)
  have m3 := compose_len (pairsP d) (pairsP e)
  refine Ev.neg (by simp) (Ev.bind (pairs_ok c hc (by omega)) (Ev.bind (pairs_ok d hd (by omega)) (Ev.bind (pairs_ok e he (by omega)) (Ev.bindc rfl ?_))))
  refine Ev.pos h8.1 (Ev.pos h8.2 ?_)
  refine Ev.bindc (compose_f (by omega)) (Ev.bindc (compose_f (by omega)) (Ev.bindc (compose_f (by omega)) (Ev.bindc (compose_f (by omega)) (Ev.bindc (compose_f (by omega)) (Ev.bindc rfl (Ev.bindc rfl (Ev.bindc rfl ?_)))))))
  refine Ev.pos (map_isC (is_compose _ _) _) ?_
  have hsame : composeP (composeP (pairsP c) (pairsP d)) (pairsP e) = composeP (pairsP c) (composeP (pairsP d) (pairsP e)) := by
    refine ((is_compose _ _).congr fun x => ?_).ext (is_compose _ _)
    rw [map_isC (is_compose _ _), map_isC (is_compose _ _)]
  rw [hsame]
  exact Ev.bind (ref_same _ (by rw [← hsame]; omega)) (Ev.now _)
end
section
open Go.RowKit Go.Proofs.YtfaahcgoinkmlaaW.PrintWords Go.Proofs.YtfaahcgoinkmlaaW.PrintLast Go.Proofs.YtfaahcgoinkmlaaW.PrintMore
theorem NormBoth.calls (W : World) (A0 : Option Addr) (c0 : Nat) (l0 : List S58) (hr0 : Kd.C k58 W A0 l0.length l0) (hc0 : l0.length ≤ c0) (u0 : WfT l0) (z0 : Sm l0) (A1 : Option Addr) (c1 : Nat) (l1 : List S58) (hr1 : Kd.C k58 W A1 l1.length l1) (hc1 : l1.length ≤ c1) (u1 : WfT l1) (z1 : Sm l1) (A2 : Option Addr) (c2 : Nat) (l2 : List S58) (hr2 : Kd.C k58 W A2 l2.length l2) (hc2 : l2.length ≤ c2) (u2 : WfT l2) (z2 : Sm l2) (a3 : Int) (w3 : (Lit.int .u8 a3).wf = true) (a4 : Int) (w4 : (Lit.int .i64 a4).wf = true) :
    Calls Try.prog 7 #[.slice A0 l0.length c0, .slice A1 l1.length c1, .slice A2 l2.length c2, .int .u8 a3, .int .i64 a4] W fun e W' => e = .returned (.bool true) ∧ Below W.heap.size W W' := by
  obtain ⟨k, hk⟩ := (law_both l0 l1 l2 a3 a4 u0 u1 u2 (wf_u8 w3).1).rounds
  exact glyphcutterlaw16_NormBoth.calls k A0 c0 l0 A1 c1 l1 A2 c2 l2 a3 a4 true W rfl hr0 hc0 hr1 hc1 hr2 hc2 hk
end
end Go.Proofs.Ytfaahcgoinkmlaa.P
