/- The law NormShort: the walk and the plain law together. -/
import Derived.Test.YtfaahcgoinkmlaaPx0
import Derived.Test.YtfaahcgoinkmlaaPx19
import Derived.Test.YtfaahcgoinkmlaaGCheck
import Derived.Test.YtfaahcgoinkmlaaGCompose
import Derived.Test.YtfaahcgoinkmlaaGFold
import Derived.Test.YtfaahcgoinkmlaaGKnown
import Derived.Test.YtfaahcgoinkmlaaGMapP
import Derived.Test.YtfaahcgoinkmlaaPBase
import Derived.Test.YtfaahcgoinkmlaaPCom16
import Derived.Test.YtfaahcgoinkmlaaPLaw0
import Derived.Test.YtfaahcgoinkmlaaPPairs16
namespace Go.Proofs.Ytfaahcgoinkmlaa.P
set_option linter.unusedVariables false
set_option linter.unusedSimpArgs false
section
open Go.RowKit Go.Proofs.YtfaahcgoinkmlaaW.PrintWords Go.Proofs.YtfaahcgoinkmlaaW.PrintLast Go.Proofs.YtfaahcgoinkmlaaW.PrintMore
theorem law_short (c : List S58) (r : Int) (hc : WfT c) (hr : 0 ≤ r) : Ev (fun k => glyphcutterlaw16_NormShort.f k c r) true := by
  unfold glyphcutterlaw16_NormShort.f
  by_cases h : (c.length : Int) > 40
  · refine Ev.pos h ?_
    refine Ev.step (fun k => by rw [glyphcutterlaw16_NormShort.j0]) ?_
    exact Ev.pos rfl (Ev.bindc known_f16 (Ev.now _))
  refine Ev.neg h (Ev.bindc known_f16 ?_)
  refine Ev.step (fun k => by rw [glyphcutterlaw16_NormShort.j0]) ?_
  have h8 := tm8b hr
  have la := pairs_len c
  have m1 := compose_len (pairsP c) []
  refine Ev.neg (by simp) (Ev.bind (pairs_ok c hc (by omega)) (Ev.bindc (compose_f (by simp only [List.length_nil]; omega)) ?_))
  have hid : ∀ x : Int, mapP [] x = x := fun x => rfl
  have hC : IsC (fun x => mapP (pairsP c) x) (composeP (pairsP c) []) := (is_compose _ _).congr fun x => hid _
  have hC2 : composeP [] (pairsP c) = composeP (pairsP c) [] := ((is_compose _ _).congr fun x => by rw [hid]).ext hC
  generalize composeP (pairsP c) [] = l at *
  have fin : Ev (fun k => glyphcutterlaw16_NormShort.l0 k r (pairsP c) l (l.length : Int)) true := by
    refine Ev.step (fun k => by rw [glyphcutterlaw16_NormShort.l0]) ?_
    refine Ev.neg (by omega) (Ev.bindc rfl (Ev.pos h8.1 (Ev.pos h8.2 ?_)))
    refine Ev.bindc (compose_f (by simp only [List.length_nil]; omega)) ?_
    rw [hC2]
    refine Ev.bind (ref_same l (by simp only [List.length_nil] at m1; omega)) (Ev.pos rfl (Ev.bindc rfl (Ev.bindc rfl ?_)))
    rw [map_isC hC]
    have e : ∀ x : Int, (x == x) = true := fun x => by simp
    rw [e]
    exact Ev.now _
  have loop : ∀ (d i : Nat), l.length - i = d → i ≤ l.length → Ev (fun k => glyphcutterlaw16_NormShort.l0 k r (pairsP c) l (i : Int)) true := by
    intro d
    induction d with
    | zero =>
      intro i hd hi
      obtain rfl : i = l.length := by omega
      exact fin
    | succ d ih =>
      intro i hd hi
      have hil : i < l.length := by omega
      have nx := ih (i + 1) (by omega) (by omega)
      have hm := (hC.2 l[i]).1 (List.getElem_mem hil)
      simp only [List.length_nil] at m1
      refine Ev.step (fun k => by rw [glyphcutterlaw16_NormShort.l0]) ?_
      refine Ev.pos (by omega) (Ev.pos (by omega) ?_)
      rw [rdP_get l i hil, wr1N (by omega) (by omega)]
      refine Ev.neg (fun h => hm.2 (by rw [← hm.1]; exact h.symm)) ?_
      by_cases h0 : (i : Int) > 0
      · have e : wrap64 ((i : Int) - 1) = ((i - 1 : Nat) : Int) := by rw [wrap_in (by omega) (by omega)]; omega
        refine Ev.pos h0 ?_
        rw [e]
        refine Ev.pos (by omega) (Ev.pos (by omega) ?_)
        rw [rdP_get l (i - 1) (by omega)]
        have := List.pairwise_iff_getElem.1 hC.1 (i - 1) i (by omega) hil (by omega)
        exact Ev.neg (by omega) nx
      · exact Ev.neg h0 nx
  exact loop l.length 0 rfl (Nat.zero_le _)
end
section
open Go.RowKit Go.Proofs.YtfaahcgoinkmlaaW.PrintWords Go.Proofs.YtfaahcgoinkmlaaW.PrintLast Go.Proofs.YtfaahcgoinkmlaaW.PrintMore
theorem NormShort.calls (W : World) (A0 : Option Addr) (c0 : Nat) (l0 : List S58) (hr0 : Kd.C k58 W A0 l0.length l0) (hc0 : l0.length ≤ c0) (u0 : WfT l0) (z0 : Sm l0) (a1 : Int) (w1 : (Lit.int .u8 a1).wf = true) :
    Calls Try.prog 8 #[.slice A0 l0.length c0, .int .u8 a1] W fun e W' => e = .returned (.bool true) ∧ Below W.heap.size W W' := by
  obtain ⟨k, hk⟩ := (law_short l0 a1 u0 (wf_u8 w1).1).rounds
  exact glyphcutterlaw16_NormShort.calls k A0 c0 l0 a1 true W rfl hr0 hc0 hk
end
end Go.Proofs.Ytfaahcgoinkmlaa.P
