/- What composed pairs are, by function: the plain side. -/
import Derived.Test.YtfaahcgoinkmlaaPx0
import Derived.Test.YtfaahcgoinkmlaaPx5
import Derived.Test.YtfaahcgoinkmlaaGCheck
import Derived.Test.YtfaahcgoinkmlaaGCompose
import Derived.Test.YtfaahcgoinkmlaaGFold
import Derived.Test.YtfaahcgoinkmlaaGKnown
import Derived.Test.YtfaahcgoinkmlaaGMapP
import Derived.Test.YtfaahcgoinkmlaaPBase
import Derived.Test.YtfaahcgoinkmlaaPPairs16
namespace Go.Proofs.Ytfaahcgoinkmlaa.P
set_option linter.unusedVariables false
set_option linter.unusedSimpArgs false
section
open Go.RowKit Go.Proofs.YtfaahcgoinkmlaaW.PrintWords Go.Proofs.YtfaahcgoinkmlaaW.PrintLast Go.Proofs.YtfaahcgoinkmlaaW.PrintMore
theorem IsC.congr {g g' : Int → Int} {l : List S45} (h : IsC g l) (he : ∀ x, g x = g' x) : IsC g' l := by
  obtain rfl : g = g' := funext he
  exact h
theorem map_isC {g : Int → Int} {l : List S45} (h : IsC g l) (x : Int) : mapP l x = g x := by
  unfold mapP
  cases e : l.find? fun p => decide (p.f0 = x) with
  | none =>
    rw [List.find?_eq_none] at e
    by_cases hg : g x = x
    · exact hg.symm
    · exact absurd ((h.2 ⟨x, g x⟩).2 ⟨rfl, hg⟩) (fun hm => by have := e _ hm; simp at this)
  | some q =>
    have hq := (h.2 q).1 (List.mem_of_find?_eq_some e)
    have hx : q.f0 = x := by have := List.find?_some e; simpa using this
    rw [hx] at hq
    exact hq.1
theorem compose_len (a b : List S45) : (composeP a b).length ≤ a.length + b.length := by
  unfold composeP
  have h1 := compP_len ((ledP a b (a ++ b)).mergeSort fun x y => decide (x.f0 ≤ y.f0))
  have h2 := led_len a b (a ++ b)
  rw [List.length_mergeSort] at h1
  rw [List.length_append] at h2
  omega
/-- The reference's Same, of one. -/
theorem ref_same (l : List S45) (hz : l.length ≤ 9000000000000000000) : Ev (fun k => glyphcutterref16_Same.f k l l) true := by
  unfold glyphcutterref16_Same.f
  refine Ev.pos rfl ?_
  have loop : ∀ (d i : Nat), l.length - i = d → i ≤ l.length → Ev (fun k => glyphcutterref16_Same.l0 k l l (i : Int)) true := by
    intro d
    induction d with
    | zero =>
      intro i hd hi
      refine Ev.step (fun k => by rw [glyphcutterref16_Same.l0]) ?_
      exact Ev.neg (by omega) (Ev.now _)
    | succ d ih =>
      intro i hd hi
      have nx := ih (i + 1) (by omega) (by omega)
      refine Ev.step (fun k => by rw [glyphcutterref16_Same.l0]) ?_
      refine Ev.pos (by omega) (Ev.pos (by omega) (Ev.pos (by omega) (Ev.neg (by simp) ?_)))
      rw [wr1N (by omega) (by omega)]
      exact nx
  exact loop l.length 0 rfl (Nat.zero_le _)
end
end Go.Proofs.Ytfaahcgoinkmlaa.P
