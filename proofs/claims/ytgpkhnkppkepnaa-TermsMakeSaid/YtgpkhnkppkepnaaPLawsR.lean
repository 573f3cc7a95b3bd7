/- The reference's Parts of a set. -/
import Derived.Test.YtgpkhnkppkepnaaPx0
import Derived.Test.YtgpkhnkppkepnaaPx9
import Derived.Test.YtgpkhnkppkepnaaGEdges
import Derived.Test.YtgpkhnkppkepnaaGHas
import Derived.Test.YtgpkhnkppkepnaaGInter
import Derived.Test.YtgpkhnkppkepnaaGRowsO
import Derived.Test.YtgpkhnkppkepnaaPBase
import Derived.Test.YtgpkhnkppkepnaaPLaw10
import Derived.Test.YtgpkhnkppkepnaaPParts
import Derived.Test.YtgpkhnkppkepnaaPRef10
namespace Go.Proofs.Ytgpkhnkppkepnaa.P
set_option linter.unusedVariables false
set_option linter.unusedSimpArgs false
section
open Go.RowKit Go.Shelf Go.Proofs.YtgpkhnkppkepnaaW.PrintWords Go.Proofs.YtgpkhnkppkepnaaW.PrintLast Go.Proofs.YtgpkhnkppkepnaaW.PrintMore
theorem ref_parts_at (ps : List (List S42)) (s : List S42) (hp : ∀ p ∈ ps, p.length ≤ 20000 ∧ Wf p) (hs : s.length ≤ 20000) (hw : Wf s) (hl : ps.length ≤ 1000000) : ∀ (d i : Nat) (out : List Int), ps.length - i = d → i ≤ ps.length → out.length ≤ i → Ev (fun k => glyphcutterref10_Parts.l0 k ps s out (i : Int)) (out ++ pAt s i (ps.drop i)) := by
  intro d
  induction d with
  | zero =>
    intro i out hd hi ho
    obtain rfl : i = ps.length := by omega
    rw [List.drop_length]
    refine Ev.step (fun k => by rw [glyphcutterref10_Parts.l0]) ?_
    refine Ev.neg (by omega) ?_
    show Ev _ (out ++ [])
    rw [List.append_nil]
    exact Ev.now _
  | succ d ih =>
    intro i out hd hi ho
    have hlt : i < ps.length := by omega
    rw [List.drop_eq_getElem_cons hlt]
    have hpi := hp _ (List.getElem_mem hlt)
    refine Ev.step (fun k => by rw [glyphcutterref10_Parts.l0]) ?_
    refine Ev.pos (by omega) ?_
    refine Ev.pos (by omega) ?_
    rw [rdL_get ps i hlt]
    refine Ev.bind (ref_inter ps[i] s hpi.1 hs hpi.2 hw) ?_
    rw [wr1 (by omega)]
    unfold pAt
    by_cases he : interP ps[i] s = []
    · rw [if_pos he, List.nil_append]
      refine Ev.neg (by rw [he]; decide) ?_
      exact ih (i + 1) out (by omega) (by omega) (by omega)
    · have : 0 < (interP ps[i] s).length := List.length_pos_iff.2 he
      rw [if_neg he, ← List.append_assoc]
      refine Ev.pos (by omega) ?_
      refine Ev.pos (by omega) ?_
      exact ih (i + 1) (out ++ [(i : Int)]) (by omega) (by omega) (by simp; omega)
theorem ref_parts (ps : List (List S42)) (s : List S42) (hp : ∀ p ∈ ps, p.length ≤ 20000 ∧ Wf p) (hs : s.length ≤ 20000) (hw : Wf s) (hl : ps.length ≤ 1000000) : Ev (fun k => glyphcutterref10_Parts.f k ps s) (pAt s 0 ps) := by
  unfold glyphcutterref10_Parts.f
  exact ref_parts_at ps s hp hs hw hl ps.length 0 [] rfl (Nat.zero_le _) (Nat.le_refl _)
theorem ints_ev (a : List Int) (hl : a.length ≤ 1000000000) : Ev (fun k => glyphcutterlaw10_same.f k a a) true := by
  have loop : ∀ (d i : Nat), a.length - i = d → i ≤ a.length → Ev (fun k => glyphcutterlaw10_same.l0 k a a (i : Int)) true := by
    intro d
    induction d with
    | zero =>
      intro i hd hi
      refine Ev.step (fun k => by rw [glyphcutterlaw10_same.l0]) ?_
      exact Ev.neg (by omega) (Ev.now _)
    | succ d ih =>
      intro i hd hi
      have nx := ih (i + 1) (by omega) (by omega)
      refine Ev.step (fun k => by rw [glyphcutterlaw10_same.l0]) ?_
      refine Ev.pos (by omega) ?_
      refine Ev.pos (by omega) ?_
      refine Ev.pos (by omega) ?_
      rw [wr1 (by omega)]
      exact Ev.pos rfl nx
  unfold glyphcutterlaw10_same.f
  exact Ev.pos rfl (loop a.length 0 rfl (Nat.zero_le _))
theorem pAt_len (s : List S42) : ∀ (ps : List (List S42)) (i : Nat), (pAt s i ps).length ≤ ps.length
  | [], i => Nat.le_refl _
  | p :: ps, i => by
    have := pAt_len s ps (i + 1)
    unfold pAt
    rw [List.length_append, List.length_cons]
    split <;> simp <;> omega
end
end Go.Proofs.Ytgpkhnkppkepnaa.P
