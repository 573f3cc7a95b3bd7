/- The law FoldOnce: the walk and the plain law together. -/
import Derived.Test.YtmbhpkpoppdilaaPx0
import Derived.Test.YtmbhpkpoppdilaaPx11
import Derived.Test.YtmbhpkpoppdilaaPx5
import Derived.Test.YtmbhpkpoppdilaaGClose
import Derived.Test.YtmbhpkpoppdilaaGConcat
import Derived.Test.YtmbhpkpoppdilaaGFold
import Derived.Test.YtmbhpkpoppdilaaGHas
import Derived.Test.YtmbhpkpoppdilaaGNorm
import Derived.Test.YtmbhpkpoppdilaaPBase
import Derived.Test.YtmbhpkpoppdilaaPLaw4
import Derived.Test.YtmbhpkpoppdilaaPLaw4b
import Derived.Test.YtmbhpkpoppdilaaWFoldFolds
namespace Go.Proofs.Ytmbhpkpoppdilaa.P
set_option linter.unusedVariables false
set_option linter.unusedSimpArgs false
section
open Go.RowKit Go.Proofs.YtmbhpkpoppdilaaW.PrintWords Go.Proofs.YtmbhpkpoppdilaaW.PrintLast Go.Proofs.YtmbhpkpoppdilaaW.PrintMore
theorem orbit_congr {a b : Int} (h : foldF a = foldF b) : orbitP a = orbitP b := by
  unfold orbitP
  by_cases hs : Scal a
  · rw [if_pos hs, if_pos (fold_scal.1 (h ▸ fold_scal.2 hs)), h]
  · rw [if_neg hs, if_neg (fun h2 => hs (fold_scal.1 (h ▸ fold_scal.2 h2)))]
theorem law_once (a r : Int) (h0 : 0 ≤ a) (h1 : a ≤ 65535) : Ev (fun k => glyphcutterlaw04_FoldOnce.f k a r) true := by
  obtain ⟨v, hv, v0, v1⟩ := near_f a h0 h1
  have hsv : Scal v := by unfold Scal; omega
  unfold glyphcutterlaw04_FoldOnce.f
  refine Ev.bindc hv (Ev.bindc (orbit_f v) ?_)
  have hol := orbit_len v
  have hup := List.pairwise_iff_getElem.1 (orbit_up v)
  have hin : v ∈ orbitP v := mem_orbit.2 ⟨hsv, rfl⟩
  have hmem : ∀ o ∈ orbitP v, foldF o = foldF v := fun o ho => (mem_orbit.1 ho).2
  have horb : ∀ o ∈ orbitP v, orbitP o = orbitP v := fun o ho => orbit_congr (hmem o ho)
  obtain ⟨l, hlv⟩ : ∃ l, orbitP v = l := ⟨_, rfl⟩
  rw [hlv] at hol hup hin hmem ⊢
  replace horb : ∀ o ∈ l, orbitP o = orbitP v := fun o ho => horb o (hlv ▸ ho)
  have main : ∀ (d i : Nat), l.length - i = d → i ≤ l.length → Ev (fun k => glyphcutterlaw04_FoldOnce.l0 k r v l (decide (v ∈ l.take i)) (i : Int)) true := by
    intro d
    induction d with
    | zero =>
      intro i hd hi
      have hti : v ∈ l.take i := by rw [List.take_of_length_le (by omega)]; exact hin
      rw [decide_eq_true hti]
      refine Ev.step (fun k => by rw [glyphcutterlaw04_FoldOnce.l0]) (Ev.neg (by omega) ?_)
      refine Ev.bindc known_f (Ev.pos rfl (Ev.pos rfl (Ev.bindc (fold_f v) (Ev.bindc (fold_f _) (Ev.bindc (fold_f v) (Ev.pos (fold_idem v) (Ev.bindc (fold_f r) (Ev.bindc (fold_f _) (Ev.bindc (fold_f r) ?_)))))))))
      rw [fold_idem, beq_self_eq_true]
      exact Ev.now true
    | succ d ih =>
      intro i hd hi
      have hlt : i < l.length := by omega
      have ihn := ih (i + 1) (by omega) (by omega)
      have hgm := List.getElem_mem hlt
      have j1 : Ev (fun k => glyphcutterlaw04_FoldOnce.j1 k r v l (decide (v ∈ l.take (i + 1))) (i : Int)) true := by
        have tail : Ev (fun k => (fold_Orbit.f l[i]).bind fun t292 => ((glyphcutterlaw04_same.f k t292 l).bind fun t295 => (if t295 = true then (glyphcutterlaw04_FoldOnce.l0 k r v l (decide (v ∈ l.take (i + 1))) (wrap64 ((i : Int) + 1))) else (some false)))) true := by
          refine Ev.bindc (orbit_f _) ?_
          rw [horb _ hgm, hlv]
          refine Ev.bind (law_same4 l (by omega)) (Ev.pos rfl ?_)
          rw [wrap_in (by omega) (by omega)]
          exact ihn
        refine Ev.step (fun k => by rw [glyphcutterlaw04_FoldOnce.j1]) (Ev.pos (by omega) (Ev.pos (by omega) ?_))
        rw [rdi_get l i hlt]
        refine Ev.bindc (fold_f _) (Ev.bindc (fold_f v) (Ev.pos (hmem _ hgm) ?_))
        by_cases hi0 : i = 0
        · exact Ev.neg (by omega) tail
        · refine Ev.pos (by omega) ?_
          rw [wrap_in (i := (i : Int) - 1) (by omega) (by omega), show ((i : Int) - 1) = ((i - 1 : Nat) : Int) by omega]
          refine Ev.pos (by omega) (Ev.pos (by omega) ?_)
          rw [rdi_get l (i - 1) (by omega)]
          have := hup (i - 1) i (by omega) hlt (by omega)
          exact Ev.neg (by omega) tail
      have hts : (decide (v ∈ l.take (i + 1))) = (decide (v ∈ l.take i) || (l[i] == v)) := by
        rw [Bool.eq_iff_iff, decide_eq_true_iff, List.take_succ_eq_append_getElem hlt, List.mem_append, List.mem_singleton, Bool.or_eq_true, decide_eq_true_iff, beq_iff_eq]
        exact or_congr_right eq_comm
      refine Ev.step (fun k => by rw [glyphcutterlaw04_FoldOnce.l0]) (Ev.pos (by omega) ?_)
      by_cases c : v ∈ l.take i
      · rw [decide_eq_true c] at hts ⊢
        rw [hts] at j1
        exact Ev.pos rfl j1
      · rw [decide_eq_false c] at hts ⊢
        rw [hts] at j1
        refine Ev.neg (by simp) (Ev.pos (by omega) ?_)
        rw [rdi_get l i hlt]
        exact j1
  have := main l.length 0 (by omega) (by omega)
  simpa using this
end
section
open Go.RowKit Go.Proofs.YtmbhpkpoppdilaaW.PrintWords Go.Proofs.YtmbhpkpoppdilaaW.PrintLast Go.Proofs.YtmbhpkpoppdilaaW.PrintMore
theorem FoldOnce.calls (W : World) (a0 : Int) (w0 : (Lit.int .u16 a0).wf = true) (a1 : Int) (w1 : (Lit.int .i64 a1).wf = true) :
    Calls Try.prog 6 #[.int .u16 a0, .int .i64 a1] W fun e W' => e = .returned (.bool true) ∧ Below W.heap.size W W' := by
  obtain ⟨k, hk⟩ := (law_once a0 a1 (u16_in w0).1 (u16_in w0).2).rounds
  exact glyphcutterlaw04_FoldOnce.calls k a0 a1 true W hk
end
end Go.Proofs.Ytmbhpkpoppdilaa.P
