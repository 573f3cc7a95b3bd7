/- The law FoldTwice: the walk and the plain law together. -/
import Derived.Test.YtmbhpkpoppdilaaPx0
import Derived.Test.YtmbhpkpoppdilaaPx13
import Derived.Test.YtmbhpkpoppdilaaGBase
import Derived.Test.YtmbhpkpoppdilaaGClose
import Derived.Test.YtmbhpkpoppdilaaGConcat
import Derived.Test.YtmbhpkpoppdilaaGFold
import Derived.Test.YtmbhpkpoppdilaaGHas
import Derived.Test.YtmbhpkpoppdilaaGNorm
import Derived.Test.YtmbhpkpoppdilaaPBase
import Derived.Test.YtmbhpkpoppdilaaPLaw4
import Derived.Test.YtmbhpkpoppdilaaPLaw4b
import Derived.Test.YtmbhpkpoppdilaaWFoldCloses
namespace Go.Proofs.Ytmbhpkpoppdilaa.P
set_option linter.unusedVariables false
set_option linter.unusedSimpArgs false
section
open Go.RowKit Go.Proofs.YtmbhpkpoppdilaaW.PrintWords Go.Proofs.YtmbhpkpoppdilaaW.PrintLast Go.Proofs.YtmbhpkpoppdilaaW.PrintMore
theorem close_twice (l : List S30) : closeP (closeP l) = closeP l := Is.ext (is_close _) (is_close _) fun r hr => by
  constructor
  · rintro ⟨o, h1, h2⟩
    obtain ⟨_, o2, h3, h4⟩ := ((is_close l).2 o).1 h2
    exact ⟨o2, h3.trans h1, h4⟩
  · rintro ⟨o, h1, h2⟩
    exact ⟨r, rfl, ((is_close l).2 r).2 ⟨hr, o, h1, h2⟩⟩
theorem close_has (l : List S30) : interP l (notP (closeP l)) = [] := Is.ext (is_inter _ _) (p := fun r => mem l r ∧ mem (notP (closeP l)) r) (q := fun _ => False) ⟨Nf.nil, fun r => ⟨fun h => absurd h (mem_nil r), fun h => h.2.elim⟩⟩ fun r hr => by
  constructor
  · rintro ⟨h1, h2⟩
    exact (((is_not _).2 r).1 h2).2 (((is_close l).2 r).2 ⟨hr, r, rfl, h1⟩)
  · exact fun h => h.elim
theorem law_twice (c d : List Int) (hc : U16 c) (sc : Sm c) (hd : U16 d) : Ev (fun k => glyphcutterlaw04_FoldTwice.f k c d) true := by
  have jt : Ev (fun k => glyphcutterlaw04_FoldTwice.j0 k c d true) true := Ev.step (fun k => by rw [glyphcutterlaw04_FoldTwice.j0]) (Ev.pos rfl (Ev.bindc known_f (Ev.now true)))
  unfold glyphcutterlaw04_FoldTwice.f
  by_cases h1 : (c.length : Int) > 20
  · exact Ev.pos h1 jt
  refine Ev.neg h1 ?_
  by_cases h2 : (d.length : Int) > 6
  · exact Ev.pos h2 jt
  refine Ev.neg h2 (Ev.bindc known_f ?_)
  obtain ⟨m, hm, hm1, hm2⟩ := law_make c hc sc
  refine Ev.step (fun k => by rw [glyphcutterlaw04_FoldTwice.j0]) (Ev.neg (by simp) (Ev.bind hm ?_))
  have l0 : ∀ (n i : Nat) (l : List S30), d.length - i = n → i ≤ d.length → l.length ≤ 30 + i → Wf l → Ev (fun k => glyphcutterlaw04_FoldTwice.l0 k d l (i : Int)) true := by
    intro n
    induction n with
    | zero =>
      intro i l hn hi hl hw
      have hcl := closeP_len l
      have hnf := (is_close l).1
      refine Ev.step (fun k => by rw [glyphcutterlaw04_FoldTwice.l0]) (Ev.neg (by omega) (Ev.bindc (close_f l (by omega)) (Ev.bindc (close_f (closeP l) (by omega)) ?_)))
      rw [close_twice]
      refine Ev.bind (ref_alike (closeP l) (closeP l) (by omega)) ?_
      rw [eqS_rfl]
      refine Ev.pos rfl (Ev.bind (ref_minus l (closeP l) (by omega) (by omega) hw hnf.wf) ?_)
      rw [close_has]
      refine Ev.pos rfl (Ev.bind (ref_norm (closeP l) (by omega) hnf.wf) ?_)
      rw [normP_of_nf hnf]
      refine Ev.bind (ref_alike (closeP l) (closeP l) (by omega)) ?_
      rw [eqS_rfl]
      exact Ev.now true
    | succ n ih =>
      intro i l hn hi hl hw
      have hlt : i < d.length := by omega
      have hb := hd _ (List.getElem_mem hlt)
      obtain ⟨v, hv, v0, v1⟩ := near_f _ hb.1 hb.2
      refine Ev.step (fun k => by rw [glyphcutterlaw04_FoldTwice.l0]) (Ev.pos (by omega) (Ev.pos (by omega) ?_))
      rw [rdi_get d i hlt]
      refine Ev.bindc hv (Ev.bindc hv (Ev.pos (by omega) ?_))
      rw [wrap_in (i := (i : Int) + 1) (by omega) (by omega), wrap_in (i := v + 1) (by omega) (by omega)]
      refine ih (i + 1) _ (by omega) (by omega) (by simp; omega) fun s hs => ?_
      rcases List.mem_append.1 hs with hs | hs
      · exact hw s hs
      · rw [List.mem_singleton.1 hs]; simp only; omega
  exact l0 d.length 0 m (by omega) (by omega) (by omega) hm2
end
section
open Go.RowKit Go.Proofs.YtmbhpkpoppdilaaW.PrintWords Go.Proofs.YtmbhpkpoppdilaaW.PrintLast Go.Proofs.YtmbhpkpoppdilaaW.PrintMore
theorem FoldTwice.calls (W : World) (A0 : Option Addr) (c0 : Nat) (l0 : List Int) (hr0 : Kd.C (Kd.int .u16) W A0 l0.length l0) (hc0 : l0.length ≤ c0) (u0 : U16 l0) (z0 : Sm l0) (A1 : Option Addr) (c1 : Nat) (l1 : List Int) (hr1 : Kd.C (Kd.int .u16) W A1 l1.length l1) (hc1 : l1.length ≤ c1) (u1 : U16 l1) (z1 : Sm l1) :
    Calls Try.prog 8 #[.slice A0 l0.length c0, .slice A1 l1.length c1] W fun e W' => e = .returned (.bool true) ∧ Below W.heap.size W W' := by
  obtain ⟨k, hk⟩ := (law_twice l0 l1 u0 z0 u1).rounds
  exact glyphcutterlaw04_FoldTwice.calls k A0 c0 l0 A1 c1 l1 true W hr0 hc0 hr1 hc1 hk
end
end Go.Proofs.Ytmbhpkpoppdilaa.P
