/- The law FoldUnion: the walk and the plain law together. -/
import Derived.Test.YtmbhpkpoppdilaaPx0
import Derived.Test.YtmbhpkpoppdilaaPx9
import Derived.Test.YtmbhpkpoppdilaaGClose
import Derived.Test.YtmbhpkpoppdilaaGConcat
import Derived.Test.YtmbhpkpoppdilaaGFold
import Derived.Test.YtmbhpkpoppdilaaGHas
import Derived.Test.YtmbhpkpoppdilaaGNorm
import Derived.Test.YtmbhpkpoppdilaaPBase
import Derived.Test.YtmbhpkpoppdilaaPLaw4
import Derived.Test.YtmbhpkpoppdilaaPLaw4b
import Derived.Test.YtmbhpkpoppdilaaWFoldCloses
namespace Go.Proofs.Ytmbhpkpoppdilaa.P
set_option linter.unusedVariables false
set_option linter.unusedSimpArgs false
section
open Go.RowKit Go.Proofs.YtmbhpkpoppdilaaW.PrintWords Go.Proofs.YtmbhpkpoppdilaaW.PrintLast Go.Proofs.YtmbhpkpoppdilaaW.PrintMore
theorem is_union (ll : List (List S30)) : Is (normP ll.flatten) (fun r => ∃ m ∈ ll, mem m r) := ⟨normP_nf _, fun r => by rw [normP_mem, mem_flatten]⟩
end
section
open Go.RowKit Go.Proofs.YtmbhpkpoppdilaaW.PrintWords Go.Proofs.YtmbhpkpoppdilaaW.PrintLast Go.Proofs.YtmbhpkpoppdilaaW.PrintMore
theorem close_union (a b : List S30) : closeP (a ++ b) = normP [closeP a, closeP b].flatten := Is.ext (is_close _) (is_union _) fun r hr => by
  constructor
  · rintro ⟨o, h1, h2⟩
    rcases (mem_append _ _ _).1 h2 with h3 | h3
    · exact ⟨closeP a, by simp, ((is_close a).2 r).2 ⟨hr, o, h1, h3⟩⟩
    · exact ⟨closeP b, by simp, ((is_close b).2 r).2 ⟨hr, o, h1, h3⟩⟩
  · rintro ⟨m, hm, h⟩
    simp only [List.mem_cons, List.not_mem_nil, or_false] at hm
    rcases hm with rfl | rfl
    · obtain ⟨_, o, h1, h2⟩ := ((is_close a).2 r).1 h
      exact ⟨o, h1, (mem_append _ _ _).2 (.inl h2)⟩
    · obtain ⟨_, o, h1, h2⟩ := ((is_close b).2 r).1 h
      exact ⟨o, h1, (mem_append _ _ _).2 (.inr h2)⟩
theorem law_foldunion (c d : List Int) (hc : U16 c) (hd : U16 d) : Ev (fun k => glyphcutterlaw04_FoldUnion.f k c d) true := by
  have jt : Ev (fun k => glyphcutterlaw04_FoldUnion.j0 k c d true) true := Ev.step (fun k => by rw [glyphcutterlaw04_FoldUnion.j0]) (Ev.pos rfl (Ev.bindc known_f (Ev.now true)))
  unfold glyphcutterlaw04_FoldUnion.f
  by_cases h1 : (c.length : Int) > 8
  · exact Ev.pos h1 jt
  refine Ev.neg h1 ?_
  by_cases h2 : (d.length : Int) > 8
  · exact Ev.pos h2 jt
  refine Ev.neg h2 (Ev.bindc known_f (Ev.step (fun k => by rw [glyphcutterlaw04_FoldUnion.j0]) (Ev.neg (by simp) ?_)))
  have l1 : ∀ (a : List S30), a.length ≤ 8 → ∀ (n i : Nat) (b : List S30), d.length - i = n → i ≤ d.length → b.length ≤ i → Ev (fun k => glyphcutterlaw04_FoldUnion.l1 k d a b (i : Int)) true := by
    intro a ha n
    induction n with
    | zero =>
      intro i b hn hi hb
      have ca := closeP_len a
      have cb := closeP_len b
      have cab := closeP_len (a ++ b)
      have hab : (a ++ b).length ≤ 16 := by rw [List.length_append]; omega
      refine Ev.step (fun k => by rw [glyphcutterlaw04_FoldUnion.l1]) (Ev.neg (by omega) (Ev.pos (by simp; omega) ?_))
      simp only [Option.bind_some, List.nil_append]
      refine Ev.pos (by omega) ?_
      refine Ev.bindc (close_f (a ++ b) (by omega)) (Ev.bindc (close_f a (by omega)) (Ev.bindc (close_f b (by omega)) (Ev.bind (ref_union [closeP a, closeP b] (by simp; omega) (by simp) (fun l hl => ?_)) ?_)))
      · simp only [List.mem_cons, List.not_mem_nil, or_false] at hl
        rcases hl with rfl | rfl
        · exact (is_close a).1.wf
        · exact (is_close b).1.wf
      · rw [← close_union]
        refine Ev.bind (ref_alike (closeP (a ++ b)) (closeP (a ++ b)) (by omega)) ?_
        rw [eqS_rfl]
        exact Ev.now true
    | succ n ih =>
      intro i b hn hi hb
      have hlt : i < d.length := by omega
      have hbb := hd _ (List.getElem_mem hlt)
      obtain ⟨v, hv, v0, v1⟩ := near_f _ hbb.1 hbb.2
      refine Ev.step (fun k => by rw [glyphcutterlaw04_FoldUnion.l1]) (Ev.pos (by omega) (Ev.pos (by omega) ?_))
      rw [rdi_get d i hlt]
      refine Ev.bindc hv (Ev.bindc hv (Ev.pos (by omega) ?_))
      rw [wrap_in (i := (i : Int) + 1) (by omega) (by omega)]
      exact ih (i + 1) _ (by omega) (by omega) (by simp; omega)
  have l0 : ∀ (n i : Nat) (a : List S30), c.length - i = n → i ≤ c.length → a.length ≤ i → Ev (fun k => glyphcutterlaw04_FoldUnion.l0 k c d a (i : Int)) true := by
    intro n
    induction n with
    | zero =>
      intro i a hn hi ha
      refine Ev.step (fun k => by rw [glyphcutterlaw04_FoldUnion.l0]) (Ev.neg (by omega) ?_)
      exact l1 a (by omega) d.length 0 [] (by omega) (by omega) (by simp)
    | succ n ih =>
      intro i a hn hi ha
      have hlt : i < c.length := by omega
      have hbb := hc _ (List.getElem_mem hlt)
      obtain ⟨v, hv, v0, v1⟩ := near_f _ hbb.1 hbb.2
      refine Ev.step (fun k => by rw [glyphcutterlaw04_FoldUnion.l0]) (Ev.pos (by omega) (Ev.pos (by omega) ?_))
      rw [rdi_get c i hlt]
      refine Ev.bindc hv (Ev.bindc hv (Ev.pos (by omega) ?_))
      rw [wrap_in (i := (i : Int) + 1) (by omega) (by omega)]
      exact ih (i + 1) _ (by omega) (by omega) (by simp; omega)
  exact l0 c.length 0 [] (by omega) (by omega) (by simp)
end
section
open Go.RowKit Go.Proofs.YtmbhpkpoppdilaaW.PrintWords Go.Proofs.YtmbhpkpoppdilaaW.PrintLast Go.Proofs.YtmbhpkpoppdilaaW.PrintMore
theorem FoldUnion.calls (W : World) (A0 : Option Addr) (c0 : Nat) (l0 : List Int) (hr0 : Kd.C (Kd.int .u16) W A0 l0.length l0) (hc0 : l0.length ≤ c0) (u0 : U16 l0) (z0 : Sm l0) (A1 : Option Addr) (c1 : Nat) (l1 : List Int) (hr1 : Kd.C (Kd.int .u16) W A1 l1.length l1) (hc1 : l1.length ≤ c1) (u1 : U16 l1) (z1 : Sm l1) :
    Calls Try.prog 4 #[.slice A0 l0.length c0, .slice A1 l1.length c1] W fun e W' => e = .returned (.bool true) ∧ Below W.heap.size W W' := by
  obtain ⟨k, hk⟩ := (law_foldunion l0 l1 u0 u1).rounds
  exact glyphcutterlaw04_FoldUnion.calls k A0 c0 l0 A1 c1 l1 true W hr0 hc0 hr1 hc1 hk
end
end Go.Proofs.Ytmbhpkpoppdilaa.P
