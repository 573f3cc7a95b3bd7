/- The law TermsOne: the walk and the plain law together. -/
import Derived.Test.YtgpkhnkppkepnaaPx0
import Derived.Test.YtgpkhnkppkepnaaPx13
import Derived.Test.YtgpkhnkppkepnaaGBase
import Derived.Test.YtgpkhnkppkepnaaGEdges
import Derived.Test.YtgpkhnkppkepnaaGHas
import Derived.Test.YtgpkhnkppkepnaaGInter
import Derived.Test.YtgpkhnkppkepnaaGMapH
import Derived.Test.YtgpkhnkppkepnaaGRowsO
import Derived.Test.YtgpkhnkppkepnaaGTerms
import Derived.Test.YtgpkhnkppkepnaaPBase
import Derived.Test.YtgpkhnkppkepnaaPLaw10
import Derived.Test.YtgpkhnkppkepnaaPLaws10
import Derived.Test.YtgpkhnkppkepnaaPParts
import Derived.Test.YtgpkhnkppkepnaaPRef10
import Derived.Test.YtgpkhnkppkepnaaPTermsA
import Derived.Test.YtgpkhnkppkepnaaWOpen10
namespace Go.Proofs.Ytgpkhnkppkepnaa.P
set_option linter.unusedVariables false
set_option linter.unusedSimpArgs false
section
open Go.RowKit Go.Shelf Go.Proofs.YtgpkhnkppkepnaaW.PrintWords Go.Proofs.YtgpkhnkppkepnaaW.PrintLast Go.Proofs.YtgpkhnkppkepnaaW.PrintMore
theorem law_one (c : List Int) (hu : U16 c) (hs : Sm c) : Ev (fun k => glyphcutterlaw10_TermsOne.f k c) true := by
  have hk : Ev (fun k => glyphcutterlaw10_TermsOne.j0 k c true) true := by
    refine Ev.step (fun k => by rw [glyphcutterlaw10_TermsOne.j0]) ?_
    exact Ev.pos rfl (Ev.bind known_ev (Ev.now _))
  unfold glyphcutterlaw10_TermsOne.f
  by_cases h40 : (c.length : Int) > 40
  · exact Ev.pos h40 hk
  · refine Ev.neg h40 (Ev.bind known_ev ?_)
    refine Ev.step (fun k => by rw [glyphcutterlaw10_TermsOne.j0]) ?_
    refine Ev.neg (by decide) ?_
    obtain ⟨L, hL, hL1, hsm, hf⟩ := list_one c hu hs
    refine Ev.bind hL (Ev.bindc (of_fine L hf) ?_)
    have hfl := hf.2.1
    have hff := flat_small hsm
    have hf2 : Fine (L ++ L) := ⟨by rw [List.length_append]; omega, by rw [List.flatten_append, List.length_append]; omega, fun s hs => hf.2.2 s ((List.mem_append.1 hs).elim id id)⟩
    -- the parts of the same sets twice are the same
    have h2 : partsA (L ++ L) = partsA L := by
      have hw : ∀ x y, wordN (L ++ L) x = wordN (L ++ L) y ↔ wordN L x = wordN L y := fun x y => by
        have e : ∀ z, wordN (L ++ L) z = wordN L z ++ wordN L z := fun z => by unfold wordN; rw [List.map_append]
        rw [e, e]
        constructor
        · intro h; exact (List.append_inj h (by rw [wordN_len, wordN_len])).1
        · intro h; rw [h]
      have hsome : ∀ x, someP (L ++ L) x = someP L x := fun x => by unfold someP; rw [List.any_append, Bool.or_self]
      have hp := parts_is L
      refine (parts_is (L ++ L)).ext ⟨hp.nf, fun p hpp => ?_, fun x hx => hp.all x (by rw [← hsome]; exact hx), hp.up⟩
      obtain ⟨x, h1, h3, h4⟩ := hp.cls p hpp
      exact ⟨x, h1, by rw [hsome]; exact h3, fun y => by rw [h4 y, hw]⟩
    refine Ev.pos (by simp; omega) ?_
    refine Ev.bindc rfl ?_
    rw [List.nil_append]
    refine Ev.pos (by omega) ?_
    refine Ev.bindc (of_fine (L ++ L) hf2) ?_
    rw [h2]
    -- of one set there is one part at most
    have h1 : (partsA L).length ≤ 1 := by
      rcases Nat.lt_or_ge 1 (partsA L).length with h | h
      · exfalso
        have hp := parts_is L
        have hwd := apart_words hp (show 0 < 1 by omega) h
        rw [List.any_eq_true] at hwd
        obtain ⟨s, hsL, hne⟩ := hwd
        have a := (part_lo hp 0 (by omega)).2
        have b := (part_lo hp 1 h).2
        obtain ⟨x, _, hx, hcx⟩ := hp.cls _ (List.getElem_mem (show 0 < (partsA L).length by omega))
        obtain ⟨y, _, hy, hcy⟩ := hp.cls _ (List.getElem_mem h)
        have hLs : L = [s] := by
          cases hLL : L with
          | nil => rw [hLL] at hsL; simp at hsL
          | cons t l =>
            rw [hLL] at hsL hL1
            have hl : l = [] := List.eq_nil_of_length_eq_zero (by rw [List.length_cons] at hL1; omega)
            subst hl
            rw [List.mem_singleton] at hsL
            rw [hsL]
        have key : ∀ z, someP L z = hasP s z := fun z => by unfold someP; rw [hLs, List.any_cons, List.any_nil, Bool.or_false]
        have e1 : hasP s (loP (partsA L)[0]) = true := by rw [← key, some_word L _ _ ((hcx _).1 a.1).2, hx]
        have e2 : hasP s (loP (partsA L)[1]) = true := by rw [← key, some_word L _ _ ((hcy _).1 b.1).2, hy]
        rw [e1, e2] at hne
        simp at hne
      · exact h
    refine Ev.neg (by omega) (Ev.pos rfl ?_)
    by_cases h0 : ((partsA L).length : Int) = 0
    · exact Ev.pos h0 (Ev.now _)
    · refine Ev.neg h0 (Ev.pos (by omega) (Ev.pos (by omega) ?_))
      rw [beq_self_eq_true]
      exact Ev.now _
end
section
open Go.RowKit Go.Proofs.YtgpkhnkppkepnaaW.PrintWords Go.Proofs.YtgpkhnkppkepnaaW.PrintLast Go.Proofs.YtgpkhnkppkepnaaW.PrintMore
theorem TermsOne.calls (W : World) (A0 : Option Addr) (c0 : Nat) (l0 : List Int) (hr0 : Kd.C (Kd.int .u16) W A0 l0.length l0) (hc0 : l0.length ≤ c0) (u0 : U16 l0) (z0 : Sm l0) :
    Calls Try.prog 3 #[.slice A0 l0.length c0] W fun e W' => e = .returned (.bool true) ∧ Below W.heap.size W W' := by
  obtain ⟨k, hk⟩ := (law_one l0 u0 z0).rounds
  exact glyphcutterlaw10_TermsOne.calls k (fun k => k < W.heap.size) A0 c0 l0 true W rfl (Kd.V_mk hc0 (Kd.C_F (Kd.heap_int .u16) hr0)) hk
end
end Go.Proofs.Ytgpkhnkppkepnaa.P
