/- The law TermsWhich: the walk and the plain law together. -/
import Derived.Test.YtgpkhnkppkepnaaPx0
import Derived.Test.YtgpkhnkppkepnaaPx15
import Derived.Test.YtgpkhnkppkepnaaPx9
import Derived.Test.YtgpkhnkppkepnaaGBase
import Derived.Test.YtgpkhnkppkepnaaGEdges
import Derived.Test.YtgpkhnkppkepnaaGHas
import Derived.Test.YtgpkhnkppkepnaaGInter
import Derived.Test.YtgpkhnkppkepnaaGMapH
import Derived.Test.YtgpkhnkppkepnaaGRowsO
import Derived.Test.YtgpkhnkppkepnaaGWhich
import Derived.Test.YtgpkhnkppkepnaaPBase
import Derived.Test.YtgpkhnkppkepnaaPLaw10
import Derived.Test.YtgpkhnkppkepnaaPLaws10
import Derived.Test.YtgpkhnkppkepnaaPLawsR
import Derived.Test.YtgpkhnkppkepnaaPParts
import Derived.Test.YtgpkhnkppkepnaaPRef10
import Derived.Test.YtgpkhnkppkepnaaPTermsA
import Derived.Test.YtgpkhnkppkepnaaWOpen10
namespace Go.Proofs.Ytgpkhnkppkepnaa.P
set_option linter.unusedVariables false
set_option linter.unusedSimpArgs false
section
open Go.RowKit Go.Shelf Go.Proofs.YtgpkhnkppkepnaaW.PrintWords Go.Proofs.YtgpkhnkppkepnaaW.PrintLast Go.Proofs.YtgpkhnkppkepnaaW.PrintMore
theorem which_ev (l : List (List S42)) (r : Int) (hl : l.length ≤ 1000000) (hs : ∀ s ∈ l, Sm s) : Ev (fun k => glyphcutterref10_Which.f k l r) (idxL (fun s => hasP s r) l) := by
  have loop : ∀ (d i : Nat), l.length - i = d → i ≤ l.length → (∀ s ∈ l.take i, hasP s r = false) → Ev (fun k => glyphcutterref10_Which.l0 k l r (i : Int)) (idxL (fun s => hasP s r) l) := by
    intro d
    induction d with
    | zero =>
      intro i hd hi hno
      obtain rfl : i = l.length := by omega
      rw [List.take_of_length_le (Nat.le_refl _)] at hno
      refine Ev.step (fun k => by rw [glyphcutterref10_Which.l0]) ?_
      refine Ev.neg (by omega) ?_
      have : l.findIdx? (fun s => hasP s r) = none := by rw [List.findIdx?_eq_none_iff]; exact hno
      unfold idxL
      rw [this]
      exact Ev.now _
    | succ d ih =>
      intro i hd hi hno
      have hlt : i < l.length := by omega
      refine Ev.step (fun k => by rw [glyphcutterref10_Which.l0]) ?_
      refine Ev.pos (by omega) ?_
      refine Ev.pos (by omega) ?_
      rw [rdL_get l i hlt]
      refine Ev.bind (ref_has l[i] r (hs _ (List.getElem_mem hlt))) ?_
      cases hh : hasP l[i] r with
      | true =>
        refine Ev.pos rfl ?_
        have : l.findIdx? (fun s => hasP s r) = some i := by
          rw [List.findIdx?_eq_some_iff_getElem]
          refine ⟨hlt, hh, fun j hj => ?_⟩
          have := hno (l[j]'(by omega)) (List.mem_take_iff_getElem.2 ⟨j, by omega, rfl⟩)
          simpa using this
        unfold idxL
        rw [this]
        exact Ev.now _
      | false =>
        refine Ev.neg (by decide) ?_
        rw [wr1 (by omega)]
        refine ih (i + 1) (by omega) (by omega) fun s hs' => ?_
        rw [List.take_succ_eq_append_getElem hlt, List.mem_append, List.mem_singleton] at hs'
        rcases hs' with h | rfl
        · exact hno s h
        · exact hh
  unfold glyphcutterref10_Which.f
  exact loop l.length 0 rfl (Nat.zero_le _) (fun s h => by simp at h)
theorem law_which (l : List (List S42)) (hw : ∀ s ∈ l, Wf s) (c : List (List Int)) (hu : UL c) (hs : SmLL c) (s : List S42) (hws : Wf s) (hsum : s.length + sumL l ≤ 10000000) (e : List Int) (hue : U16 e) (hse : Sm e) (r : Int) : Ev (fun k => glyphcutterlaw10_TermsWhich.f k l c s e r) true := by
  have hk : Ev (fun k => glyphcutterlaw10_TermsWhich.j1 k l c s e r true) true := by
    refine Ev.step (fun k => by rw [glyphcutterlaw10_TermsWhich.j1]) ?_
    exact Ev.pos rfl (Ev.bind known_ev (Ev.now _))
  have fin : Ev (fun k => glyphcutterlaw10_TermsWhich.l0 k l c s e r ((s.length + sumL l : Nat) : Int) (l.length : Int)) true := by
    refine Ev.step (fun k => by rw [glyphcutterlaw10_TermsWhich.l0]) ?_
    refine Ev.neg (by omega) ?_
    by_cases h40 : ((s.length + sumL l : Nat) : Int) > 40
    · exact Ev.pos h40 hk
    · refine Ev.neg h40 ?_
      by_cases h12 : (e.length : Int) > 12
      · exact Ev.pos h12 hk
      · refine Ev.neg h12 (Ev.bind known_ev ?_)
        have hfl : Fine l := ⟨by unfold sumL at h40; omega, by unfold sumL at h40; omega, hw⟩
        have hll : ∀ p ∈ l, p.length ≤ 1000 := fun p hp => Nat.le_trans (row_le hp) hfl.2.1
        have hlen := hfl.1
        obtain ⟨L, hL, h8, hsm, hf⟩ := list_ev c hu hs
        obtain ⟨m, hm, hml, hmw⟩ := law_make e hue hse
        refine Ev.step (fun k => by rw [glyphcutterlaw10_TermsWhich.j1]) ?_
        refine Ev.neg (by decide) ?_
        refine Ev.bind hL (Ev.bind hm (Ev.bindc (a := idxL (fun s => hasP s r) l) rfl (Ev.bind (which_ev l r (by omega) (fun p hp => by have := hll p hp; unfold Sm; omega)) (Ev.pos rfl ?_))))
        refine Ev.bind (parts_ev l s (fun p hp => by have := hll p hp; omega) (by omega) (by omega)) (Ev.bind (ref_parts l s (fun p hp => ⟨by have := hll p hp; omega, hw p hp⟩) (by omega) hws (by omega)) ?_)
        refine Ev.bind (ints_ev _ (by have := pAt_len s l 0; omega)) (Ev.pos rfl ?_)
        refine Ev.bindc (a := idxL (fun s => hasP s r) L) rfl (Ev.bind (which_ev L r (by omega) (small_sm hsm)) (Ev.pos rfl ?_))
        refine Ev.bind (parts_ev L m (fun p hp => by have := (hsm p hp).1; omega) (by omega) (by omega)) (Ev.bind (ref_parts L m (fun p hp => ⟨by have := (hsm p hp).1; omega, (hsm p hp).2⟩) (by omega) hmw (by omega)) ?_)
        exact Ev.bind (ints_ev _ (by have := pAt_len m L 0; omega)) (Ev.now _)
  have loop : ∀ (d i : Nat), l.length - i = d → i ≤ l.length → Ev (fun k => glyphcutterlaw10_TermsWhich.l0 k l c s e r ((s.length + sumL (l.take i) : Nat) : Int) (i : Int)) true := by
    intro d
    induction d with
    | zero =>
      intro i hd hi
      obtain rfl : i = l.length := by omega
      rw [List.take_of_length_le (Nat.le_refl _)]
      exact fin
    | succ d ih =>
      intro i hd hi
      have hlt : i < l.length := by omega
      have nx := ih (i + 1) (by omega) (by omega)
      have h1 := sumL_take l i hlt
      have h2 := sumL_le l (i + 1)
      have hll : l.length ≤ 10000000 := by unfold sumL at hsum; omega
      refine Ev.step (fun k => by rw [glyphcutterlaw10_TermsWhich.l0]) ?_
      refine Ev.pos (by omega) ?_
      refine Ev.pos (by omega) ?_
      rw [rdL_get l i hlt, wr1 (by omega), wrap_in (i := 1 + (l[i].length : Int)) (by omega) (by omega), wrap_in (by omega) (by omega)]
      rw [h1] at nx
      have e : ((s.length + (sumL (l.take i) + 1 + l[i].length) : Nat) : Int) = ((s.length + sumL (l.take i) : Nat) : Int) + (1 + (l[i].length : Int)) := by omega
      rw [e] at nx
      exact nx
  unfold glyphcutterlaw10_TermsWhich.f
  have := loop l.length 0 rfl (Nat.zero_le _)
  simpa [sumL] using this
end
section
open Go.RowKit Go.Proofs.YtgpkhnkppkepnaaW.PrintWords Go.Proofs.YtgpkhnkppkepnaaW.PrintLast Go.Proofs.YtgpkhnkppkepnaaW.PrintMore
theorem TermsWhich.calls (W : World) (A0 : Option Addr) (c0 : Nat) (l0 : List (List S42)) (hr0 : Kd.C (Kd.slice 42 k42) W A0 l0.length l0) (hc0 : l0.length ≤ c0) (w0 : ∀ m ∈ l0, Wf m) (A1 : Option Addr) (c1 : Nat) (l1 : List (List Int)) (hr1 : Kd.C (Kd.slice 54 (Kd.int .u16)) W A1 l1.length l1) (hc1 : l1.length ≤ c1) (u1 : UL l1) (z1 : SmLL l1)
    (A2 : Option Addr) (c2 : Nat) (l2 : List S42) (hr2 : Kd.C k42 W A2 l2.length l2) (hc2 : l2.length ≤ c2) (w2 : Wf l2) (A3 : Option Addr) (c3 : Nat) (l3 : List Int) (hr3 : Kd.C (Kd.int .u16) W A3 l3.length l3) (hc3 : l3.length ≤ c3) (u3 : U16 l3) (z3 : Sm l3) (a4 : Int) (hb : l2.length + sumL l0 ≤ 1048576) :
    Calls Try.prog 5 #[.slice A0 l0.length c0, .slice A1 l1.length c1, .slice A2 l2.length c2, .slice A3 l3.length c3, .int .i64 a4] W fun e W' => e = .returned (.bool true) ∧ Below W.heap.size W W' := by
  obtain ⟨k, hk⟩ := (law_which l0 w0 l1 u1 z1 l2 w2 (by omega) l3 u3 z3 a4).rounds
  exact glyphcutterlaw10_TermsWhich.calls k A0 c0 l0 A1 c1 l1 A2 c2 l2 A3 c3 l3 a4 true W rfl hr0 hc0 hr1 hc1 hr2 hc2 hr3 hc3 hk
end
end Go.Proofs.Ytgpkhnkppkepnaa.P
