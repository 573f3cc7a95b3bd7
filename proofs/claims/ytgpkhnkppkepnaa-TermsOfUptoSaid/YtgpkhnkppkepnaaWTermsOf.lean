/- The law TermsOf: the walk and the plain law together. -/
import Derived.Test.YtgpkhnkppkepnaaPx0
import Derived.Test.YtgpkhnkppkepnaaPx14
import Derived.Test.YtgpkhnkppkepnaaGBase
import Derived.Test.YtgpkhnkppkepnaaGEdges
import Derived.Test.YtgpkhnkppkepnaaGHas
import Derived.Test.YtgpkhnkppkepnaaGInter
import Derived.Test.YtgpkhnkppkepnaaGMapH
import Derived.Test.YtgpkhnkppkepnaaGNorm
import Derived.Test.YtgpkhnkppkepnaaGRowsO
import Derived.Test.YtgpkhnkppkepnaaGTerms
import Derived.Test.YtgpkhnkppkepnaaPBase
import Derived.Test.YtgpkhnkppkepnaaPLaw10
import Derived.Test.YtgpkhnkppkepnaaPLaws10
import Derived.Test.YtgpkhnkppkepnaaPParts
import Derived.Test.YtgpkhnkppkepnaaPRef10
import Derived.Test.YtgpkhnkppkepnaaPTermsA
import Derived.Test.YtgpkhnkppkepnaaWOpen10
namespace Go.Proofs.Ytgpkhnkppkepnaa.P
set_option linter.unusedVariables false
set_option linter.unusedSimpArgs false
section
open Go.RowKit Go.Shelf Go.Proofs.YtgpkhnkppkepnaaW.PrintWords Go.Proofs.YtgpkhnkppkepnaaW.PrintLast Go.Proofs.YtgpkhnkppkepnaaW.PrintMore
theorem law_of (l : List (List S42)) (hw : ∀ s ∈ l, Wf s) (hsum : sumL l ≤ 10000000) (c : List (List Int)) (hu : UL c) (hs : SmLL c) : Ev (fun k => glyphcutterlaw10_TermsOf.f k l c) true := by
  have hk : Ev (fun k => glyphcutterlaw10_TermsOf.j1 k l c true) true := by
    refine Ev.step (fun k => by rw [glyphcutterlaw10_TermsOf.j1]) ?_
    exact Ev.pos rfl (Ev.bind known_ev (Ev.now _))
  have fin : Ev (fun k => glyphcutterlaw10_TermsOf.l0 k l c (sumL l : Int) (l.length : Int)) true := by
    refine Ev.step (fun k => by rw [glyphcutterlaw10_TermsOf.l0]) ?_
    refine Ev.neg (by omega) ?_
    by_cases h40 : (sumL l : Int) > 40
    · exact Ev.pos h40 hk
    · refine Ev.neg h40 (Ev.bind known_ev ?_)
      have hfl : Fine l := ⟨by unfold sumL at h40; omega, by unfold sumL at h40; omega, hw⟩
      obtain ⟨L, hL, h8, hsm, hf⟩ := list_ev c hu hs
      refine Ev.step (fun k => by rw [glyphcutterlaw10_TermsOf.j1]) ?_
      refine Ev.neg (by decide) ?_
      refine Ev.bind hL (Ev.bindc (of_fine l hfl) (Ev.bind (ref_of l hfl) (Ev.bind (parts_same l hfl) (Ev.pos rfl ?_))))
      exact Ev.bindc (of_fine L hf) (Ev.bind (ref_of L hf) (Ev.bind (parts_same L hf) (Ev.now _)))
  have loop : ∀ (d i : Nat), l.length - i = d → i ≤ l.length → Ev (fun k => glyphcutterlaw10_TermsOf.l0 k l c (sumL (l.take i) : Int) (i : Int)) true := by
    intro d
    induction d with
    | zero =>
      intro i hd hi
      obtain rfl : i = l.length := by omega
      rw [List.take_of_length_le (Nat.le_refl _)]
      exact fin
    | succ d ih =>
      intro i hd hi
      have hlt : i < l.length := by omega
      have nx := ih (i + 1) (by omega) (by omega)
      have h1 := sumL_take l i hlt
      have h2 := sumL_le l (i + 1)
      have hll : l.length ≤ 10000000 := by unfold sumL at hsum; omega
      refine Ev.step (fun k => by rw [glyphcutterlaw10_TermsOf.l0]) ?_
      refine Ev.pos (by omega) ?_
      refine Ev.pos (by omega) ?_
      rw [rdL_get l i hlt, wr1 (by omega), wrap_in (i := 1 + (l[i].length : Int)) (by omega) (by omega), wrap_in (by omega) (by omega)]
      rw [h1] at nx
      have e : ((sumL (l.take i) + 1 + l[i].length : Nat) : Int) = (sumL (l.take i) : Int) + (1 + (l[i].length : Int)) := by omega
      rw [e] at nx
      exact nx
  unfold glyphcutterlaw10_TermsOf.f
  exact loop l.length 0 rfl (Nat.zero_le _)
end
section
open Go.RowKit Go.Proofs.YtgpkhnkppkepnaaW.PrintWords Go.Proofs.YtgpkhnkppkepnaaW.PrintLast Go.Proofs.YtgpkhnkppkepnaaW.PrintMore
theorem TermsOf.calls (W : World) (A0 : Option Addr) (c0 : Nat) (l0 : List (List S42)) (hr0 : Kd.C (Kd.slice 42 k42) W A0 l0.length l0) (hc0 : l0.length ≤ c0) (w0 : ∀ m ∈ l0, Wf m) (A1 : Option Addr) (c1 : Nat) (l1 : List (List Int)) (hr1 : Kd.C (Kd.slice 54 (Kd.int .u16)) W A1 l1.length l1) (hc1 : l1.length ≤ c1) (u1 : UL l1) (z1 : SmLL l1) (hb : sumL l0 ≤ 1048576) :
    Calls Try.prog 4 #[.slice A0 l0.length c0, .slice A1 l1.length c1] W fun e W' => e = .returned (.bool true) ∧ Below W.heap.size W W' := by
  obtain ⟨k, hk⟩ := (law_of l0 w0 (by omega) l1 u1 z1).rounds
  exact glyphcutterlaw10_TermsOf.calls k A0 c0 l0 A1 c1 l1 true W rfl hr0 hc0 hr1 hc1 hk
end
end Go.Proofs.Ytgpkhnkppkepnaa.P
