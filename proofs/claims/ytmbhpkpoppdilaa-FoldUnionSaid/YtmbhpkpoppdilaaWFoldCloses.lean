/- The law FoldCloses: the walk and the plain law together. -/
import Derived.Test.YtmbhpkpoppdilaaPx0
import Derived.Test.YtmbhpkpoppdilaaPx12
import Derived.Test.YtmbhpkpoppdilaaGBase
import Derived.Test.YtmbhpkpoppdilaaGClose
import Derived.Test.YtmbhpkpoppdilaaGConcat
import Derived.Test.YtmbhpkpoppdilaaGFold
import Derived.Test.YtmbhpkpoppdilaaGHas
import Derived.Test.YtmbhpkpoppdilaaGNorm
import Derived.Test.YtmbhpkpoppdilaaPBase
import Derived.Test.YtmbhpkpoppdilaaPLaw4
import Derived.Test.YtmbhpkpoppdilaaPLaw4b
import Derived.Test.YtmbhpkpoppdilaaWFoldFolds
namespace Go.Proofs.Ytmbhpkpoppdilaa.P
set_option linter.unusedVariables false
set_option linter.unusedSimpArgs false
section
open Go.RowKit Go.Proofs.YtmbhpkpoppdilaaW.PrintWords Go.Proofs.YtmbhpkpoppdilaaW.PrintLast Go.Proofs.YtmbhpkpoppdilaaW.PrintMore
theorem or_take {l : List Int} {p : Int → Bool} {i : Nat} (h : i < l.length) : (l.take (i + 1)).any p = ((l.take i).any p || p l[i]) := by
  rw [List.take_succ_eq_append_getElem h, List.any_append]
  simp
theorem law_closes (c d : List Int) (at_ : Int) (hc : U16 c) (sc : Sm c) (hd : U16 d) (a0 : 0 ≤ at_) (a1 : at_ ≤ 65535) : Ev (fun k => glyphcutterlaw04_FoldCloses.f k c d at_) true := by
  have jt : Ev (fun k => glyphcutterlaw04_FoldCloses.j0 k c d at_ true) true := Ev.step (fun k => by rw [glyphcutterlaw04_FoldCloses.j0]) (Ev.pos rfl (Ev.bindc known_f (Ev.now true)))
  unfold glyphcutterlaw04_FoldCloses.f
  by_cases h1 : (c.length : Int) > 20
  · exact Ev.pos h1 jt
  refine Ev.neg h1 ?_
  by_cases h2 : (d.length : Int) > 6
  · exact Ev.pos h2 jt
  refine Ev.neg h2 (Ev.bindc known_f ?_)
  obtain ⟨m, hm, hm1, hm2⟩ := law_make c hc sc
  refine Ev.step (fun k => by rw [glyphcutterlaw04_FoldCloses.j0]) (Ev.neg (by simp) (Ev.bind hm ?_))
  obtain ⟨x, hx, x0, x1⟩ := near_f at_ a0 a1
  have fin : ∀ l : List S30, l.length ≤ 50 → ∀ (n i : Nat), (orbitP x).length - i = n → i ≤ (orbitP x).length → Ev (fun k => glyphcutterlaw04_FoldCloses.l1 k l x (orbitP x) (((orbitP x).take i).any (hasP l)) (i : Int)) true := by
    intro l hl n
    have hol := orbit_len x
    induction n with
    | zero =>
      intro i hn hi
      have hcl := closeP_len l
      refine Ev.step (fun k => by rw [glyphcutterlaw04_FoldCloses.l1]) (Ev.neg (by omega) (Ev.bindc (close_f l (by omega)) (Ev.bind (ref_has (closeP l) x (by unfold Sm; omega)) ?_)))
      rw [close_any, List.take_of_length_le (by omega), beq_self_eq_true]
      exact Ev.now true
    | succ n ih =>
      intro i hn hi
      have hlt : i < (orbitP x).length := by omega
      have ihn := ih (i + 1) (by omega) (by omega)
      rw [or_take hlt] at ihn
      refine Ev.step (fun k => by rw [glyphcutterlaw04_FoldCloses.l1]) (Ev.pos (by omega) ?_)
      rw [wrap_in (by omega) (by omega)]
      cases hb : ((orbitP x).take i).any (hasP l) with
      | true =>
        rw [hb, Bool.true_or] at ihn
        exact Ev.pos rfl ihn
      | false =>
        rw [hb, Bool.false_or] at ihn
        refine Ev.neg (by simp) (Ev.pos (by omega) ?_)
        rw [rdi_get _ i hlt]
        exact Ev.bind (ref_has l _ (by unfold Sm; omega)) ihn
  have l0 : ∀ (n i : Nat) (l : List S30), d.length - i = n → i ≤ d.length → l.length ≤ 30 + i → Ev (fun k => glyphcutterlaw04_FoldCloses.l0 k d at_ l (i : Int)) true := by
    intro n
    induction n with
    | zero =>
      intro i l hn hi hl
      refine Ev.step (fun k => by rw [glyphcutterlaw04_FoldCloses.l0]) (Ev.neg (by omega) (Ev.bindc hx (Ev.bindc (orbit_f x) ?_)))
      have := fin l (by omega) (orbitP x).length 0 (by omega) (by omega)
      simpa using this
    | succ n ih =>
      intro i l hn hi hl
      have hlt : i < d.length := by omega
      have hb := hd _ (List.getElem_mem hlt)
      obtain ⟨v, hv, _, _⟩ := near_f _ hb.1 hb.2
      refine Ev.step (fun k => by rw [glyphcutterlaw04_FoldCloses.l0]) (Ev.pos (by omega) (Ev.pos (by omega) ?_))
      rw [rdi_get d i hlt]
      refine Ev.bindc hv (Ev.bindc hv (Ev.pos (by omega) ?_))
      rw [wrap_in (by omega) (by omega)]
      exact ih (i + 1) _ (by omega) (by omega) (by simp; omega)
  exact l0 d.length 0 m (by omega) (by omega) (by omega)
end
section
open Go.RowKit Go.Proofs.YtmbhpkpoppdilaaW.PrintWords Go.Proofs.YtmbhpkpoppdilaaW.PrintLast Go.Proofs.YtmbhpkpoppdilaaW.PrintMore
theorem u16_of {l : List Int} (h : ∀ x ∈ l, (Lit.int .u16 x).wf = true) : U16 l := fun x hx => by
  have := h x hx
  simp [Lit.wf, IntKind.min, IntKind.max, IntKind.bits, IntKind.signed] at this
  omega
theorem sm_of {n : Nat} {l : List Int} (h : l.length * n ≤ 140737488351232) (hn : 0 < n := by decide) : Sm l := by
  have := Nat.le_mul_of_pos_right l.length hn
  unfold Sm; omega
end
section
open Go.RowKit Go.Proofs.YtmbhpkpoppdilaaW.PrintWords Go.Proofs.YtmbhpkpoppdilaaW.PrintLast Go.Proofs.YtmbhpkpoppdilaaW.PrintMore
theorem FoldCloses.calls (W : World) (A0 : Option Addr) (c0 : Nat) (l0 : List Int) (hr0 : Kd.C (Kd.int .u16) W A0 l0.length l0) (hc0 : l0.length ≤ c0) (u0 : U16 l0) (z0 : Sm l0) (A1 : Option Addr) (c1 : Nat) (l1 : List Int) (hr1 : Kd.C (Kd.int .u16) W A1 l1.length l1) (hc1 : l1.length ≤ c1) (u1 : U16 l1) (z1 : Sm l1) (a2 : Int) (w2 : (Lit.int .u16 a2).wf = true) :
    Calls Try.prog 7 #[.slice A0 l0.length c0, .slice A1 l1.length c1, .int .u16 a2] W fun e W' => e = .returned (.bool true) ∧ Below W.heap.size W W' := by
  obtain ⟨k, hk⟩ := (law_closes l0 l1 a2 u0 z0 u1 (u16_in w2).1 (u16_in w2).2).rounds
  exact glyphcutterlaw04_FoldCloses.calls k A0 c0 l0 A1 c1 l1 a2 true W hr0 hc0 hr1 hc1 hk
end
end Go.Proofs.Ytmbhpkpoppdilaa.P
