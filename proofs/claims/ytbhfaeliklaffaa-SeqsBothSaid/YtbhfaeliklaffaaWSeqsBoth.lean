/- The law SeqsBoth: the walk and the plain law together. -/
import Derived.Test.YtbhfaeliklaffaaPx0
import Derived.Test.YtbhfaeliklaffaaPx13
import Derived.Test.YtbhfaeliklaffaaPx2
import Derived.Test.YtbhfaeliklaffaaGMatch
import Derived.Test.YtbhfaeliklaffaaGNorm
import Derived.Test.YtbhfaeliklaffaaGParts
import Derived.Test.YtbhfaeliklaffaaPBase
import Derived.Test.YtbhfaeliklaffaaPLaw3
import Derived.Test.YtbhfaeliklaffaaPMat
import Derived.Test.YtbhfaeliklaffaaPRow
import Derived.Test.YtbhfaeliklaffaaPRowAll
import Derived.Test.YtbhfaeliklaffaaPSeq
namespace Go.Proofs.Ytbhfaeliklaffaa.P
set_option linter.unusedVariables false
set_option linter.unusedSimpArgs false
section
open Go.RowKit Go.Proofs.YtbhfaeliklaffaaW.PrintWords Go.Proofs.YtbhfaeliklaffaaW.PrintLast Go.Proofs.YtbhfaeliklaffaaW.PrintMore
theorem law_both (c : List Int) (a : Int) (hc : U16 c) (hs : Sm c) (h0 : 0 ≤ a) : Ev (fun k => glyphcutterlaw03_SeqsBoth.f k c a) true := by
  have jt : Ev (fun k => glyphcutterlaw03_SeqsBoth.j0 k c a true) true := Ev.step (fun k => by rw [glyphcutterlaw03_SeqsBoth.j0]) (Ev.pos rfl (Ev.bind known_f (Ev.now true)))
  unfold glyphcutterlaw03_SeqsBoth.f
  by_cases h2 : (c.length : Int) > 40
  · exact Ev.pos h2 jt
  refine Ev.neg h2 (Ev.bind known_f ?_)
  obtain ⟨m, hm, hm1, hm2⟩ := law_make c hc hs
  have hnl := notP_len m
  have hx : wrap64 (Int.tmod a 1114112) = a % 1114112 := by rw [Int.tmod_eq_emod_of_nonneg h0, wrap_in (by omega) (by omega)]
  generalize hxx : a % 1114112 = x at hx
  refine Ev.step (fun k => by rw [glyphcutterlaw03_SeqsBoth.j0]) (Ev.neg (by simp) ?_)
  rw [hx]
  refine Ev.bind hm (Ev.bindc (of_f m (by omega)) (Ev.bind (ref_not m (by omega) hm2) (Ev.bindc (of_f (notP m) (by omega)) (Ev.bind (ref_encode x) ?_))))
  have e1 := sizeW_norm m
  have e2 := sizeW_norm (notP m)
  have e3 := size_not m
  have es : (wrap64 (sizeW (normP m) 0 + sizeW (normP (notP m)) 0) == 1112064) = true := by
    rw [e1.1, e2.1, wrap_in (by omega) (by omega), beq_iff_eq]
    omega
  have cnt : Ev (fun k => (seqs_Count.f k (ofP m)).bind fun t => (seqs_Count.f k (ofP (notP m))).bind fun t' => some (wrap64 (t + t') == 1112064)) true := by
    refine Ev.bind (of_count_f m) (Ev.bind (of_count_f (notP m)) ?_)
    rw [es]
    exact Ev.now true
  by_cases hsx : Scal x
  · have hne := enc_ne hsx
    refine Ev.neg (by omega) (Ev.bindc (a := matchP (ofP m) (encP x)) rfl (Ev.bindc (a := matchP (ofP (notP m)) (encP x)) rfl (Ev.pos ?_ cnt)))
    rw [of_has m hsx, of_has (notP m) hsx]
    have i1 := hasP_iff m x
    have i2 := (is_not m).has x
    cases h3 : hasP m x with
    | true =>
      have : ¬ hasP (notP m) x = true := fun h => (i2.1 h).2 ((i1.1 h3).2)
      simp [this]
    | false =>
      have : hasP (notP m) x = true := i2.2 ⟨hsx, fun h => by rw [i1.2 ⟨hsx, h⟩] at h3; cases h3⟩
      simp [this]
  · rw [enc_none hsx]
    exact Ev.pos rfl cnt
end
section
open Go.RowKit Go.Proofs.YtbhfaeliklaffaaW.PrintWords Go.Proofs.YtbhfaeliklaffaaW.PrintLast Go.Proofs.YtbhfaeliklaffaaW.PrintMore
theorem SeqsBoth.calls (W : World) (A0 : Option Addr) (c0 : Nat) (l0 : List Int) (hr0 : Kd.C (Kd.int .u16) W A0 l0.length l0) (hc0 : l0.length ≤ c0) (u0 : U16 l0) (z0 : Sm l0) (a1 : Int) (w1 : (Lit.int .u32 a1).wf = true) :
    Calls Try.prog 3 #[.slice A0 l0.length c0, .int .u32 a1] W fun e W' => e = .returned (.bool true) ∧ Below W.heap.size W W' := by
  obtain ⟨k, hk⟩ := (law_both l0 a1 u0 z0 (wf_u32 w1).1).rounds
  exact glyphcutterlaw03_SeqsBoth.calls k A0 c0 l0 a1 true W hr0 hc0 hk
end
end Go.Proofs.Ytbhfaeliklaffaa.P
