/- The law NormParts: the walk and the plain law together. -/
import Derived.Test.YtfaahcgoinkmlaaPx0
import Derived.Test.YtfaahcgoinkmlaaPx21
import Derived.Test.YtfaahcgoinkmlaaGApply
import Derived.Test.YtfaahcgoinkmlaaGCheck
import Derived.Test.YtfaahcgoinkmlaaGDecode
import Derived.Test.YtfaahcgoinkmlaaGEnc
import Derived.Test.YtfaahcgoinkmlaaGFold
import Derived.Test.YtfaahcgoinkmlaaGKnown
import Derived.Test.YtfaahcgoinkmlaaGMapP
import Derived.Test.YtfaahcgoinkmlaaGSteps
import Derived.Test.YtfaahcgoinkmlaaPBase
import Derived.Test.YtfaahcgoinkmlaaPChars16
import Derived.Test.YtfaahcgoinkmlaaPLaw0
import Derived.Test.YtfaahcgoinkmlaaPPairs16
import Derived.Test.YtfaahcgoinkmlaaPText16
import Derived.Lib.ConvBytes
namespace Go.Proofs.Ytfaahcgoinkmlaa.P
set_option linter.unusedVariables false
set_option linter.unusedSimpArgs false
section
open Go.RowKit Go.Proofs.YtfaahcgoinkmlaaW.PrintWords Go.Proofs.YtfaahcgoinkmlaaW.PrintLast Go.Proofs.YtfaahcgoinkmlaaW.PrintMore
theorem chars_nil {b : List Int} (h : charsP b = []) : b = [] := by
 unfold charsP at h
 cases b with
 | nil => rfl
 | cons a t => rw [List.length_cons,charsF,if_neg (by simp)] at h;cases h
theorem str_append (a b : List Int) : (strOfNums (a ++ b)).toList = (strOfNums a ++ strOfNums b).toList := by
 rw [Lib.toList_data,Lib.toList_data,strOfNums_data,ByteArray.data_append,Array.toList_append,strOfNums_data,strOfNums_data,List.map_append]
theorem law_parts (kinds : List Int) (c : List S58) (k : Int) (b : List Int) (hk : U8B kinds) (hc : WfT c) (h0 : 0 ≤ k) (h1 : k ≤ 255) (hu : U8B b) : Ev (fun n => glyphcutterlaw16_NormParts.f n kinds c k b) true := by
 have jt : Ev (fun n => glyphcutterlaw16_NormParts.j0 n kinds c k b true) true := by
  refine Ev.step (fun k => by rw [glyphcutterlaw16_NormParts.j0]) ?_
  exact Ev.pos rfl (Ev.bindc known_f16 (Ev.now _))
 unfold glyphcutterlaw16_NormParts.f
 by_cases h : (b.length : Int) > 200
 ·exact Ev.pos h jt
 refine Ev.neg h ?_
 by_cases h2 : (c.length : Int) > 30
 ·exact Ev.pos h2 jt
 refine Ev.neg h2 (Ev.bindc known_f16 ?_)
 refine Ev.step (fun k => by rw [glyphcutterlaw16_NormParts.j0]) ?_
 refine Ev.neg (by simp) (Ev.bindc (steps_f hk hc (by omega)) (Ev.bind (ref_chars hu (by omega)) ?_))
 generalize stepsP kinds c = s
 by_cases hn : ((charsP b).length : Int) = 0
 ·refine Ev.pos hn ?_
  have hb : b = [] := chars_nil (List.eq_nil_of_length_eq_zero (by omega))
  subst hb
  refine Ev.bind (ev_text s hu (by omega)) ?_
  exact Ev.now _
 ·refine Ev.neg hn ?_
  have hw : wrap64 k = k := wrap_in (by omega) (by omega)
  rw [hw]
  have ht : Int.tmod k ((charsP b).length : Int) = k % ((charsP b).length : Int) := Int.tmod_eq_emod_of_nonneg h0
  have hp : (0 : Int) < ((charsP b).length : Int) := by omega
  have g0 := Int.emod_nonneg k (show ((charsP b).length : Int) ≠ 0 by omega)
  have g1 := Int.emod_lt_of_pos k hp
  rw [ht]
  obtain ⟨j,hj⟩ : ∃ j : Nat,k % ((charsP b).length : Int) = (j : Int) := ⟨(k % ((charsP b).length : Int)).toNat,by omega⟩
  rw [hj] at g0 g1 ⊢
  have hjl : j < (charsP b).length := by omega
  refine Ev.pos g0 (Ev.pos g1 (Ev.bind (ev_text s hu (by omega)) ?_))
  rw [rdC_get _ j hjl]
  obtain ⟨p,e1,e2,e3⟩ := chars_cut b.length b 0 (charsP b)[j] (List.getElem_mem hjl)
  rw [e1,Nat.zero_add,Int.toNat_natCast]
  refine Ev.pos (by omega) (Ev.pos (by omega) ?_)
  have l1 : (b.take p).length ≤ 200 := by rw [List.length_take];omega
  have l2 : (b.drop p).length ≤ 200 := by rw [List.length_drop];omega
  refine Ev.bind (ev_text s (u8_take hu p) (by omega)) (Ev.bind (ev_text s (u8_drop hu p) (by omega)) ?_)
  have m1 := text_len s (b.take p)
  have m2 := text_len s (b.drop p)
  refine Ev.pos (by rw [strOfNums_size,strOfNums_size];omega) ?_
  have e : ((strOfNums (textP s b)).toList == (strOfNums (textP s (b.take p)) ++ strOfNums (textP s (b.drop p))).toList) = true := by
   rw [e3 s,str_append];simp
  rw [e]
  exact Ev.now _
end
section
open Go.RowKit Go.Proofs.YtfaahcgoinkmlaaW.PrintWords Go.Proofs.YtfaahcgoinkmlaaW.PrintLast Go.Proofs.YtfaahcgoinkmlaaW.PrintMore
theorem NormParts.calls (W : World) (A0 : Option Addr) (c0 : Nat) (l0 : List Int) (hr0 : Kd.C (Kd.int .u8) W A0 l0.length l0) (hc0 : l0.length ≤ c0) (u0 : U8B l0) (z0 : Sm l0) (A1 : Option Addr) (c1 : Nat) (l1 : List S58) (hr1 : Kd.C k58 W A1 l1.length l1) (hc1 : l1.length ≤ c1) (u1 : WfT l1) (z1 : Sm l1) (a2 : Int) (w2 : (Lit.int .u8 a2).wf = true) (A3 : Option Addr) (c3 : Nat) (l3 : List Int) (hr3 : Kd.C (Kd.int .u8) W A3 l3.length l3) (hc3 : l3.length ≤ c3) (u3 : U8B l3) (z3 : Sm l3) :
  Calls Try.prog 10 #[.slice A0 l0.length c0,.slice A1 l1.length c1,.int .u8 a2,.slice A3 l3.length c3] W fun e W' => e = .returned (.bool true) ∧ Below W.heap.size W W' := by
 obtain ⟨k,hk⟩ := (law_parts l0 l1 a2 l3 u0 u1 (wf_u8 w2).1 (wf_u8 w2).2 u3).rounds
 exact glyphcutterlaw16_NormParts.calls k A0 c0 l0 A1 c1 l1 a2 A3 c3 l3 true W rfl hr0 hc0 hr1 hc1 hr3 hc3 hk
end
end Go.Proofs.Ytfaahcgoinkmlaa.P
