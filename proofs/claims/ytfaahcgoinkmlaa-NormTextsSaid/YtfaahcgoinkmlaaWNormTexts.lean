/- The law NormTexts: the walk and the plain law together. -/
import Derived.Test.YtfaahcgoinkmlaaPx0
import Derived.Test.YtfaahcgoinkmlaaPx17
import Derived.Test.YtfaahcgoinkmlaaPx10
import Derived.Test.YtfaahcgoinkmlaaPx8
import Derived.Test.YtfaahcgoinkmlaaPx4
import Derived.Test.YtfaahcgoinkmlaaPx5
import Derived.Test.YtfaahcgoinkmlaaPx7
import Derived.Test.YtfaahcgoinkmlaaPx11
import Derived.Test.YtfaahcgoinkmlaaGApply
import Derived.Test.YtfaahcgoinkmlaaGCheck
import Derived.Test.YtfaahcgoinkmlaaGDecode
import Derived.Test.YtfaahcgoinkmlaaGEnc
import Derived.Test.YtfaahcgoinkmlaaGFold
import Derived.Test.YtfaahcgoinkmlaaGKnown
import Derived.Test.YtfaahcgoinkmlaaGMapP
import Derived.Test.YtfaahcgoinkmlaaGSound
import Derived.Test.YtfaahcgoinkmlaaGSteps
import Derived.Test.YtfaahcgoinkmlaaPBase
import Derived.Test.YtfaahcgoinkmlaaPChars16
import Derived.Test.YtfaahcgoinkmlaaPLaw0
import Derived.Test.YtfaahcgoinkmlaaPPairs16
import Derived.Test.YtfaahcgoinkmlaaPText16
import Derived.Deep.SlicePairs
import Derived.ChangeArms
import Derived.SizedLaws
import Derived.WalkKit
namespace Go.Proofs.Ytfaahcgoinkmlaa.P
set_option linter.unusedVariables false
set_option linter.unusedSimpArgs false
section
open Go.RowKit Go.Proofs.YtfaahcgoinkmlaaW.PrintWords Go.Proofs.YtfaahcgoinkmlaaW.PrintLast Go.Proofs.YtfaahcgoinkmlaaW.PrintMore
def Out1 (x : Int) : Prop := ¬ (65 ≤ x ∧ x ≤ 90) ∧ ¬ (192 ≤ x ∧ x ≤ 222 ∧ x ≠ 215) ∧ ¬ (913 ≤ x ∧ x ≤ 937 ∧ x ≠ 930) ∧ ¬ (1040 ≤ x ∧ x ≤ 1071)
theorem ref_fold3 {x : Int} (h : Out1 x) (h2 : ¬ (1024 ≤ x ∧ x ≤ 1039)) : Ev (fun k => glyphcutterref04_Fold.j3 k x false) (foldF x) := by
 have hc := fold_cases x
 generalize foldF x = p at hc ⊢
 unfold Out1 at h
 refine Ev.step (fun k => by rw [glyphcutterref04_Fold.j3]) (Ev.neg (by simp) ?_)
 by_cases c1 : x = 181
 ·refine Ev.pos c1 ?_;rw [show p = 956 by omega];exact Ev.now _
 refine Ev.neg c1 ?_
 by_cases c2 : x = 962
 ·refine Ev.pos c2 ?_;rw [show p = 963 by omega];exact Ev.now _
 refine Ev.neg c2 ?_
 by_cases c3 : x = 7838
 ·refine Ev.pos c3 ?_;rw [show p = 223 by omega];exact Ev.now _
 refine Ev.neg c3 ?_
 by_cases c4 : x = 8486
 ·refine Ev.pos c4 ?_;rw [show p = 969 by omega];exact Ev.now _
 refine Ev.neg c4 ?_
 by_cases c5 : x = 8490
 ·refine Ev.pos c5 ?_;rw [show p = 107 by omega];exact Ev.now _
 refine Ev.neg c5 ?_
 by_cases c6 : x = 8491
 ·refine Ev.pos c6 ?_;rw [show p = 229 by omega];exact Ev.now _
 refine Ev.neg c6 ?_
 rw [show p = x by omega];exact Ev.now _
theorem ref_fold2f {x : Int} (h : Out1 x) : Ev (fun k => glyphcutterref04_Fold.j2 k x false) (foldF x) := by
 refine Ev.step (fun k => by rw [glyphcutterref04_Fold.j2]) (Ev.neg (by simp) ?_)
 by_cases c1 : x ≥ 1024
 ·refine Ev.pos c1 ?_
  by_cases c2 : x ≤ 1039
  ·rw [decide_eq_true c2]
   refine Ev.step (fun k => by rw [glyphcutterref04_Fold.j3]) (Ev.pos rfl ?_)
   have hc := fold_cases x
   generalize foldF x = p at hc ⊢
   rw [wrap_in (by omega) (by omega),show p = x + 80 by omega]
   exact Ev.now _
  ·rw [decide_eq_false c2]
   exact ref_fold3 h (by omega)
 ·exact Ev.neg c1 (ref_fold3 h (by omega))
theorem ref_fold2t {x : Int} (h : ¬ Out1 x) : Ev (fun k => glyphcutterref04_Fold.j2 k x true) (foldF x) := by
 refine Ev.step (fun k => by rw [glyphcutterref04_Fold.j2]) (Ev.pos rfl ?_)
 have hc := fold_cases x
 generalize foldF x = p at hc ⊢
 unfold Out1 at h
 rw [wrap_in (by omega) (by omega),show p = x + 32 by omega]
 exact Ev.now _
theorem ref_fold1f {x : Int} (h1 : ¬ (65 ≤ x ∧ x ≤ 90)) (h2 : ¬ (192 ≤ x ∧ x ≤ 222 ∧ x ≠ 215)) : Ev (fun k => glyphcutterref04_Fold.j1 k x false) (foldF x) := by
 have h3 : (¬ (913 ≤ x ∧ x ≤ 937 ∧ x ≠ 930)) → Ev (fun k => if x ≥ 1040 then glyphcutterref04_Fold.j2 k x (decide (x ≤ 1071)) else glyphcutterref04_Fold.j2 k x false) (foldF x) := by
  intro h3
  by_cases c1 : x ≥ 1040
  ·refine Ev.pos c1 ?_
   by_cases c2 : x ≤ 1071
   ·rw [decide_eq_true c2];exact ref_fold2t (by unfold Out1;omega)
   ·rw [decide_eq_false c2];exact ref_fold2f (by unfold Out1;omega)
  ·exact Ev.neg c1 (ref_fold2f (by unfold Out1;omega))
 refine Ev.step (fun k => by rw [glyphcutterref04_Fold.j1]) (Ev.neg (by simp) ?_)
 by_cases c1 : x ≥ 913
 ·refine Ev.pos c1 ?_
  by_cases c2 : x ≤ 937
  ·refine Ev.pos c2 ?_
   by_cases c3 : x = 930
   ·exact Ev.pos c3 (h3 (by omega))
   ·refine Ev.neg c3 ?_
    rw [show (x != 930) = true from bne_iff_ne.2 c3]
    exact ref_fold2t (by unfold Out1;omega)
  ·exact Ev.neg c2 (h3 (by omega))
 ·exact Ev.neg c1 (h3 (by omega))
theorem ref_fold1t {x : Int} (h : ¬ Out1 x) : Ev (fun k => glyphcutterref04_Fold.j1 k x true) (foldF x) :=
 Ev.step (fun k => by rw [glyphcutterref04_Fold.j1]) (Ev.pos rfl (ref_fold2t h))
theorem ref_fold0f {x : Int} (h1 : ¬ (65 ≤ x ∧ x ≤ 90)) : Ev (fun k => glyphcutterref04_Fold.j0 k x false) (foldF x) := by
 refine Ev.step (fun k => by rw [glyphcutterref04_Fold.j0]) (Ev.neg (by simp) ?_)
 by_cases c1 : x ≥ 192
 ·refine Ev.pos c1 ?_
  by_cases c2 : x ≤ 222
  ·refine Ev.pos c2 ?_
   by_cases c3 : x = 215
   ·rw [show (x != 215) = false from bne_eq_false_iff_eq.2 c3]
    exact ref_fold1f h1 (by omega)
   ·rw [show (x != 215) = true from bne_iff_ne.2 c3]
    exact ref_fold1t (by unfold Out1;omega)
  ·exact Ev.neg c2 (ref_fold1f h1 (by omega))
 ·exact Ev.neg c1 (ref_fold1f h1 (by omega))
theorem ref_fold (x : Int) : Ev (fun k => glyphcutterref04_Fold.f k x) (foldF x) := by
 unfold glyphcutterref04_Fold.f
 by_cases c1 : x ≥ 65
 ·refine Ev.pos c1 ?_
  by_cases c2 : x ≤ 90
  ·rw [decide_eq_true c2]
   exact Ev.step (fun k => by rw [glyphcutterref04_Fold.j0]) (Ev.pos rfl (ref_fold2t (by unfold Out1;omega)))
  ·rw [decide_eq_false c2];exact ref_fold0f (by omega)
 ·exact Ev.neg c1 (ref_fold0f (by omega))
end
section
open Go.RowKit Go.Proofs.YtfaahcgoinkmlaaW.PrintWords Go.Proofs.YtfaahcgoinkmlaaW.PrintLast Go.Proofs.YtfaahcgoinkmlaaW.PrintMore
theorem e_hi {r c m : Int} (h0 : 0 ≤ r) (hm : 0 < m) (hc : 0 ≤ c) (h : c + r / m < 256) : (wrap64 (c + wrap64 (Int.tdiv r m))) % 256 = c + r / m := by
 have h1 : 0 ≤ r / m := Int.ediv_nonneg h0 (by omega)
 rw [Int.tdiv_eq_ediv_of_nonneg h0,wrap_in (i := r / m) (by omega) (by omega),wrap_in (by omega) (by omega)]
 exact Int.emod_eq_of_lt (by omega) h
theorem e_lo {x : Int} (h0 : 0 ≤ x) : (wrap64 (128 + Int.tmod x 64)) % 256 = 128 + x % 64 := by
 rw [Int.tmod_eq_emod_of_nonneg h0,wrap_in (by omega) (by omega)]
 omega
theorem e_mid {r m : Int} (h0 : 0 ≤ r) (h1 : r ≤ 1114111) (hm : 0 < m) : (wrap64 (128 + Int.tmod (wrap64 (Int.tdiv r m)) 64)) % 256 = 128 + r / m % 64 := by
 have h2 : 0 ≤ r / m := Int.ediv_nonneg h0 (by omega)
 have h3 : r / m ≤ r := Int.ediv_le_self _ h0
 rw [Int.tdiv_eq_ediv_of_nonneg h0,wrap_in (i := r / m) (by omega) (by omega),e_lo h2]
theorem ref_enc_j {r : Int} (h : Scal r) : Ev (fun k => glyphcutterref02_Encode.j0 k r false) (encP r) := by
 unfold Scal at h
 refine Ev.step (fun k => by rw [glyphcutterref02_Encode.j0]) (Ev.neg (by simp) ?_)
 by_cases h1 : r < 128
 ·refine Ev.pos h1 ?_
  rw [enc_1 h.1 h1,show r % 256 = r from Int.emod_eq_of_lt h.1 (by omega)]
  exact Ev.now _
 refine Ev.neg h1 ?_
 by_cases h2 : r < 2048
 ·refine Ev.pos h2 ?_
  rw [enc_2 (by omega) h2,e_hi h.1 (by decide) (by decide) (by omega),e_lo h.1]
  exact Ev.now _
 refine Ev.neg h2 ?_
 by_cases h3 : r < 65536
 ·refine Ev.pos h3 ?_
  rw [enc_3 (by omega) h3 h.2.2,e_hi h.1 (by decide) (by decide) (by omega),e_lo h.1,e_mid h.1 h.2.1 (by decide)]
  exact Ev.now _
 ·refine Ev.neg h3 ?_
  rw [enc_4 (by omega) h.2.1,e_hi h.1 (by decide) (by decide) (by omega),e_lo h.1,e_mid h.1 h.2.1 (by decide),e_mid h.1 h.2.1 (by decide)]
  exact Ev.now _
/-- ref02.Encode. -/
theorem ref_encode (r : Int) : Ev (fun k => glyphcutterref02_Encode.f k r) (encP r) := by
 have jt : ¬ Scal r → Ev (fun k => glyphcutterref02_Encode.j0 k r true) (encP r) := fun h => by
  rw [enc_none h]
  exact Ev.step (fun k => by rw [glyphcutterref02_Encode.j0]) (Ev.pos rfl (Ev.now _))
 unfold glyphcutterref02_Encode.f
 by_cases h0 : r < 0
 ·exact Ev.pos h0 (jt (by unfold Scal;omega))
 refine Ev.neg h0 ?_
 by_cases h1 : r > 1114111
 ·exact Ev.pos h1 (jt (by unfold Scal;omega))
 refine Ev.neg h1 ?_
 by_cases h2 : r ≥ 55296
 ·refine Ev.pos h2 ?_
  by_cases h3 : r ≤ 57343
  ·rw [decide_eq_true h3]
   exact jt (by unfold Scal;omega)
  ·rw [decide_eq_false h3]
   exact ref_enc_j (by unfold Scal;omega)
 ·exact Ev.neg h2 (ref_enc_j (by unfold Scal;omega))
end
section
open Go.RowKit Go.Proofs.YtfaahcgoinkmlaaW.PrintWords Go.Proofs.YtfaahcgoinkmlaaW.PrintLast Go.Proofs.YtfaahcgoinkmlaaW.PrintMore
theorem wr1B {i : Int} (h0 : 0 ≤ i) (h1 : i ≤ 9223372036854775806) : wrap64 (i + 1) = i + 1 := wrap_in (by omega) (by omega)
theorem ref_checkB (l : List S45) (hz : l.length ≤ 9223372036854775807) : Ev (fun k => glyphcutterref16_Check.f k l) (checkP l) := by
 have inner : ∀ (i : Nat) (hi : i < l.length) (r : Int),i < 200 → (clash (l.take i) l[i] = false → Ev (fun k => glyphcutterref16_Check.l0 k l ((i : Int) + 1)) r) → (clash (l.take i) l[i] = true → r = (i : Int)) →
   ∀ (d j : Nat),i - j = d → j ≤ i → clash (l.take j) l[i] = false → Ev (fun k => glyphcutterref16_Check.l1 k l (i : Int) (j : Int)) r := by
  intro i hi r h2 hn hc d
  induction d with
  | zero =>
   intro j hd hj hcl
   obtain rfl : j = i := by omega
   refine Ev.step (fun k => by rw [glyphcutterref16_Check.l1]) ?_
   refine Ev.neg (by omega) ?_
   rw [wr1B (by omega) (by omega)]
   exact hn hcl
  | succ d ih =>
   intro j hd hj hcl
   have hjl : j < l.length := by omega
   have nx := ih (j + 1) (by omega) (by omega)
   have hcs : clash (l.take (j + 1)) l[i] = (decide (l[j].f0 = l[i].f0) && !decide (l[j].f1 = l[i].f1)) := by
    unfold clash at hcl ⊢
    rw [List.take_succ_eq_append_getElem hjl,List.any_append,hcl]
    simp
   refine Ev.step (fun k => by rw [glyphcutterref16_Check.l1]) ?_
   refine (Ev.pos (by omega) (Ev.pos (by omega) (Ev.pos (by omega) (Ev.pos (by omega) (Ev.pos (by omega) ?_)))))
   rw [rdP_get l j hjl,rdP_get l i hi,wr1B (by omega) (by omega)]
   by_cases c1 : l[j].f0 = l[i].f0
   ·refine Ev.pos c1 ?_
    by_cases c2 : l[j].f1 = l[i].f1
    ·exact Ev.pos c2 (nx (by rw [hcs];simp [c2]))
    ·refine Ev.neg c2 ?_
     have hcl2 : clash (l.take i) l[i] = true := by
      unfold clash
      rw [List.any_eq_true]
      exact ⟨l[j],List.mem_take_iff_getElem.2 ⟨j,by omega,rfl⟩,by simp [c1,c2]⟩
     rw [hc hcl2]
     exact Ev.now _
   ·exact Ev.neg c1 (nx (by rw [hcs];simp [c1]))
 have loop : ∀ (d i : Nat),l.length - i = d → i ≤ l.length → i ≤ 200 → Ev (fun k => glyphcutterref16_Check.l0 k l (i : Int)) (checkG (l.drop i) (l.take i) i) := by
  intro d
  induction d with
  | zero =>
   intro i hd hi h2
   rw [List.drop_of_length_le (by omega)]
   refine Ev.step (fun k => by rw [glyphcutterref16_Check.l0]) ?_
   refine Ev.neg (by omega) ?_
   refine Ev.step (fun k => by rw [glyphcutterref16_Check.j1]) ?_
   exact Ev.neg (by simp) (Ev.neg (by omega) (Ev.now _))
  | succ d ih =>
   intro i hd hi h2
   have hil : i < l.length := by omega
   rw [drop_consP l i hil,checkG]
   refine Ev.step (fun k => by rw [glyphcutterref16_Check.l0]) ?_
   refine Ev.pos (by omega) ?_
   refine Ev.step (fun k => by rw [glyphcutterref16_Check.j1]) ?_
   by_cases h200 : i = 200
   ·rw [if_pos h200]
    exact Ev.neg (by simp;omega) (Ev.pos (by omega) (Ev.now _))
   ·rw [if_neg h200]
    have nx := ih (i + 1) (by omega) (by omega) (by omega)
    rw [List.take_succ_eq_append_getElem hil] at nx
    refine Ev.pos (by simp;omega) (Ev.bindc rfl (Ev.pos (by omega) (Ev.pos (by omega) ?_)))
    rw [rdP_get l i hil]
    refine Ev.bind (ref_has_all _) ?_
    by_cases s0 : Scal l[i].f0
    ·refine Ev.pos (by simpa using s0) (Ev.bindc rfl (Ev.bind (ref_has_all _) ?_))
     refine Ev.step (fun k => by rw [glyphcutterref16_Check.j2]) ?_
     by_cases s1 : Scal l[i].f1
     ·refine Ev.neg (by simpa using s1) ?_
      refine inner i hil _ (by omega) (fun hcl => ?_) (fun hcl => ?_) i 0 rfl (by omega) (by simp [clash])
      ·rw [if_neg (by unfold badP;rw [decide_eq_true s0,decide_eq_true s1,hcl];simp)]
       exact nx
      ·rw [if_pos (by unfold badP;rw [hcl];simp)]
     ·rw [if_pos (by unfold badP;rw [decide_eq_false s1];simp)]
      exact Ev.pos (by simpa using s1) (Ev.now _)
    ·rw [if_pos (by unfold badP;rw [decide_eq_false s0];simp)]
     refine Ev.neg (by simpa using s0) ?_
     refine Ev.step (fun k => by rw [glyphcutterref16_Check.j2]) ?_
     exact Ev.pos rfl (Ev.now _)
 have h := loop l.length 0 (by omega) (by omega) (by omega)
 exact h
/-- The reference's Map. -/
theorem ref_mapB (l : List S45) (r : Int) (hz : l.length ≤ 9223372036854775807) : Ev (fun k => glyphcutterref16_Map.f k l r) (mapP l r) := by
 have loop : ∀ (d i : Nat),l.length - i = d → i ≤ l.length → Ev (fun k => glyphcutterref16_Map.l0 k l r (i : Int)) (mapP (l.drop i) r) := by
  intro d
  induction d with
  | zero =>
   intro i hd hi
   rw [List.drop_of_length_le (by omega)]
   refine Ev.step (fun k => by rw [glyphcutterref16_Map.l0]) ?_
   exact Ev.neg (by omega) (Ev.now _)
  | succ d ih =>
   intro i hd hi
   have hil : i < l.length := by omega
   have nx := ih (i + 1) (by omega) (by omega)
   rw [drop_consP l i hil]
   have em : mapP (l[i] :: l.drop (i + 1)) r = if l[i].f0 = r then l[i].f1 else mapP (l.drop (i + 1)) r := by
    unfold mapP;rw [List.find?_cons];by_cases h : l[i].f0 = r <;> simp [h]
   rw [em]
   refine Ev.step (fun k => by rw [glyphcutterref16_Map.l0]) ?_
   refine Ev.pos (by omega) (Ev.pos (by omega) ?_)
   rw [rdP_get l i hil,wr1B (by omega) (by omega)]
   by_cases c : l[i].f0 = r
   ·rw [if_pos c];refine Ev.pos c ?_;first | exact Ev.now _ | exact Ev.pos (by omega) (Ev.pos (by omega) (Ev.now _))
   ·rw [if_neg c];exact Ev.neg c nx
 have h := loop l.length 0 (by omega) (by omega)
 exact h
theorem apply_cons (x : S33) (l : List S33) (r : Int) : applyP (x :: l) r = applyP l (stepP x r) := rfl
/-- ref16.Apply. -/
theorem ref_applyP (l : List S33) (r : Int) (hz : l.length ≤ 9223372036854775807) (hi : ∀ x ∈ l,x.f1.length ≤ 9223372036854775807) : Ev (fun k => glyphcutterref16_Apply.f k l r) (applyP l r) := by
 have loop : ∀ (d i : Nat) (r : Int),l.length - i = d → i ≤ l.length → Ev (fun k => glyphcutterref16_Apply.l0 k l r (i : Int)) (applyP (l.drop i) r) := by
  intro d
  induction d with
  | zero =>
   intro i r hd hl
   rw [List.drop_of_length_le (by omega)]
   refine Ev.step (fun k => by rw [glyphcutterref16_Apply.l0]) ?_
   exact Ev.neg (by omega) (Ev.now _)
  | succ d ih =>
   intro i r hd hl
   have hil : i < l.length := by omega
   have nx := fun r' => ih (i + 1) r' (by omega) (by omega)
   have hx := hi _ (List.getElem_mem hil)
   rw [List.drop_eq_getElem_cons hil,apply_cons]
   refine Ev.step (fun k => by rw [glyphcutterref16_Apply.l0]) ?_
   refine Ev.pos (by omega) (Ev.pos (by omega) ?_)
   rw [rdSt_get l i hil,wr1B (by omega) (by omega)]
   unfold stepP
   by_cases h1 : l[i].f0 = 1
   ·refine Ev.pos h1 (Ev.bind (ref_fold r) ?_)
    rw [if_pos h1]
    exact nx _
   ·refine Ev.neg h1 ?_
    rw [if_neg h1]
    by_cases h2 : l[i].f0 = 2
    ·refine Ev.pos h2 ?_
     rw [if_pos h2]
     by_cases h3 : r = 13
     ·refine Ev.pos h3 ?_
      rw [if_pos h3]
      exact nx _
     ·refine Ev.neg h3 ?_
      rw [if_neg h3]
      exact nx _
    ·refine Ev.neg h2 ?_
     rw [if_neg h2]
     by_cases h3 : l[i].f0 = 3
     ·refine Ev.pos h3 (Ev.bind (ref_mapB _ r hx) ?_)
      rw [if_pos h3]
      exact nx _
     ·refine Ev.neg h3 ?_
      rw [if_neg h3]
      exact nx _
 exact loop l.length 0 r rfl (Nat.zero_le _)
theorem check_neg : ∀ (l done : List S45) (i : Nat),checkG l done i = -1 ∨ 0 ≤ checkG l done i
 | [],_,_ => .inl rfl
 | p :: t,done,i => by
  rw [checkG]
  split
  ·right;omega
  ·split
   ·right;omega
   ·exact check_neg t _ _
/-- ref16.Sound. -/
theorem ref_sound (l : List S33) (hz : l.length ≤ 9223372036854775807) (hi : ∀ x ∈ l,x.f1.length ≤ 9223372036854775807) : Ev (fun k => glyphcutterref16_Sound.f k l) (soundP l) := by
 have loop : ∀ (d i : Nat),l.length - i = d → i ≤ l.length → Ev (fun k => glyphcutterref16_Sound.l0 k l (i : Int)) (decide (l.length ≤ 8) && !(l.drop i).any oddP) := by
  intro d
  induction d with
  | zero =>
   intro i hd hl
   rw [List.drop_of_length_le (by omega)]
   refine Ev.step (fun k => by rw [glyphcutterref16_Sound.l0]) ?_
   refine Ev.neg (by omega) ?_
   rw [show (decide ((l.length : Int) ≤ 8)) = (decide (l.length ≤ 8) && !([] : List S33).any oddP) by
    rw [List.any_nil];simp;omega]
   exact Ev.now _
  | succ d ih =>
   intro i hd hl
   have hil : i < l.length := by omega
   have nx := ih (i + 1) (by omega) (by omega)
   have hx := hi _ (List.getElem_mem hil)
   rw [List.drop_eq_getElem_cons hil,List.any_cons]
   refine Ev.step (fun k => by rw [glyphcutterref16_Sound.l0]) ?_
   refine Ev.pos (by omega) (Ev.pos (by omega) ?_)
   rw [rdSt_get l i hil,wr1B (by omega) (by omega)]
   have bad : oddP l[i] = true → Ev (fun _ => some false) (decide (l.length ≤ 8) && !(oddP l[i] || (l.drop (i + 1)).any oddP)) := by
    intro h
    rw [h,Bool.true_or,Bool.not_true,Bool.and_false]
    exact Ev.now _
   have good : oddP l[i] = false → Ev (fun k => glyphcutterref16_Sound.l0 k l ((i + 1 : Nat) : Int)) (decide (l.length ≤ 8) && !(oddP l[i] || (l.drop (i + 1)).any oddP)) := by
    intro h
    rw [h,Bool.false_or]
    exact nx
   have chk : l[i].f0 = 3 → Ev (fun k => (glyphcutterref16_Check.f k l[i].f1).bind fun t => if t = (-1) then glyphcutterref16_Sound.l0 k l ((i : Int) + 1) else some false) (decide (l.length ≤ 8) && !(oddP l[i] || (l.drop (i + 1)).any oddP)) := by
    intro h3
    refine Ev.bind (ref_checkB _ hx) ?_
    have ho : oddP l[i] = decide (0 ≤ checkP l[i].f1) := by
     unfold oddP;rw [if_neg (by omega),if_pos h3]
    rcases check_neg l[i].f1 [] 0 with hc | hc
    ·refine Ev.pos hc (good ?_)
     rw [ho];unfold checkP;rw [hc];rfl
    ·have hc2 : ¬ checkP l[i].f1 = -1 := by unfold checkP;omega
     refine Ev.neg hc2 (bad ?_)
     rw [ho];exact decide_eq_true hc
   by_cases h1 : l[i].f0 = 1
   ·refine Ev.pos h1 ?_
    by_cases h2 : (l[i].f1.length : Int) = 0
    ·refine Ev.pos h2 (good ?_)
     unfold oddP;rw [if_pos (.inl h1)];simp;exact List.length_eq_zero_iff.1 (by omega)
    ·refine Ev.neg h2 (Ev.neg (by omega) (bad ?_))
     unfold oddP;rw [if_pos (.inl h1)];exact decide_eq_true (by omega)
   ·refine Ev.neg h1 ?_
    by_cases h4 : l[i].f0 = 2
    ·refine Ev.pos h4 ?_
     by_cases h2 : (l[i].f1.length : Int) = 0
     ·refine Ev.pos h2 (good ?_)
      unfold oddP;rw [if_pos (.inr h4)];simp;exact List.length_eq_zero_iff.1 (by omega)
     ·refine Ev.neg h2 (Ev.neg (by omega) (bad ?_))
      unfold oddP;rw [if_pos (.inr h4)];exact decide_eq_true (by omega)
    ·refine Ev.neg h4 ?_
     by_cases h3 : l[i].f0 = 3
     ·exact Ev.pos h3 (chk h3)
     ·refine Ev.neg h3 (bad ?_)
      unfold oddP;rw [if_neg (by omega),if_neg h3]
 have h := loop l.length 0 rfl (Nat.zero_le _)
 rw [List.drop_zero] at h
 exact h
/-- ref16.Text. -/
theorem ref_text (s : List S33) {b : List Int} (hu : U8B b) (hz : b.length ≤ 100000) (hs : s.length ≤ 9223372036854775807) (hi : ∀ x ∈ s,x.f1.length ≤ 9223372036854775807) : Ev (fun k => glyphcutterref16_Text.f k s b) (textP s b) := by
 unfold glyphcutterref16_Text.f
 refine Ev.bind (ref_chars hu hz) ?_
 have loop : ∀ (f p : Nat) (pre : List S51) (acc : List Int),b.length - p ≤ f → p ≤ b.length → pre ++ charsF f (b.drop p) p = charsP b → pre.length ≤ p → acc.length ≤ 4 * p →
   Ev (fun k => glyphcutterref16_Text.l0 k s b acc (charsP b) (pre.length : Int)) (acc ++ textF s f (b.drop p)) := by
  intro f
  induction f with
  | zero =>
   intro p pre acc hf hp hc hpl ha
   rw [charsF,List.append_nil] at hc
   rw [textF,List.append_nil]
   refine Ev.step (fun k => by rw [glyphcutterref16_Text.l0]) ?_
   exact Ev.neg (by rw [← hc];omega) (Ev.now _)
  | succ f ih =>
   intro p pre acc hf hp hc hpl ha
   refine Ev.step (fun k => by rw [glyphcutterref16_Text.l0]) ?_
   by_cases hlt : p < b.length
   ·have hne : b.drop p ≠ [] := by
     intro h;have := congrArg List.length h;rw [List.length_drop] at this;simp at this;omega
    have hb := decN_bd hne
    have hdl : (b.drop p).length = b.length - p := List.length_drop
    rw [charsF,if_neg hne] at hc
    rw [textF,if_neg hne]
    have hlen : pre.length < (charsP b).length := by rw [← hc];simp
    have hget : rd_T51 (charsP b) (pre.length : Int) = ⟨(decP (b.drop p)).1,(p : Int),(decP (b.drop p)).2⟩ := by
     rw [rdC_get _ _ hlen]
     simp [← hc]
    have hpc := piece_len s hne
    have hc2 : (pre ++ [⟨(decP (b.drop p)).1,(p : Int),(decP (b.drop p)).2⟩]) ++ charsF f (b.drop (p + decN (b.drop p))) (p + decN (b.drop p)) = charsP b := by
     rw [← hc,List.append_assoc,← List.drop_drop];rfl
    have nx := fun acc' h' => ih (p + decN (b.drop p)) (pre ++ [⟨(decP (b.drop p)).1,(p : Int),(decP (b.drop p)).2⟩]) acc' (by omega) (by omega) hc2 (by rw [List.length_append];simp;omega) h'
    have nx2 : ∀ x : List Int,x = pieceP s (b.drop p) → Ev (fun k => glyphcutterref16_Text.l0 k s b (acc ++ x) (charsP b) (wrap64 ((pre.length : Int) + 1))) (acc ++ (pieceP s (b.drop p) ++ textF s f ((b.drop p).drop (decN (b.drop p))))) := by
     intro x hx
     have hpre : pre.length ≤ p := hpl
     rw [wr1N (by omega) (by omega)]
     have := nx (acc ++ x) (by rw [List.length_append,hx];omega)
     rw [List.length_append,← List.drop_drop,hx,List.append_assoc] at this
     rw [hx]
     exact this
    have own : (b.take ((p : Int) + (decN (b.drop p) : Int)).toNat).drop (p : Int).toNat = (b.drop p).take (decN (b.drop p)) := by
     rw [show ((p : Int) + (decN (b.drop p) : Int)).toNat = p + decN (b.drop p) by omega,Int.toNat_natCast,List.take_drop]
    refine Ev.pos (by omega) (Ev.pos (by omega) ?_)
    rw [hget]
    simp only
    rw [hb.1,wrap_in (i := (p : Int) + (decN (b.drop p) : Int)) (by omega) (by omega),own]
    have hol : ((b.drop p).take (decN (b.drop p))).length ≤ 4 := by rw [List.length_take];omega
    by_cases hbad : (decP (b.drop p)).1 = -1
    ·refine Ev.neg (by omega) (Ev.pos rfl ?_)
     refine Ev.pos (by omega) (Ev.pos (by omega) (Ev.pos (by omega) (Ev.pos (by omega) ?_)))
     exact nx2 _ (by unfold pieceP;rw [if_pos hbad])
    ·have hsc := (decP_scal (u8_drop hu p) hbad).1
     have h0 : (decP (b.drop p)).1 ≥ 0 := by unfold Scal at hsc;omega
     refine Ev.pos h0 (Ev.bind (ref_applyP s _ hs hi) (Ev.bind (ref_encode _) ?_))
     by_cases he : encP (applyP s (decP (b.drop p)).1) = []
     ·refine Ev.pos (by rw [he];rfl) ?_
      refine Ev.pos (by omega) (Ev.pos (by omega) (Ev.pos (by omega) (Ev.pos (by omega) ?_)))
      exact nx2 _ (by unfold pieceP;rw [if_neg hbad,if_pos he])
     ·have hel := enc_len (applyP s (decP (b.drop p)).1)
      refine Ev.neg (by have := List.length_pos_iff.2 he;omega) (Ev.pos (by omega) ?_)
      exact nx2 _ (by unfold pieceP;rw [if_neg hbad,if_neg he])
   ·have hne : b.drop p = [] := List.drop_of_length_le (by omega)
    rw [charsF,if_pos hne,List.append_nil] at hc
    rw [textF,if_pos hne,List.append_nil]
    exact Ev.neg (by rw [← hc];omega) (Ev.now _)
 have h := loop b.length 0 [] [] (by omega) (Nat.zero_le _) rfl (Nat.le_refl _) (Nat.le_refl _)
 exact h
theorem fine_mem (x : List S45) : ∀ p ∈ fineP x,p ∈ x := by
 have : ∀ (x acc S : List S45),(∀ p ∈ acc,p ∈ S) → (∀ p ∈ x,p ∈ S) → ∀ p ∈ x.foldl fineS acc,p ∈ S := by
  intro x
  induction x with
  | nil => intro acc S h _ p hp;exact h p hp
  | cons a x ih =>
   intro acc S h h2 p hp
   rw [List.foldl_cons] at hp
   refine ih _ S ?_ (fun q hq => h2 q (List.mem_cons_of_mem _ hq)) p hp
   unfold fineS
   split
   ·intro q hq
    rcases List.mem_append.1 hq with hq | hq
    ·exact h q hq
    ·obtain rfl := List.mem_singleton.1 hq
     exact h2 _ List.mem_cons_self
   ·exact h
 exact this x [] x (fun p hp => by cases hp) (fun p hp => hp)
theorem steps_mem {kinds : List Int} {c : List S58} {x : S33} (h : x ∈ stepsP kinds c) : ∃ z ∈ kinds,x = stepT (fineP (pairsP c)) z := by
 unfold stepsP at h
 obtain ⟨z,hz,rfl⟩ := List.mem_map.1 h
 exact ⟨z,List.mem_of_mem_take hz,rfl⟩
theorem steps_wf {kinds : List Int} {c : List S58} (hc : WfT c) : WfS (stepsP kinds c) := by
 intro x hx
 obtain ⟨z,_,rfl⟩ := steps_mem hx
 unfold stepT
 simp only
 split
 ·exact fun p hp => pairs_wf hc p (fine_mem _ p hp)
 ·intro p hp;cases hp
theorem steps_sm {kinds : List Int} {c : List S58} : ∀ x ∈ stepsP kinds c,x.f1.length ≤ 9223372036854775807 := by
 intro x hx
 obtain ⟨z,_,rfl⟩ := steps_mem hx
 have h1 := fine_len (pairsP c)
 have h2 := (pairs_len c).1
 unfold stepT
 simp only
 split
 ·omega
 ·exact Nat.zero_le _
theorem steps_sound {kinds : List Int} (hk : U8B kinds) (c : List S58) : soundP (stepsP kinds c) = true := by
 have h1 := steps_len kinds c
 unfold soundP
 rw [decide_eq_true h1,Bool.true_and,Bool.not_eq_true']
 rw [Bool.eq_false_iff]
 intro h
 obtain ⟨x,hx,ho⟩ := List.any_eq_true.1 h
 obtain ⟨z,hz,rfl⟩ := steps_mem hx
 have hz0 := hk z hz
 unfold oddP stepT at ho
 simp only at ho
 by_cases h3 : 1 + z % 3 = 3
 ·rw [if_neg (by omega),if_pos h3,if_pos h3,fine_ok] at ho
  exact absurd ho (by decide)
 ·rw [if_pos (by omega),if_neg h3] at ho
  simp at ho
/-- The law. -/
theorem law_texts (l : List S33) (kinds : List Int) (c : List S58) (r : Int) (b : List Int) (hw : WfS l) (hz : l.length ≤ 9223372036854775807) (hi : ∀ x ∈ l,x.f1.length ≤ 9223372036854775807) (hk : U8B kinds) (hc : WfT c) (hu : U8B b) : Ev (fun n => glyphcutterlaw16_NormTexts.f n l kinds c r b) true := by
 have jt : Ev (fun n => glyphcutterlaw16_NormTexts.j1 n l kinds c r b true) true := by
  refine Ev.step (fun k => by rw [glyphcutterlaw16_NormTexts.j1]) ?_
  exact Ev.pos rfl (Ev.bindc known_f16 (Ev.now _))
 have rest : b.length ≤ 100 → c.length ≤ 30 → Ev (fun n => glyphcutterlaw16_NormTexts.j1 n l kinds c r b (!true)) true := by
  intro hb hc3
  have hxs := steps_len kinds c
  have hxi := @steps_sm kinds c
  have hxo := steps_sound hk c
  have hxw := @steps_wf kinds c hc
  refine Ev.step (fun k => by rw [glyphcutterlaw16_NormTexts.j1]) ?_
  refine Ev.neg (by simp) (Ev.bindc (steps_f hk hc (by omega)) ?_)
  generalize stepsP kinds c = s at hxs hxi hxo hxw ⊢
  refine Ev.bindc (if_pos hw) (Ev.bind (ref_sound l hz hi) (Ev.pos (by simp) ?_))
  refine Ev.bindc (if_pos hxw) (Ev.pos hxo ?_)
  refine Ev.bindc rfl (Ev.bind (ref_applyP l r hz hi) (Ev.pos rfl ?_))
  refine Ev.bindc rfl (Ev.bind (ref_applyP s r (by omega) hxi) ?_)
  refine Ev.step (fun k => by rw [glyphcutterlaw16_NormTexts.j2]) ?_
  refine Ev.pos (by simp) (Ev.bind (ev_text l hu (by omega)) (Ev.bind (ref_text l hu (by omega) hz hi) (Ev.pos rfl ?_)))
  refine Ev.bind (ev_text s hu (by omega)) (Ev.bind (ref_text s hu (by omega) (by omega) hxi) ?_)
  rw [show ((strOfNums (textP s b)).toList == (strOfNums (textP s b)).toList) = true from beq_self_eq_true _]
  exact Ev.now _
 have loop : ∀ (d i : Nat) (n : Int),l.length - i = d → i ≤ l.length → Ev (fun k => glyphcutterlaw16_NormTexts.l0 k l kinds c r b n (i : Int)) true := by
  intro d
  induction d with
  | zero =>
   intro i n hd hl
   refine Ev.step (fun k => by rw [glyphcutterlaw16_NormTexts.l0]) ?_
   refine Ev.neg (by omega) ?_
   by_cases h1 : n > 250
   ·exact Ev.pos h1 jt
   refine Ev.neg h1 ?_
   by_cases h2 : (b.length : Int) > 100
   ·exact Ev.pos h2 jt
   refine Ev.neg h2 ?_
   by_cases h3 : (c.length : Int) > 30
   ·exact Ev.pos h3 jt
   exact Ev.neg h3 (Ev.bindc known_f16 (rest (by omega) (by omega)))
  | succ d ih =>
   intro i n hd hl
   refine Ev.step (fun k => by rw [glyphcutterlaw16_NormTexts.l0]) ?_
   refine Ev.pos (by omega) (Ev.pos (by omega) ?_)
   rw [wr1B (i := (i : Int)) (by omega) (by omega)]
   exact ih (i + 1) _ (by omega) (by omega)
 exact loop l.length 0 0 rfl (Nat.zero_le _)
end
section
open Go.RowKit Go.ChangeShapes Go.WideShapes Go.Proofs.YtfaahcgoinkmlaaW.PrintWords Go.Proofs.YtfaahcgoinkmlaaW.PrintLast Go.Proofs.YtfaahcgoinkmlaaW.PrintMore
/-- No row is longer than a row can be. -/
def SzS (l : List S33) : Prop := l.length ≤ 9223372036854775807 ∧ ∀ x ∈ l,x.f1.length ≤ 9223372036854775807
instance : Inhabited S33 := ⟨z33⟩
set_option maxRecDepth 100000 in
theorem open_steps {H : Type} {enc : TypeId × Value → H} {W : World} {base : Nat} {spare : Nat → Bool} {held : Bool} {a : Option Addr} {len cap : Nat} {d : DataW H} {ps : List MemPlace} (h : DataW.Trod enc Try.prog W base spare held 25 (.slice a len cap) d ps) :
  ∃ l : List S33,len = l.length ∧ k33.C W a l.length l ∧ WfS l ∧ l.length ≤ cap ∧ SzS l := by
 have hML : maxLen = 9223372036854775807 := by decide
 obtain ⟨fuel,hf⟩ := h
 rcases Go.Deep.open_slice Try.underlying25 hf with ⟨hcs,_⟩ | ⟨a',len',cap',m,n,D,Pl,hcs,hb,hl,hc,hm,hx,hh⟩
 ·simp [Value.cells] at hcs
  obtain ⟨rfl,rfl,rfl⟩ := hcs
  exact ⟨[],rfl,Kd.C_nil _ _,fun _ h => by simp at h,Nat.le_refl _,Nat.zero_le _,fun _ h => by simp at h⟩
 ·simp [Value.cells] at hcs
  obtain ⟨rfl,rfl,rfl⟩ := hcs
  have hlm : len ≤ m := by rw [hm];split <;> omega
  have ce : Try.prog.cellsOf 33 = 2 := by kernel_rfl
  have each : ∀ i,i < len → ∃ s : S33,(∃ A1 c1,W.cell? (a'.add (i * 2)) = some (.int .u8 s.f0) ∧ W.cell? (a'.add (i * 2 + 1)) = some (.slice A1 s.f1.length c1) ∧ s.f1.length ≤ c1 ∧ k45.C W A1 s.f1.length s.f1) ∧ WfP s.f1 ∧ s.f1.length ≤ maxLen := by
   intro i hi
   obtain ⟨cs',h1,h2⟩ := hh i (by omega)
   rw [ce] at h1
   obtain ⟨_,hlen,hcell⟩ := World.cells?_some h1
   obtain ⟨xs,k,hk,hxy,_,hxl,hfl⟩ := DataW.trod_struct Try.underlying33 h2
   match xs,hxl,cs',hlen with
   | [y0,y1],_,[v0,v1],_ =>
    have g0 := hfl 0 _ rfl
    have g1 := hfl 1 _ rfl
    have c5 : Try.prog.cellsOf 5 = 1 := by kernel_rfl
    have c3 : Try.prog.cellsOf 31 = 1 := by kernel_rfl
    simp [c5,c3] at g0 g1
    have e0 := hcell 0 (by omega)
    have e1 := hcell 1 (by omega)
    rw [Go.Deep.add_add] at e0 e1
    obtain ⟨n0,x0,_,w0⟩ := DataW.trod_int (k := .u8) Try.underlying5 g0
    obtain ⟨l1,A1,c1,x1,hr1,hw1,hc1,hm1,_⟩ := open_pairs_at g1
    have v0e : v0 = .int .u8 n0 := by simpa using x0
    have v1e : v1 = .slice A1 l1.length c1 := by simpa using x1
    exact ⟨⟨n0,l1⟩,⟨A1,c1,by rw [← v0e];simpa using e0,by rw [← v1e];simpa using e1,hc1,hr1⟩,hw1,hm1⟩
  obtain ⟨g,hg⟩ := Go.Deep.choose_lt each
  have hln : ((List.range len).map g).length = len := by simp
  refine ⟨(List.range len).map g,hln.symm,⟨rfl,?_,fun _ => ⟨a',rfl,fun j p hj => ?_⟩⟩,fun s hs => ?_,by rw [hln];exact hl,by rw [hln];omega,fun s hs => ?_⟩
  ·rw [hln];omega
  ·have hjl : j < len := by
    have := (List.getElem?_eq_some_iff.1 hj).1
    rwa [hln] at this
   have hp : p = g j := by
    rw [List.getElem?_map,List.getElem?_range hjl] at hj
    simpa using hj.symm
   obtain ⟨⟨A1,c1,c0,c2,hc1,hr1⟩,_⟩ := hg j hjl
   subst hp
   refine ⟨[.int .u8 (g j).f0,.slice A1 (g j).f1.length c1],rfl,k33_mk _ (g j) hc1 hr1,fun i u hu => ?_⟩
   match i,hu with
   | 0,hu => simp at hu;subst hu;exact c0
   | 1,hu => simp at hu;subst hu;exact c2
  ·obtain ⟨i,hi,rfl⟩ := List.mem_map.1 hs
   exact (hg i (List.mem_range.1 hi)).2.1
  ·obtain ⟨i,hi,rfl⟩ := List.mem_map.1 hs
   have := (hg i (List.mem_range.1 hi)).2.2
   omega
theorem sm_steps {H : Type} {ts : List TypeId} {ds : List (DataW H)} {j : Nat} {d : DataW H} {t : TypeId} {l : List S33} (_ : (DataW.weightsEach Try.prog ts ds).all (· ≤ reachBytes) = true) (_ : ts[j]? = some t) (_ : ds[j]? = some d) (h : SzS l) : SzS l := h
end
section
open Go.RowKit Go.Proofs.YtfaahcgoinkmlaaW.PrintWords Go.Proofs.YtfaahcgoinkmlaaW.PrintLast Go.Proofs.YtfaahcgoinkmlaaW.PrintMore
theorem NormTexts.calls (W : World) (A0 : Option Addr) (c0 : Nat) (l0 : List S33) (hr0 : Kd.C k33 W A0 l0.length l0) (hc0 : l0.length ≤ c0) (u0 : WfS l0) (z0 : SzS l0) (A1 : Option Addr) (c1 : Nat) (l1 : List Int) (hr1 : Kd.C (Kd.int .u8) W A1 l1.length l1) (hc1 : l1.length ≤ c1) (u1 : U8B l1) (z1 : Sm l1) (A2 : Option Addr) (c2 : Nat) (l2 : List S58) (hr2 : Kd.C k58 W A2 l2.length l2) (hc2 : l2.length ≤ c2) (u2 : WfT l2) (z2 : Sm l2) (a3 : Int) (w3 : (Lit.int .i64 a3).wf = true) (A4 : Option Addr) (c4 : Nat) (l4 : List Int) (hr4 : Kd.C (Kd.int .u8) W A4 l4.length l4) (hc4 : l4.length ≤ c4) (u4 : U8B l4) (z4 : Sm l4) :
  Calls Try.prog 6 #[.slice A0 l0.length c0,.slice A1 l1.length c1,.slice A2 l2.length c2,.int .i64 a3,.slice A4 l4.length c4] W fun e W' => e = .returned (.bool true) ∧ Below W.heap.size W W' := by
 obtain ⟨k,hk⟩ := (law_texts l0 l1 l2 a3 l4 u0 z0.1 z0.2 u1 u2 u4).rounds
 exact glyphcutterlaw16_NormTexts.calls k A0 c0 l0 A1 c1 l1 A2 c2 l2 a3 A4 c4 l4 true W rfl hr0 hc0 hr1 hc1 hr2 hc2 hr4 hc4 hk
end
end Go.Proofs.Ytfaahcgoinkmlaa.P
