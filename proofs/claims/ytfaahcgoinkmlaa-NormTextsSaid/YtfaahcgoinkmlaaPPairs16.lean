/- Pairs as choices say: the plain side. -/
import Derived.Test.YtfaahcgoinkmlaaPx0
import Derived.Test.YtfaahcgoinkmlaaPx2
import Derived.Test.YtfaahcgoinkmlaaPx3
import Derived.Test.YtfaahcgoinkmlaaPx4
import Derived.Test.YtfaahcgoinkmlaaPx5
import Derived.Test.YtfaahcgoinkmlaaGCheck
import Derived.Test.YtfaahcgoinkmlaaGFold
import Derived.Test.YtfaahcgoinkmlaaGMapP
import Derived.Test.YtfaahcgoinkmlaaPBase
namespace Go.Proofs.Ytfaahcgoinkmlaa.P
set_option linter.unusedVariables false
set_option linter.unusedSimpArgs false
section
open Go.RowKit Go.Proofs.YtfaahcgoinkmlaaW.PrintWords Go.Proofs.YtfaahcgoinkmlaaW.PrintLast Go.Proofs.YtfaahcgoinkmlaaW.PrintMore
def allN : List Int := [97,98,99,75,13,10,945,233]
def pairT (t : S58) : S45 := ⟨rd allN (t.f0 % 8),if t.f2 < 0 ∨ t.f2 > 1 then t.f2 else rd allN (t.f1 % 8)⟩
def pairsP (l : List S58) : List S45 := (l.take 250).map pairT
/-- Choices in their bounds. -/
def WfT (l : List S58) : Prop := ∀ t ∈ l,(0 ≤ t.f0 ∧ t.f0 ≤ 255) ∧ (0 ≤ t.f1 ∧ t.f1 ≤ 255) ∧ In64 t.f2
instance (l : List S58) : Decidable (WfT l) := by unfold WfT;infer_instance
theorem wr1N {i : Int} (h0 : 0 ≤ i) (h1 : i ≤ 9000000000000000000) : wrap64 (i + 1) = i + 1 := wrap_in (by omega) (by omega)
theorem tm8 {x : Int} (h : 0 ≤ x) : Int.tmod x 8 = x % 8 := Int.tmod_eq_emod_of_nonneg h
theorem rdT_get (l : List S58) (i : Nat) (h : i < l.length) : rd_T58 l (i : Int) = l[i] := by
 unfold rd_T58
 rw [Int.toNat_natCast,List.getD_eq_getElem?_getD,List.getElem?_eq_getElem h];rfl
theorem rdP_get (l : List S45) (i : Nat) (h : i < l.length) : rd_T45 l (i : Int) = l[i] := by
 unfold rd_T45
 rw [Int.toNat_natCast,List.getD_eq_getElem?_getD,List.getElem?_eq_getElem h];rfl
theorem rdSt_get (l : List S33) (i : Nat) (h : i < l.length) : rd_T33 l (i : Int) = l[i] := by
 unfold rd_T33
 rw [Int.toNat_natCast,List.getD_eq_getElem?_getD,List.getElem?_eq_getElem h];rfl
theorem pairs_len (l : List S58) : (pairsP l).length ≤ 250 ∧ (pairsP l).length ≤ l.length := by
 unfold pairsP;rw [List.length_map,List.length_take];omega
theorem allN_bd (i : Int) : 0 ≤ rd allN i ∧ rd allN i ≤ 945 ∧ (rd allN i ≠ 0 → Scal (rd allN i)) := by
 have : ∀ n : Nat,0 ≤ allN.getD n 0 ∧ allN.getD n 0 ≤ 945 ∧ (allN.getD n 0 ≠ 0 → Scal (allN.getD n 0)) := by
  intro n
  match n with
  | 0 => unfold allN Scal;decide
  | 1 => unfold allN Scal;decide
  | 2 => unfold allN Scal;decide
  | 3 => unfold allN Scal;decide
  | 4 => unfold allN Scal;decide
  | 5 => unfold allN Scal;decide
  | 6 => unfold allN Scal;decide
  | 7 => unfold allN Scal;decide
  | n + 8 => rw [List.getD_eq_getElem?_getD,List.getElem?_eq_none (by unfold allN;simp)];simp
 exact this i.toNat
theorem pairs_wf {l : List S58} (h : WfT l) : WfP (pairsP l) := by
 intro p hp
 unfold pairsP at hp
 rw [List.mem_map] at hp
 obtain ⟨t,ht,rfl⟩ := hp
 have hw := h t (List.mem_of_mem_take ht)
 have h1 := allN_bd (t.f0 % 8)
 have h2 := allN_bd (t.f1 % 8)
 unfold pairT In64
 simp only
 refine ⟨by omega,?_⟩
 split
 ·exact hw.2.2
 ·omega
theorem ev_pairs (l : List S58) (hw : WfT l) (hz : l.length ≤ 9000000000000000000) : Ev (fun k => glyphcutterlaw16_Pairs.f k l) (pairsP l) := by
 have fin : ∀ i : Nat,(i = l.length ∨ i = 250) → i ≤ l.length → i ≤ 250 → Ev (fun k => glyphcutterlaw16_Pairs.l0 k l allN ((l.take i).map pairT) (i : Int)) (pairsP l) := by
  intro i h0 h1 h2
  have e : pairsP l = (l.take i).map pairT := by
   unfold pairsP
   rcases h0 with h0 | h0
   ·rw [List.take_of_length_le (by omega),List.take_of_length_le (by omega)]
   ·rw [h0]
  rw [e]
  refine Ev.step (fun k => by rw [glyphcutterlaw16_Pairs.l0]) ?_
  rcases (by omega : i = l.length ∨ i < l.length) with h | h
  ·refine Ev.neg (by omega) (Ev.step (fun k => by rw [glyphcutterlaw16_Pairs.j1]) (Ev.neg (by simp) (Ev.now _)))
  ·refine Ev.pos (by omega) (Ev.step (fun k => by rw [glyphcutterlaw16_Pairs.j1]) (Ev.neg (by simp;omega) (Ev.now _)))
 have loop : ∀ (d i : Nat),min l.length 250 - i = d → i ≤ l.length → i ≤ 250 → Ev (fun k => glyphcutterlaw16_Pairs.l0 k l allN ((l.take i).map pairT) (i : Int)) (pairsP l) := by
  intro d
  induction d with
  | zero => intro i hd h1 h2;exact fin i (by omega) h1 h2
  | succ d ih =>
   intro i hd h1 h2
   have hi : i < l.length := by omega
   have nx := ih (i + 1) (by omega) (by omega) (by omega)
   have ht := hw _ (List.getElem_mem hi)
   have hl : ((l.take i).map pairT).length = i := by rw [List.length_map,List.length_take];omega
   have hs : (l.take (i + 1)).map pairT = (l.take i).map pairT ++ [pairT l[i]] := by rw [List.take_succ_eq_append_getElem hi,List.map_append];rfl
   have hal : allN.length = 8 := rfl
   rw [hs] at nx
   refine Ev.step (fun k => by rw [glyphcutterlaw16_Pairs.l0]) ?_
   refine Ev.pos (by omega) (Ev.step (fun k => by rw [glyphcutterlaw16_Pairs.j1]) ?_)
   refine Ev.pos (by simp;omega) (Ev.pos (by omega) (Ev.pos (by omega) ?_))
   rw [rdT_get l i hi,tm8 ht.1.1,tm8 ht.2.1.1,wr1N (by omega) (by omega)]
   refine Ev.pos (by omega) (Ev.pos (by rw [hal];omega) (Ev.pos (by omega) (Ev.pos (by rw [hal];omega) ?_)))
   by_cases c1 : l[i].f2 < 0
   ·refine Ev.pos c1 (Ev.pos (by rw [hl];omega) ?_)
    have e : pairT l[i] = ⟨rd allN (l[i].f0 % 8),l[i].f2⟩ := by unfold pairT;rw [if_pos (.inl c1)]
    rw [e] at nx
    exact nx
   ·refine Ev.neg c1 ?_
    by_cases c2 : l[i].f2 > 1
    ·refine Ev.pos c2 (Ev.pos (by rw [hl];omega) ?_)
     have e : pairT l[i] = ⟨rd allN (l[i].f0 % 8),l[i].f2⟩ := by unfold pairT;rw [if_pos (.inr c2)]
     rw [e] at nx
     exact nx
    ·refine Ev.neg c2 (Ev.pos (by rw [hl];omega) ?_)
     have e : pairT l[i] = ⟨rd allN (l[i].f0 % 8),rd allN (l[i].f1 % 8)⟩ := by unfold pairT;rw [if_neg (by omega)]
     rw [e] at nx
     exact nx
 have h := loop (min l.length 250) 0 (by omega) (by omega) (by omega)
 exact h
theorem ref_scal (r : Int) : glyphcutterref01_scalar.f r = some (decide (Scal r)) := by
 have key : ∀ b : Bool,(b = true ↔ (0 ≤ r ∧ r ≤ 1114111 ∧ (r < 55296 ∨ 57343 < r))) → glyphcutterref01_scalar.f r = some b := by
  intro b hb
  unfold glyphcutterref01_scalar.f
  by_cases h0 : r ≥ 0
  ·rw [if_pos h0]
   by_cases h1 : r ≤ 1114111
   ·rw [if_pos h1]
    by_cases h2 : r < 55296
    ·rw [if_pos h2,show b = true from hb.2 (by omega)]
    ·rw [if_neg h2];congr 1;rw [Bool.eq_iff_iff,hb,decide_eq_true_iff];omega
   ·rw [if_neg h1];congr 1;symm;rw [Bool.eq_false_iff];intro h;have := hb.1 h;omega
  ·rw [if_neg h0];congr 1;symm;rw [Bool.eq_false_iff];intro h;have := hb.1 h;omega
 exact key _ (by rw [decide_eq_true_iff];rfl)
theorem ref_has_all (r : Int) : Ev (fun k => glyphcutterref01_Has.f k [(⟨0,1114111⟩ : S79)] r) (decide (Scal r)) := by
 unfold glyphcutterref01_Has.f
 have fin : Ev (fun k => glyphcutterref01_Has.l0 k [(⟨0,1114111⟩ : S79)] r 1) false := by
  refine Ev.step (fun k => by rw [glyphcutterref01_Has.l0]) ?_
  exact Ev.neg (by simp) (Ev.now _)
 have e : rd_T79 [(⟨0,1114111⟩ : S79)] 0 = ⟨0,1114111⟩ := rfl
 have e1 : wrap64 ((0 : Int) + 1) = 1 := (wr1N (i := 0) (by omega) (by omega)).trans (by omega)
 refine Ev.step (fun k => by rw [glyphcutterref01_Has.l0]) ?_
 refine Ev.pos (by simp) (Ev.pos (by omega) ?_)
 rw [e,e1]
 by_cases h0 : r ≥ 0
 ·refine Ev.pos h0 ?_
  by_cases h1 : r ≤ 1114111
  ·refine Ev.pos h1 ?_
   exact Ev.bindc (ref_scal r) (Ev.now _)
  ·rw [decide_eq_false (by unfold Scal;omega)];exact Ev.neg h1 fin
 ·rw [decide_eq_false (by unfold Scal;omega)];exact Ev.neg h0 fin
theorem drop_consP (l : List S45) (i : Nat) (h : i < l.length) : l.drop i = l[i] :: l.drop (i + 1) := List.drop_eq_getElem_cons h
/-- The reference's Check. -/
theorem ref_check (l : List S45) (hz : l.length ≤ 9000000000000000000) : Ev (fun k => glyphcutterref16_Check.f k l) (checkP l) := by
 have inner : ∀ (i : Nat) (hi : i < l.length) (r : Int),i < 200 → (clash (l.take i) l[i] = false → Ev (fun k => glyphcutterref16_Check.l0 k l ((i : Int) + 1)) r) → (clash (l.take i) l[i] = true → r = (i : Int)) →
   ∀ (d j : Nat),i - j = d → j ≤ i → clash (l.take j) l[i] = false → Ev (fun k => glyphcutterref16_Check.l1 k l (i : Int) (j : Int)) r := by
  intro i hi r h2 hn hc d
  induction d with
  | zero =>
   intro j hd hj hcl
   obtain rfl : j = i := by omega
   refine Ev.step (fun k => by rw [glyphcutterref16_Check.l1]) ?_
   refine Ev.neg (by omega) ?_
   rw [wr1N (by omega) (by omega)]
   exact hn hcl
  | succ d ih =>
   intro j hd hj hcl
   have hjl : j < l.length := by omega
   have nx := ih (j + 1) (by omega) (by omega)
   have hcs : clash (l.take (j + 1)) l[i] = (decide (l[j].f0 = l[i].f0) && !decide (l[j].f1 = l[i].f1)) := by
    unfold clash at hcl ⊢
    rw [List.take_succ_eq_append_getElem hjl,List.any_append,hcl]
    simp
   refine Ev.step (fun k => by rw [glyphcutterref16_Check.l1]) ?_
   refine (Ev.pos (by omega) (Ev.pos (by omega) (Ev.pos (by omega) (Ev.pos (by omega) (Ev.pos (by omega) ?_)))))
   rw [rdP_get l j hjl,rdP_get l i hi,wr1N (by omega) (by omega)]
   by_cases c1 : l[j].f0 = l[i].f0
   ·refine Ev.pos c1 ?_
    by_cases c2 : l[j].f1 = l[i].f1
    ·exact Ev.pos c2 (nx (by rw [hcs];simp [c2]))
    ·refine Ev.neg c2 ?_
     have hcl2 : clash (l.take i) l[i] = true := by
      unfold clash
      rw [List.any_eq_true]
      exact ⟨l[j],List.mem_take_iff_getElem.2 ⟨j,by omega,rfl⟩,by simp [c1,c2]⟩
     rw [hc hcl2]
     exact Ev.now _
   ·exact Ev.neg c1 (nx (by rw [hcs];simp [c1]))
 have loop : ∀ (d i : Nat),l.length - i = d → i ≤ l.length → i ≤ 200 → Ev (fun k => glyphcutterref16_Check.l0 k l (i : Int)) (checkG (l.drop i) (l.take i) i) := by
  intro d
  induction d with
  | zero =>
   intro i hd hi h2
   rw [List.drop_of_length_le (by omega)]
   refine Ev.step (fun k => by rw [glyphcutterref16_Check.l0]) ?_
   refine Ev.neg (by omega) ?_
   refine Ev.step (fun k => by rw [glyphcutterref16_Check.j1]) ?_
   exact Ev.neg (by simp) (Ev.neg (by omega) (Ev.now _))
  | succ d ih =>
   intro i hd hi h2
   have hil : i < l.length := by omega
   rw [drop_consP l i hil,checkG]
   refine Ev.step (fun k => by rw [glyphcutterref16_Check.l0]) ?_
   refine Ev.pos (by omega) ?_
   refine Ev.step (fun k => by rw [glyphcutterref16_Check.j1]) ?_
   by_cases h200 : i = 200
   ·rw [if_pos h200]
    exact Ev.neg (by simp;omega) (Ev.pos (by omega) (Ev.now _))
   ·rw [if_neg h200]
    have nx := ih (i + 1) (by omega) (by omega) (by omega)
    rw [List.take_succ_eq_append_getElem hil] at nx
    refine Ev.pos (by simp;omega) (Ev.bindc rfl (Ev.pos (by omega) (Ev.pos (by omega) ?_)))
    rw [rdP_get l i hil]
    refine Ev.bind (ref_has_all _) ?_
    by_cases s0 : Scal l[i].f0
    ·refine Ev.pos (by simpa using s0) (Ev.bindc rfl (Ev.bind (ref_has_all _) ?_))
     refine Ev.step (fun k => by rw [glyphcutterref16_Check.j2]) ?_
     by_cases s1 : Scal l[i].f1
     ·refine Ev.neg (by simpa using s1) ?_
      refine inner i hil _ (by omega) (fun hcl => ?_) (fun hcl => ?_) i 0 rfl (by omega) (by simp [clash])
      ·rw [if_neg (by unfold badP;rw [decide_eq_true s0,decide_eq_true s1,hcl];simp)]
       exact nx
      ·rw [if_pos (by unfold badP;rw [hcl];simp)]
     ·rw [if_pos (by unfold badP;rw [decide_eq_false s1];simp)]
      exact Ev.pos (by simpa using s1) (Ev.now _)
    ·rw [if_pos (by unfold badP;rw [decide_eq_false s0];simp)]
     refine Ev.neg (by simpa using s0) ?_
     refine Ev.step (fun k => by rw [glyphcutterref16_Check.j2]) ?_
     exact Ev.pos rfl (Ev.now _)
 have h := loop l.length 0 (by omega) (by omega) (by omega)
 exact h
/-- The reference's Map. -/
theorem ref_map (l : List S45) (r : Int) (hz : l.length ≤ 9000000000000000000) : Ev (fun k => glyphcutterref16_Map.f k l r) (mapP l r) := by
 have loop : ∀ (d i : Nat),l.length - i = d → i ≤ l.length → Ev (fun k => glyphcutterref16_Map.l0 k l r (i : Int)) (mapP (l.drop i) r) := by
  intro d
  induction d with
  | zero =>
   intro i hd hi
   rw [List.drop_of_length_le (by omega)]
   refine Ev.step (fun k => by rw [glyphcutterref16_Map.l0]) ?_
   exact Ev.neg (by omega) (Ev.now _)
  | succ d ih =>
   intro i hd hi
   have hil : i < l.length := by omega
   have nx := ih (i + 1) (by omega) (by omega)
   rw [drop_consP l i hil]
   have em : mapP (l[i] :: l.drop (i + 1)) r = if l[i].f0 = r then l[i].f1 else mapP (l.drop (i + 1)) r := by
    unfold mapP;rw [List.find?_cons];by_cases h : l[i].f0 = r <;> simp [h]
   rw [em]
   refine Ev.step (fun k => by rw [glyphcutterref16_Map.l0]) ?_
   refine Ev.pos (by omega) (Ev.pos (by omega) ?_)
   rw [rdP_get l i hil,wr1N (by omega) (by omega)]
   by_cases c : l[i].f0 = r
   ·rw [if_pos c];refine Ev.pos c ?_;first | exact Ev.now _ | exact Ev.pos (by omega) (Ev.pos (by omega) (Ev.now _))
   ·rw [if_neg c];exact Ev.neg c nx
 have h := loop l.length 0 (by omega) (by omega)
 exact h
end
section
open Go.RowKit Go.Proofs.YtfaahcgoinkmlaaW.PrintWords Go.Proofs.YtfaahcgoinkmlaaW.PrintLast Go.Proofs.YtfaahcgoinkmlaaW.PrintMore
def fineS (fine : List S45) (p : S45) : List S45 := if checkP (fine ++ [p]) = -1 then fine ++ [p] else fine
/-- Those of pairs that may be together. -/
def fineP (x : List S45) : List S45 := x.foldl fineS []
def stepT (fine : List S45) (z : Int) : S33 := ⟨1 + z % 3,if 1 + z % 3 = 3 then fine else []⟩
def stepsP (kinds : List Int) (l : List S58) : List S33 := (kinds.take 8).map (stepT (fineP (pairsP l)))
theorem fine_snoc (x : List S45) (k : Nat) (h : k < x.length) : fineP (x.take (k + 1)) = fineS (fineP (x.take k)) (rd_T45 x k) := by
 unfold fineP
 rw [List.take_succ_eq_append_getElem h,List.foldl_append,rdP_get x k h]
 rfl
theorem fine_len (x : List S45) : (fineP x).length ≤ x.length := by
 have : ∀ (x acc : List S45),(x.foldl fineS acc).length ≤ acc.length + x.length := by
  intro x
  induction x with
  | nil => intro acc;simp
  | cons a x ih =>
   intro acc
   have h := ih (fineS acc a)
   have h2 : (fineS acc a).length ≤ acc.length + 1 := by unfold fineS;split <;> simp
   simp only [List.foldl_cons,List.length_cons]
   omega
 have h := this x []
 simpa [fineP] using h
end
end Go.Proofs.Ytfaahcgoinkmlaa.P
