/- The law NormKeeps: the walk and the plain law together. -/
import Derived.Test.YtfaahcgoinkmlaaPx0
import Derived.Test.YtfaahcgoinkmlaaPx20
import Derived.Test.YtfaahcgoinkmlaaPx12
import Derived.Test.YtfaahcgoinkmlaaGApply
import Derived.Test.YtfaahcgoinkmlaaGCheck
import Derived.Test.YtfaahcgoinkmlaaGDecode
import Derived.Test.YtfaahcgoinkmlaaGEnc
import Derived.Test.YtfaahcgoinkmlaaGFold
import Derived.Test.YtfaahcgoinkmlaaGKnown
import Derived.Test.YtfaahcgoinkmlaaGMapP
import Derived.Test.YtfaahcgoinkmlaaGSteps
import Derived.Test.YtfaahcgoinkmlaaPBase
import Derived.Test.YtfaahcgoinkmlaaPChars16
import Derived.Test.YtfaahcgoinkmlaaPLaw0
import Derived.Test.YtfaahcgoinkmlaaPPairs16
import Derived.Test.YtfaahcgoinkmlaaPText16
import Derived.Lib.ConvBytes
namespace Go.Proofs.Ytfaahcgoinkmlaa.P
set_option linter.unusedVariables false
set_option linter.unusedSimpArgs false
section
open Go.RowKit Go.Proofs.YtfaahcgoinkmlaaW.PrintWords Go.Proofs.YtfaahcgoinkmlaaW.PrintLast Go.Proofs.YtfaahcgoinkmlaaW.PrintMore
/-- A scalar's bytes begin it. -/
theorem decP_enc {x : Int} (h : Scal x) (t : List Int) : decP (encP x ++ t) = (x,((encP x).length : Int)) := by
 have hs := h
 unfold Scal at hs
 by_cases c1 : x < 128
 ·rw [enc_1 hs.1 c1]
  show (if longB x = 0 then _ else _) = _
  have e : longB x = 1 := by unfold longB;rw [if_pos c1]
  rw [e,if_neg (by omega)]
  show (bitsB x,(1 : Int)) = _
  unfold bitsB
  rw [if_pos c1]
  rfl
 by_cases c2 : x < 2048
 ·rw [enc_2 (by omega) c2]
  obtain ⟨a,ha⟩ : ∃ a,192 + x / 64 = a := ⟨_,rfl⟩
  obtain ⟨b,hb⟩ : ∃ b,128 + x % 64 = b := ⟨_,rfl⟩
  rw [ha,hb]
  show (if longB a = 0 then _ else decL (a :: b :: t) (longB a) (longB a - 1).toNat 1 (bitsB a) (loB a) (hiB a)) = _
  have e : longB a = 2 := by unfold longB;rw [if_neg (by omega),if_pos (by omega)]
  have eb : bitsB a = a - 192 := by unfold bitsB;rw [if_neg (by omega),if_pos (by omega)];omega
  have el : loB a = 128 := by unfold loB;rw [if_neg (by omega),if_neg (by omega),if_neg (by omega)]
  have eh : hiB a = 191 := by unfold hiB;rw [if_neg (by omega),if_neg (by omega),if_neg (by omega)]
  rw [e,eb,el,eh,if_neg (by omega)]
  show decL (a :: b :: t) 2 1 1 (a - 192) 128 191 = _
  rw [decL,if_neg (by simp;omega)]
  show (if 128 ≤ b ∧ b ≤ 191 then ((a - 192) * 64 + b % 64,(2 : Int)) else _) = (x,2)
  rw [if_pos (by omega)]
  congr 1;omega
 by_cases c3 : x < 65536
 ·rw [enc_3 (by omega) c3 (by omega)]
  obtain ⟨a,ha⟩ : ∃ a,224 + x / 4096 = a := ⟨_,rfl⟩
  obtain ⟨b,hb⟩ : ∃ b,128 + x / 64 % 64 = b := ⟨_,rfl⟩
  obtain ⟨c,hc⟩ : ∃ c,128 + x % 64 = c := ⟨_,rfl⟩
  rw [ha,hb,hc]
  show (if longB a = 0 then _ else decL (a :: b :: c :: t) (longB a) (longB a - 1).toNat 1 (bitsB a) (loB a) (hiB a)) = _
  have e : longB a = 3 := by unfold longB;rw [if_neg (by omega),if_neg (by omega),if_pos (by omega)]
  have eb : bitsB a = a - 224 := by unfold bitsB;rw [if_neg (by omega),if_neg (by omega),if_pos (by omega)];omega
  have el : loB a ≤ b := by unfold loB;rw [if_neg (by omega)];split;omega;rw [if_neg (by omega)];omega
  have eh : b ≤ hiB a := by unfold hiB;rw [if_neg (by omega)];split;omega;rw [if_neg (by omega)];omega
  rw [e,eb,if_neg (by omega)]
  show decL (a :: b :: c :: t) 3 2 1 (a - 224) (loB a) (hiB a) = _
  rw [decL,if_neg (by simp;omega)]
  show (if loB a ≤ b ∧ b ≤ hiB a then decL (a :: b :: c :: t) 3 1 2 ((a - 224) * 64 + b % 64) 128 191 else _) = _
  rw [if_pos ⟨el,eh⟩,decL,if_neg (by simp;omega)]
  show (if 128 ≤ c ∧ c ≤ 191 then (((a - 224) * 64 + b % 64) * 64 + c % 64,(3 : Int)) else _) = (x,3)
  rw [if_pos (by omega)]
  congr 1;omega
 ·rw [enc_4 (by omega) (by omega)]
  obtain ⟨a,ha⟩ : ∃ a,240 + x / 262144 = a := ⟨_,rfl⟩
  obtain ⟨b,hb⟩ : ∃ b,128 + x / 4096 % 64 = b := ⟨_,rfl⟩
  obtain ⟨c,hc⟩ : ∃ c,128 + x / 64 % 64 = c := ⟨_,rfl⟩
  obtain ⟨d,hd⟩ : ∃ d,128 + x % 64 = d := ⟨_,rfl⟩
  rw [ha,hb,hc,hd]
  show (if longB a = 0 then _ else decL (a :: b :: c :: d :: t) (longB a) (longB a - 1).toNat 1 (bitsB a) (loB a) (hiB a)) = _
  have e : longB a = 4 := by unfold longB;rw [if_neg (by omega),if_neg (by omega),if_neg (by omega),if_pos (by omega)]
  have eb : bitsB a = a - 240 := by unfold bitsB;rw [if_neg (by omega),if_neg (by omega),if_neg (by omega)];omega
  have el : loB a ≤ b := by unfold loB;rw [if_neg (by omega),if_neg (by omega)];split <;> omega
  have eh : b ≤ hiB a := by unfold hiB;rw [if_neg (by omega),if_neg (by omega)];split <;> omega
  rw [e,eb,if_neg (by omega)]
  show decL (a :: b :: c :: d :: t) 4 3 1 (a - 240) (loB a) (hiB a) = _
  rw [decL,if_neg (by simp;omega)]
  show (if loB a ≤ b ∧ b ≤ hiB a then decL (a :: b :: c :: d :: t) 4 2 2 ((a - 240) * 64 + b % 64) 128 191 else _) = _
  rw [if_pos ⟨el,eh⟩,decL,if_neg (by simp;omega)]
  show (if 128 ≤ c ∧ c ≤ 191 then decL (a :: b :: c :: d :: t) 4 1 3 (((a - 240) * 64 + b % 64) * 64 + c % 64) 128 191 else _) = _
  rw [if_pos (by omega),decL,if_neg (by simp;omega)]
  show (if 128 ≤ d ∧ d ≤ 191 then ((((a - 240) * 64 + b % 64) * 64 + c % 64) * 64 + d % 64,(4 : Int)) else _) = (x,4)
  rw [if_pos (by omega)]
  congr 1;omega
end
section
open Go.RowKit Go.Proofs.YtfaahcgoinkmlaaW.PrintWords Go.Proofs.YtfaahcgoinkmlaaW.PrintLast Go.Proofs.YtfaahcgoinkmlaaW.PrintMore
theorem chars_fuel : ∀ (f g : Nat) (l : List Int) (p : Nat),l.length ≤ f → l.length ≤ g → charsF f l p = charsF g l p
 | 0,0,_,_,_,_ => rfl
 | 0,g + 1,l,p,h,_ => by
  obtain rfl : l = [] := List.eq_nil_of_length_eq_zero (by omega)
  simp [charsF]
 | f + 1,0,l,p,_,h => by
  obtain rfl : l = [] := List.eq_nil_of_length_eq_zero (by omega)
  simp [charsF]
 | f + 1,g + 1,l,p,h1,h2 => by
  rw [charsF,charsF]
  by_cases hl : l = []
  ·rw [if_pos hl,if_pos hl]
  ·rw [if_neg hl,if_neg hl]
   have := decN_bd hl
   rw [chars_fuel f g _ _ (by rw [List.length_drop];omega) (by rw [List.length_drop];omega)]
end
section
open Go.RowKit Go.Proofs.YtfaahcgoinkmlaaW.PrintWords Go.Proofs.YtfaahcgoinkmlaaW.PrintLast Go.Proofs.YtfaahcgoinkmlaaW.PrintMore
/-- The numbers of chars alone. -/
def rsF : Nat → List Int → List Int
 | 0,_ => []
 | f + 1,l => if l = [] then [] else (decP l).1 :: rsF f (l.drop (decN l))
theorem chars_rs : ∀ (f : Nat) (l : List Int) (q : Nat),(charsF f l q).map (·.f0) = rsF f l
 | 0,_,_ => rfl
 | f + 1,l,q => by
  rw [charsF,rsF]
  by_cases hl : l = []
  ·rw [if_pos hl,if_pos hl];rfl
  ·rw [if_neg hl,if_neg hl,List.map_cons,chars_rs f]
def rsP (l : List Int) : List Int := rsF l.length l
theorem rs_fuel : ∀ (f g : Nat) (l : List Int),l.length ≤ f → l.length ≤ g → rsF f l = rsF g l := fun f g l h1 h2 => by
 rw [← chars_rs f l 0,← chars_rs g l 0,chars_fuel f g l 0 h1 h2]
theorem rs_cons {l : List Int} (hl : l ≠ []) : rsP l = (decP l).1 :: rsP (l.drop (decN l)) := by
 have hb := decN_bd hl
 unfold rsP
 obtain ⟨n,hn⟩ : ∃ n,l.length = n + 1 := ⟨l.length - 1,by omega⟩
 rw [hn,rsF,if_neg hl,rs_fuel n (l.drop (decN l)).length _ (by rw [List.length_drop];omega) (Nat.le_refl _)]
theorem rs_chars (l : List Int) : (charsP l).map (·.f0) = rsP l := chars_rs _ _ _
theorem text_u8 (s : List S33) : ∀ (f : Nat) (l : List Int),U8B l → U8B (textF s f l)
 | 0,_,_ => fun x h => by rw [textF] at h;cases h
 | f + 1,l,hu => by
  rw [textF]
  by_cases hl : l = []
  ·rw [if_pos hl];intro x h;cases h
  ·rw [if_neg hl]
   intro x hx
   rcases List.mem_append.1 hx with hx | hx
   ·unfold pieceP at hx
    split at hx
    ·exact u8_take hu _ x hx
    ·split at hx
     ·exact u8_take hu _ x hx
     ·have := enc_u8 _ x hx;omega
   ·exact text_u8 s f _ (u8_drop hu _) x hx
/-- Steps that lead scalars to scalars. -/
def KeepS (s : List S33) : Prop := ∀ r,Scal r → Scal (applyP s r)
theorem rs_text {s : List S33} (hs : KeepS s) : ∀ (n : Nat) (l : List Int),l.length ≤ n → U8B l → (∀ r ∈ rsP l,r ≠ -1) → rsP (textP s l) = (rsP l).map (applyP s)
 | 0,l,h,_,_ => by
  obtain rfl : l = [] := List.eq_nil_of_length_eq_zero (by omega)
  rfl
 | n + 1,l,h,hu,hv => by
  by_cases hl : l = []
  ·subst hl;rfl
  ·have hb := decN_bd hl
   rw [rs_cons hl] at hv ⊢
   have hr := hv _ List.mem_cons_self
   obtain ⟨hsc,_⟩ := decP_scal hu hr
   have hx := hs _ hsc
   have ih := rs_text hs n (l.drop (decN l)) (by rw [List.length_drop];omega) (u8_drop hu _) (fun r h => hv r (List.mem_cons_of_mem _ h))
   have ep : pieceP s l = encP (applyP s (decP l).1) := by unfold pieceP;rw [if_neg hr,if_neg (enc_nn hx)]
   rw [text_cons s hl,ep]
   have hd := decP_enc hx (textP s (l.drop (decN l)))
   have hne : encP (applyP s (decP l).1) ++ textP s (l.drop (decN l)) ≠ [] := by
    intro h;exact enc_nn hx (List.append_eq_nil_iff.1 h).1
   rw [rs_cons hne]
   have hdn : decN (encP (applyP s (decP l).1) ++ textP s (l.drop (decN l))) = (encP (applyP s (decP l).1)).length := by
    show (decP _).2.toNat = _
    rw [hd];simp
   rw [hdn,hd,List.drop_left,ih,List.map_cons]
theorem text_none : ∀ (n : Nat) (b : List Int),b.length ≤ n → U8B b → textP [] b = b
 | 0,b,h,_ => by
  obtain rfl : b = [] := List.eq_nil_of_length_eq_zero (by omega)
  rfl
 | n + 1,b,h,hu => by
  by_cases hb : b = []
  ·subst hb;rfl
  ·have hd := decN_bd hb
   have ep : pieceP [] b = b.take (decN b) := by
    unfold pieceP
    by_cases hbad : (decP b).1 = -1
    ·rw [if_pos hbad]
    ·obtain ⟨hs,ht⟩ := decP_scal hu hbad
     have e : applyP [] (decP b).1 = (decP b).1 := rfl
     rw [if_neg hbad,e,if_neg (enc_nn hs),ht]
   rw [text_cons [] hb,ep,text_none n (b.drop (decN b)) (by rw [List.length_drop];omega) (u8_drop hu _),List.take_append_drop]
theorem check_scal : ∀ (l done : List S45) (i : Nat),checkG l done i = -1 → ∀ p ∈ l,Scal p.f1
 | [],_,_,_,p,hp => by cases hp
 | q :: t,done,i,h,p,hp => by
  rw [checkG] at h
  by_cases h2 : i = 200
  ·rw [if_pos h2] at h;omega
  ·rw [if_neg h2] at h
   by_cases hb : badP done q = true
   ·rw [if_pos hb] at h;omega
   ·rw [if_neg hb] at h
    rcases List.mem_cons.1 hp with rfl | hp
    ·unfold badP at hb
     simp only [Bool.or_eq_true,not_or,Bool.not_eq_true',decide_eq_false_iff_not,Decidable.not_not] at hb
     exact hb.1.2
    ·exact check_scal t _ _ h p hp
theorem fine_ok (x : List S45) : checkP (fineP x) = -1 := by
 have : ∀ (x acc : List S45),checkP acc = -1 → checkP (x.foldl fineS acc) = -1 := by
  intro x
  induction x with
  | nil => intro acc h;exact h
  | cons a x ih =>
   intro acc h
   rw [List.foldl_cons]
   refine ih _ ?_
   unfold fineS
   split
   ·rename_i h2;exact h2
   ·exact h
 exact this x [] rfl
theorem keep_steps (kinds : List Int) (c : List S58) : KeepS (stepsP kinds c) := by
 have hstep : ∀ (z r : Int),Scal r → Scal (stepP (stepT (fineP (pairsP c)) z) r) := by
  intro z r hr
  unfold stepP stepT
  simp only
  split
  ·exact fold_scal.2 hr
  ·split
   ·split
    ·unfold Scal;omega
    ·exact hr
   ·split
    ·unfold mapP
     cases e : (fineP (pairsP c)).find? fun p => decide (p.f0 = r) with
     | none => exact hr
     | some q => exact check_scal _ _ _ (fine_ok (pairsP c)) q (List.mem_of_find?_eq_some e)
    ·exact hr
 intro r hr
 unfold applyP stepsP
 have : ∀ (l : List Int) (r : Int),Scal r → Scal ((l.map (stepT (fineP (pairsP c)))).foldl (fun r x => stepP x r) r) := by
  intro l
  induction l with
  | nil => intro r h;exact h
  | cons a l ih => intro r h;rw [List.map_cons,List.foldl_cons];exact ih _ (hstep a r h)
 exact this _ r hr
/-- ref02.First. -/
theorem ref_first {b : List Int} (hu : U8B b) (hz : b.length ≤ 100000) : ((∀ r ∈ rsP b,0 ≤ r) ∧ Ev (fun k => glyphcutterref02_First.f k b) (-1)) ∨ ∃ a : Int,0 ≤ a ∧ Ev (fun k => glyphcutterref02_First.f k b) a := by
 have loop : ∀ (d i : Nat),(charsP b).length - i = d → i ≤ (charsP b).length → ((∀ c ∈ (charsP b).drop i,0 ≤ c.f0) ∧ Ev (fun k => glyphcutterref02_First.l0 k (charsP b) (i : Int)) (-1)) ∨ ∃ a : Int,0 ≤ a ∧ Ev (fun k => glyphcutterref02_First.l0 k (charsP b) (i : Int)) a := by
  intro d
  induction d with
  | zero =>
   intro i hd hi
   refine .inl ⟨fun c hc => absurd hc (by rw [List.drop_of_length_le (by omega)];exact List.not_mem_nil),?_⟩
   refine Ev.step (fun k => by rw [glyphcutterref02_First.l0]) ?_
   exact Ev.neg (by omega) (Ev.now _)
  | succ d ih =>
   intro i hd hi
   have hil : i < (charsP b).length := by omega
   have hcl : (charsP b).length ≤ 9000000000000000000 := by
    have : ∀ (f : Nat) (l : List Int) (q : Nat),(charsF f l q).length ≤ f := by
     intro f
     induction f with
     | zero => intro l q;simp [charsF]
     | succ f ih => intro l q;rw [charsF];split;simp;simp only [List.length_cons];have := ih (l.drop (decN l)) (q + decN l);omega
    have := this b.length b 0
    unfold charsP;omega
   by_cases hneg : (charsP b)[i].f0 < 0
   ·obtain ⟨p,e1,_,_⟩ := chars_cut b.length b 0 (charsP b)[i] (List.getElem_mem hil)
    refine .inr ⟨(charsP b)[i].f1,by rw [e1];omega,?_⟩
    refine Ev.step (fun k => by rw [glyphcutterref02_First.l0]) ?_
    refine Ev.pos (by omega) (Ev.pos (by omega) ?_)
    rw [rdC_get _ i hil]
    exact Ev.pos hneg (Ev.now _)
   ·have step : ∀ a,Ev (fun k => glyphcutterref02_First.l0 k (charsP b) ((i + 1 : Nat) : Int)) a → Ev (fun k => glyphcutterref02_First.l0 k (charsP b) (i : Int)) a := by
     intro a h
     refine Ev.step (fun k => by rw [glyphcutterref02_First.l0]) ?_
     refine Ev.pos (by omega) (Ev.pos (by omega) ?_)
     rw [rdC_get _ i hil,wr1N (by omega) (by omega)]
     exact Ev.neg hneg h
    rcases ih (i + 1) (by omega) (by omega) with ⟨h1,h2⟩ | ⟨a,h1,h2⟩
    ·refine .inl ⟨fun c hc => ?_,step _ h2⟩
     rw [List.drop_eq_getElem_cons hil] at hc
     rcases List.mem_cons.1 hc with rfl | hc
     ·omega
     ·exact h1 c hc
    ·exact .inr ⟨a,h1,step _ h2⟩
 rcases loop (charsP b).length 0 rfl (Nat.zero_le _) with ⟨h1,h2⟩ | ⟨a,h1,h2⟩
 ·refine .inl ⟨fun r hr => ?_,Ev.bind (ref_chars hu hz) h2⟩
  rw [← rs_chars,List.mem_map] at hr
  obtain ⟨c,hc,rfl⟩ := hr
  exact h1 c (by rw [List.drop_zero];exact hc)
 ·exact .inr ⟨a,h1,Ev.bind (ref_chars hu hz) h2⟩
theorem law_keeps (kinds : List Int) (c : List S58) (b : List Int) (hk : U8B kinds) (hc : WfT c) (hu : U8B b) : Ev (fun n => glyphcutterlaw16_NormKeeps.f n kinds c b) true := by
 have jt : Ev (fun n => glyphcutterlaw16_NormKeeps.j0 n kinds c b true) true := by
  refine Ev.step (fun k => by rw [glyphcutterlaw16_NormKeeps.j0]) ?_
  exact Ev.pos rfl (Ev.bindc known_f16 (Ev.now _))
 unfold glyphcutterlaw16_NormKeeps.f
 by_cases h : (b.length : Int) > 200
 ·exact Ev.pos h jt
 refine Ev.neg h ?_
 by_cases h2 : (c.length : Int) > 30
 ·exact Ev.pos h2 jt
 refine Ev.neg h2 (Ev.bindc known_f16 ?_)
 refine Ev.step (fun k => by rw [glyphcutterlaw16_NormKeeps.j0]) ?_
 have hks := keep_steps kinds c
 refine Ev.neg (by simp) (Ev.bindc (steps_f hk hc (by omega)) (Ev.bind (ref_chars hu (by omega)) ?_))
 generalize stepsP kinds c = s at hks ⊢
 have tl := text_len s b
 have tu : U8B (textP s b) := text_u8 s _ _ hu
 refine Ev.bind (ev_text s hu (by omega)) (Ev.bind (ref_chars tu (by omega)) ?_)
 rcases ref_first hu (by omega) with ⟨h3,h4⟩ | ⟨a,h3,h4⟩
 ·refine Ev.bind h4 (Ev.pos (by decide) ?_)
  have hrs := rs_text hks b.length b (Nat.le_refl _) hu (fun r hr => by have := h3 r hr;omega)
  rw [← rs_chars,← rs_chars] at hrs
  have hlen : (charsP (textP s b)).length = (charsP b).length := by have := congrArg List.length hrs;simpa using this
  refine Ev.pos (by rw [hlen]) ?_
  have hcl : (charsP b).length ≤ 9000000000000000000 := by
   have : ∀ (f : Nat) (l : List Int) (q : Nat),(charsF f l q).length ≤ f := by
    intro f
    induction f with
    | zero => intro l q;simp [charsF]
    | succ f ih => intro l q;rw [charsF];split;simp;simp only [List.length_cons];have := ih (l.drop (decN l)) (q + decN l);omega
   have := this b.length b 0
   unfold charsP;omega
  have loop : ∀ (d i : Nat),(charsP b).length - i = d → i ≤ (charsP b).length → Ev (fun k => glyphcutterlaw16_NormKeeps.l0 k s (charsP b) (charsP (textP s b)) (i : Int)) true := by
   intro d
   induction d with
   | zero =>
    intro i hd hi
    refine Ev.step (fun k => by rw [glyphcutterlaw16_NormKeeps.l0]) ?_
    exact Ev.neg (by omega) (Ev.now _)
   | succ d ih =>
    intro i hd hi
    have hil : i < (charsP b).length := by omega
    have hil2 : i < (charsP (textP s b)).length := by omega
    have nx := ih (i + 1) (by omega) (by omega)
    have e : (charsP (textP s b))[i].f0 = applyP s (charsP b)[i].f0 := by
     have h1 : ((charsP (textP s b)).map (·.f0))[i]? = (((charsP b).map (·.f0)).map (applyP s))[i]? := by rw [hrs]
     rw [List.getElem?_map,List.getElem?_map,List.getElem?_map,List.getElem?_eq_getElem hil,List.getElem?_eq_getElem hil2] at h1
     simpa using h1
    refine Ev.step (fun k => by rw [glyphcutterlaw16_NormKeeps.l0]) ?_
    refine Ev.pos (by omega) (Ev.pos (by omega) (Ev.pos (by omega) (Ev.bindc rfl ?_)))
    rw [rdC_get _ i hil,rdC_get _ i hil2,wr1N (by omega) (by omega)]
    exact Ev.pos e nx
  exact loop (charsP b).length 0 rfl (Nat.zero_le _)
 ·refine Ev.bind h4 (Ev.neg (by omega) ?_)
  have ht := ev_text [] hu (by omega)
  rw [text_none b.length b (Nat.le_refl _) hu] at ht
  refine Ev.bind ht (Ev.pos rfl (Ev.bind ht ?_))
  have e : ((strOfNums b).toList == (strOfNums b).toList) = true := by simp
  rw [e]
  exact Ev.now _
end
section
open Go.RowKit Go.Proofs.YtfaahcgoinkmlaaW.PrintWords Go.Proofs.YtfaahcgoinkmlaaW.PrintLast Go.Proofs.YtfaahcgoinkmlaaW.PrintMore
theorem NormKeeps.calls (W : World) (A0 : Option Addr) (c0 : Nat) (l0 : List Int) (hr0 : Kd.C (Kd.int .u8) W A0 l0.length l0) (hc0 : l0.length ≤ c0) (u0 : U8B l0) (z0 : Sm l0) (A1 : Option Addr) (c1 : Nat) (l1 : List S58) (hr1 : Kd.C k58 W A1 l1.length l1) (hc1 : l1.length ≤ c1) (u1 : WfT l1) (z1 : Sm l1) (A2 : Option Addr) (c2 : Nat) (l2 : List Int) (hr2 : Kd.C (Kd.int .u8) W A2 l2.length l2) (hc2 : l2.length ≤ c2) (u2 : U8B l2) (z2 : Sm l2) :
  Calls Try.prog 9 #[.slice A0 l0.length c0,.slice A1 l1.length c1,.slice A2 l2.length c2] W fun e W' => e = .returned (.bool true) ∧ Below W.heap.size W W' := by
 obtain ⟨k,hk⟩ := (law_keeps l0 l1 l2 u0 u1 u2).rounds
 exact glyphcutterlaw16_NormKeeps.calls k A0 c0 l0 A1 c1 l1 A2 c2 l2 true W rfl hr0 hc0 hr1 hc1 hr2 hc2 hk
end
end Go.Proofs.Ytfaahcgoinkmlaa.P
