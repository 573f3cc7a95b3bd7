/- What steps make of a text: the plain side. -/
import Derived.Test.YtfaahcgoinkmlaaPx0
import Derived.Test.YtfaahcgoinkmlaaPx13
import Derived.Test.YtfaahcgoinkmlaaGApply
import Derived.Test.YtfaahcgoinkmlaaGCheck
import Derived.Test.YtfaahcgoinkmlaaGDecode
import Derived.Test.YtfaahcgoinkmlaaGEnc
import Derived.Test.YtfaahcgoinkmlaaGFold
import Derived.Test.YtfaahcgoinkmlaaGMapP
import Derived.Test.YtfaahcgoinkmlaaPBase
import Derived.Test.YtfaahcgoinkmlaaPPairs16
namespace Go.Proofs.Ytfaahcgoinkmlaa.P
set_option linter.unusedVariables false
set_option linter.unusedSimpArgs false
section
open Go.RowKit Go.Proofs.YtfaahcgoinkmlaaW.PrintWords Go.Proofs.YtfaahcgoinkmlaaW.PrintLast Go.Proofs.YtfaahcgoinkmlaaW.PrintMore
theorem decP_cons (a : Int) (t : List Int) : decP (a :: t) = if longB a = 0 then (-1,1) else decL (a :: t) (longB a) (longB a - 1).toNat 1 (bitsB a) (loB a) (hiB a) := rfl
end
section
open Go.RowKit Go.Proofs.YtfaahcgoinkmlaaW.PrintWords Go.Proofs.YtfaahcgoinkmlaaW.PrintLast Go.Proofs.YtfaahcgoinkmlaaW.PrintMore
theorem decL_bd (l : List Int) (n : Nat) : ∀ (m i : Nat) (r lo hi : Int),i + m = n → i ≤ l.length → ∃ q : Nat,(decL l n m (i : Int) r lo hi).2 = (q : Int) ∧ i ≤ q ∧ q ≤ n ∧ q ≤ l.length ∧ ((decL l n m (i : Int) r lo hi).1 = -1 ∨ q = n)
 | 0,i,r,lo,hi,hn,hl => ⟨n,rfl,by omega,Nat.le_refl _,by omega,.inr rfl⟩
 | m + 1,i,r,lo,hi,hn,hl => by
  rw [decL]
  by_cases he : (i : Int) = (l.length : Int)
  ·rw [if_pos he];exact ⟨i,rfl,Nat.le_refl _,by omega,hl,.inl rfl⟩
  ·rw [if_neg he]
   split
   ·obtain ⟨q,h1,h2,h3,h4,h5⟩ := decL_bd l n m (i + 1) (r * 64 + rd l (i : Int) % 64) 128 191 (by omega) (by omega)
    exact ⟨q,h1,by omega,h3,h4,h5⟩
   ·exact ⟨i,rfl,Nat.le_refl _,by omega,hl,.inl rfl⟩
theorem longB_cases (a : Int) : longB a = 0 ∨ (longB a = 1 ∧ a < 128) ∨ (longB a = 2 ∧ 194 ≤ a ∧ a ≤ 223) ∨ (longB a = 3 ∧ 224 ≤ a ∧ a ≤ 239) ∨ (longB a = 4 ∧ 240 ≤ a ∧ a ≤ 244) := by
 unfold longB
 split
 ·rename_i h;exact .inr (.inl ⟨rfl,h⟩)
 ·split
  ·rename_i h;exact .inr (.inr (.inl ⟨rfl,h⟩))
  ·split
   ·rename_i h;exact .inr (.inr (.inr (.inl ⟨rfl,h⟩)))
   ·split
    ·rename_i h;exact .inr (.inr (.inr (.inr ⟨rfl,h⟩)))
    ·exact .inl rfl
/-- How many bytes one has. -/
def decN (l : List Int) : Nat := (decP l).2.toNat
theorem decN_bd {l : List Int} (hl : l ≠ []) : (decP l).2 = (decN l : Int) ∧ 1 ≤ decN l ∧ decN l ≤ l.length ∧ decN l ≤ 4 := by
 match l,hl with
 | a :: t,_ =>
  unfold decN
  rw [decP_cons]
  by_cases h0 : longB a = 0
  ·rw [if_pos h0];simp
  ·rw [if_neg h0]
   obtain ⟨n,hn,h1,h4⟩ : ∃ n : Nat,longB a = (n : Int) ∧ 1 ≤ n ∧ n ≤ 4 := by
    rcases longB_cases a with h | ⟨h,_⟩ | ⟨h,_⟩ | ⟨h,_⟩ | ⟨h,_⟩
    ·exact absurd h h0
    ·exact ⟨1,h,by omega,by omega⟩
    ·exact ⟨2,h,by omega,by omega⟩
    ·exact ⟨3,h,by omega,by omega⟩
    ·exact ⟨4,h,by omega,by omega⟩
   rw [hn]
   obtain ⟨q,e1,e2,e3,e4,_⟩ := decL_bd (a :: t) n (n - 1) 1 (bitsB a) (loB a) (hiB a) (by omega) (by simp)
   rw [show ((n : Int) - 1).toNat = n - 1 by omega]
   rw [show ((1 : Nat) : Int) = 1 from rfl] at e1
   rw [e1]
   exact ⟨by simp,by simpa using e2,by simpa using e4,by simp;omega⟩
end
section
open Go.RowKit Go.Proofs.YtfaahcgoinkmlaaW.PrintWords Go.Proofs.YtfaahcgoinkmlaaW.PrintLast Go.Proofs.YtfaahcgoinkmlaaW.PrintMore
theorem rdC_get (l : List S51) (i : Nat) (h : i < l.length) : rd_T51 l (i : Int) = l[i] := by
 unfold rd_T51
 rw [Int.toNat_natCast,List.getD_eq_getElem?_getD,List.getElem?_eq_getElem h];rfl
/-- Chars of bytes that begin at a place. -/
def charsF : Nat → List Int → Nat → List S51
 | 0,_,_ => []
 | f + 1,l,p => if l = [] then [] else ⟨(decP l).1,(p : Int),(decP l).2⟩ :: charsF f (l.drop (decN l)) (p + decN l)
def charsP (b : List Int) : List S51 := charsF b.length b 0
theorem u8_drop {l : List Int} (h : U8B l) (n : Nat) : U8B (l.drop n) := fun x hx => h x (List.mem_of_mem_drop hx)
theorem dec_f {l : List Int} (h : U8B l) : utf_Decode.f l = some (decP l) := if_pos h
/-- utf.Chars. -/
theorem ev_chars {b : List Int} (hu : U8B b) (hz : b.length ≤ 100000) : Ev (fun k => utf_Chars.f k b) (charsP b) := by
 have loop : ∀ (f p : Nat) (acc : List S51),b.length - p ≤ f → p ≤ b.length → acc.length ≤ p → Ev (fun k => utf_Chars.l0 k b acc (p : Int)) (acc ++ charsF f (b.drop p) p) := by
  intro f
  induction f with
  | zero =>
   intro p acc hf hp ha
   refine Ev.step (fun k => by rw [utf_Chars.l0]) ?_
   rw [charsF,List.append_nil]
   exact Ev.neg (by omega) (Ev.now _)
  | succ f ih =>
   intro p acc hf hp ha
   refine Ev.step (fun k => by rw [utf_Chars.l0]) ?_
   by_cases hlt : p < b.length
   ·have hne : b.drop p ≠ [] := by
     intro h;have := congrArg List.length h;rw [List.length_drop] at this;simp at this;omega
    have hb := decN_bd hne
    have hdl : (b.drop p).length = b.length - p := List.length_drop
    rw [charsF,if_neg hne]
    refine Ev.pos (by omega) (Ev.pos (by omega) (Ev.pos (by omega) ?_))
    rw [Int.toNat_natCast]
    refine Ev.bindc (dec_f (u8_drop hu p)) (Ev.pos (by omega) ?_)
    have nx := ih (p + decN (b.drop p)) (acc ++ [⟨(decP (b.drop p)).1,(p : Int),(decP (b.drop p)).2⟩]) (by omega) (by omega) (by rw [List.length_append];simp;omega)
    rw [hb.1,wrap_in (by omega) (by omega),show (p : Int) + (decN (b.drop p) : Int) = ((p + decN (b.drop p) : Nat) : Int) by omega]
    rw [← List.drop_drop,List.append_assoc,hb.1] at nx
    exact nx
   ·have hne : b.drop p = [] := List.drop_of_length_le (by omega)
    rw [charsF,if_pos hne,List.append_nil]
    exact Ev.neg (by omega) (Ev.now _)
 have h := loop b.length 0 [] (by omega) (Nat.zero_le _) (Nat.le_refl _)
 exact h
/-- What is made of the first one. -/
def pieceP (s : List S33) (l : List Int) : List Int :=
 if (decP l).1 = -1 then l.take (decN l) else if (encP (applyP s (decP l).1)) = [] then l.take (decN l) else encP (applyP s (decP l).1)
def textF (s : List S33) : Nat → List Int → List Int
 | 0,_ => []
 | f + 1,l => if l = [] then [] else pieceP s l ++ textF s f (l.drop (decN l))
def textP (s : List S33) (b : List Int) : List Int := textF s b.length b
theorem text_fuel (s : List S33) : ∀ (f g : Nat) (l : List Int),l.length ≤ f → l.length ≤ g → textF s f l = textF s g l
 | 0,0,_,_,_ => rfl
 | 0,g + 1,l,h,_ => by
  obtain rfl : l = [] := List.eq_nil_of_length_eq_zero (by omega)
  simp [textF]
 | f + 1,0,l,_,h => by
  obtain rfl : l = [] := List.eq_nil_of_length_eq_zero (by omega)
  simp [textF]
 | f + 1,g + 1,l,h1,h2 => by
  rw [textF,textF]
  by_cases hl : l = []
  ·rw [if_pos hl,if_pos hl]
  ·rw [if_neg hl,if_neg hl]
   have := decN_bd hl
   rw [text_fuel s f g _ (by rw [List.length_drop];omega) (by rw [List.length_drop];omega)]
theorem text_nil (s : List S33) : textP s [] = [] := rfl
theorem text_cons (s : List S33) {l : List Int} (hl : l ≠ []) : textP s l = pieceP s l ++ textP s (l.drop (decN l)) := by
 have hb := decN_bd hl
 unfold textP
 obtain ⟨n,hn⟩ : ∃ n,l.length = n + 1 := ⟨l.length - 1,by omega⟩
 rw [hn,textF,if_neg hl,text_fuel s n (l.drop (decN l)).length _ (by rw [List.length_drop];omega) (Nat.le_refl _)]
theorem piece_len (s : List S33) {l : List Int} (hl : l ≠ []) : (pieceP s l).length ≤ 4 := by
 have hb := decN_bd hl
 have ht : (l.take (decN l)).length ≤ 4 := by rw [List.length_take];omega
 unfold pieceP
 split
 ·exact ht
 ·split
  ·exact ht
  ·exact enc_len _
/-- norm.Text. -/
theorem ev_text (s : List S33) {b : List Int} (hu : U8B b) (hz : b.length ≤ 100000) : Ev (fun k => norm_Text.f k s b) (textP s b) := by
 unfold norm_Text.f
 refine Ev.bind (ev_chars hu hz) ?_
 have loop : ∀ (f p : Nat) (pre : List S51) (acc : List Int),b.length - p ≤ f → p ≤ b.length → pre ++ charsF f (b.drop p) p = charsP b → pre.length ≤ p → acc.length ≤ 4 * p →
   Ev (fun k => norm_Text.l0 k s b acc (charsP b) ((charsP b).length : Int) (pre.length : Int)) (acc ++ textF s f (b.drop p)) := by
  intro f
  induction f with
  | zero =>
   intro p pre acc hf hp hc hpl ha
   rw [charsF,List.append_nil] at hc
   rw [textF,List.append_nil]
   refine Ev.step (fun k => by rw [norm_Text.l0]) ?_
   exact Ev.neg (by rw [← hc];omega) (Ev.now _)
  | succ f ih =>
   intro p pre acc hf hp hc hpl ha
   refine Ev.step (fun k => by rw [norm_Text.l0]) ?_
   by_cases hlt : p < b.length
   ·have hne : b.drop p ≠ [] := by
     intro h;have := congrArg List.length h;rw [List.length_drop] at this;simp at this;omega
    have hb := decN_bd hne
    have hdl : (b.drop p).length = b.length - p := List.length_drop
    rw [charsF,if_neg hne] at hc
    rw [textF,if_neg hne]
    have hlen : pre.length < (charsP b).length := by rw [← hc];simp
    have hget : rd_T51 (charsP b) (pre.length : Int) = ⟨(decP (b.drop p)).1,(p : Int),(decP (b.drop p)).2⟩ := by
     rw [rdC_get _ _ hlen]
     simp [← hc]
    have hpc := piece_len s hne
    have hc2 : (pre ++ [⟨(decP (b.drop p)).1,(p : Int),(decP (b.drop p)).2⟩]) ++ charsF f (b.drop (p + decN (b.drop p))) (p + decN (b.drop p)) = charsP b := by
     rw [← hc,List.append_assoc,← List.drop_drop];rfl
    have nx := fun acc' h' => ih (p + decN (b.drop p)) (pre ++ [⟨(decP (b.drop p)).1,(p : Int),(decP (b.drop p)).2⟩]) acc' (by omega) (by omega) hc2 (by rw [List.length_append];simp;omega) h'
    have nx2 : ∀ x : List Int,x = pieceP s (b.drop p) → Ev (fun k => norm_Text.l0 k s b (acc ++ x) (charsP b) ((charsP b).length : Int) (wrap64 ((pre.length : Int) + 1))) (acc ++ (pieceP s (b.drop p) ++ textF s f ((b.drop p).drop (decN (b.drop p))))) := by
     intro x hx
     have hpre : pre.length ≤ p := hpl
     rw [wr1N (by omega) (by omega)]
     have := nx (acc ++ x) (by rw [List.length_append,hx];omega)
     rw [List.length_append,← List.drop_drop,hx,List.append_assoc] at this
     rw [hx]
     exact this
    have own : (b.take ((p : Int) + (decN (b.drop p) : Int)).toNat).drop (p : Int).toNat = (b.drop p).take (decN (b.drop p)) := by
     rw [show ((p : Int) + (decN (b.drop p) : Int)).toNat = p + decN (b.drop p) by omega,Int.toNat_natCast,List.take_drop]
    refine Ev.pos (by omega) (Ev.pos (by omega) (Ev.pos (by omega) ?_))
    rw [hget]
    simp only
    rw [hb.1,wrap_in (i := (p : Int) + (decN (b.drop p) : Int)) (by omega) (by omega),own]
    have hol : ((b.drop p).take (decN (b.drop p))).length ≤ 4 := by rw [List.length_take];omega
    refine Ev.pos (by omega) (Ev.pos (by omega) (Ev.pos (by omega) ?_))
    by_cases hbad : (decP (b.drop p)).1 = -1
    ·refine Ev.pos hbad (Ev.pos (by omega) ?_)
     exact nx2 _ (by unfold pieceP;rw [if_pos hbad])
    ·refine Ev.neg hbad (Ev.bindc rfl (Ev.bindc rfl ?_))
     by_cases he : encP (applyP s (decP (b.drop p)).1) = []
     ·refine Ev.neg (by rw [he];simp) (Ev.pos (by omega) ?_)
      exact nx2 _ (by unfold pieceP;rw [if_neg hbad,if_pos he])
     ·have hel := enc_len (applyP s (decP (b.drop p)).1)
      refine Ev.pos (by have := List.length_pos_iff.2 he;omega) (Ev.pos (by omega) ?_)
      exact nx2 _ (by unfold pieceP;rw [if_neg hbad,if_neg he])
   ·have hne : b.drop p = [] := List.drop_of_length_le (by omega)
    rw [charsF,if_pos hne,List.append_nil] at hc
    rw [textF,if_pos hne,List.append_nil]
    exact Ev.neg (by rw [← hc];omega) (Ev.now _)
 have h := loop b.length 0 [] [] (by omega) (Nat.zero_le _) rfl (Nat.le_refl _) (Nat.le_refl _)
 exact h
end
end Go.Proofs.Ytfaahcgoinkmlaa.P
