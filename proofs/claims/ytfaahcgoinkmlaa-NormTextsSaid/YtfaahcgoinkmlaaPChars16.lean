/- The chars of a text, cut and counted: the plain side. -/
import Derived.Test.YtfaahcgoinkmlaaPx0
import Derived.Test.YtfaahcgoinkmlaaPx10
import Derived.Test.YtfaahcgoinkmlaaPx9
import Derived.Test.YtfaahcgoinkmlaaPx8
import Derived.Test.YtfaahcgoinkmlaaGApply
import Derived.Test.YtfaahcgoinkmlaaGCheck
import Derived.Test.YtfaahcgoinkmlaaGDecode
import Derived.Test.YtfaahcgoinkmlaaGEnc
import Derived.Test.YtfaahcgoinkmlaaGFold
import Derived.Test.YtfaahcgoinkmlaaGMapP
import Derived.Test.YtfaahcgoinkmlaaPBase
import Derived.Test.YtfaahcgoinkmlaaPLaw0
import Derived.Test.YtfaahcgoinkmlaaPPairs16
import Derived.Test.YtfaahcgoinkmlaaPText16
import Derived.Lib.ConvBytes
import Derived.Deep.SlicePairs
import Derived.ChangeArms
import Derived.SizedLaws
import Derived.WalkKit
namespace Go.Proofs.Ytfaahcgoinkmlaa.P
set_option linter.unusedVariables false
set_option linter.unusedSimpArgs false
section
open Go.RowKit Go.Proofs.YtfaahcgoinkmlaaW.PrintWords Go.Proofs.YtfaahcgoinkmlaaW.PrintLast Go.Proofs.YtfaahcgoinkmlaaW.PrintMore
theorem enc_ne {r : Int} (h : Scal r) : 0 < (encP r).length := by
 unfold Scal at h
 unfold encP
 rw [if_pos (by omega)]
 repeat' split
 all_goals simp
def longP (a : Int) : Int := if a < 128 then 1 else if 194 ≤ a ∧ a ≤ 223 then 2 else if 224 ≤ a ∧ a ≤ 239 then 3 else if 240 ≤ a ∧ a ≤ 244 then 4 else 0
theorem long_ev (a : Int) : Ev (fun k => glyphcutterref02_long.f k a) (longP a) := by
 have j1 : ∀ b : Bool,(b = true ↔ 224 ≤ a ∧ a ≤ 239) → ¬ a < 128 → ¬ (194 ≤ a ∧ a ≤ 223) → Ev (fun k => glyphcutterref02_long.j1 k a b) (longP a) := by
  intro b hb h1 h2
  refine Ev.step (fun k => by rw [glyphcutterref02_long.j1]) ?_
  unfold longP
  rw [if_neg h1,if_neg h2]
  by_cases hc : b = true
  ·refine Ev.pos hc ?_
   rw [if_pos (hb.1 hc)]
   exact Ev.now _
  ·refine Ev.neg hc ?_
   rw [if_neg (fun h => hc (hb.2 h))]
   by_cases h3 : a ≥ 240
   ·refine Ev.pos h3 ?_
    by_cases h4 : a ≤ 244
    ·refine Ev.pos h4 ?_
     rw [if_pos ⟨by omega,h4⟩]
     exact Ev.now _
    ·refine Ev.neg h4 ?_
     rw [if_neg (by omega)]
     exact Ev.now _
   ·refine Ev.neg h3 ?_
    rw [if_neg (by omega)]
    exact Ev.now _
 have j0 : ∀ b : Bool,(b = true ↔ 194 ≤ a ∧ a ≤ 223) → ¬ a < 128 → Ev (fun k => glyphcutterref02_long.j0 k a b) (longP a) := by
  intro b hb h1
  refine Ev.step (fun k => by rw [glyphcutterref02_long.j0]) ?_
  by_cases hc : b = true
  ·refine Ev.pos hc ?_
   unfold longP
   rw [if_neg h1,if_pos (hb.1 hc)]
   exact Ev.now _
  ·refine Ev.neg hc ?_
   have h2 : ¬ (194 ≤ a ∧ a ≤ 223) := fun h => hc (hb.2 h)
   by_cases h3 : a ≥ 224
   ·exact Ev.pos h3 (j1 _ (by rw [decide_eq_true_iff];omega) h1 h2)
   ·exact Ev.neg h3 (j1 _ (by constructor;(intro h;cases h);(intro h;omega)) h1 h2)
 unfold glyphcutterref02_long.f
 by_cases h1 : a < 128
 ·refine Ev.pos h1 ?_
  unfold longP
  rw [if_pos h1]
  exact Ev.now _
 ·refine Ev.neg h1 ?_
  by_cases h3 : a ≥ 194
  ·exact Ev.pos h3 (j0 _ (by rw [decide_eq_true_iff];omega) h1)
  ·exact Ev.neg h3 (j0 _ (by constructor;(intro h;cases h);(intro h;omega)) h1)
def secP (a b : Int) : Bool := if a = 224 then decide (160 ≤ b ∧ b ≤ 191) else if a = 237 then decide (128 ≤ b ∧ b ≤ 159) else if a = 240 then decide (144 ≤ b ∧ b ≤ 191) else if a = 244 then decide (128 ≤ b ∧ b ≤ 143) else decide (128 ≤ b ∧ b ≤ 191)
theorem sec_f (a b : Int) : glyphcutterref02_second.f a b = some (secP a b) := by
 unfold glyphcutterref02_second.f secP
 by_cases h1 : a = 224
 ·rw [if_pos h1,if_pos h1];by_cases h : b ≥ 160 <;> simp [h] <;> omega
 rw [if_neg h1,if_neg h1]
 by_cases h2 : a = 237
 ·rw [if_pos h2,if_pos h2];by_cases h : b ≥ 128 <;> simp [h] <;> omega
 rw [if_neg h2,if_neg h2]
 by_cases h3 : a = 240
 ·rw [if_pos h3,if_pos h3];by_cases h : b ≥ 144 <;> simp [h] <;> omega
 rw [if_neg h3,if_neg h3]
 by_cases h4 : a = 244
 ·rw [if_pos h4,if_pos h4];by_cases h : b ≥ 128 <;> simp [h] <;> omega
 rw [if_neg h4,if_neg h4]
 by_cases h : b ≥ 128 <;> simp [h] <;> omega
theorem sec_in {a b : Int} (h : secP a b = true) : 128 ≤ b ∧ b ≤ 191 ∧ (a = 224 → 160 ≤ b) ∧ (a = 237 → b ≤ 159) ∧ (a = 240 → 144 ≤ b) ∧ (a = 244 → b ≤ 143) := by
 unfold secP at h
 split at h
 ·simp at h;omega
 split at h
 ·simp at h;omega
 split at h
 ·simp at h;omega
 split at h
 ·simp at h;omega
 ·simp at h;omega
/-- One round. -/
theorem dl_end (l : List Int) (n r i : Int) (h : ¬ i < n) : Ev (fun k => glyphcutterref02_Decode.l0 k l n r i) (r,n) := Ev.step (fun k => by rw [glyphcutterref02_Decode.l0]) (Ev.neg h (Ev.now _))
theorem dl_short (l : List Int) (n r i : Int) (h : i < n) (h2 : i ≥ (l.length : Int)) : Ev (fun k => glyphcutterref02_Decode.l0 k l n r i) (-1,i) := Ev.step (fun k => by rw [glyphcutterref02_Decode.l0]) (Ev.pos h (Ev.pos h2 (Ev.now _)))
theorem dl_two (l : List Int) (n r : Int) (h : 1 < n) (h2 : 1 < l.length) (hs : ¬ secP (rd l 0) (rd l 1) = true) : Ev (fun k => glyphcutterref02_Decode.l0 k l n r 1) (-1,1) := by
 refine Ev.step (fun k => by rw [glyphcutterref02_Decode.l0]) (Ev.pos h (Ev.neg (by omega) (Ev.pos rfl (Ev.pos (by omega) (Ev.pos (by omega) (Ev.bindc (sec_f _ _) (Ev.neg hs ?_)))))))
 exact Ev.now _
theorem dl_bad (l : List Int) (n r i : Int) (h : i < n) (h2 : 1 < i) (h3 : i < (l.length : Int)) (hb : ¬ (128 ≤ rd l i ∧ rd l i ≤ 191)) : Ev (fun k => glyphcutterref02_Decode.l0 k l n r i) (-1,i) := by
 refine Ev.step (fun k => by rw [glyphcutterref02_Decode.l0]) (Ev.pos h (Ev.neg (by omega) (Ev.neg (by omega) (Ev.pos (by omega) (Ev.pos h3 ?_)))))
 by_cases hc : rd l i < 128
 ·exact Ev.pos hc (Ev.now _)
 ·exact Ev.neg hc (Ev.pos (by omega) (Ev.now _))
theorem dl_next (l : List Int) (n r i : Int) (h : i < n) (h1 : 1 ≤ i) (hi : i < 100) (h3 : i < (l.length : Int)) (h4 : i = 1 → secP (rd l 0) (rd l 1) = true) (hb : 128 ≤ rd l i ∧ rd l i ≤ 191) (r0 : 0 ≤ r) (r1 : r ≤ 100000000) {p : Int × Int} (n1 : Ev (fun k => glyphcutterref02_Decode.l0 k l n (64 * r + rd l i - 128) (i + 1)) p) : Ev (fun k => glyphcutterref02_Decode.l0 k l n r i) p := by
 have e1 : wrap64 ((wrap64 ((wrap64 (64 * r)) + (wrap64 (rd l i)))) - 128) = 64 * r + rd l i - 128 := by
  rw [wrap_in (i := 64 * r) (by omega) (by omega),wrap_in (i := rd l i) (by omega) (by omega),wrap_in (i := 64 * r + rd l i) (by omega) (by omega),wrap_in (by omega) (by omega)]
 have e2 : wrap64 (i + 1) = i + 1 := wrap_in (by omega) (by omega)
 refine Ev.step (fun k => by rw [glyphcutterref02_Decode.l0]) (Ev.pos h (Ev.neg (by omega) ?_))
 rw [e1,e2]
 by_cases hc : i = 1
 ·exact Ev.pos hc (Ev.pos (by omega) (Ev.pos (by omega) (Ev.bindc (sec_f _ _) (Ev.pos (h4 hc) (Ev.pos (by omega) (Ev.pos h3 (Ev.neg (by omega) (Ev.neg (by omega) n1))))))))
 ·exact Ev.neg hc (Ev.pos (by omega) (Ev.pos h3 (Ev.neg (by omega) (Ev.neg (by omega) n1))))
theorem dec_start (a : Int) (t : List Int) (ha : 0 ≤ a ∧ a ≤ 255) (n : Int) (hn : longP a = n) (hn2 : 2 ≤ n ∧ n ≤ 4) {p : Int × Int} (h : Ev (fun k => glyphcutterref02_Decode.l0 k (a :: t) n (a - (if n = 2 then 192 else if n = 3 then 224 else 240)) 1) p) : Ev (fun k => glyphcutterref02_Decode.f k (a :: t)) p := by
 have hl := long_ev a
 rw [hn] at hl
 have e0 : rd (a :: t) 0 = a := rfl
 unfold glyphcutterref02_Decode.f
 refine Ev.neg (by simp <;> omega) (Ev.pos (by simp <;> omega) ?_)
 rw [e0]
 refine Ev.bind hl (Ev.neg (by omega) (Ev.neg (by omega) (Ev.bindc rfl (Ev.pos (by omega) (Ev.pos (by simp <;> omega) ?_)))))
 have e1 : wrap64 ((wrap64 a) - (rd ([0,0,192,224,240] : List Int) n)) = a - (if n = 2 then 192 else if n = 3 then 224 else 240) := by
  rcases (by omega : n = 2 ∨ n = 3 ∨ n = 4) with rfl | rfl | rfl
  ·show wrap64 (wrap64 a - 192) = a - 192
   rw [wrap_in (i := a) (by omega) (by omega),wrap_in (by omega) (by omega)]
  ·show wrap64 (wrap64 a - 224) = a - 224
   rw [wrap_in (i := a) (by omega) (by omega),wrap_in (by omega) (by omega)]
  ·show wrap64 (wrap64 a - 240) = a - 240
   rw [wrap_in (i := a) (by omega) (by omega),wrap_in (by omega) (by omega)]
 rw [e1]
 exact h
theorem dec_one (a : Int) (t : List Int) (ha : 0 ≤ a ∧ a < 128) : Ev (fun k => glyphcutterref02_Decode.f k (a :: t)) (a,1) := by
 have hl := long_ev a
 rw [show longP a = 1 by unfold longP;rw [if_pos ha.2]] at hl
 have e0 : rd (a :: t) 0 = a := rfl
 unfold glyphcutterref02_Decode.f
 refine Ev.neg (by simp <;> omega) (Ev.pos (by simp <;> omega) ?_)
 rw [e0]
 refine Ev.bind hl (Ev.neg (by omega) (Ev.pos rfl ?_))
 rw [wrap_in (by omega) (by omega)]
 exact Ev.now _
theorem dec_zero (a : Int) (t : List Int) (hl0 : longP a = 0) : Ev (fun k => glyphcutterref02_Decode.f k (a :: t)) (-1,1) := by
 have hl := long_ev a
 rw [hl0] at hl
 have e0 : rd (a :: t) 0 = a := rfl
 unfold glyphcutterref02_Decode.f
 refine Ev.neg (by simp <;> omega) (Ev.pos (by simp <;> omega) ?_)
 rw [e0]
 exact Ev.bind hl (Ev.pos rfl (Ev.now _))
theorem sec_B {a b : Int} (ha : 194 ≤ a ∧ a ≤ 244) : secP a b = true ↔ loB a ≤ b ∧ b ≤ hiB a := by
 have h0 : ¬ a < 128 := by omega
 by_cases e1 : a = 224
 ·subst e1;simp [secP,loB,hiB]
 ·by_cases e2 : a = 237
  ·subst e2;simp [secP,loB,hiB]
  ·by_cases e3 : a = 240
   ·subst e3;simp [secP,loB,hiB]
   ·by_cases e4 : a = 244
    ·subst e4;simp [secP,loB,hiB]
    ·simp [secP,loB,hiB,e1,e2,e3,e4,h0]
theorem rd_u8 {l : List Int} (hu : U8B l) (i : Nat) (h : i < l.length) : 0 ≤ rd l (i : Int) ∧ rd l (i : Int) ≤ 255 := by
 rw [rdi_get l i h];exact hu _ (List.getElem_mem h)
/-- The rounds behind the second byte. -/
theorem dl_ev {l : List Int} (hu : U8B l) (n : Int) : ∀ (m i : Nat) (r : Int),(i : Int) + m = n → 2 ≤ i → m ≤ 2 → i ≤ l.length → i + m ≤ 10 → 0 ≤ r → (m = 0 → r ≤ 100000000) → (m = 1 → r ≤ 1000000) → (m = 2 → r ≤ 10000) →
  Ev (fun k => glyphcutterref02_Decode.l0 k l n r (i : Int)) (decL l n m (i : Int) r 128 191)
 | 0,i,r,hn,_,_,_,_,_,_,_,_ => by rw [decL];exact dl_end l n r i (by omega)
 | m + 1,i,r,hn,hi,hm,hl,h10,h0,ha,hb,hc => by
  rw [decL]
  by_cases he : (i : Int) = (l.length : Int)
  ·rw [if_pos he];exact dl_short l n r i (by omega) (by omega)
  ·rw [if_neg he]
   have hx := rd_u8 hu i (by omega)
   by_cases hb2 : 128 ≤ rd l (i : Int) ∧ rd l (i : Int) ≤ 191
   ·rw [if_pos hb2]
    have nx := dl_ev hu n m (i + 1) (r * 64 + rd l (i : Int) % 64) (by omega) (by omega) (by omega) (by omega) (by omega) (by omega) (by omega) (by omega) (by omega)
    rw [show ((i + 1 : Nat) : Int) = (i : Int) + 1 by omega,show r * 64 + rd l (i : Int) % 64 = 64 * r + rd l (i : Int) - 128 by omega] at nx
    rw [show r * 64 + rd l (i : Int) % 64 = 64 * r + rd l (i : Int) - 128 by omega]
    exact dl_next l n r i (by omega) (by omega) (by omega) (by omega) (fun h => absurd h (by omega)) hb2 h0 (by omega) nx
   ·rw [if_neg hb2];exact dl_bad l n r i (by omega) (by omega) (by omega) hb2
/-- ref02.Decode. -/
theorem ref_dec {l : List Int} (hu : U8B l) : Ev (fun k => glyphcutterref02_Decode.f k l) (decP l) := by
 match l,hu with
 | [],_ =>
  unfold glyphcutterref02_Decode.f
  exact Ev.pos rfl (Ev.now _)
 | a :: t,hu =>
  have ha := hu a List.mem_cons_self
  rw [decP_cons]
  by_cases h0 : longB a = 0
  ·rw [if_pos h0];exact dec_zero a t h0
  ·rw [if_neg h0]
   by_cases h1 : a < 128
   ·have e : longB a = 1 := by unfold longB;rw [if_pos h1]
    rw [e]
    show Ev _ (bitsB a,1)
    unfold bitsB
    rw [if_pos h1]
    exact dec_one a t ⟨ha.1,h1⟩
   ·have hr : 194 ≤ a ∧ a ≤ 244 := by
     unfold longB at h0
     rw [if_neg h1] at h0
     split at h0
     ·omega
     ·split at h0
      ·omega
      ·split at h0
       ·omega
       ·exact absurd rfl h0
    obtain ⟨n,hn⟩ : ∃ n : Nat,longB a = (n : Int) ∧ 2 ≤ n ∧ n ≤ 4 := by
     unfold longB
     rw [if_neg h1]
     split
     ·exact ⟨2,rfl,by omega,by omega⟩
     ·split
      ·exact ⟨3,rfl,by omega,by omega⟩
      ·rw [if_pos (by omega)];exact ⟨4,rfl,by omega,by omega⟩
    obtain ⟨hn,h2,h4⟩ := hn
    have hb : bitsB a = a - (if (n : Int) = 2 then 192 else if (n : Int) = 3 then 224 else 240) ∧ 0 ≤ bitsB a ∧ bitsB a < 32 := by
     unfold longB at hn
     rw [if_neg h1] at hn
     unfold bitsB
     rw [if_neg h1]
     split at hn
     ·rw [if_pos (by omega),if_pos (by omega)];omega
     ·split at hn
      ·rw [if_neg (by omega),if_pos (by omega),if_neg (by omega),if_pos (by omega)];omega
      ·rw [if_pos (by omega)] at hn
       rw [if_neg (by omega),if_neg (by omega),if_neg (by omega),if_neg (by omega)];omega
    refine dec_start a t ha (n : Int) hn (by omega) ?_
    rw [← hb.1,hn,show ((n : Int) - 1).toNat = (n - 2) + 1 by omega,decL]
    by_cases he : (1 : Int) = ((a :: t).length : Int)
    ·rw [if_pos he];exact dl_short _ _ _ _ (by omega) (by omega)
    ·rw [if_neg he]
     have hl : 1 < (a :: t).length := by simp only [List.length_cons] at he ⊢;omega
     by_cases hs : secP a (rd (a :: t) 1) = true
     ·have hlh := (sec_B hr).1 hs
      have hin := sec_in hs
      rw [if_pos hlh]
      have nx := dl_ev hu (n : Int) (n - 2) 2 (bitsB a * 64 + rd (a :: t) 1 % 64) (by omega) (by omega) (by omega) hl (by omega) (by omega) (by omega) (by omega) (by omega)
      rw [show bitsB a * 64 + rd (a :: t) 1 % 64 = 64 * bitsB a + rd (a :: t) 1 - 128 by omega] at nx ⊢
      exact dl_next (a :: t) n (bitsB a) 1 (by omega) (by omega) (by omega) (by omega) (fun _ => hs) ⟨hin.1,hin.2.1⟩ hb.2.1 (by omega) nx
     ·rw [if_neg (fun h => hs ((sec_B hr).2 h))]
      exact dl_two (a :: t) n _ (by omega) hl hs
end
section
open Go.RowKit Go.Proofs.YtfaahcgoinkmlaaW.PrintWords Go.Proofs.YtfaahcgoinkmlaaW.PrintLast Go.Proofs.YtfaahcgoinkmlaaW.PrintMore
theorem rd_take (l : List Int) (M i : Nat) (h : i < M) : rd (l.take M) (i : Int) = rd l (i : Int) := by
 unfold rd
 rw [Int.toNat_natCast,List.getD_eq_getElem?_getD,List.getD_eq_getElem?_getD,List.getElem?_take,if_pos h]
theorem decL_take (l : List Int) (n M : Nat) : ∀ (m i : Nat) (r lo hi : Int),i + m = n → i ≤ l.length → (decL l n m (i : Int) r lo hi).2 ≤ (M : Int) → decL (l.take M) n m (i : Int) r lo hi = decL l n m (i : Int) r lo hi
 | 0,i,r,lo,hi,_,_,_ => rfl
 | m + 1,i,r,lo,hi,hn,hl,hM => by
  rw [decL] at hM
  rw [decL,decL]
  have hlen : (l.take M).length = min M l.length := List.length_take
  by_cases he : (i : Int) = (l.length : Int)
  ·rw [if_pos he] at hM
   simp only at hM
   rw [if_pos he,if_pos (by rw [hlen];omega)]
  ·rw [if_neg he] at hM
   rw [if_neg he]
   by_cases hMi : i < M
   ·rw [if_neg (by rw [hlen];omega),rd_take l M i hMi]
    by_cases hb : lo ≤ rd l (i : Int) ∧ rd l (i : Int) ≤ hi
    ·rw [if_pos hb] at hM
     rw [if_pos hb,if_pos hb]
     exact decL_take l n M m (i + 1) _ _ _ (by omega) (by omega) hM
    ·rw [if_neg hb,if_neg hb]
   ·by_cases hb : lo ≤ rd l (i : Int) ∧ rd l (i : Int) ≤ hi
    ·rw [if_pos hb] at hM
     obtain ⟨q,e1,e2,_⟩ := decL_bd l n m (i + 1) (r * 64 + rd l (i : Int) % 64) 128 191 (by omega) (by omega)
     rw [show ((i + 1 : Nat) : Int) = (i : Int) + 1 by omega] at e1
     omega
    ·rw [if_neg hb] at hM
     simp only at hM
     rw [if_neg hb,if_pos (by rw [hlen];omega)]
/-- A text that is cut behind the first one has the same first one. -/
theorem decP_take {l : List Int} (hl : l ≠ []) {M : Nat} (hM : decN l ≤ M) : decP (l.take M) = decP l := by
 have hb := decN_bd hl
 match l,hl with
 | a :: t,hl =>
  obtain ⟨M,rfl⟩ : ∃ M',M = M' + 1 := ⟨M - 1,by omega⟩
  rw [List.take_succ_cons]
  have h2 : (decP (a :: t)).2 ≤ ((M + 1 : Nat) : Int) := by rw [hb.1];omega
  rw [decP_cons] at h2 ⊢
  rw [decP_cons]
  by_cases h0 : longB a = 0
  ·rw [if_pos h0,if_pos h0]
  ·rw [if_neg h0] at h2
   rw [if_neg h0,if_neg h0]
   obtain ⟨n,hn,h1,h4⟩ : ∃ n : Nat,longB a = (n : Int) ∧ 1 ≤ n ∧ n ≤ 4 := by
    rcases longB_cases a with h | ⟨h,_⟩ | ⟨h,_⟩ | ⟨h,_⟩ | ⟨h,_⟩
    ·exact absurd h h0
    ·exact ⟨1,h,by omega,by omega⟩
    ·exact ⟨2,h,by omega,by omega⟩
    ·exact ⟨3,h,by omega,by omega⟩
    ·exact ⟨4,h,by omega,by omega⟩
   rw [hn,show ((n : Int) - 1).toNat = n - 1 by omega] at h2 ⊢
   have := decL_take (a :: t) n (M + 1) (n - 1) 1 (bitsB a) (loB a) (hiB a) (by omega) (by simp) h2
   rw [List.take_succ_cons] at this
   exact this
/-- Bytes that begin a scalar are its bytes. -/
theorem decP_scal {l : List Int} (hu : U8B l) (hv : (decP l).1 ≠ -1) : Scal (decP l).1 ∧ l.take (decN l) = encP (decP l).1 := by
 match l,hu with
 | [],_ => exact absurd rfl hv
 | a :: t,hu =>
  have ha := hu a List.mem_cons_self
  unfold decN
  rw [decP_cons] at hv ⊢
  rcases longB_cases a with h | ⟨h,h1⟩ | ⟨h,h1⟩ | ⟨h,h1⟩ | ⟨h,h1⟩
  ·rw [if_pos h] at hv;exact absurd rfl hv
  ·rw [if_neg (by omega),h]
   have e : bitsB a = a := by unfold bitsB;rw [if_pos h1]
   show Scal (bitsB a) ∧ _ = encP (bitsB a)
   rw [e,enc_1 ha.1 h1]
   exact ⟨by unfold Scal;omega,rfl⟩
  ·rw [if_neg (by omega),h] at hv ⊢
   have eb : bitsB a = a - 192 := by unfold bitsB;rw [if_neg (by omega),if_pos (by omega)];omega
   have el : loB a = 128 := by unfold loB;rw [if_neg (by omega),if_neg (by omega),if_neg (by omega)]
   have eh : hiB a = 191 := by unfold hiB;rw [if_neg (by omega),if_neg (by omega),if_neg (by omega)]
   rw [eb,el,eh] at hv ⊢
   match t with
   | [] => exact absurd rfl hv
   | b :: t =>
    have e1 : decL (a :: b :: t) 2 ((2 : Int) - 1).toNat 1 (a - 192) 128 191 = if 128 ≤ b ∧ b ≤ 191 then ((a - 192) * 64 + b % 64,2) else (-1,1) := by
     show decL (a :: b :: t) 2 1 1 (a - 192) 128 191 = _
     rw [decL,if_neg (by simp;omega)];rfl
    rw [e1] at hv ⊢
    by_cases hb : 128 ≤ b ∧ b ≤ 191
    ·rw [if_pos hb] at hv ⊢
     show Scal ((a - 192) * 64 + b % 64) ∧ [a,b] = encP ((a - 192) * 64 + b % 64)
     rw [enc_2 (by omega) (by omega)]
     refine ⟨by unfold Scal;omega,?_⟩
     simp only [List.cons.injEq,and_true];omega
    ·rw [if_neg hb] at hv;exact absurd rfl hv
  ·rw [if_neg (by omega),h] at hv ⊢
   have eb : bitsB a = a - 224 := by unfold bitsB;rw [if_neg (by omega),if_neg (by omega),if_pos (by omega)];omega
   rw [eb] at hv ⊢
   have hlo : loB a = if a = 224 then 160 else 128 := by unfold loB;rw [if_neg (by omega)];split;rfl;rw [if_neg (by omega)]
   have hhi : hiB a = if a = 237 then 159 else 191 := by unfold hiB;rw [if_neg (by omega)];split;rfl;rw [if_neg (by omega)]
   match t with
   | [] => exact absurd rfl hv
   | [b] =>
    have e1 : (decL [a,b] 3 ((3 : Int) - 1).toNat 1 (a - 224) (loB a) (hiB a)).1 = -1 := by
     show (decL [a,b] 3 2 1 (a - 224) (loB a) (hiB a)).1 = _
     rw [decL,if_neg (by simp)]
     split
     ·rw [decL,if_pos (by simp)]
     ·rfl
    exact absurd e1 hv
   | b :: c :: t =>
    have e1 : decL (a :: b :: c :: t) 3 ((3 : Int) - 1).toNat 1 (a - 224) (loB a) (hiB a) = if loB a ≤ b ∧ b ≤ hiB a then (if 128 ≤ c ∧ c ≤ 191 then (((a - 224) * 64 + b % 64) * 64 + c % 64,3) else (-1,2)) else (-1,1) := by
     show decL (a :: b :: c :: t) 3 2 1 (a - 224) (loB a) (hiB a) = _
     rw [decL,if_neg (by simp;omega)]
     have e2 : decL (a :: b :: c :: t) 3 1 2 ((a - 224) * 64 + b % 64) 128 191 = if 128 ≤ c ∧ c ≤ 191 then (((a - 224) * 64 + b % 64) * 64 + c % 64,3) else (-1,2) := by
      rw [decL,if_neg (by simp;omega)];rfl
     show (if loB a ≤ b ∧ b ≤ hiB a then decL (a :: b :: c :: t) 3 1 2 ((a - 224) * 64 + b % 64) 128 191 else _) = _
     rw [e2]
    rw [e1] at hv ⊢
    by_cases hb : loB a ≤ b ∧ b ≤ hiB a
    ·rw [if_pos hb] at hv ⊢
     by_cases hc : 128 ≤ c ∧ c ≤ 191
     ·rw [if_pos hc] at hv ⊢
      show Scal (((a - 224) * 64 + b % 64) * 64 + c % 64) ∧ [a,b,c] = encP (((a - 224) * 64 + b % 64) * 64 + c % 64)
      have hbb : 128 ≤ b ∧ b ≤ 191 ∧ (a = 224 → 160 ≤ b) ∧ (a = 237 → b ≤ 159) := by
       obtain ⟨h2,h3⟩ := hb
       rw [hlo] at h2;rw [hhi] at h3
       refine ⟨?_,?_,fun e => ?_,fun e => ?_⟩
       ·split at h2 <;> omega
       ·split at h3 <;> omega
       ·rwa [if_pos e] at h2
       ·rwa [if_pos e] at h3
      rw [enc_3 (by omega) (by omega) (by omega)]
      refine ⟨by unfold Scal;omega,?_⟩
      simp only [List.cons.injEq,and_true];omega
     ·rw [if_neg hc] at hv;exact absurd rfl hv
    ·rw [if_neg hb] at hv;exact absurd rfl hv
  ·rw [if_neg (by omega),h] at hv ⊢
   have eb : bitsB a = a - 240 := by unfold bitsB;rw [if_neg (by omega),if_neg (by omega),if_neg (by omega)];omega
   rw [eb] at hv ⊢
   have hlo : loB a = if a = 240 then 144 else 128 := by unfold loB;rw [if_neg (by omega),if_neg (by omega)]
   have hhi : hiB a = if a = 244 then 143 else 191 := by unfold hiB;rw [if_neg (by omega),if_neg (by omega)]
   match t with
   | [] => exact absurd rfl hv
   | [b] =>
    have e1 : (decL [a,b] 4 ((4 : Int) - 1).toNat 1 (a - 240) (loB a) (hiB a)).1 = -1 := by
     show (decL [a,b] 4 3 1 (a - 240) (loB a) (hiB a)).1 = _
     rw [decL,if_neg (by simp)]
     split
     ·rw [decL,if_pos (by simp)]
     ·rfl
    exact absurd e1 hv
   | [b,c] =>
    have e1 : (decL [a,b,c] 4 ((4 : Int) - 1).toNat 1 (a - 240) (loB a) (hiB a)).1 = -1 := by
     show (decL [a,b,c] 4 3 1 (a - 240) (loB a) (hiB a)).1 = _
     rw [decL,if_neg (by simp)]
     split
     ·rw [decL,if_neg (by simp)]
      split
      ·rw [decL,if_pos (by simp)]
      ·rfl
     ·rfl
    exact absurd e1 hv
   | b :: c :: d :: t =>
    have e1 : decL (a :: b :: c :: d :: t) 4 ((4 : Int) - 1).toNat 1 (a - 240) (loB a) (hiB a) = if loB a ≤ b ∧ b ≤ hiB a then (if 128 ≤ c ∧ c ≤ 191 then (if 128 ≤ d ∧ d ≤ 191 then ((((a - 240) * 64 + b % 64) * 64 + c % 64) * 64 + d % 64,4) else (-1,3)) else (-1,2)) else (-1,1) := by
     show decL (a :: b :: c :: d :: t) 4 3 1 (a - 240) (loB a) (hiB a) = _
     rw [decL,if_neg (by simp;omega)]
     have e3 : decL (a :: b :: c :: d :: t) 4 1 3 (((a - 240) * 64 + b % 64) * 64 + c % 64) 128 191 = if 128 ≤ d ∧ d ≤ 191 then ((((a - 240) * 64 + b % 64) * 64 + c % 64) * 64 + d % 64,4) else (-1,3) := by
      rw [decL,if_neg (by simp;omega)];rfl
     have e2 : decL (a :: b :: c :: d :: t) 4 2 2 ((a - 240) * 64 + b % 64) 128 191 = if 128 ≤ c ∧ c ≤ 191 then decL (a :: b :: c :: d :: t) 4 1 3 (((a - 240) * 64 + b % 64) * 64 + c % 64) 128 191 else (-1,2) := by
      rw [decL,if_neg (by simp;omega)];rfl
     show (if loB a ≤ b ∧ b ≤ hiB a then decL (a :: b :: c :: d :: t) 4 2 2 ((a - 240) * 64 + b % 64) 128 191 else _) = _
     rw [e2,e3]
    rw [e1] at hv ⊢
    by_cases hb : loB a ≤ b ∧ b ≤ hiB a
    ·rw [if_pos hb] at hv ⊢
     by_cases hc : 128 ≤ c ∧ c ≤ 191
     ·rw [if_pos hc] at hv ⊢
      by_cases hdd : 128 ≤ d ∧ d ≤ 191
      ·rw [if_pos hdd] at hv ⊢
       show Scal ((((a - 240) * 64 + b % 64) * 64 + c % 64) * 64 + d % 64) ∧ [a,b,c,d] = encP ((((a - 240) * 64 + b % 64) * 64 + c % 64) * 64 + d % 64)
       have hbb : 128 ≤ b ∧ b ≤ 191 ∧ (a = 240 → 144 ≤ b) ∧ (a = 244 → b ≤ 143) := by
        obtain ⟨h2,h3⟩ := hb
        rw [hlo] at h2;rw [hhi] at h3
        refine ⟨?_,?_,fun e => ?_,fun e => ?_⟩
        ·split at h2 <;> omega
        ·split at h3 <;> omega
        ·rwa [if_pos e] at h2
        ·rwa [if_pos e] at h3
       rw [enc_4 (by omega) (by omega)]
       refine ⟨by unfold Scal;omega,?_⟩
       simp only [List.cons.injEq,and_true];omega
      ·rw [if_neg hdd] at hv;exact absurd rfl hv
     ·rw [if_neg hc] at hv;exact absurd rfl hv
    ·rw [if_neg hb] at hv;exact absurd rfl hv
end
section
open Go.RowKit Go.Proofs.YtfaahcgoinkmlaaW.PrintWords Go.Proofs.YtfaahcgoinkmlaaW.PrintLast Go.Proofs.YtfaahcgoinkmlaaW.PrintMore
theorem u8_take {l : List Int} (h : U8B l) (n : Nat) : U8B (l.take n) := fun x hx => h x (List.mem_of_mem_take hx)
theorem textF_len (s : List S33) : ∀ (f : Nat) (l : List Int),(textF s f l).length ≤ 4 * f
 | 0,_ => Nat.le_refl _
 | f + 1,l => by
  rw [textF]
  split
  ·simp
  ·rename_i hl
   have h1 := piece_len s hl
   have h2 := textF_len s f (l.drop (decN l))
   rw [List.length_append];omega
end
section
open Go.RowKit Go.Proofs.YtfaahcgoinkmlaaW.PrintWords Go.Proofs.YtfaahcgoinkmlaaW.PrintLast Go.Proofs.YtfaahcgoinkmlaaW.PrintMore
theorem enc_nn {r : Int} (h : Scal r) : encP r ≠ [] := fun he => by have := enc_ne h;rw [he] at this;simp at this
end
section
open Go.RowKit Go.Proofs.YtfaahcgoinkmlaaW.PrintWords Go.Proofs.YtfaahcgoinkmlaaW.PrintLast Go.Proofs.YtfaahcgoinkmlaaW.PrintMore
/-- ref02.Chars. -/
theorem ref_chars {b : List Int} (hu : U8B b) (hz : b.length ≤ 100000) : Ev (fun k => glyphcutterref02_Chars.f k b) (charsP b) := by
 have loop : ∀ (f p : Nat) (acc : List S51),b.length - p ≤ f → p ≤ b.length → acc.length ≤ p → Ev (fun k => glyphcutterref02_Chars.l0 k b acc (p : Int)) (acc ++ charsF f (b.drop p) p) := by
  intro f
  induction f with
  | zero =>
   intro p acc hf hp ha
   refine Ev.step (fun k => by rw [glyphcutterref02_Chars.l0]) ?_
   rw [charsF,List.append_nil]
   exact Ev.neg (by omega) (Ev.now _)
  | succ f ih =>
   intro p acc hf hp ha
   refine Ev.step (fun k => by rw [glyphcutterref02_Chars.l0]) ?_
   by_cases hlt : p < b.length
   ·have hne : b.drop p ≠ [] := by
     intro h;have := congrArg List.length h;rw [List.length_drop] at this;simp at this;omega
    have hb := decN_bd hne
    have hdl : (b.drop p).length = b.length - p := List.length_drop
    rw [charsF,if_neg hne]
    refine Ev.pos (by omega) (Ev.pos (by omega) (Ev.pos (by omega) ?_))
    rw [Int.toNat_natCast]
    refine Ev.bind (ref_dec (u8_drop hu p)) (Ev.pos (by omega) ?_)
    have nx := ih (p + decN (b.drop p)) (acc ++ [⟨(decP (b.drop p)).1,(p : Int),(decP (b.drop p)).2⟩]) (by omega) (by omega) (by rw [List.length_append];simp;omega)
    rw [hb.1,wrap_in (by omega) (by omega),show (p : Int) + (decN (b.drop p) : Int) = ((p + decN (b.drop p) : Nat) : Int) by omega]
    rw [← List.drop_drop,List.append_assoc,hb.1] at nx
    exact nx
   ·have hne : b.drop p = [] := List.drop_of_length_le (by omega)
    rw [charsF,if_pos hne,List.append_nil]
    exact Ev.neg (by omega) (Ev.now _)
 have h := loop b.length 0 [] (by omega) (Nat.zero_le _) (Nat.le_refl _)
 exact h
theorem piece_take (s : List S33) {l : List Int} (hl : l ≠ []) {M : Nat} (hM : decN l ≤ M) : pieceP s (l.take M) = pieceP s l ∧ decN (l.take M) = decN l ∧ l.take M ≠ [] := by
 have h1 := decP_take hl hM
 have hb := decN_bd hl
 have h2 : decN (l.take M) = decN l := by unfold decN;rw [h1]
 refine ⟨?_,h2,?_⟩
 ·unfold pieceP
  rw [h1,h2,List.take_take,Nat.min_eq_left hM]
 ·intro h
  have := congrArg List.length h
  rw [List.length_take,List.length_nil] at this
  omega
/-- A text is made of what is made of its two parts, cut where a char begins. -/
theorem chars_cut : ∀ (f : Nat) (l : List Int) (q : Nat) (c : S51),c ∈ charsF f l q → ∃ p : Nat,c.f1 = ((q + p : Nat) : Int) ∧ p ≤ l.length ∧ ∀ s,textP s l = textP s (l.take p) ++ textP s (l.drop p)
 | 0,l,q,c,h => by rw [charsF] at h;cases h
 | f + 1,l,q,c,h => by
  rw [charsF] at h
  by_cases hl : l = []
  ·rw [if_pos hl] at h;cases h
  ·rw [if_neg hl] at h
   rcases List.mem_cons.1 h with rfl | h
   ·exact ⟨0,rfl,Nat.zero_le _,fun s => by rw [List.take_zero,List.drop_zero,text_nil,List.nil_append]⟩
   ·obtain ⟨p,h1,h2,h3⟩ := chars_cut f (l.drop (decN l)) (q + decN l) c h
    have hb := decN_bd hl
    rw [List.length_drop] at h2
    refine ⟨decN l + p,by rw [h1];congr 1;omega,by omega,fun s => ?_⟩
    obtain ⟨e1,e2,e3⟩ := piece_take s hl (M := decN l + p) (by omega)
    rw [text_cons s hl,h3 s,text_cons s e3,e1,e2,List.append_assoc]
    congr 1
    congr 1
    ·congr 1
     rw [List.drop_take]
     congr 1;omega
    ·rw [List.drop_drop]
theorem text_len (s : List S33) (b : List Int) : (textP s b).length ≤ 4 * b.length := textF_len s b.length b
theorem fine_ok (x : List S45) : checkP (fineP x) = -1 := by
 have : ∀ (x acc : List S45),checkP acc = -1 → checkP (x.foldl fineS acc) = -1 := by
  intro x
  induction x with
  | nil => intro acc h;exact h
  | cons a x ih =>
   intro acc h
   rw [List.foldl_cons]
   refine ih _ ?_
   unfold fineS
   split
   ·rename_i h2;exact h2
   ·exact h
 exact this x [] rfl
end
section
open Go.RowKit Go.ChangeShapes Go.WideShapes Go.Proofs.YtfaahcgoinkmlaaW.PrintWords Go.Proofs.YtfaahcgoinkmlaaW.PrintLast Go.Proofs.YtfaahcgoinkmlaaW.PrintMore
theorem open_pairs_at {H : Type} {enc : TypeId × Value → H} {W : World} {base : Nat} {spare : Nat → Bool} {held : Bool} {fuel : Nat} {cs : List Value} {x : DataW H × List MemPlace} (h : DataW.trod enc Try.prog W base spare held fuel 31 cs = some x) :
  ∃ (l : List S45) (a : Option Addr) (cap : Nat),cs = [.slice a l.length cap] ∧ k45.C W a l.length l ∧ WfP l ∧ l.length ≤ cap ∧ l.length ≤ maxLen ∧ (l = [] ∨ ∃ es sp,x.1 = .slice es sp ∧ l.length ≤ es.length) := by
 rcases Go.Deep.open_slice_pairs Try.underlying31 Try.underlying45 (by kernel_rfl) rfl rfl (by kernel_rfl) (by kernel_rfl) h with ⟨rfl,_⟩ | ⟨a,len,cap,m,n,V0,V1,D0,D1,P0,P1,rfl,hb,hl,hc,hm,hx,hh⟩
 ·exact ⟨[],none,0,rfl,Kd.C_nil _ _,(fun _ h => by simp at h),Nat.le_refl _,Nat.zero_le _,.inl rfl⟩
 ·have hlm : len ≤ m := by rw [hm];split <;> omega
  have each : ∀ i,i < len → ∃ s : S45,W.cell? (a.add (i * 2)) = some (.int .i64 s.f0) ∧ W.cell? (a.add (i * 2 + 1)) = some (.int .i64 s.f1) ∧ (In64 s.f0 ∧ In64 s.f1) := by
   intro i hi
   obtain ⟨h0,h1,t0,t1⟩ := hh i (by omega)
   obtain ⟨n0,e0,_,w0⟩ := DataW.trod_int (k := .i64) Try.underlying3 t0
   obtain ⟨n1,e1,_,w1⟩ := DataW.trod_int (k := .i64) Try.underlying3 t1
   have v0 : V0 i = .int .i64 n0 := by simpa using e0
   have v1 : V1 i = .int .i64 n1 := by simpa using e1
   exact ⟨⟨n0,n1⟩,by rw [h0,v0],by rw [h1,v1],wf_i64 w0,wf_i64 w1⟩
  obtain ⟨g,hg⟩ := Go.Deep.choose_lt each
  have hln : ((List.range len).map g).length = len := by simp
  refine ⟨(List.range len).map g,some a,cap,by rw [hln],⟨rfl,?_,fun _ => ⟨a,rfl,fun j p hj => ?_⟩⟩,fun s hs => ?_,by rw [hln];exact hl,by rw [hln];omega,.inr ⟨_,_,by rw [hx],by simp⟩⟩
  ·rw [hln];have : maxLen ≤ 9223372036854775807 := by decide
   omega
  ·have hjl : j < len := by
    have := (List.getElem?_eq_some_iff.1 hj).1
    rwa [hln] at this
   have hp : p = g j := by
    rw [List.getElem?_map,List.getElem?_range hjl] at hj
    simpa using hj.symm
   obtain ⟨c0,c1,_⟩ := hg j hjl
   refine ⟨[.int .i64 p.f0,.int .i64 p.f1],rfl,k45_mk _ p,fun i u hu => ?_⟩
   subst hp
   match i,hu with
   | 0,hu => simp at hu;subst hu;exact c0
   | 1,hu => simp at hu;subst hu;exact c1
  ·obtain ⟨i,hi,rfl⟩ := List.mem_map.1 hs
   exact (hg i (List.mem_range.1 hi)).2.2
end
end Go.Proofs.Ytfaahcgoinkmlaa.P
