/- utf.Decode, as a contract in the print's own form. -/
import Derived.Test.YtfaahcgoinkmlaaPx0
import Derived.Test.YtfaahcgoinkmlaaPx24
import Derived.Test.YtfaahcgoinkmlaaPx23
import Derived.Laws.BitsLemmas
import Derived.Shelf.Abstract
import Derived.Outline
import Derived.BigRegion
import Derived.Deep.QuietTactic
import Derived.BigQuiet
import Derived.WalkMore
import Derived.Deep.DeepFit
namespace Go.Proofs.Ytfaahcgoinkmlaa.P
set_option linter.unusedVariables false
set_option linter.unusedSimpArgs false
section
open Go.RowKit Go.Proofs.YtfaahcgoinkmlaaW.PrintWords Go.Proofs.YtfaahcgoinkmlaaW.PrintLast Go.Proofs.YtfaahcgoinkmlaaW.PrintMore
/-- How many bytes a first one begins; 0: none. -/
def longB (a : Int) : Int := if a < 128 then 1 else if 194 ≤ a ∧ a ≤ 223 then 2 else if 224 ≤ a ∧ a ≤ 239 then 3 else if 240 ≤ a ∧ a ≤ 244 then 4 else 0
def bitsB (a : Int) : Int := if a < 128 then a else if a < 224 then a % 32 else if a < 240 then a % 16 else a % 8
def loB (a : Int) : Int := if a < 128 then 0 else if a = 224 then 160 else if a = 240 then 144 else 128
def hiB (a : Int) : Int := if a < 128 then 0 else if a = 237 then 159 else if a = 244 then 143 else 191
def decL (l : List Int) (n : Int) : Nat → Int → Int → Int → Int → Int × Int
 | 0,_,r,_,_ => (r,n)
 | m + 1,i,r,lo,hi => if i = (l.length : Int) then (-1,i) else if lo ≤ rd l i ∧ rd l i ≤ hi then decL l n m (i + 1) (r * 64 + rd l i % 64) 128 191 else (-1,i)
/-- The first scalar of bytes, and how many bytes it has. -/
def decP : List Int → Int × Int
 | [] => (-1,0)
 | a :: t => if longB a = 0 then (-1,1) else decL (a :: t) (longB a) (longB a - 1).toNat 1 (bitsB a) (loB a) (hiB a)
end
section
open Go.RowKit Go.Shelf Go.Proofs.YtfaahcgoinkmlaaW.PrintWords Go.Proofs.YtfaahcgoinkmlaaW.PrintLast Go.Proofs.YtfaahcgoinkmlaaW.PrintMore
def U8B (l : List Int) : Prop := ∀ x ∈ l,0 ≤ x ∧ x ≤ 255
instance (l : List Int) : Decidable (U8B l) := by unfold U8B;infer_instance
def utf_Decode.f (l0 : List Int) : Option (Int × Int) := if U8B l0 then some (decP l0) else none
theorem and31 {a : Int} (h0 : 192 ≤ a) (h1 : a ≤ 255) : Go.bits .and .u8 a 31 = a % 32 := by
 have : ∀ k : Fin 64,Go.bits .and .u8 (192 + (k.val : Int)) 31 = (192 + (k.val : Int)) % 32 := by decide +kernel
 have h := this ⟨(a - 192).toNat,by omega⟩
 rwa [show (192 : Int) + ((a - 192).toNat : Int) = a by omega] at h
theorem and15 {a : Int} (h0 : 192 ≤ a) (h1 : a ≤ 255) : Go.bits .and .u8 a 15 = a % 16 := by
 have : ∀ k : Fin 64,Go.bits .and .u8 (192 + (k.val : Int)) 15 = (192 + (k.val : Int)) % 16 := by decide +kernel
 have h := this ⟨(a - 192).toNat,by omega⟩
 rwa [show (192 : Int) + ((a - 192).toNat : Int) = a by omega] at h
theorem and7 {a : Int} (h0 : 192 ≤ a) (h1 : a ≤ 255) : Go.bits .and .u8 a 7 = a % 8 := by
 have : ∀ k : Fin 64,Go.bits .and .u8 (192 + (k.val : Int)) 7 = (192 + (k.val : Int)) % 8 := by decide +kernel
 have h := this ⟨(a - 192).toNat,by omega⟩
 rwa [show (192 : Int) + ((a - 192).toNat : Int) = a by omega] at h
theorem and63 {a : Int} (h0 : 0 ≤ a) (h1 : a ≤ 255) : Go.bits .and .u8 a 63 = a % 64 := by
 have : ∀ k : Fin 256,Go.bits .and .u8 (k.val : Int) 63 = (k.val : Int) % 64 := by decide +kernel
 have h := this ⟨a.toNat,by omega⟩
 rwa [show (a.toNat : Int) = a by omega] at h
theorem of_one {a : Int} (h0 : 0 ≤ a) (h1 : a < 128) (W : World) : Calls Try.prog 64 #[.int .u8 a] W fun e W' => e = .returned (.agg #[.int .i64 (longB a),.int .u8 (bitsB a),.int .u8 (loB a),.int .u8 (hiB a)]) ∧ Below W.heap.size W W' :=
 utf_of.calls 1 a _ _ _ _ W (by unfold utf_of.f longB bitsB loB hiB;rw [if_pos h1,if_pos h1,if_pos h1,if_pos h1,if_pos h1])
theorem of_zero {a : Int} (h0 : 128 ≤ a) (h1 : a < 194 ∨ 244 < a) (W : World) : Calls Try.prog 64 #[.int .u8 a] W fun e W' => e = .returned (.agg #[.int .i64 0,.int .u8 0,.int .u8 0,.int .u8 0]) ∧ Below W.heap.size W W' :=
 utf_of.calls 1 a _ _ _ _ W (by
  unfold utf_of.f
  rw [if_neg (by omega)]
  by_cases h : a < 194
  ·rw [if_pos h];show (if decide (a < 194) = true then _ else _) = _;rw [if_pos (decide_eq_true h)]
  ·rw [if_neg h];show (if decide (a > 244) = true then _ else _) = _;rw [if_pos (decide_eq_true (by omega))])
theorem of_more {a : Int} (h0 : 194 ≤ a) (h1 : a ≤ 244) (W : World) : Calls Try.prog 64 #[.int .u8 a] W fun e W' => e = .returned (.agg #[.int .i64 (longB a),.int .u8 (bitsB a),.int .u8 (loB a),.int .u8 (hiB a)]) ∧ Below W.heap.size W W' :=
 utf_of.calls 1 a _ _ _ _ W (by
  unfold utf_of.f
  rw [if_neg (by omega),if_neg (by omega)]
  show (if decide (a > 244) = true then _ else _) = _
  rw [if_neg (by simp;omega)]
  unfold longB bitsB loB hiB
  rw [if_neg (show ¬ a < 128 by omega),if_neg (show ¬ a < 128 by omega),if_neg (show ¬ a < 128 by omega),if_neg (show ¬ a < 128 by omega)]
  by_cases c1 : a < 224
  ·rw [if_pos c1,and31 (by omega) (by omega),if_pos (show 194 ≤ a ∧ a ≤ 223 by omega),if_pos c1,if_neg (show ¬ a = 224 by omega),if_neg (show ¬ a = 240 by omega),if_neg (show ¬ a = 237 by omega),if_neg (show ¬ a = 244 by omega)]
  ·rw [if_neg c1]
   by_cases c2 : a = 224
   ·subst c2;rfl
   ·rw [if_neg c2]
    by_cases c3 : a = 237
    ·subst c3;rfl
    ·rw [if_neg c3]
     by_cases c4 : a < 240
     ·rw [if_pos c4,and15 (by omega) (by omega),if_neg (show ¬ (194 ≤ a ∧ a ≤ 223) by omega),if_pos (show 224 ≤ a ∧ a ≤ 239 by omega),if_neg c1,if_pos c4,if_neg c2,if_neg (show ¬ a = 240 by omega),if_neg c3,if_neg (show ¬ a = 244 by omega)]
     ·rw [if_neg c4]
      by_cases c5 : a = 240
      ·subst c5;rfl
      ·rw [if_neg c5]
       by_cases c6 : a = 244
       ·subst c6;rfl
       ·rw [if_neg c6,and7 (by omega) (by omega),if_neg (show ¬ (194 ≤ a ∧ a ≤ 223) by omega),if_neg (show ¬ (224 ≤ a ∧ a ≤ 239) by omega),if_pos (show 240 ≤ a ∧ a ≤ 244 by omega),if_neg c1,if_neg c4,if_neg c2,if_neg c5,if_neg c3,if_neg c6])
theorem or6 {r c : Int} (h0 : 0 ≤ r) (h1 : r < 33554432) (h2 : 0 ≤ c) (h3 : c < 64) : Go.bits .or .i64 (r * 64) c = r * 64 + c :=
 Go.bits_join .i64 62 (by decide) (fun n h1 h2 => by rw [IntKind.wrap_i64];omega) 6 (r * 64) c (by omega) (by omega) (by omega) h2 (by omega) (by omega)
theorem may_f (n b lo hi x : Int) : utf_lead_may.f n b lo hi x = some (decide (lo ≤ x ∧ x ≤ hi),n,b,128,191) := by
 unfold utf_lead_may.f
 by_cases h : lo ≤ x
 ·rw [if_pos h];congr 2;rw [Bool.eq_iff_iff];simp;intro _;exact h
 ·rw [if_neg h,decide_eq_false (by omega)]
set_option maxRecDepth 100000 in
set_option maxHeartbeats 4000000 in
theorem utf_Decode.calls (A0 : Option Addr) (c0 : Nat) (l0 : List Int) (r1 : Int) (r2 : Int) (w : World) (hr0 : Kd.C (Kd.int .u8) w A0 l0.length l0) (hc0 : l0.length ≤ c0) (h : utf_Decode.f l0 = some (r1,r2)) :
  Calls Try.prog 51 #[.slice A0 l0.length c0] w fun e w' => e = .returned (.tuple #[.int .i64 r1,.int .i64 r2]) ∧ Below w.heap.size w w' := by
 unfold utf_Decode.f at h
 split at h
 case isFalse => cases h
 rename_i hu
 have hd := Option.some.inj h
 clear h
 cases l0 with
 | nil =>
  simp only [decP,Prod.mk.injEq] at hd
  obtain ⟨rfl,rfl⟩ := hd
  clear hr0 hu
  simp only [List.length_nil] at hc0 ⊢
  go_enter Try.func51,Try.ntmps51
  go_wp2
  go_ret2
  exact ⟨rfl,Below.refl _ _⟩
 | cons a t =>
  have hua := hu a List.mem_cons_self
  have hbig := hr0.2.1
  have HR0 := Aside0.mk hr0
  have HU := Aside0.mk hu
  obtain ⟨n,hn⟩ : ∃ n,(a :: t).length = n := ⟨_,rfl⟩
  have hn1 : 0 < n := by rw [← hn];simp
  have HN := Aside0.mk hn
  obtain ⟨ad,e0,hx0⟩ := Kd.at_int (by have := HR0.out;rwa [HN.out] at this) 0 (by omega) (by omega)
  subst e0
  have e1 : rd (a :: t) 0 = a := rfl
  rw [e1] at hx0
  have hx0' : w.cell? ad = some (.int .u8 a) := by have := hx0;simpa [Addr.add] using this
  rw [hn] at hc0 hbig ⊢
  clear hr0 hu e1 hn
  obtain ⟨l,hl⟩ : ∃ l,l = a :: t := ⟨_,rfl⟩
  have HL := Aside0.mk hl
  rw [← hl] at HR0 HU HN
  have hd2 : (if longB a = 0 then ((-1 : Int),(1 : Int)) else decL l (longB a) (longB a - 1).toNat 1 (bitsB a) (loB a) (hiB a)) = (r1,r2) := by rw [hl];exact hd
  clear hd hl
  by_cases h0 : longB a = 0
  ·rw [if_pos h0] at hd2
   obtain ⟨rfl,rfl⟩ := Prod.mk.inj hd2
   have hz : 128 ≤ a ∧ (a < 194 ∨ 244 < a) := by unfold longB at h0;split at h0 <;> (try split at h0) <;> (try split at h0) <;> (try split at h0) <;> omega
   have hof := of_zero hz.1 hz.2 w
   clear hd2 h0 hz
   go_enter Try.func51,Try.ntmps51
   go_wp2_with (go_at_call 64;refine hof.mono ?_;rintro e w1 ⟨rfl,hb⟩)
   go_ret2
   exact ⟨rfl,hb.alloc hb.size _⟩
  ·rw [if_neg h0] at hd2
   have hof : ∀ W,Calls Try.prog 64 #[.int .u8 a] W fun e W' => e = .returned (.agg #[.int .i64 (longB a),.int .u8 (bitsB a),.int .u8 (loB a),.int .u8 (hiB a)]) ∧ Below W.heap.size W W' := by
    intro W
    by_cases c : a < 128
    ·exact of_one hua.1 c W
    ·by_cases c2 : 194 ≤ a ∧ a ≤ 244
     ·exact of_more c2.1 c2.2 W
     ·exfalso
      apply h0
      unfold longB
      rw [if_neg c,if_neg (by omega),if_neg (by omega),if_neg (by omega)]
   have hN : 1 ≤ longB a ∧ longB a ≤ 4 := by unfold longB at h0 ⊢;split <;> (try split) <;> (try split) <;> (try split) <;> first | omega | (simp_all;done)
   have hB : 0 ≤ bitsB a ∧ bitsB a < 128 := by unfold bitsB;split <;> (try split) <;> (try split) <;> omega
   obtain ⟨nn,hnn⟩ : ∃ nn,nn = longB a := ⟨_,rfl⟩
   obtain ⟨bb,hbb⟩ : ∃ bb,bb = bitsB a := ⟨_,rfl⟩
   obtain ⟨lo0,hlo⟩ : ∃ lo0,lo0 = loB a := ⟨_,rfl⟩
   obtain ⟨hi0,hhi⟩ : ∃ hi0,hi0 = hiB a := ⟨_,rfl⟩
   rw [← hnn] at hN h0
   rw [← hbb] at hB
   rw [← hnn,← hbb,← hlo,← hhi] at hd2
   have hof0 := hof w
   rw [← hnn,← hbb,← hlo,← hhi] at hof0
   have HD := Aside0.mk hd2
   clear hd2 hof hnn hbb hlo hhi
   obtain ⟨hN1,hN4⟩ := hN
   obtain ⟨hB0,hB1⟩ := hB
   have hnz : (nn == 0) = false := by simpa using h0
   go_enter Try.func51,Try.ntmps51
   go_wp2_with (go_at_call 64;refine hof0.mono ?_;rintro e w1 ⟨rfl,hb⟩)
   have HBW : Aside0 (Below w.heap.size w (w1.alloc (.cells #[.int .i64 nn,.int .u8 bb,.int .u8 lo0,.int .u8 hi0] 93))) := ⟨hb.alloc hb.size _⟩
   have HIS : Aside0 (IsS93 w (w1.alloc (.cells #[.int .i64 nn,.int .u8 bb,.int .u8 lo0,.int .u8 hi0] 93)) w1.heap.size nn bb lo0 hi0) := ⟨heap_alloc_new _ _,hb.size⟩
   clear hof0 hb
   go_loopg [5,24] 4 (fun gg v5 v24 wr => ∃ (k m : Nat) (r lo hi : Int),k + 1 ≤ n ∧ (k : Int) + m + 1 = nn ∧ m ≤ gg ∧ v24 = .int .i64 k ∧ v5 = .int .i64 r ∧ 0 ≤ r ∧ (k = 0 → r < 128) ∧ (k ≤ 1 → r < 8192) ∧ (k ≤ 2 → r < 524288) ∧ r < 33554432 ∧ Aside0 (IsS93 w wr w1.heap.size nn bb lo hi) ∧ Aside0 (Below w.heap.size w wr) ∧ Aside0 (decL l nn m ((k : Int) + 1) r lo hi = (r1,r2)))
   case atStart => exact ⟨0,(nn - 1).toNat,bb,lo0,hi0,by omega,by omega,by omega,rfl,rfl,hB0,by omega,by omega,by omega,by omega,HIS,HBW,HD⟩
   case round =>
    obtain ⟨k,m,r,lo,hi,hkn1,hkm,hmg,rfl,rfl,hr0,hra,hrb,hrc,hrd,HI,BW,HQ⟩ := hrel
    have hc0_ := cellS93_0 HI.out.1
    cases m with
    | zero =>
     obtain ⟨rfl,rfl⟩ := Prod.mk.inj HQ.out
     have hkz : (k : Int) = nn - 1 := by omega
     have hlt : ¬ (k : Int) < nn - 1 := by omega
     clear hkz
     go_wp2
     go_region
     go_wp2
     go_ret2
     exact ⟨rfl,by first | exact BW.out | exact BW.out.drew⟩
    | succ m =>
     have hlt : (k : Int) < nn - 1 := by omega
     have hq := HQ.out
     rw [decL,HN.out] at hq
     by_cases hend : (k : Int) + 1 = (n : Int)
     ·rw [if_pos hend] at hq
      obtain ⟨rfl,rfl⟩ := Prod.mk.inj hq
      have hk1 : k + 1 = n := by omega
      subst hk1
      clear hq hend HQ
      go_wp2
      go_ret2
      exact ⟨rfl,BW.out⟩
     ·rw [if_neg hend] at hq
      have hkn : k + 1 < n := by omega
      obtain ⟨ad2,e2,hx1⟩ := Kd.at_int (by have := HR0.out;rwa [HN.out] at this) ((k : Int) + 1) (by omega) (by omega)
      cases e2
      rw [show ((k : Int) + 1).toNat = k + 1 by omega] at hx1
      have hux : 0 ≤ rd l ((k : Int) + 1) ∧ rd l ((k : Int) + 1) ≤ 255 := by
       refine HU.out _ ?_
       unfold rd
       rw [show ((k : Int) + 1).toNat = k + 1 by omega,List.getD_eq_getElem?_getD,List.getElem?_eq_getElem (by rw [HN.out];exact hkn)]
       exact List.getElem_mem _
      obtain ⟨x,hx⟩ : ∃ x,x = rd l ((k : Int) + 1) := ⟨_,rfl⟩
      rw [← hx] at hx1 hux hq
      simp [Addr.add] at hx1
      have HX1 := Aside0.mk hx1
      replace hx1 := (BW.out.cell (World.block_lt_of_cell? w _ hx1)).trans hx1
      clear hx HQ
      have hmay := utf_lead_may.calls w1.heap.size nn bb lo hi x (decide (lo ≤ x ∧ x ≤ hi)) nn bb 128 191 w wr HI.out BW.out (may_f nn bb lo hi x)
      have h63 := and63 hux.1 hux.2
      by_cases hin : lo ≤ x ∧ x ≤ hi
      ·rw [if_pos hin] at hq
       rw [decide_eq_true hin] at hmay
       have HQ2 := Aside0.mk hq
       clear hq hin
       go_wp2_with (go_at_call 65;refine hmay.mono ?_;rintro e w2 ⟨rfl,hI2,hb2,_⟩;have hx2 := (hb2.cell (World.block_lt_of_cell? w _ HX1.out)).trans HX1.out)
       have h6 := or6 hr0 (by omega) (show 0 ≤ x % 64 by omega) (by omega)
       go_roundg m
       case measure => omega
       case rel =>
        refine ⟨k + 1,m,r * 64 + x % 64,128,191,by omega,by omega,Nat.le_refl _,by go_num,by rw [h6],by omega,by omega,by omega,by omega,by omega,⟨hI2⟩,⟨hb2⟩,⟨?_⟩⟩
        have := HQ2.out
        rwa [show ((k + 1 : Nat) : Int) + 1 = (k : Int) + 1 + 1 by omega]
      ·rw [if_neg hin] at hq
       rw [decide_eq_false hin] at hmay
       obtain ⟨rfl,rfl⟩ := Prod.mk.inj hq
       clear hq hin
       go_wp2_with (go_at_call 65;refine hmay.mono ?_;rintro e w2 ⟨rfl,hI2,hb2,_⟩)
       go_ret2
       exact ⟨rfl,hb2⟩
end
end Go.Proofs.Ytfaahcgoinkmlaa.P
