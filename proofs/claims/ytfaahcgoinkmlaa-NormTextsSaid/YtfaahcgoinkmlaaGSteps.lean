/- Steps, as a contract in the print's own form. -/
import Derived.Test.YtfaahcgoinkmlaaPx0
import Derived.Test.YtfaahcgoinkmlaaPx2
import Derived.Test.YtfaahcgoinkmlaaPx4
import Derived.Test.YtfaahcgoinkmlaaGCheck
import Derived.Test.YtfaahcgoinkmlaaGFold
import Derived.Test.YtfaahcgoinkmlaaPBase
import Derived.Test.YtfaahcgoinkmlaaPPairs16
import Derived.Outline
namespace Go.Proofs.Ytfaahcgoinkmlaa.P
set_option linter.unusedVariables false
set_option linter.unusedSimpArgs false
section
open Go.RowKit Go.Shelf Go.Proofs.YtfaahcgoinkmlaaW.PrintWords Go.Proofs.YtfaahcgoinkmlaaW.PrintLast Go.Proofs.YtfaahcgoinkmlaaW.PrintMore
def glyphcutterlaw16_Steps.f (l0 : List Int) (l1 : List S58) : Option (List S33) := if (∀ z ∈ l0,0 ≤ z ∧ z ≤ 255) ∧ WfT l1 ∧ l1.length ≤ 9000000000000000000 then some (stepsP l0 l1) else none
set_option maxRecDepth 100000 in
set_option maxHeartbeats 2000000 in
theorem glyphcutterlaw16_Steps.calls (A0 : Option Addr) (c0 : Nat) (l0 : List Int) (A1 : Option Addr) (c1 : Nat) (l1 : List S58) (r : List S33) (w : World) (hr0 : Kd.C (Kd.int .u8) w A0 l0.length l0) (hc0 : l0.length ≤ c0) (hr1 : Kd.C k58 w A1 l1.length l1) (hc1 : l1.length ≤ c1) (h : glyphcutterlaw16_Steps.f l0 l1 = some r) :
  Calls Try.prog 12 #[.slice A0 l0.length c0,.slice A1 l1.length c1] w fun e w' => ∃ v0_ : Value,e = .returned (v0_) ∧ Kd.N k33 33 w' w.heap.size (fun k_ => (w.heap.size ≤ k_)) v0_ r ∧ Below w.heap.size w w' := by
 unfold glyphcutterlaw16_Steps.f at h
 split at h
 case isFalse => cases h
 rename_i hcond
 obtain rfl := Option.some.inj h
 clear h
 obtain ⟨hu,hwt,hz⟩ := hcond
 obtain ⟨kp,hkp⟩ := (ev_pairs l1 hwt hz).rounds
 have hpc := glyphcutterlaw16_Pairs.calls kp A1 c1 l1 (pairsP l1) w hr1 hc1 hkp
 have HU := Aside0.mk hu
 have HR0 := Aside0.mk hr0
 have hpl := pairs_len l1
 have hbig := hr0.2.1
 obtain ⟨x,hx⟩ : ∃ x,x = pairsP l1 := ⟨_,rfl⟩
 rw [← hx] at hpc hpl
 have HX := Aside0.mk hx
 have hpl2 := hpl.1
 obtain ⟨m,hm⟩ : ∃ m,x.length = m := ⟨_,rfl⟩
 rw [hm] at hpl2
 have HM := Aside0.mk hm
 obtain ⟨n,hn⟩ : ∃ n,l0.length = n := ⟨_,rfl⟩
 have HN := Aside0.mk hn
 rw [hn] at hc0 hbig ⊢
 obtain ⟨n1,hn1⟩ : ∃ n1,l1.length = n1 := ⟨_,rfl⟩
 rw [hn1] at hc1 hpc ⊢
 clear hr0 hr1 hu hwt hkp hx hpl hm hn hn1 hz
 go_enter Try.func12,Try.ntmps12
 go_wp2_with (go_at_call 15;refine hpc.mono ?_;rintro e w1 ⟨vx,rfl,hox,hb1⟩)
 have HOX := Aside0.mk hox
 have HB1 := Aside0.mk hb1
 obtain ⟨Ax,cx,rfl,hxc,hxC⟩ := Kd.R_reads hox
 rw [HM.out] at hxc
 have HXC := Aside0.mk hxC
 clear hpc hox hb1 hxC
 rw [HM.out]
 go_loopg [5,7] m (fun gg v5 v7 wr => ∃ (k : Nat) (Af : Option Addr) (cf : Nat),k ≤ m ∧ m - k ≤ gg ∧ v7 = .int .i64 k ∧ v5 = .slice Af (fineP (x.take k)).length cf ∧ Aside0 (Kd.R k45 45 wr w.heap.size (fun _ => True) (.slice Af (fineP (x.take k)).length cf) (fineP (x.take k))) ∧ Aside0 (Below w1.heap.size w1 wr))
 case atStart => exact ⟨0,none,0,Nat.zero_le _,by omega,rfl,rfl,⟨Kd.R_nil _ _ _ _ _⟩,⟨Below.refl _ _⟩⟩
 case round =>
  obtain ⟨k,Af,cf,hk,hg,rfl,rfl,HF,BW⟩ := hrel
  by_cases hlt : k < m
  ·have hltz : (k : Int) < (m : Int) := by omega
   have hkl : k < x.length := by rw [HM.out];exact hlt
   obtain ⟨ad,e1,hx0,hx1⟩ := at_T45 (by have := HXC.out;rwa [HM.out] at this) (k : Int) (by omega) (by omega)
   cases e1
   simp only [Int.toNat_natCast] at hx0 hx1
   replace hx0 := (BW.out.cell (World.block_lt_of_cell? w1 _ hx0)).trans hx0
   replace hx1 := (BW.out.cell (World.block_lt_of_cell? w1 _ hx1)).trans hx1
   have hfs := fine_snoc x k hkl
   have hfl := fine_len (x.take k)
   rw [List.length_take] at hfl
   obtain ⟨F,hF⟩ : ∃ F,fineP (x.take k) = F := ⟨_,rfl⟩
   obtain ⟨p,hp⟩ : ∃ p,rd_T45 x (k : Int) = p := ⟨_,rfl⟩
   rw [hF] at HF hfs hfl ⊢
   rw [hp] at hfs hx0 hx1
   have HFS := Aside0.mk hfs
   have hFC := (Kd.R_reads' HF.out).2.2
   have hwrs := BW.out.size
   obtain ⟨kc,hkc⟩ := (ref_check ([] ++ F ++ [p]) (by simp;omega)).rounds
   obtain ⟨F3,hF3⟩ : ∃ F3,F3 = [] ++ F ++ [p] := ⟨_,rfl⟩
   have HF3 := Aside0.mk hF3
   rw [← hF3] at hkc
   obtain ⟨q,hq⟩ : ∃ q,checkP F3 = q := ⟨_,rfl⟩
   have HQ := Aside0.mk hq
   rw [hq] at hkc
   obtain ⟨nF,hnF⟩ : ∃ nF,F.length = nF := ⟨_,rfl⟩
   rw [hnF] at hfl hFC ⊢
   have HNF := Aside0.mk hnF
   have HFC := Aside0.mk hFC
   have hB1s := HB1.out.size
   have hn3 : F3.length = nF + 1 := by rw [HF3.out];simp [HNF.out]
   have HN3 := Aside0.mk hn3
   have HCK : Aside0 (∀ (A3 : Option Addr) (c3 : Nat) (W : World),Kd.C k45 W A3 (nF + 1) F3 → nF + 1 ≤ c3 → Calls Try.prog 17 #[.slice A3 (nF + 1) c3] W fun e W' => e = .returned (.int .i64 q) ∧ Below W.heap.size W W') := ⟨fun A3 c3 W h1 h2 => by
    have := glyphcutterref16_Check.calls kc A3 c3 F3 q W (by rw [hn3];exact h1) (by rw [hn3];exact h2) hkc
    rwa [hn3] at this⟩
   clear hF hp hfs hFC hkc hnF hkl hF3 hq hn3
   by_cases hch : q = -1
   ·have hcb : (q == -1) = true := by simpa using hch
    go_wp2_with (first | ((with_reducible refine gate_builtin (b := .append) (xs := #[.tmp 20,.tmp 21]) rfl ?_);at_builtin;refine Kd.R_append_rows k45 (w0 := wr) wr.heap.size rfl (.tmp 20) (.tmp 21) 31 45 (.agg #[(.int .i64 0),(.int .i64 0)]) 16 rfl Try.underlying31 info45 rfl (by decide) (by omega) (.slice none 0 0) ([] : List S45) F Af nF cf (fun _ => True) (fun _ => False) rfl rfl (Kd.R_nil _ _ _ _ _) HFC.out (fun _ _ h => h) (fun _ h => h.elim) (fun _ _ => trivial) (Below.refl _ _) (Nat.le_refl _) (by simp only [List.length_nil];omega) ?_;intro v2 w2 ho2 hb2 hg2 hat2;have HO2 := Aside0.mk ho2;have HB2 := Aside0.mk hb2;have hy0 := (hb2.cell (World.block_lt_of_cell? wr _ hx0)).trans hx0;have hy1 := (hb2.cell (World.block_lt_of_cell? wr _ hx1)).trans hx1;clear ho2 hb2 hg2 hat2) | ((with_reducible refine gate_builtin (b := .append) (xs := #[.tmp 23,.tmp 28]) rfl ?_);at_builtin;refine Kd.R_append k45 (w0 := wr) wr.heap.size rfl (.tmp 23) (.tmp 28) 31 45 (.agg #[(.int .i64 0),(.int .i64 0)]) 16 rfl Try.underlying31 info45 rfl (by decide) (by omega) v2 ([] ++ F) p [.int .i64 p.f0,.int .i64 p.f1] (fun _ => True) (fun _ => False) rfl rfl (k45_mkM _ _ _ p) (fun _ hk => hk.elim) (fun _ _ => trivial) HO2.out HB2.out HB2.out.size (by simp only [List.nil_append];rw [HNF.out];omega) ?_;intro v3 w3 ho3 hb3 hg3 hat3;rw [← HF3.out] at ho3;obtain ⟨A3,c3,rfl,h3c,h3C⟩ := Kd.R_reads ho3;rw [HN3.out] at h3C h3c;have HO3 := Aside0.mk ho3;have HB3 := Aside0.mk hb3;have H3C := Aside0.mk h3C;have H3c := Aside0.mk h3c;clear ho3 hb3 hg3 hat3 h3C h3c) | (go_at_call 17;rw [HN3.out];with_reducible refine (HCK.out A3 c3 w3 H3C.out H3c.out).mono ?_;rintro e w4 ⟨rfl,hb4⟩;have HB4 := Aside0.mk hb4;clear hb4))
    go_roundg (m - (k + 1))
    case measure => omega
    case rel =>
     have hf : fineP (x.take (k + 1)) = F3 := by
      rw [HFS.out];unfold fineS;rw [if_pos (by have := HQ.out;rw [HF3.out,List.nil_append] at this;rw [this];exact hch),HF3.out,List.nil_append]
     refine ⟨k + 1,A3,c3,by omega,Nat.le_refl _,by go_num,by rw [hf,HN3.out],⟨?_⟩,⟨BW.out.trans ((HB3.out.trans (HB4.out.mono HB3.out.size)).mono hwrs)⟩⟩
     rw [hf]
     exact Kd.R_lower (Kd.R_below HO3.out HB4.out) (by omega)
   ·have hcb : (q == -1) = false := by simpa using hch
    go_wp2_with (first | ((with_reducible refine gate_builtin (b := .append) (xs := #[.tmp 20,.tmp 21]) rfl ?_);at_builtin;refine Kd.R_append_rows k45 (w0 := wr) wr.heap.size rfl (.tmp 20) (.tmp 21) 31 45 (.agg #[(.int .i64 0),(.int .i64 0)]) 16 rfl Try.underlying31 info45 rfl (by decide) (by omega) (.slice none 0 0) ([] : List S45) F Af nF cf (fun _ => True) (fun _ => False) rfl rfl (Kd.R_nil _ _ _ _ _) HFC.out (fun _ _ h => h) (fun _ h => h.elim) (fun _ _ => trivial) (Below.refl _ _) (Nat.le_refl _) (by simp only [List.length_nil];omega) ?_;intro v2 w2 ho2 hb2 hg2 hat2;have HO2 := Aside0.mk ho2;have HB2 := Aside0.mk hb2;have hy0 := (hb2.cell (World.block_lt_of_cell? wr _ hx0)).trans hx0;have hy1 := (hb2.cell (World.block_lt_of_cell? wr _ hx1)).trans hx1;clear ho2 hb2 hg2 hat2) | ((with_reducible refine gate_builtin (b := .append) (xs := #[.tmp 23,.tmp 28]) rfl ?_);at_builtin;refine Kd.R_append k45 (w0 := wr) wr.heap.size rfl (.tmp 23) (.tmp 28) 31 45 (.agg #[(.int .i64 0),(.int .i64 0)]) 16 rfl Try.underlying31 info45 rfl (by decide) (by omega) v2 ([] ++ F) p [.int .i64 p.f0,.int .i64 p.f1] (fun _ => True) (fun _ => False) rfl rfl (k45_mkM _ _ _ p) (fun _ hk => hk.elim) (fun _ _ => trivial) HO2.out HB2.out HB2.out.size (by simp only [List.nil_append];rw [HNF.out];omega) ?_;intro v3 w3 ho3 hb3 hg3 hat3;rw [← HF3.out] at ho3;obtain ⟨A3,c3,rfl,h3c,h3C⟩ := Kd.R_reads ho3;rw [HN3.out] at h3C h3c;have HO3 := Aside0.mk ho3;have HB3 := Aside0.mk hb3;have H3C := Aside0.mk h3C;have H3c := Aside0.mk h3c;clear ho3 hb3 hg3 hat3 h3C h3c) | (go_at_call 17;rw [HN3.out];with_reducible refine (HCK.out A3 c3 w3 H3C.out H3c.out).mono ?_;rintro e w4 ⟨rfl,hb4⟩;have HB4 := Aside0.mk hb4;clear hb4))
    go_roundg (m - (k + 1))
    case measure => omega
    case rel =>
     have hf : fineP (x.take (k + 1)) = F := by
      rw [HFS.out];unfold fineS;rw [if_neg (by have := HQ.out;rw [HF3.out,List.nil_append] at this;rw [this];exact hch)]
     refine ⟨k + 1,Af,cf,by omega,Nat.le_refl _,by go_num,by rw [hf,HNF.out],⟨?_⟩,⟨BW.out.trans ((HB3.out.trans (HB4.out.mono HB3.out.size)).mono hwrs)⟩⟩
     rw [hf]
     exact Kd.R_below HF.out (HB3.out.trans (HB4.out.mono HB3.out.size))
  ·have hkm : k = m := by omega
   subst hkm
   have hxt : x.take k = x := List.take_of_length_le (Nat.le_of_eq HM.out)
   rw [hxt] at HF ⊢
   obtain ⟨F,hF⟩ : ∃ F,F = fineP x := ⟨_,rfl⟩
   have HFE := Aside0.mk hF
   rw [← hF] at HF ⊢
   obtain ⟨nF,hnF⟩ : ∃ nF,F.length = nF := ⟨_,rfl⟩
   have HNF := Aside0.mk hnF
   have hfl := fine_len x
   rw [← hF,hnF,HM.out] at hfl
   have hff := HF.out
   rw [hnF] at hff
   have HF2 := Aside0.mk hff
   rw [hnF]
   have hB1s := HB1.out.size
   have hwrs := BW.out.size
   obtain ⟨wo,hwo⟩ : ∃ wo : World,wo = wr := ⟨_,rfl⟩
   rw [← hwo] at HF2 BW hwrs ⊢
   clear hxt hF hnF HF hff hwo
   have HFI0 : Aside0 (Kd.R k45 45 wo w.heap.size (fun k_ => w.heap.size ≤ k_ ∧ some k_ ≠ (Value.slice none 0 0).ownBlock) (.slice Af nF cf) F) := ⟨Kd.R_apart_nil (Kd.R_mono (Kd.R_tight rfl HF2.out) (fun k_ hk_ => Kd.R_base HF2.out k_ hk_.symm))⟩
   have HBW : Aside0 (Below w.heap.size w wo) := ⟨HB1.out.trans (BW.out.mono hB1s)⟩
   go_wp2
   go_loopg [9,10] n (fun gg v9 v10 wr2 => ∃ (j : Nat) (vo : Value),j ≤ n ∧ j ≤ 8 ∧ n - j ≤ gg ∧ v10 = .int .i64 j ∧ v9 = vo ∧ Aside0 (Kd.N k33 33 wr2 w.heap.size (fun k_ => w.heap.size ≤ k_) vo ((l0.take j).map (stepT F))) ∧ Aside0 (Kd.R k45 45 wr2 w.heap.size (fun k_ => w.heap.size ≤ k_ ∧ some k_ ≠ vo.ownBlock) (.slice Af nF cf) F) ∧ Aside0 (Below w.heap.size w wr2))
   case atStart => exact ⟨0,_,Nat.zero_le _,by omega,by omega,rfl,rfl,⟨Kd.N_nil _ _ _ _ _⟩,HFI0,HBW⟩
   case round =>
    obtain ⟨j,vo,hj,hj8,hjg,rfl,rfl,HV,HFI,BO⟩ := hrel
    by_cases hjn : j < n ∧ j < 8
    ·obtain ⟨hjn,hj7⟩ := hjn
     have hjz : (j : Int) < (n : Int) := by omega
     have hj8z : (j : Int) < 8 := by omega
     have hjl : j < l0.length := by rw [HN.out];exact hjn
     obtain ⟨ad,e1,hx0⟩ := Kd.at_int (by have := HR0.out;rwa [HN.out] at this) (j : Int) (by omega) (by omega)
     cases e1
     simp only [Int.toNat_natCast] at hx0
     have hz := HU.out _ (List.getElem_mem hjl)
     have htk : (l0.take (j + 1)).map (stepT F) = (l0.take j).map (stepT F) ++ [stepT F (rd l0 (j : Int))] := by
      rw [List.take_succ_eq_append_getElem hjl,List.map_append,rdi_get l0 j hjl];rfl
     rw [← rdi_get l0 j hjl] at hz
     obtain ⟨z,hzz⟩ : ∃ z,rd l0 (j : Int) = z := ⟨_,rfl⟩
     rw [hzz] at hx0 hz htk
     replace hx0 := (BO.out.cell (World.block_lt_of_cell? w _ hx0)).trans hx0
     have HTK := Aside0.mk htk
     have hjlen : ((l0.take j).map (stepT F)).length = j := by rw [List.length_map,List.length_take];omega
     have HJL := Aside0.mk hjlen
     have hwb := BO.out.size
     have htm : Int.tmod z 3 = z % 3 := Int.tmod_eq_emod_of_nonneg hz.1
     obtain ⟨hz0,hz1⟩ := hz
     clear hzz htk hjlen hjl
     by_cases h3 : 1 + z % 3 = 3
     ·have h3b : (1 + z % 3 == 3) = true := by simpa using h3
      go_wp2_with (first | ((with_reducible refine gate_builtin (b := .append) (xs := #[.tmp 56,.tmp 58]) rfl ?_);at_builtin;refine Kd.N_append k33 (w0 := w) (W := (wr.alloc (.cells #[.int .u8 3,.slice Af nF cf] 33))) w.heap.size rfl (.tmp 56) (.tmp 58) 25 33 (.agg #[(.int .u8 0),(.slice none 0 0)]) 32 rfl Try.underlying25 info33 rfl (by decide) (by omega) u9 ((l0.take j).map (stepT F)) (stepT F z) [.int .u8 3,.slice Af nF cf] (fun k_ => w.heap.size ≤ k_) (fun k_ => w.heap.size ≤ k_ ∧ some k_ ≠ u9.ownBlock) rfl (by first | (go_simp;done) | (go_simp;rfl)) (by have hst : stepT F z = ⟨3,F⟩ := (by unfold stepT;rw [if_pos h3,h3]);rw [hst];have hfr := Kd.R_below (w1 := (wr.alloc (.cells #[.int .u8 3,.slice Af nF cf] 33))) HFI.out ((Below.refl wr.heap.size wr).alloc (Nat.le_refl _) _);have hfc := (Kd.R_reads' hfr).2.1;have hff := Kd.R_F hfr;rw [← HNF.out] at hfc hff ⊢;exact k33_mkF _ _ (⟨3,F⟩ : S33) hfc hff) (fun _ h => h) (fun k_ hk_ => Nat.le_trans (Nat.le_trans hwb ((Below.refl wr.heap.size wr).alloc (Nat.le_refl _) _).size) hk_) (Kd.N_below HV.out ((Below.refl wr.heap.size wr).alloc (Nat.le_refl _) _)) (BO.out.trans (((Below.refl wr.heap.size wr).alloc (Nat.le_refl _) _).mono hwb)) (Nat.le_trans hwb ((Below.refl wr.heap.size wr).alloc (Nat.le_refl _) _).size) (by rw [HJL.out];omega) ?_;intro v1 w5 ho5 hb5 hg5 hat5;have HO5 := Aside0.mk ho5;have HB5 := Aside0.mk hb5;have HG5 := Aside0.mk hg5;have HAT5 := Aside0.mk hat5;clear ho5 hb5 hg5 hat5))
      skip
      go_roundg (n - (j + 1))
      case measure => omega
      case rel =>
       refine ⟨j + 1,v1,by omega,by omega,Nat.le_refl _,by go_num,rfl,⟨?_⟩,⟨Kd.R_after (Kd.R_below (w1 := (wr.alloc (.cells #[.int .u8 3,.slice Af nF cf] 33))) HFI.out ((Below.refl wr.heap.size wr).alloc (Nat.le_refl _) _)) HG5.out HAT5.out⟩,HB5⟩
       rw [HTK.out]
       exact HO5.out
     ·have h3b : (1 + z % 3 == 3) = false := by simpa using h3
      go_wp2_with (first | ((with_reducible refine gate_builtin (b := .append) (xs := #[.tmp 56,.tmp 58]) rfl ?_);at_builtin;refine Kd.N_append k33 (w0 := w) (W := (wr.alloc (.cells #[.int .u8 (1 + z % 3),.slice none 0 0] 33))) w.heap.size rfl (.tmp 56) (.tmp 58) 25 33 (.agg #[(.int .u8 0),(.slice none 0 0)]) 32 rfl Try.underlying25 info33 rfl (by decide) (by omega) u9 ((l0.take j).map (stepT F)) (stepT F z) [.int .u8 (1 + z % 3),.slice none 0 0] (fun k_ => w.heap.size ≤ k_) (fun k_ => w.heap.size ≤ k_ ∧ some k_ ≠ u9.ownBlock) rfl (by first | (go_simp;done) | (go_simp;rfl)) (by have hst : stepT F z = ⟨1 + z % 3,[]⟩ := (by unfold stepT;rw [if_neg h3]);rw [hst];exact k33_mkF _ _ (⟨1 + z % 3,[]⟩ : S33) (A1 := none) (c1 := 0) (Nat.le_refl _) (Kd.R_F (base := 0) (e := 45) (Kd.R_nil _ _ _ _ _))) (fun _ h => h) (fun k_ hk_ => Nat.le_trans (Nat.le_trans hwb ((Below.refl wr.heap.size wr).alloc (Nat.le_refl _) _).size) hk_) (Kd.N_below HV.out ((Below.refl wr.heap.size wr).alloc (Nat.le_refl _) _)) (BO.out.trans (((Below.refl wr.heap.size wr).alloc (Nat.le_refl _) _).mono hwb)) (Nat.le_trans hwb ((Below.refl wr.heap.size wr).alloc (Nat.le_refl _) _).size) (by rw [HJL.out];omega) ?_;intro v1 w5 ho5 hb5 hg5 hat5;have HO5 := Aside0.mk ho5;have HB5 := Aside0.mk hb5;have HG5 := Aside0.mk hg5;have HAT5 := Aside0.mk hat5;clear ho5 hb5 hg5 hat5))
      go_roundg (n - (j + 1))
      case measure => omega
      case rel =>
       refine ⟨j + 1,v1,by omega,by omega,Nat.le_refl _,by go_num,rfl,⟨?_⟩,⟨Kd.R_after (Kd.R_below (w1 := (wr.alloc (.cells #[.int .u8 (1 + z % 3),.slice none 0 0] 33))) HFI.out ((Below.refl wr.heap.size wr).alloc (Nat.le_refl _) _)) HG5.out HAT5.out⟩,HB5⟩
       rw [HTK.out]
       exact HO5.out
    ·have hend : stepsP l0 l1 = (l0.take j).map (stepT F) := by
      unfold stepsP
      rw [← HX.out,← HFE.out]
      congr 1
      rcases (by omega : j = 8 ∨ j = n) with h | h
      ·rw [h]
      ·rw [List.take_of_length_le (by rw [HN.out];omega),List.take_of_length_le (by rw [HN.out];omega)]
     have HEND := Aside0.mk hend
     clear hend
     by_cases hjn2 : j < n
     ·have hjz : (j : Int) < (n : Int) := by omega
      have hj8z : ¬ (j : Int) < 8 := by omega
      go_wp2
      go_ret
      exact ⟨_,rfl,by rw [HEND.out];exact HV.out,BO.out⟩
     ·have hjz : ¬ (j : Int) < (n : Int) := by omega
      go_wp2
      go_ret
      exact ⟨_,rfl,by rw [HEND.out];exact HV.out,BO.out⟩
end
end Go.Proofs.Ytfaahcgoinkmlaa.P
