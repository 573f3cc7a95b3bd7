/- norm.Map, as a contract in the print's own form. -/
import Derived.Test.YtfaahcgoinkmlaaPx0
import Derived.Shelf.Abstract
import Derived.Shelf.RegionOpen
import Derived.Outline
import Derived.RangeFuncBox
namespace Go.Proofs.Ytfaahcgoinkmlaa.P
set_option linter.unusedVariables false
set_option linter.unusedSimpArgs false
section
open Go.RowKit Go.Shelf Go.Proofs.YtfaahcgoinkmlaaW.PrintWords Go.Proofs.YtfaahcgoinkmlaaW.PrintLast Go.Proofs.YtfaahcgoinkmlaaW.PrintMore
/-- What is asked of a predicate on pairs. -/
def PredPr (g : Nat) (lb : Array Value) (p : S45 → Bool) (w : World) : Prop :=
 ∀ (W : World) (x : S45),Below w.heap.size w W → Calls Try.prog g (#[.agg #[.int .i64 x.f0,.int .i64 x.f1]] ++ lb) W fun e w' => e = .returned (.bool (p x)) ∧ Below w.heap.size w w'
def idxPr (p : S45 → Bool) (l : List S45) : Int := match l.findIdx? p with | some i => (i : Int) | none => -1
theorem idxPr_nonneg (p : S45 → Bool) (l : List S45) : decide (0 ≤ idxPr p l) = l.any p := by
 unfold idxPr
 cases h : l.findIdx? p with
 | none => rw [List.findIdx?_eq_none_iff] at h;symm;simp;exact h
 | some i => rw [List.findIdx?_eq_some_iff_getElem] at h;obtain ⟨hi,h1,_⟩ := h;symm;simp;exact ⟨_,List.getElem_mem hi,h1⟩
set_option maxHeartbeats 2000000 in
theorem indexFuncPr (g : Nat) (lb : Array Value) (p : S45 → Bool) (eg : ∀ args w,(callFunc g args).run Try.prog w = .ok (.enter g args) w) (A0 : Option Addr) (c0 : Nat) (l0 : List S45) (w : World) (hp : PredPr g lb p w) (hr0 : Kd.C k45 w A0 l0.length l0) :
  Calls Try.prog 35 #[.slice A0 l0.length c0,.func (.func g) #[] lb] w fun e w' => e = .returned (.int .i64 (idxPr p l0)) ∧ Below w.heap.size w w' := by
 have HR0 := Aside0.mk hr0
 have hbig := hr0.2.1
 clear hr0
 obtain ⟨n,hn⟩ : ∃ n,l0.length = n := ⟨_,rfl⟩
 have HN := Aside0.mk hn
 rw [hn] at hbig ⊢
 clear hn
 go_enter Try.func35,Try.ntmps35
 go_wp2
 go_loopg [5,8] n (fun gg _ s8 wr => ∃ kk : Nat,kk ≤ n ∧ n - kk ≤ gg ∧ s8 = .int .i64 kk ∧ Aside0 (Below w.heap.size w wr) ∧ Aside0 (∀ x ∈ l0.take kk,p x = false))
 case atStart => exact ⟨0,Nat.zero_le _,by omega,rfl,⟨Below.refl _ w⟩,⟨fun x hx => by simp at hx⟩⟩
 case round =>
  obtain ⟨kk,hkk,hg,rfl,BW,A⟩ := hrel
  by_cases hlt : kk < n
  ·have hltz : (kk : Int) < (n : Int) := by omega
   obtain ⟨x,hx⟩ : ∃ x,x = rd_T45 l0 kk := ⟨_,rfl⟩
   obtain ⟨ad,e1,hx0,hx1⟩ := at_T45 (by have := HR0.out;rwa [HN.out] at this) (kk : Int) (by omega) (by omega)
   cases e1
   have HX := Aside0.mk hx
   rw [← hx] at hx0 hx1
   clear hx
   simp only [Int.toNat_natCast] at hx0 hx1
   replace hx0 := (BW.out.cell (World.block_lt_of_cell? w _ hx0)).trans hx0
   replace hx1 := (BW.out.cell (World.block_lt_of_cell? w _ hx1)).trans hx1
   have hcall := hp wr x BW.out
   have hxx : l0[kk]? = some x := by
    have h1 : kk < l0.length := by rw [HN.out];exact hlt
    rw [HX.out,rd_T45,Int.toNat_natCast,List.getD_eq_getElem?_getD,List.getElem?_eq_getElem h1];rfl
   have HXX := Aside0.mk hxx
   clear hxx hp
   cases hq : p x with
   | true =>
    rw [hq] at hcall
    have HQ := Aside0.mk hq
    clear hq
    go_wp2_with (go_at_fn g;refine hcall.mono ?_;rintro e w' ⟨rfl,hb'⟩)
    go_ret
    refine ⟨?_,hb'⟩
    have h1 : l0.findIdx? p = some kk := by
     rw [List.findIdx?_eq_some_iff_getElem]
     obtain ⟨h2,h3⟩ := List.getElem?_eq_some_iff.1 HXX.out
     refine ⟨h2,by rw [h3];exact HQ.out,fun j hj => ?_⟩
     have := A.out (l0[j]'(by omega)) (List.mem_take_iff_getElem.2 ⟨j,by omega,rfl⟩)
     simpa using this
    unfold idxPr
    rw [h1]
    rfl
   | false =>
    rw [hq] at hcall
    have HQ := Aside0.mk hq
    clear hq
    go_wp2_with (go_at_fn g;refine hcall.mono ?_;rintro e w' ⟨rfl,hb'⟩)
    go_roundg (n - (kk + 1))
    case measure => omega
    case rel =>
     refine ⟨kk + 1,by omega,by omega,by go_num,⟨hb'⟩,⟨fun y hy => ?_⟩⟩
     obtain ⟨h2,h3⟩ := List.getElem?_eq_some_iff.1 HXX.out
     rw [List.take_succ_eq_append_getElem h2,List.mem_append,List.mem_singleton] at hy
     rcases hy with hy | hy
     ·exact A.out y hy
     ·rw [hy,h3];exact HQ.out
  ·have hltz : ¬ (kk : Int) < (n : Int) := by omega
   have : kk = n := by omega
   subst this
   go_wp2
   go_ret
   refine ⟨?_,BW.out⟩
   have h1 : l0.findIdx? p = none := by
    rw [List.findIdx?_eq_none_iff]
    intro x hx
    exact A.out x (by rw [List.take_of_length_le (by rw [HN.out];exact Nat.le_refl _)];exact hx)
   unfold idxPr
   rw [h1]
   rfl
/-- Where pairs take a number. -/
def mapP (l : List S45) (r : Int) : Int := match l.find? fun p => decide (p.f0 = r) with | some p => p.f1 | none => r
def norm_Map.f (l0 : List S45) (a1 : Int) : Option Int := some (mapP l0 a1)
theorem find_idx (p : S45 → Bool) : ∀ (l : List S45),l.find? p = (l.findIdx? p).map fun i => l.getD i z45
 | [] => rfl
 | a :: l => by
  rw [List.find?_cons,List.findIdx?_cons]
  cases h : p a with
  | true => simp
  | false => simp only [Bool.false_eq_true,if_false];rw [find_idx p l];cases l.findIdx? p <;> simp
theorem map_idx (l : List S45) (r : Int) : mapP l r = if 0 ≤ idxPr (fun p => decide (p.f0 = r)) l then (rd_T45 l (idxPr (fun p => decide (p.f0 = r)) l)).f1 else r := by
 unfold mapP idxPr
 rw [find_idx]
 cases h : l.findIdx? fun p => decide (p.f0 = r) with
 | none => simp
 | some i => simp [rd_T45]
theorem idx_lt (p : S45 → Bool) (l : List S45) (h : 0 ≤ idxPr p l) : idxPr p l < (l.length : Int) := by
 unfold idxPr at h ⊢
 cases e : l.findIdx? p with
 | none => rw [e] at h;simp at h
 | some i => rw [List.findIdx?_eq_some_iff_getElem] at e;obtain ⟨hi,_⟩ := e;simp only;omega
set_option maxHeartbeats 1000000 in
theorem map1_calls (B : Nat) (r : Int) (w : World) (hB : B < w.heap.size) (hc : w.cell? ⟨B,0,none⟩ = some (.int .i64 r)) : PredPr 36 #[.pointer (some ⟨B,0,none⟩)] (fun p => decide (p.f0 = r)) w := by
 intro W x hb
 have hc' := (hb.cell (p := ⟨B,0,none⟩) hB).trans hc
 have hs := hb.size
 have hB' : B < W.heap.size := by omega
 have HB := Aside0.mk hb
 clear hb hc
 show Calls Try.prog 36 #[.agg #[.int .i64 x.f0,.int .i64 x.f1],.pointer (some ⟨B,0,none⟩)] W fun e w' => e = .returned (.bool (decide (x.f0 = r))) ∧ Below w.heap.size w w'
 go_enter Try.func36,Try.ntmps36
 go_wp2
 go_ret
 exact ⟨by first | rfl | (congr 3;exact Bool.eq_iff_iff.2 (by simp)),HB.out.alloc hs _⟩
set_option maxHeartbeats 2000000 in
theorem norm_Map.calls (A0 : Option Addr) (c0 : Nat) (l0 : List S45) (a1 : Int) (r : Int) (w : World) (hr0 : Kd.C k45 w A0 l0.length l0) (hc0 : l0.length ≤ c0) (h : norm_Map.f l0 a1 = some r) :
  Calls Try.prog 18 #[.slice A0 l0.length c0,.int .i64 a1] w fun e w' => e = .returned (.int .i64 r) ∧ Below w.heap.size w w' := by
 obtain rfl := Option.some.inj h
 clear h
 have eg := enters_of Try.func36 (by kernel_rfl) rfl
 have hcon := indexFuncPr 36 #[.pointer (some ⟨w.heap.size,0,none⟩)] _ eg A0 c0 l0 (w.alloc (.cells #[.int .i64 a1] 3)) (map1_calls w.heap.size a1 _ (by simp) (Boxed.new w 3 (.int .i64 a1)).cell) (Kd.C_alloc hr0 _)
 clear eg
 have HR0 := Aside0.mk hr0
 rw [map_idx]
 have hlt := idx_lt (fun p => decide (p.f0 = a1)) l0
 generalize idxPr (fun p => decide (p.f0 = a1)) l0 = q at hcon hlt ⊢
 by_cases hq : 0 ≤ q
 ·rw [if_pos hq]
  have hql := hlt hq
  obtain ⟨x,hx⟩ : ∃ x,x = rd_T45 l0 q := ⟨_,rfl⟩
  obtain ⟨ad,e1,hx0,hx1⟩ := at_T45 HR0.out q hq (by omega)
  subst e1
  rw [← hx] at hx0 hx1 ⊢
  clear hx HR0 hr0 hlt
  generalize l0.length = n at hcon hc0 hql ⊢
  have hb0 := World.block_lt_of_cell? w _ hx1
  go_enter Try.func18,Try.ntmps18
  go_wp2_with (go_at_call 35;refine hcon.mono ?_;rintro e w' ⟨rfl,hb⟩;replace hx0 := ((((Below.refl _ _).alloc (Nat.le_refl _) _).trans (hb.mono (by simp))).cell (World.block_lt_of_cell? w _ hx0)).trans hx0;replace hx1 := ((((Below.refl _ _).alloc (Nat.le_refl _) _).trans (hb.mono (by simp))).cell (World.block_lt_of_cell? w _ hx1)).trans hx1)
  go_ret
  exact ⟨by simp,((Below.refl _ _).alloc (Nat.le_refl _) _).trans (hb.mono (by simp))⟩
 ·rw [if_neg hq]
  clear hlt HR0 hr0
  generalize l0.length = n at hcon hc0 ⊢
  go_enter Try.func18,Try.ntmps18
  go_wp2_with (go_at_call 35;refine hcon.mono ?_;rintro e w' ⟨rfl,hb⟩;have hbx := (hb.cell (p := ⟨w.heap.size,0,none⟩) (by simp)).trans (Boxed.new w 3 (.int .i64 a1)).cell)
  go_ret
  exact ⟨by simp,((Below.refl _ _).alloc (Nat.le_refl _) _).trans (hb.mono (by simp))⟩
end
end Go.Proofs.Ytfaahcgoinkmlaa.P
