/- set.Has, as a contract in the print's own form. -/
import Derived.Test.YtfaahcgoinkmlaaPx0
import Derived.Shelf.Abstract
import Derived.Shelf.RegionOpen
import Derived.Outline
import Derived.RangeFuncBox
namespace Go.Proofs.Ytfaahcgoinkmlaa.P
set_option linter.unusedVariables false
set_option linter.unusedSimpArgs false
section
open Go.RowKit Go.Shelf Go.Proofs.YtfaahcgoinkmlaaW.PrintWords Go.Proofs.YtfaahcgoinkmlaaW.PrintLast Go.Proofs.YtfaahcgoinkmlaaW.PrintMore
/-- What is asked of a predicate on spans. -/
def PredS (g : Nat) (lb : Array Value) (p : S79 → Bool) (w : World) : Prop :=
 ∀ (W : World) (x : S79),Below w.heap.size w W → Calls Try.prog g (#[.agg #[.int .i64 x.f0,.int .i64 x.f1]] ++ lb) W fun e w' => e = .returned (.bool (p x)) ∧ Below w.heap.size w w'
def idxP (p : S79 → Bool) (l : List S79) : Int := match l.findIdx? p with | some i => (i : Int) | none => -1
theorem idxP_nonneg (p : S79 → Bool) (l : List S79) : decide (0 ≤ idxP p l) = l.any p := by
 unfold idxP
 cases h : l.findIdx? p with
 | none => rw [List.findIdx?_eq_none_iff] at h;symm;simp;exact h
 | some i => rw [List.findIdx?_eq_some_iff_getElem] at h;obtain ⟨hi,h1,_⟩ := h;symm;simp;exact ⟨_,List.getElem_mem hi,h1⟩
set_option maxHeartbeats 2000000 in
theorem indexFuncS (g : Nat) (lb : Array Value) (p : S79 → Bool) (eg : ∀ args w,(callFunc g args).run Try.prog w = .ok (.enter g args) w) (A0 : Option Addr) (c0 : Nat) (l0 : List S79) (w : World) (hp : PredS g lb p w) (hr0 : Kd.C k79 w A0 l0.length l0) :
  Calls Try.prog 79 #[.slice A0 l0.length c0,.func (.func g) #[] lb] w fun e w' => e = .returned (.int .i64 (idxP p l0)) ∧ Below w.heap.size w w' := by
 have HR0 := Aside0.mk hr0
 have hbig := hr0.2.1
 clear hr0
 obtain ⟨n,hn⟩ : ∃ n,l0.length = n := ⟨_,rfl⟩
 have HN := Aside0.mk hn
 rw [hn] at hbig ⊢
 clear hn
 go_enter Try.func79,Try.ntmps79
 go_wp2
 go_loopg [5,8] n (fun gg _ s8 wr => ∃ kk : Nat,kk ≤ n ∧ n - kk ≤ gg ∧ s8 = .int .i64 kk ∧ Aside0 (Below w.heap.size w wr) ∧ Aside0 (∀ x ∈ l0.take kk,p x = false))
 case atStart => exact ⟨0,Nat.zero_le _,by omega,rfl,⟨Below.refl _ w⟩,⟨fun x hx => by simp at hx⟩⟩
 case round =>
  obtain ⟨kk,hkk,hg,rfl,BW,A⟩ := hrel
  by_cases hlt : kk < n
  ·have hltz : (kk : Int) < (n : Int) := by omega
   obtain ⟨x,hx⟩ : ∃ x,x = rd_T79 l0 kk := ⟨_,rfl⟩
   obtain ⟨ad,e1,hx0,hx1⟩ := at_T79 (by have := HR0.out;rwa [HN.out] at this) (kk : Int) (by omega) (by omega)
   cases e1
   have HX := Aside0.mk hx
   rw [← hx] at hx0 hx1
   clear hx
   simp only [Int.toNat_natCast] at hx0 hx1
   replace hx0 := (BW.out.cell (World.block_lt_of_cell? w _ hx0)).trans hx0
   replace hx1 := (BW.out.cell (World.block_lt_of_cell? w _ hx1)).trans hx1
   have hcall := hp wr x BW.out
   have hxx : l0[kk]? = some x := by
    have h1 : kk < l0.length := by rw [HN.out];exact hlt
    rw [HX.out,rd_T79,Int.toNat_natCast,List.getD_eq_getElem?_getD,List.getElem?_eq_getElem h1];rfl
   have HXX := Aside0.mk hxx
   clear hxx hp
   cases hq : p x with
   | true =>
    rw [hq] at hcall
    have HQ := Aside0.mk hq
    clear hq
    go_wp2_with (go_at_fn g;refine hcall.mono ?_;rintro e w' ⟨rfl,hb'⟩)
    go_ret
    refine ⟨?_,hb'⟩
    have h1 : l0.findIdx? p = some kk := by
     rw [List.findIdx?_eq_some_iff_getElem]
     obtain ⟨h2,h3⟩ := List.getElem?_eq_some_iff.1 HXX.out
     refine ⟨h2,by rw [h3];exact HQ.out,fun j hj => ?_⟩
     have := A.out (l0[j]'(by omega)) (List.mem_take_iff_getElem.2 ⟨j,by omega,rfl⟩)
     simpa using this
    unfold idxP
    rw [h1]
    rfl
   | false =>
    rw [hq] at hcall
    have HQ := Aside0.mk hq
    clear hq
    go_wp2_with (go_at_fn g;refine hcall.mono ?_;rintro e w' ⟨rfl,hb'⟩)
    go_roundg (n - (kk + 1))
    case measure => omega
    case rel =>
     refine ⟨kk + 1,by omega,by omega,by go_num,⟨hb'⟩,⟨fun y hy => ?_⟩⟩
     obtain ⟨h2,h3⟩ := List.getElem?_eq_some_iff.1 HXX.out
     rw [List.take_succ_eq_append_getElem h2,List.mem_append,List.mem_singleton] at hy
     rcases hy with hy | hy
     ·exact A.out y hy
     ·rw [hy,h3];exact HQ.out
  ·have hltz : ¬ (kk : Int) < (n : Int) := by omega
   have : kk = n := by omega
   subst this
   go_wp2
   go_ret
   refine ⟨?_,BW.out⟩
   have h1 : l0.findIdx? p = none := by
    rw [List.findIdx?_eq_none_iff]
    intro x hx
    exact A.out x (by rw [List.take_of_length_le (by rw [HN.out];exact Nat.le_refl _)];exact hx)
   unfold idxP
   rw [h1]
   rfl
set_option maxHeartbeats 2000000 in
theorem containsFuncS (g : Nat) (lb : Array Value) (p : S79 → Bool) (eg : ∀ args w,(callFunc g args).run Try.prog w = .ok (.enter g args) w) (A0 : Option Addr) (c0 : Nat) (l0 : List S79) (w : World) (hp : PredS g lb p w) (hr0 : Kd.C k79 w A0 l0.length l0) :
  Calls Try.prog 67 #[.slice A0 l0.length c0,.func (.func g) #[] lb] w fun e w' => e = .returned (.bool (l0.any p)) ∧ Below w.heap.size w w' := by
 have hcon := indexFuncS g lb p eg A0 c0 l0 w hp hr0
 have hany := idxP_nonneg p l0
 clear hr0 hp
 generalize idxP p l0 = r at hcon hany
 generalize l0.any p = b at hany ⊢
 generalize l0.length = n at hcon ⊢
 subst hany
 go_enter Try.func67,Try.ntmps67
 go_wp2_with (go_at_call 79;refine hcon.mono ?_;rintro e w' ⟨rfl,hb⟩)
 go_ret
 exact ⟨by simp,hb⟩
def hasP (l : List S79) (r : Int) : Bool := decide (0 ≤ r ∧ r ≤ 1114111 ∧ ¬ (55296 ≤ r ∧ r ≤ 57343)) && l.any fun s => decide (s.f0 ≤ r) && decide (r ≤ s.f1)
def set_Has.f (l0 : List S79) (a1 : Int) : Option Bool := some (hasP l0 a1)
set_option maxHeartbeats 1000000 in
theorem has1_calls (B : Nat) (r : Int) (w : World) (hB : B < w.heap.size) (hc : w.cell? ⟨B,0,none⟩ = some (.int .i64 r)) : PredS 68 #[.pointer (some ⟨B,0,none⟩)] (fun s => decide (s.f0 ≤ r) && decide (r ≤ s.f1)) w := by
 intro W x hb
 have hc' := (hb.cell (p := ⟨B,0,none⟩) hB).trans hc
 have hs := hb.size
 have hB' : B < W.heap.size := by omega
 have HB := Aside0.mk hb
 clear hb hc
 show Calls Try.prog 68 #[.agg #[.int .i64 x.f0,.int .i64 x.f1],.pointer (some ⟨B,0,none⟩)] W fun e w' => e = .returned (.bool (decide (x.f0 ≤ r) && decide (r ≤ x.f1))) ∧ Below w.heap.size w w'
 by_cases h1 : x.f0 ≤ r
 ·have h1' : decide (x.f0 ≤ r) = true := decide_eq_true h1
  rw [h1',Bool.true_and]
  go_enter Try.func68,Try.ntmps68
  go_wp2
  go_ret
  exact ⟨by simp,HB.out.alloc hs _⟩
 ·have h1' : decide (x.f0 ≤ r) = false := decide_eq_false h1
  rw [h1',Bool.false_and]
  go_enter Try.func68,Try.ntmps68
  go_wp2
  go_ret
  exact ⟨by simp,HB.out.alloc hs _⟩
set_option maxHeartbeats 2000000 in
theorem set_Has.calls (A0 : Option Addr) (c0 : Nat) (l0 : List S79) (a1 : Int) (r : Bool) (w : World) (hr0 : Kd.C k79 w A0 l0.length l0) (hc0 : l0.length ≤ c0) (h : set_Has.f l0 a1 = some r) :
  Calls Try.prog 54 #[.slice A0 l0.length c0,.int .i64 a1] w fun e w' => e = .returned (.bool r) ∧ Below w.heap.size w w' := by
 obtain rfl := Option.some.inj h
 clear h
 have eg := enters_of Try.func68 (by kernel_rfl) rfl
 have hcon := containsFuncS 68 #[.pointer (some ⟨w.heap.size,0,none⟩)] _ eg A0 c0 l0 (w.alloc (.cells #[.int .i64 a1] 3)) (has1_calls w.heap.size a1 _ (by simp) (Boxed.new w 3 (.int .i64 a1)).cell) (Kd.C_alloc hr0 _)
 clear eg hr0
 have hP : ∀ b,hasP l0 a1 = b → hasP l0 a1 = b := fun _ h => h
 unfold hasP
 generalize (l0.any fun s => decide (s.f0 ≤ a1) && decide (a1 ≤ s.f1)) = b at hcon ⊢
 clear hP
 generalize l0.length = n at hcon hc0 ⊢
 by_cases h1 : a1 < 0
 ·rw [decide_eq_false (by omega),Bool.false_and]
  go_enter Try.func54,Try.ntmps54
  go_wp2
  go_ret
  exact ⟨by simp,(Below.refl _ _).alloc (Nat.le_refl _) _⟩
 ·by_cases h2 : a1 ≤ 1114111
  ·by_cases h3 : 55296 ≤ a1
   ·by_cases h4 : a1 ≤ 57343
    ·rw [decide_eq_false (by omega),Bool.false_and]
     go_enter Try.func54,Try.ntmps54
     go_wp2
     go_ret
     exact ⟨by simp,(Below.refl _ _).alloc (Nat.le_refl _) _⟩
    ·rw [decide_eq_true (by omega),Bool.true_and]
     go_enter Try.func54,Try.ntmps54
     go_wp2_with (go_at_call 67;refine hcon.mono ?_;rintro e w' ⟨rfl,hb⟩)
     go_ret
     exact ⟨by simp,((Below.refl _ _).alloc (Nat.le_refl _) _).trans (hb.mono (by simp))⟩
   ·rw [decide_eq_true (by omega),Bool.true_and]
    go_enter Try.func54,Try.ntmps54
    go_wp2_with (go_at_call 67;refine hcon.mono ?_;rintro e w' ⟨rfl,hb⟩)
    go_ret
    exact ⟨by simp,((Below.refl _ _).alloc (Nat.le_refl _) _).trans (hb.mono (by simp))⟩
  ·rw [decide_eq_false (by omega),Bool.false_and]
   go_enter Try.func54,Try.ntmps54
   go_wp2
   go_ret
   exact ⟨by simp,(Below.refl _ _).alloc (Nat.le_refl _) _⟩
end
end Go.Proofs.Ytfaahcgoinkmlaa.P
