/- norm.Sound, as a contract in the print's own form. -/
import Derived.Test.YtfaahcgoinkmlaaPx0
import Derived.Test.YtfaahcgoinkmlaaGCheck
import Derived.Test.YtfaahcgoinkmlaaGCompose
import Derived.Test.YtfaahcgoinkmlaaGFold
import Derived.Test.YtfaahcgoinkmlaaGHas
import Derived.Shelf.Abstract
import Derived.Shelf.RegionOpen
import Derived.Outline
import Derived.RangeFuncBox
namespace Go.Proofs.Ytfaahcgoinkmlaa.P
set_option linter.unusedVariables false
set_option linter.unusedSimpArgs false
section
open Go.RowKit Go.Shelf Go.Proofs.YtfaahcgoinkmlaaW.PrintWords Go.Proofs.YtfaahcgoinkmlaaW.PrintLast Go.Proofs.YtfaahcgoinkmlaaW.PrintMore
/-- What is asked of a predicate on steps. -/
def PredSt (l0 : List S33) (g : Nat) (lb : Array Value) (p : S33 → Bool) (w : World) : Prop :=
 ∀ (W : World) (x : S33) (A1 : Option Addr) (c1 : Nat),Below w.heap.size w W → Kd.C k45 W A1 x.f1.length x.f1 → x.f1.length ≤ c1 → x ∈ l0 → Calls Try.prog g (#[.agg #[.int .u8 x.f0,.slice A1 x.f1.length c1]] ++ lb) W fun e w' => e = .returned (.bool (p x)) ∧ Below w.heap.size w w'
def idxSt (p : S33 → Bool) (l : List S33) : Int := match l.findIdx? p with | some i => (i : Int) | none => -1
theorem idxSt_nonneg (p : S33 → Bool) (l : List S33) : decide (0 ≤ idxSt p l) = l.any p := by
 unfold idxSt
 cases h : l.findIdx? p with
 | none => rw [List.findIdx?_eq_none_iff] at h;symm;simp;exact h
 | some i => rw [List.findIdx?_eq_some_iff_getElem] at h;obtain ⟨hi,h1,_⟩ := h;symm;simp;exact ⟨_,List.getElem_mem hi,h1⟩
set_option maxHeartbeats 2000000 in
theorem indexFuncSt (g : Nat) (lb : Array Value) (p : S33 → Bool) (eg : ∀ args w,(callFunc g args).run Try.prog w = .ok (.enter g args) w) (A0 : Option Addr) (c0 : Nat) (l0 : List S33) (w : World) (hp : PredSt l0 g lb p w) (hr0 : Kd.C k33 w A0 l0.length l0) :
  Calls Try.prog 60 #[.slice A0 l0.length c0,.func (.func g) #[] lb] w fun e w' => e = .returned (.int .i64 (idxSt p l0)) ∧ Below w.heap.size w w' := by
 have HR0 := Aside0.mk hr0
 have hbig := hr0.2.1
 clear hr0
 obtain ⟨n,hn⟩ : ∃ n,l0.length = n := ⟨_,rfl⟩
 have HN := Aside0.mk hn
 rw [hn] at hbig ⊢
 clear hn
 go_enter Try.func60,Try.ntmps60
 go_wp2
 go_loopg [5,8] n (fun gg _ s8 wr => ∃ kk : Nat,kk ≤ n ∧ n - kk ≤ gg ∧ s8 = .int .i64 kk ∧ Aside0 (Below w.heap.size w wr) ∧ Aside0 (∀ x ∈ l0.take kk,p x = false))
 case atStart => exact ⟨0,Nat.zero_le _,by omega,rfl,⟨Below.refl _ w⟩,⟨fun x hx => by simp at hx⟩⟩
 case round =>
  obtain ⟨kk,hkk,hg,rfl,BW,A⟩ := hrel
  by_cases hlt : kk < n
  ·have hltz : (kk : Int) < (n : Int) := by omega
   obtain ⟨x,hx⟩ : ∃ x,x = rd_T33 l0 kk := ⟨_,rfl⟩
   obtain ⟨ad,A1,c1,e1,hx0,hx1,hcl,hi0⟩ := at_T33 (by have := HR0.out;rwa [HN.out] at this) (kk : Int) (by omega) (by omega)
   cases e1
   have HX := Aside0.mk hx
   rw [← hx] at hx0 hx1 hcl hi0
   clear hx
   simp only [Int.toNat_natCast] at hx0 hx1
   replace hx0 := (BW.out.cell (World.block_lt_of_cell? w _ hx0)).trans hx0
   replace hx1 := (BW.out.cell (World.block_lt_of_cell? w _ hx1)).trans hx1
   have hxx : l0[kk]? = some x := by
    have h1 : kk < l0.length := by rw [HN.out];exact hlt
    rw [HX.out,rd_T33,Int.toNat_natCast,List.getD_eq_getElem?_getD,List.getElem?_eq_getElem h1];rfl
   have hcall := hp wr x A1 c1 BW.out (Kd.C_below hi0 BW.out) hcl (List.mem_of_getElem? hxx)
   have HXX := Aside0.mk hxx
   clear hxx hp hi0
   obtain ⟨m,hm⟩ : ∃ m,x.f1.length = m := ⟨_,rfl⟩
   rw [hm] at hx1 hcl hcall
   clear hm
   cases hq : p x with
   | true =>
    rw [hq] at hcall
    have HQ := Aside0.mk hq
    clear hq
    go_wp2_with (go_at_fn g;refine hcall.mono ?_;rintro e w' ⟨rfl,hb'⟩)
    go_ret
    refine ⟨?_,hb'⟩
    have h1 : l0.findIdx? p = some kk := by
     rw [List.findIdx?_eq_some_iff_getElem]
     obtain ⟨h2,h3⟩ := List.getElem?_eq_some_iff.1 HXX.out
     refine ⟨h2,by rw [h3];exact HQ.out,fun j hj => ?_⟩
     have := A.out (l0[j]'(by omega)) (List.mem_take_iff_getElem.2 ⟨j,by omega,rfl⟩)
     simpa using this
    unfold idxSt
    rw [h1]
    rfl
   | false =>
    rw [hq] at hcall
    have HQ := Aside0.mk hq
    clear hq
    go_wp2_with (go_at_fn g;refine hcall.mono ?_;rintro e w' ⟨rfl,hb'⟩)
    go_roundg (n - (kk + 1))
    case measure => omega
    case rel =>
     refine ⟨kk + 1,by omega,by omega,by go_num,⟨hb'⟩,⟨fun y hy => ?_⟩⟩
     obtain ⟨h2,h3⟩ := List.getElem?_eq_some_iff.1 HXX.out
     rw [List.take_succ_eq_append_getElem h2,List.mem_append,List.mem_singleton] at hy
     rcases hy with hy | hy
     ·exact A.out y hy
     ·rw [hy,h3];exact HQ.out
  ·have hltz : ¬ (kk : Int) < (n : Int) := by omega
   have : kk = n := by omega
   subst this
   go_wp2
   go_ret
   refine ⟨?_,BW.out⟩
   have h1 : l0.findIdx? p = none := by
    rw [List.findIdx?_eq_none_iff]
    intro x hx
    exact A.out x (by rw [List.take_of_length_le (by rw [HN.out];exact Nat.le_refl _)];exact hx)
   unfold idxSt
   rw [h1]
   rfl
set_option maxHeartbeats 2000000 in
theorem containsFuncSt (g : Nat) (lb : Array Value) (p : S33 → Bool) (eg : ∀ args w,(callFunc g args).run Try.prog w = .ok (.enter g args) w) (A0 : Option Addr) (c0 : Nat) (l0 : List S33) (w : World) (hp : PredSt l0 g lb p w) (hr0 : Kd.C k33 w A0 l0.length l0) :
  Calls Try.prog 43 #[.slice A0 l0.length c0,.func (.func g) #[] lb] w fun e w' => e = .returned (.bool (l0.any p)) ∧ Below w.heap.size w w' := by
 have hcon := indexFuncSt g lb p eg A0 c0 l0 w hp hr0
 have hany := idxSt_nonneg p l0
 clear hr0 hp
 generalize idxSt p l0 = r at hcon hany
 generalize l0.any p = b at hany ⊢
 generalize l0.length = n at hcon ⊢
 subst hany
 go_enter Try.func43,Try.ntmps43
 go_wp2_with (go_at_call 60;refine hcon.mono ?_;rintro e w' ⟨rfl,hb⟩)
 go_ret
 exact ⟨by simp,hb⟩
/-- A step that may not be. -/
def oddP (x : S33) : Bool := if x.f0 = 1 ∨ x.f0 = 2 then decide (0 < x.f1.length) else if x.f0 = 3 then decide (0 ≤ checkP x.f1) else true
def soundP (l : List S33) : Bool := decide (l.length ≤ 8) && !l.any oddP
def WfS (l : List S33) : Prop := ∀ x ∈ l,WfP x.f1
instance (l : List S33) : Decidable (WfS l) := by unfold WfS;infer_instance
def norm_Sound.f (l0 : List S33) : Option Bool := if WfS l0 then some (soundP l0) else none
set_option maxHeartbeats 1000000 in
theorem odd_calls (x : S33) (A1 : Option Addr) (c1 : Nat) (W : World) (hr : Kd.C k45 W A1 x.f1.length x.f1) (hc : x.f1.length ≤ c1) (hw : WfP x.f1) :
  Calls Try.prog 42 #[.agg #[.int .u8 x.f0,.slice A1 x.f1.length c1]] W fun e W' => e = .returned (.bool (oddP x)) ∧ Below W.heap.size W W' := by
 obtain ⟨z,l⟩ := x
 simp only at hc hr hw ⊢
 have hbl := hr.2.1
 have hcon := norm_Check.calls A1 c1 l (checkP l) (W.alloc (.cells #[.int .u8 z,.slice A1 l.length c1] 33)) (Kd.C_alloc hr _) hc (by unfold norm_Check.f;rw [if_pos hw])
 have hcon2 := norm_Check.calls A1 c1 l (checkP l) W hr hc (by unfold norm_Check.f;rw [if_pos hw])
 clear hr hw
 by_cases h1 : z = 1 ∨ z = 2
 ·have e : oddP ⟨z,l⟩ = decide (0 < l.length) := by unfold oddP;rw [if_pos h1]
  rw [e]
  clear hcon hcon2 e
  generalize l.length = n at *
  rcases h1 with h1 | h1
  ·subst h1
   go_enter Try.func42,Try.ntmps42
   go_wp2
   go_ret
   exact ⟨by simp,by first | exact Below.refl _ _ | exact (Below.refl _ _).alloc (Nat.le_refl _) _⟩
  ·subst h1
   go_enter Try.func42,Try.ntmps42
   go_wp2
   go_ret
   exact ⟨by simp,by first | exact Below.refl _ _ | exact (Below.refl _ _).alloc (Nat.le_refl _) _⟩
 ·by_cases h3 : z = 3
  ·have e : oddP ⟨z,l⟩ = decide (0 ≤ checkP l) := by unfold oddP;rw [if_neg h1,if_pos h3]
   rw [e]
   subst h3
   clear e h1
   generalize checkP l = v at *
   generalize l.length = n at *
   go_enter Try.func42,Try.ntmps42
   go_wp2_with (go_at_call 16;first | (refine hcon.mono ?_;rintro e w1 ⟨rfl,hb⟩) | (refine hcon2.mono ?_;rintro e w1 ⟨rfl,hb⟩))
   go_ret
   exact ⟨by simp,by first | exact hb | exact ((Below.refl _ _).alloc (Nat.le_refl _) _).trans (hb.mono (by simp))⟩
  ·have e : oddP ⟨z,l⟩ = true := by unfold oddP;rw [if_neg h1,if_neg h3]
   rw [e]
   obtain ⟨h1a,h1b⟩ := not_or.1 h1
   clear hcon hcon2 e h1
   generalize l.length = n at *
   go_enter Try.func42,Try.ntmps42
   go_wp2
   go_ret
   exact ⟨rfl,by first | exact Below.refl _ _ | exact (Below.refl _ _).alloc (Nat.le_refl _) _⟩
set_option maxHeartbeats 2000000 in
theorem norm_Sound.calls (A0 : Option Addr) (c0 : Nat) (l0 : List S33) (r : Bool) (w : World) (hr0 : Kd.C k33 w A0 l0.length l0) (hc0 : l0.length ≤ c0) (h : norm_Sound.f l0 = some r) :
  Calls Try.prog 23 #[.slice A0 l0.length c0] w fun e w' => e = .returned (.bool r) ∧ Below w.heap.size w w' := by
 unfold norm_Sound.f at h
 split at h
 case isFalse => cases h
 rename_i hwf
 obtain rfl := Option.some.inj h
 clear h
 have eg := enters_of Try.func42 (by kernel_rfl) rfl
 have hbig := hr0.2.1
 have hcon := containsFuncSt 42 #[] oddP eg A0 c0 l0 w (fun W x A1 c1 hb hr hc hm => (odd_calls x A1 c1 W hr hc (hwf x hm)).mono fun e w' ⟨h1,h2⟩ => ⟨h1,hb.trans (h2.mono hb.size)⟩) hr0
 unfold soundP
 clear hr0 hwf eg
 generalize l0.any oddP = b at hcon ⊢
 generalize l0.length = n at *
 by_cases h8 : n ≤ 8
 ·rw [decide_eq_true h8,Bool.true_and]
  go_enter Try.func23,Try.ntmps23
  go_wp2_with (go_at_call 43;refine hcon.mono ?_;rintro e w' ⟨rfl,hb⟩)
  go_ret
  exact ⟨by simp,hb⟩
 ·rw [decide_eq_false h8,Bool.false_and]
  go_enter Try.func23,Try.ntmps23
  go_wp2
  go_ret
  exact ⟨by simp,Below.refl _ _⟩
end
end Go.Proofs.Ytfaahcgoinkmlaa.P
