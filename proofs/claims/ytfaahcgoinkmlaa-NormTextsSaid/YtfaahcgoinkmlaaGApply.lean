/- norm.Apply, as a contract in the print's own form. -/
import Derived.Test.YtfaahcgoinkmlaaPx0
import Derived.Test.YtfaahcgoinkmlaaGFold
import Derived.Test.YtfaahcgoinkmlaaGMapP
import Derived.Shelf.Abstract
import Derived.Outline
namespace Go.Proofs.Ytfaahcgoinkmlaa.P
set_option linter.unusedVariables false
set_option linter.unusedSimpArgs false
section
open Go.RowKit Go.Shelf Go.Proofs.YtfaahcgoinkmlaaW.PrintWords Go.Proofs.YtfaahcgoinkmlaaW.PrintLast Go.Proofs.YtfaahcgoinkmlaaW.PrintMore
/-- What a step makes of a number. -/
def stepP (x : S33) (r : Int) : Int := if x.f0 = 1 then foldF r else if x.f0 = 2 then (if r = 13 then 10 else r) else if x.f0 = 3 then mapP x.f1 r else r
def applyP (l : List S33) (r : Int) : Int := l.foldl (fun r x => stepP x r) r
def norm_Apply.f (l0 : List S33) (a1 : Int) : Option Int := some (applyP l0 a1)
/-- A function value that does what a step does. -/
def StepF (g : Nat) (lb : Array Value) (x : S33) (w : World) : Prop :=
 (∀ args W,(callFunc g args).run Try.prog W = .ok (.enter g args) W) ∧ ∀ (W : World) (r : Int),Below w.heap.size w W → Calls Try.prog g (#[.int .i64 r] ++ lb) W fun e W' => e = .returned (.int .i64 (stepP x r)) ∧ Below W.heap.size W W'
theorem does0_calls (r : Int) (W : World) : Calls Try.prog 48 #[.int .i64 r] W fun e W' => e = .returned (.int .i64 (if r = 13 then 10 else r)) ∧ Below W.heap.size W W' := by
 by_cases h : r = 13
 ·rw [if_pos h]
  subst h
  go_enter Try.func48,Try.ntmps48
  go_wp2
  go_ret
  exact ⟨rfl,Below.refl _ _⟩
 ·rw [if_neg h]
  go_enter Try.func48,Try.ntmps48
  go_wp2
  go_ret
  exact ⟨rfl,Below.refl _ _⟩
theorem does4_calls (r : Int) (W : World) : Calls Try.prog 50 #[.int .i64 r] W fun e W' => e = .returned (.int .i64 r) ∧ Below W.heap.size W W' := by
 go_enter Try.func50,Try.ntmps50
 go_wp2
 go_ret
 exact ⟨rfl,Below.refl _ _⟩
set_option maxHeartbeats 1000000 in
theorem does3_calls (B : Nat) (A1 : Option Addr) (c1 : Nat) (l : List S45) (W : World) (hc0 : W.cell? ⟨B,1,none⟩ = some (.slice A1 l.length c1)) (hr : Kd.C k45 W A1 l.length l) (hc : l.length ≤ c1) (r : Int) :
  Calls Try.prog 49 #[.int .i64 r,.pointer (some ⟨B,0,none⟩)] W fun e W' => e = .returned (.int .i64 (mapP l r)) ∧ Below W.heap.size W W' := by
 have hcon := norm_Map.calls A1 c1 l r _ W hr hc rfl
 clear hr
 generalize mapP l r = v at hcon ⊢
 generalize l.length = n at *
 go_enter Try.func49,Try.ntmps49
 go_wp2_with (go_at_call 18;refine hcon.mono ?_;rintro e w' ⟨rfl,hb⟩)
 go_ret
 exact ⟨rfl,hb⟩
set_option maxHeartbeats 1000000 in
theorem does_calls (x : S33) (A1 : Option Addr) (c1 : Nat) (w : World) (hr : Kd.C k45 w A1 x.f1.length x.f1) (hc : x.f1.length ≤ c1) :
  Calls Try.prog 29 #[.agg #[.int .u8 x.f0,.slice A1 x.f1.length c1]] w fun e w' => ∃ g lb,e = .returned (.func (.func g) #[] lb) ∧ Below w.heap.size w w' ∧ StepF g lb x w' := by
 have HR := Aside0.mk hr
 clear hr
 obtain ⟨z,l⟩ := x
 simp only at hc HR ⊢
 have hx : ∀ (z' : Int) (l' : List S45),StepF = StepF := fun _ _ => rfl
 clear hx
 have hblk : (w.alloc (.cells #[.int .u8 z,.slice A1 l.length c1] 33)).heap[w.heap.size]? = some (.cells #[.int .u8 z,.slice A1 l.length c1] 33 (0,0)) := heap_alloc_new _ _
 have hnew := blk_cell hblk 0
 have hnew1 := blk_cell hblk 1
 have HN1 := Aside0.mk hnew1
 clear hblk
 obtain ⟨n,hn⟩ : ∃ n,l.length = n := ⟨_,rfl⟩
 have HNl := Aside0.mk hn
 rw [hn] at hc ⊢
 clear hnew1 hn hnew
 by_cases h1 : z = 1
 ·subst h1
  go_enter Try.func29,Try.ntmps29
  go_wp2
  go_ret
  exact ⟨_,_,rfl,(Below.refl _ _).alloc (Nat.le_refl _) _,enters_of Try.func47 (by kernel_rfl) rfl,fun W r _ => fold_Fold.calls r _ W rfl⟩
 ·by_cases h2 : z = 2
  ·subst h2
   go_enter Try.func29,Try.ntmps29
   go_wp2
   go_ret
   exact ⟨_,_,rfl,(Below.refl _ _).alloc (Nat.le_refl _) _,enters_of Try.func48 (by kernel_rfl) rfl,fun W r _ => does0_calls r W⟩
  ·by_cases h3 : z = 3
   ·subst h3
    go_enter Try.func29,Try.ntmps29
    go_wp2
    go_ret
    refine ⟨_,_,rfl,(Below.refl _ _).alloc (Nat.le_refl _) _,enters_of Try.func49 (by kernel_rfl) rfl,fun W r hb => ?_⟩
    have hq := HN1.out
    rw [← HNl.out] at hb
    exact does3_calls w.heap.size A1 c1 l W ((hb.cell (p := ⟨w.heap.size,1,none⟩) (by simp)).trans hq) (Kd.C_below (Kd.C_alloc HR.out _) hb) (by rw [HNl.out];exact hc) r
   ·go_enter Try.func29,Try.ntmps29
    go_wp2
    go_ret
    refine ⟨_,_,rfl,(Below.refl _ _).alloc (Nat.le_refl _) _,enters_of Try.func50 (by kernel_rfl) rfl,fun W r hb => ?_⟩
    have e : stepP ⟨z,l⟩ r = r := by unfold stepP;rw [if_neg h1,if_neg h2,if_neg h3]
    rw [e]
    exact does4_calls r W
theorem apply_snoc (l : List S33) (k : Nat) (h : k < l.length) (r : Int) : applyP (l.take (k + 1)) r = stepP (rd_T33 l k) (applyP (l.take k) r) := by
 unfold applyP
 rw [List.take_succ_eq_append_getElem h,List.foldl_append]
 simp [rd_T33,List.getElem?_eq_getElem h]
set_option maxHeartbeats 2000000 in
theorem norm_Apply.calls (A0 : Option Addr) (c0 : Nat) (l0 : List S33) (a1 : Int) (r : Int) (w : World) (hr0 : Kd.C k33 w A0 l0.length l0) (hc0 : l0.length ≤ c0) (h : norm_Apply.f l0 a1 = some r) :
  Calls Try.prog 13 #[.slice A0 l0.length c0,.int .i64 a1] w fun e w' => e = .returned (.int .i64 r) ∧ Below w.heap.size w w' := by
 obtain rfl := Option.some.inj h
 clear h
 have HR0 := Aside0.mk hr0
 have hbig := hr0.2.1
 clear hr0
 obtain ⟨n,hn⟩ : ∃ n,l0.length = n := ⟨_,rfl⟩
 have HN := Aside0.mk hn
 rw [hn] at hbig hc0 ⊢
 clear hn
 go_enter Try.func13,Try.ntmps13
 go_wp2
 go_loopg [1,9] n (fun gg v1 v9 wr => ∃ kk : Nat,kk ≤ n ∧ n - kk ≤ gg ∧ v1 = .int .i64 (applyP (l0.take kk) a1) ∧ v9 = .int .i64 kk ∧ Aside0 (Below w.heap.size w wr))
 case atStart => exact ⟨0,Nat.zero_le _,by omega,rfl,rfl,⟨Below.refl _ w⟩⟩
 case round =>
  obtain ⟨kk,hkk,hg,rfl,rfl,BW⟩ := hrel
  by_cases hlt : kk < n
  ·have hltz : (kk : Int) < (n : Int) := by omega
   have HS := Aside0.mk (apply_snoc l0 kk (by rw [HN.out];exact hlt) a1)
   obtain ⟨ad,A1,c1,e1,hx0,hx1,hcl,hi0⟩ := at_T33 (by have := HR0.out;rwa [HN.out] at this) (kk : Int) (by omega) (by omega)
   cases e1
   simp only [Int.toNat_natCast] at hx0 hx1
   replace hx0 := (BW.out.cell (World.block_lt_of_cell? w _ hx0)).trans hx0
   replace hx1 := (BW.out.cell (World.block_lt_of_cell? w _ hx1)).trans hx1
   have HI := Aside0.mk (Kd.C_below hi0 BW.out)
   obtain ⟨x,hx⟩ : ∃ x,x = rd_T33 l0 kk := ⟨_,rfl⟩
   have HX := Aside0.mk hx
   obtain ⟨m,hm⟩ : ∃ m,m = x.f1.length := ⟨_,rfl⟩
   have HM := Aside0.mk hm
   rw [← hx] at hx0 hx1 hcl
   rw [← hm] at hx1 hcl
   clear hx hi0 hm
   generalize applyP (l0.take kk) a1 = v at HS ⊢
   have hdoes := does_calls x A1 c1 (wr.alloc (.cells #[.int .u8 x.f0,.slice A1 m c1] 33)) (Kd.C_alloc (by have := HI.out;rwa [← HX.out] at this) _) (by rw [← HM.out];exact hcl)
   rw [← HM.out] at hdoes
   go_wp2_with (first
    | (go_at_call 29;refine hdoes.mono ?_;rintro e w1 ⟨g,lb,rfl,hb,eg,hf⟩)
    | (go_at_fn g;refine (hf w1 v (Below.refl _ _)).mono ?_;rintro e w2 ⟨rfl,hb2⟩))
   go_roundg (n - (kk + 1))
   case measure => omega
   case rel =>
    refine ⟨kk + 1,by omega,Nat.le_refl _,?_,by go_num,⟨((BW.out.alloc BW.out.size _).trans (hb.mono ?_)).trans (hb2.mono ?_)⟩⟩
    ·rw [HS.out,← HX.out]
    ·have := BW.out.size;simp only [World.size_alloc];omega
    ·have h1 := BW.out.size;have h2 := hb.size;simp only [World.size_alloc] at h2;omega
  ·have : kk = n := by omega
   subst this
   have e : l0.take kk = l0 := List.take_of_length_le (by rw [HN.out];exact Nat.le_refl _)
   rw [e]
   go_wp2
   go_ret
   exact ⟨rfl,BW.out⟩
end
end Go.Proofs.Ytfaahcgoinkmlaa.P
