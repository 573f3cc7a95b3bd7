-- WRITTEN BY A PROGRAM (hybrid.py over the kit's print.py): Lean checks it.
import Derived.Test.YtfaahcgoinkmlaaPx0
import Derived.Test.YtfaahcgoinkmlaaPx10
namespace Go.Proofs.Ytfaahcgoinkmlaa.P
open Go.RowKit Go.Proofs.YtfaahcgoinkmlaaW.PrintWords Go.Proofs.YtfaahcgoinkmlaaW.PrintLast Go.Proofs.YtfaahcgoinkmlaaW.PrintMore
attribute [local go_sem] max2_int min2_int max_two min_two max_three min_three max_four min_four   -- for this text's walks alone
set_option linter.unusedVariables false
set_option linter.unusedSimpArgs false

/-! ### glyphcutterref02_First: function 28 -/
def glyphcutterref02_First.l0 : Nat → List (S51) → Int → Option (Int)
 | 0,_,_ => none
 | k + 1,x3,x4 => if x4 < (x3.length : Int) then (if 0 ≤ x4 then (if ((rd_T51 x3 x4).f0) < 0 then (some ((rd_T51 x3 x4).f1)) else (glyphcutterref02_First.l0 k x3 (wrap64 (x4 + 1)))) else (none)) else (some (-1))
def glyphcutterref02_First.f (k : Nat) (l0 : List Int) : Option (Int) := (glyphcutterref02_Chars.f k l0).bind fun t437 => (glyphcutterref02_First.l0 k t437 0)
theorem glyphcutterref02_First.mono_l : ∀ k,(∀ y0 y1,LeO (glyphcutterref02_First.l0 k y0 y1) (glyphcutterref02_First.l0 (k + 1) y0 y1))
 | 0 => fun _ _ r h => by simp [glyphcutterref02_First.l0] at h
 | k + 1 => by
  have ih0 := glyphcutterref02_First.mono_l k
  ·intro y0 y1
   unfold glyphcutterref02_First.l0
   repeat' first
   | (with_reducible exact ih0 _ _)
   | (with_reducible exact glyphcutterref02_Chars.mono _ _)
   | (with_reducible exact LeO.refl _)
   | (with_reducible exact LeO.none _)
   | (with_reducible refine LeO.ite ?_ ?_)
   | (with_reducible refine LeO.bind ?_ (fun _ => ?_))
   | exact ih0 _ _
   | exact glyphcutterref02_Chars.mono _ _
   | exact LeO.none _
   | refine LeO.ite ?_ ?_
   | refine LeO.bind ?_ (fun _ => ?_)
theorem glyphcutterref02_First.mono : ∀ a0 k,LeO (glyphcutterref02_First.f k a0) (glyphcutterref02_First.f (k + 1) a0) := by
 intro a0 k
 have ih0 := glyphcutterref02_First.mono_l k
 unfold glyphcutterref02_First.f
 repeat' first
   | (with_reducible exact ih0 _ _)
   | (with_reducible exact glyphcutterref02_Chars.mono _ _)
   | (with_reducible exact LeO.refl _)
   | (with_reducible exact LeO.none _)
   | (with_reducible refine LeO.ite ?_ ?_)
   | (with_reducible refine LeO.bind ?_ (fun _ => ?_))
   | exact ih0 _ _
   | exact glyphcutterref02_Chars.mono _ _
   | exact LeO.none _
   | refine LeO.ite ?_ ?_
   | refine LeO.bind ?_ (fun _ => ?_)
set_option maxHeartbeats 8000000 in
set_option maxRecDepth 100000 in
theorem glyphcutterref02_First.calls (k : Nat) (A0 : Option Addr) (c0 : Nat) (l0 : List Int) (r : Int) (w : World) (hr0 : Kd.C (Kd.int .u8) w A0 l0.length l0) (hc0 : l0.length ≤ c0) (h : glyphcutterref02_First.f k l0 = some r) :
  Calls Try.prog 28 #[.slice A0 l0.length c0] w fun e w' => e = .returned (.int .i64 r) ∧ Below w.heap.size w w' := by
 have HR0 := Aside0.mk hr0
 have HC0 := Aside0.mk hc0
 clear hr0 hc0
 have HB := Aside0.mk (Below.refl w.heap.size w)
 have H : ((glyphcutterref02_Chars.f k l0).bind fun t437 => (glyphcutterref02_First.l0 k t437 0)) = some r := h
 clear h
 replace H := Option.bind_eq_some_iff.mp H
 obtain ⟨t437,A20,H⟩ := H
 skip
 have A2 := Aside0.mk A20
 clear A20
 have H' := Aside0.mk H
 clear H
 go_enter Try.func28,Try.ntmps28
 go_wp2_with (first | ((with_reducible refine gate_callee (f := 27) rfl ?_);refine goesL_ (some 6) rfl rfl Try.func27 (by kernel_rfl) rfl #[.slice A0 l0.length c0] rfl (by (try simp only [List.map_toArray,List.map_cons,List.map_nil]);first | done | rfl | (simp only [List.length_drop,List.length_take];rfl)) ?_;(with_reducible refine (glyphcutterref02_Chars.calls k _ _ l0 t437 _ ?side1 ?side2 A2.out).mono ?_);(case side1 => repeat (first | exact HR0.out | (with_reducible refine Kd.C_alloc ?_ _) | (with_reducible refine Kd.C_drewN ?_ _) | (with_reducible refine Kd.C_drew ?_)));(case side2 => exact HC0.out);rintro e w3 ⟨v438,rfl,ho0,hb⟩;refine ⟨_,rfl,?_⟩;have n0_ := Aside0.mk (Kd.R_lower ho0 (below_size (by repeat (first | (with_reducible first | exact HB.out | apply below_alloc | apply pw_below_drewN | apply below_drew1) | exact HB.out))));have n1_ := Aside0.mk (below_step (by repeat (first | (with_reducible first | exact HB.out | apply below_alloc | apply pw_below_drewN | apply below_drew1) | exact HB.out)) hb);clear HB;have HO439 := n0_;have HB := n1_;clear n0_ n1_;(try clear hb);(try clear hb2);(try clear hk);(try clear hi);(try clear ho0)))
 go_loopg [4] k (fun kq v4 w' => ∃ (x4_1 : Int),v4 = .int .i64 x4_1 ∧ Aside0 (glyphcutterref02_First.l0 kq t437 x4_1 = some r) ∧ Aside0 (kq ≤ k) ∧ Aside0 (Kd.R k51 51 w' w.heap.size (fun _ => True) v438 t437) ∧ Aside0 (Below w.heap.size w w'))
 case atStart => exact ⟨(0),(by first | rfl | (simp;done) | (simp [*];done)),H',⟨Nat.le_refl _⟩,⟨by (with_reducible repeat (first | apply Kd.R_alloc | apply Kd.R_drewN | apply Kd.R_drew));exact HO439.out⟩,⟨by repeat (first | (with_reducible first | exact HB.out | apply below_alloc | apply pw_below_drewN | apply below_drew1) | exact HB.out)⟩⟩
 case round =>
  clear H'
  try clear c2
  try clear p2
  obtain ⟨x4_1,rfl,HA,HK1,HO_3,HB⟩ := hrel
  cases gk with
  | zero => exact absurd HA.out (by simp [glyphcutterref02_First.l0])
  | succ k1 =>
   have H := HA.out
   clear HA
   simp only [glyphcutterref02_First.l0] at H
   by_cases c4 : x4_1 < (t437.length : Int)
   ·rw [if_pos c4] at H
    have c4b0 : decide (x4_1 < (t437.length : Int)) = true := decide_eq_true c4
    clear c4
    by_cases c5 : 0 ≤ x4_1
    ·rw [if_pos c5] at H
     have c5b0 : decide (0 ≤ x4_1) = true := decide_eq_true c5
     clear c5
     by_cases c6 : ((rd_T51 t437 x4_1).f0) < 0
     ·rw [if_pos c6] at H
      have c6b0 : decide (((rd_T51 t437 x4_1).f0) < 0) = true := decide_eq_true c6
      clear c6
      obtain rfl := Option.some.inj H
      obtain ⟨Ao7,co7,eo7⟩ := Kd.R_slice HO_3.out
      subst eo7
      have p440 : 0 ≤ (x4_1 : Int) := of_decide_eq_true (by first | (with_reducible assumption) | assumption)
      have q440 : x4_1 < (t437.length : Int) := of_decide_eq_true (by first | (with_reducible assumption) | assumption)
      obtain ⟨ad440,e440,hx440_0,hx440_1,hx440_2⟩ := at_T51 (Kd.R_reads' HO_3.out).2.2 x4_1 p440 q440
      cases e440
      replace p440 := eq_true p440
      replace q440 := eq_true q440
      have p441 : 0 ≤ (x4_1 : Int) := of_decide_eq_true (by first | (with_reducible assumption) | assumption)
      have q441 : x4_1 < (t437.length : Int) := of_decide_eq_true (by first | (with_reducible assumption) | assumption)
      obtain ⟨ad441,e441,hx441_0,hx441_1,hx441_2⟩ := at_T51 (Kd.R_reads' HO_3.out).2.2 x4_1 p441 q441
      obtain rfl : ad440 = ad441 := (by injection e441)
      replace p441 := eq_true p441
      replace q441 := eq_true q441
      go_wp2
      go_ret
      exact ⟨by first | rfl | (simp [errW_none,errW_some] <;> rfl) | (simp [*,errW_none,errW_some] <;> rfl),by repeat (first | (with_reducible first | exact HB.out | apply below_alloc | apply pw_below_drewN | apply below_drew1) | exact HB.out)⟩
     ·rw [if_neg c6] at H
      have c6b0 : decide (((rd_T51 t437 x4_1).f0) < 0) = false := decide_eq_false c6
      clear c6
      have H' := Aside0.mk H
      clear H
      obtain ⟨Ao8,co8,eo8⟩ := Kd.R_slice HO_3.out
      subst eo8
      have p440 : 0 ≤ (x4_1 : Int) := of_decide_eq_true (by first | (with_reducible assumption) | assumption)
      have q440 : x4_1 < (t437.length : Int) := of_decide_eq_true (by first | (with_reducible assumption) | assumption)
      obtain ⟨ad440,e440,hx440_0,hx440_1,hx440_2⟩ := at_T51 (Kd.R_reads' HO_3.out).2.2 x4_1 p440 q440
      cases e440
      replace p440 := eq_true p440
      replace q440 := eq_true q440
      go_wp2
      go_roundg k1
      case measure => have := HK1.out;omega
      case rel => exact ⟨(wrap64 (x4_1 + 1)),(by first | rfl | (simp;done) | (simp [*];done)),H',⟨by have := HK1.out;omega⟩,⟨by (with_reducible repeat (first | apply Kd.R_alloc | apply Kd.R_drewN | apply Kd.R_drew));exact HO_3.out⟩,⟨by repeat (first | (with_reducible first | exact HB.out | apply below_alloc | apply pw_below_drewN | apply below_drew1) | exact HB.out)⟩⟩
    ·rw [if_neg c5] at H
     exact absurd H (by simp)
   ·rw [if_neg c4] at H
    have c4b0 : decide (x4_1 < (t437.length : Int)) = false := decide_eq_false c4
    clear c4
    obtain rfl := Option.some.inj H
    obtain ⟨Ao9,co9,eo9⟩ := Kd.R_slice HO_3.out
    subst eo9
    go_wp2
    go_ret
    exact ⟨by first | rfl | (simp [errW_none,errW_some] <;> rfl) | (simp [*,errW_none,errW_some] <;> rfl),by repeat (first | (with_reducible first | exact HB.out | apply below_alloc | apply pw_below_drewN | apply below_drew1) | exact HB.out)⟩

end Go.Proofs.Ytfaahcgoinkmlaa.P
