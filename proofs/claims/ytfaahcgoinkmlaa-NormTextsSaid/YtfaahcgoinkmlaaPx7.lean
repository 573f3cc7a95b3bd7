-- WRITTEN BY A PROGRAM (hybrid.py over the kit's print.py): Lean checks it.
import Derived.Test.YtfaahcgoinkmlaaPx0
import Derived.Test.YtfaahcgoinkmlaaPx4
namespace Go.Proofs.Ytfaahcgoinkmlaa.P
open Go.RowKit Go.Proofs.YtfaahcgoinkmlaaW.PrintWords Go.Proofs.YtfaahcgoinkmlaaW.PrintLast Go.Proofs.YtfaahcgoinkmlaaW.PrintMore
attribute [local go_sem] max2_int min2_int max_two min_two max_three min_three max_four min_four   -- for this text's walks alone
set_option linter.unusedVariables false
set_option linter.unusedSimpArgs false

/-! ### glyphcutterref16_Sound: function 24 -/
def glyphcutterref16_Sound.l0 : Nat → List (S33) → Int → Option (Bool)
 | 0,_,_ => none
 | k + 1,x0,x3 => if x3 < (x0.length : Int) then (if 0 ≤ x3 then (if ((rd_T33 x0 x3).f0) = 1 then (if ((((rd_T33 x0 x3).f1).length : Int) = 0) then (glyphcutterref16_Sound.l0 k x0 (wrap64 (x3 + 1))) else (if ((rd_T33 x0 x3).f0) = 3 then ((glyphcutterref16_Check.f k ((rd_T33 x0 x3).f1)).bind fun t282 => (if t282 = (-1) then (glyphcutterref16_Sound.l0 k x0 (wrap64 (x3 + 1))) else (some false))) else (some false))) else (if ((rd_T33 x0 x3).f0) = 2 then (if ((((rd_T33 x0 x3).f1).length : Int) = 0) then (glyphcutterref16_Sound.l0 k x0 (wrap64 (x3 + 1))) else (if ((rd_T33 x0 x3).f0) = 3 then ((glyphcutterref16_Check.f k ((rd_T33 x0 x3).f1)).bind fun t287 => (if t287 = (-1) then (glyphcutterref16_Sound.l0 k x0 (wrap64 (x3 + 1))) else (some false))) else (some false))) else (if ((rd_T33 x0 x3).f0) = 3 then ((glyphcutterref16_Check.f k ((rd_T33 x0 x3).f1)).bind fun t290 => (if t290 = (-1) then (glyphcutterref16_Sound.l0 k x0 (wrap64 (x3 + 1))) else (some false))) else (some false)))) else (none)) else (some (decide ((x0.length : Int) ≤ 8)))
def glyphcutterref16_Sound.f (k : Nat) (l0 : List (S33)) : Option (Bool) := glyphcutterref16_Sound.l0 k l0 0
theorem glyphcutterref16_Sound.mono_l : ∀ k,(∀ y0 y1,LeO (glyphcutterref16_Sound.l0 k y0 y1) (glyphcutterref16_Sound.l0 (k + 1) y0 y1))
 | 0 => fun _ _ r h => by simp [glyphcutterref16_Sound.l0] at h
 | k + 1 => by
  have ih0 := glyphcutterref16_Sound.mono_l k
  ·intro y0 y1
   unfold glyphcutterref16_Sound.l0
   repeat' first
   | (with_reducible exact ih0 _ _)
   | (with_reducible exact glyphcutterref16_Check.mono _ _)
   | (with_reducible exact LeO.refl _)
   | (with_reducible exact LeO.none _)
   | (with_reducible refine LeO.ite ?_ ?_)
   | (with_reducible refine LeO.bind ?_ (fun _ => ?_))
   | exact ih0 _ _
   | exact glyphcutterref16_Check.mono _ _
   | exact LeO.none _
   | refine LeO.ite ?_ ?_
   | refine LeO.bind ?_ (fun _ => ?_)
theorem glyphcutterref16_Sound.mono : ∀ a0 k,LeO (glyphcutterref16_Sound.f k a0) (glyphcutterref16_Sound.f (k + 1) a0) := by
 intro a0 k
 have ih0 := glyphcutterref16_Sound.mono_l k
 unfold glyphcutterref16_Sound.f
 repeat' first
   | (with_reducible exact ih0 _ _)
   | (with_reducible exact glyphcutterref16_Check.mono _ _)
   | (with_reducible exact LeO.refl _)
   | (with_reducible exact LeO.none _)
   | (with_reducible refine LeO.ite ?_ ?_)
   | (with_reducible refine LeO.bind ?_ (fun _ => ?_))
   | exact ih0 _ _
   | exact glyphcutterref16_Check.mono _ _
   | exact LeO.none _
   | refine LeO.ite ?_ ?_
   | refine LeO.bind ?_ (fun _ => ?_)
set_option maxHeartbeats 8000000 in
set_option maxRecDepth 100000 in
theorem glyphcutterref16_Sound.calls (k : Nat) (A0 : Option Addr) (c0 : Nat) (l0 : List (S33)) (r : Bool) (w : World) (hr0 : Kd.C k33 w A0 l0.length l0) (hc0 : l0.length ≤ c0) (h : glyphcutterref16_Sound.f k l0 = some r) :
  Calls Try.prog 24 #[.slice A0 l0.length c0] w fun e w' => e = .returned (.bool r) ∧ Below w.heap.size w w' := by
 have HR0 := Aside0.mk hr0
 have HC0 := Aside0.mk hc0
 clear hr0 hc0
 have HB := Aside0.mk (Below.refl w.heap.size w)
 have H : (glyphcutterref16_Sound.l0 k l0 0) = some r := h
 clear h
 have H' := Aside0.mk H
 clear H
 go_enter Try.func24,Try.ntmps24
 go_wp2
 go_loopg [3] k (fun kq v3 w' => ∃ (x3_1 : Int),v3 = .int .i64 x3_1 ∧ Aside0 (glyphcutterref16_Sound.l0 kq l0 x3_1 = some r) ∧ Aside0 (kq ≤ k) ∧ Aside0 (Below w.heap.size w w'))
 case atStart => exact ⟨(0),(by first | rfl | (simp;done) | (simp [*];done)),H',⟨Nat.le_refl _⟩,⟨by repeat (first | (with_reducible first | exact HB.out | apply below_alloc | apply pw_below_drewN | apply below_drew1) | exact HB.out)⟩⟩
 case round =>
  clear H'
  obtain ⟨x3_1,rfl,HA,HK1,HB⟩ := hrel
  cases gk with
  | zero => exact absurd HA.out (by simp [glyphcutterref16_Sound.l0])
  | succ k1 =>
   have H := HA.out
   clear HA
   simp only [glyphcutterref16_Sound.l0] at H
   by_cases c2 : x3_1 < (l0.length : Int)
   ·rw [if_pos c2] at H
    have c2b0 : decide (x3_1 < (l0.length : Int)) = true := decide_eq_true c2
    clear c2
    by_cases c3 : 0 ≤ x3_1
    ·rw [if_pos c3] at H
     have c3b0 : decide (0 ≤ x3_1) = true := decide_eq_true c3
     clear c3
     by_cases c4 : ((rd_T33 l0 x3_1).f0) = 1
     ·rw [if_pos c4] at H
      have c4b0 : (((rd_T33 l0 x3_1).f0) == 1) = true := beq_iff_eq.mpr c4
      have c4b1 : (((rd_T33 l0 x3_1).f0) != 1) = false := bne_eq_false_iff_eq.mpr c4
      clear c4
      by_cases c5 : ((((rd_T33 l0 x3_1).f1).length : Int) = 0)
      ·rw [if_pos c5] at H
       have c5b0 : ((((rd_T33 l0 x3_1).f1).length : Int) == 0) = true := beq_iff_eq.mpr c5
       have c5b1 : ((((rd_T33 l0 x3_1).f1).length : Int) != 0) = false := bne_eq_false_iff_eq.mpr c5
       clear c5
       have H' := Aside0.mk H
       clear H
       have p278 : 0 ≤ (x3_1 : Int) := of_decide_eq_true (by first | (with_reducible assumption) | assumption)
       have q278 : x3_1 < (l0.length : Int) := of_decide_eq_true (by first | (with_reducible assumption) | assumption)
       obtain ⟨ad278,A278_1,c278_1,e278,hx278_0,hx278_1,hl278_1,hi278_1⟩ := at_T33 HR0.out x3_1 p278 q278
       cases e278
       replace hx278_0 := (HB.out.cell (World.block_lt_of_cell? w _ hx278_0)).trans hx278_0
       replace hx278_1 := (HB.out.cell (World.block_lt_of_cell? w _ hx278_1)).trans hx278_1
       have HR278_1 := Aside0.mk hi278_1
       have HC278_1 := Aside0.mk hl278_1
       clear hi278_1 hl278_1
       replace p278 := eq_true p278
       replace q278 := eq_true q278
       have p279 : 0 ≤ (x3_1 : Int) := of_decide_eq_true (by first | (with_reducible assumption) | assumption)
       have q279 : x3_1 < (l0.length : Int) := of_decide_eq_true (by first | (with_reducible assumption) | assumption)
       obtain ⟨ad279,A279_1,c279_1,e279,hx279_0,hx279_1,hl279_1,hi279_1⟩ := at_T33 HR0.out x3_1 p279 q279
       obtain rfl : ad278 = ad279 := (by injection e279)
       replace hx279_0 := (HB.out.cell (World.block_lt_of_cell? w _ hx279_0)).trans hx279_0
       replace hx279_1 := (HB.out.cell (World.block_lt_of_cell? w _ hx279_1)).trans hx279_1
       have HR279_1 := Aside0.mk hi279_1
       have HC279_1 := Aside0.mk hl279_1
       clear hi279_1 hl279_1
       replace p279 := eq_true p279
       replace q279 := eq_true q279
       have ea_ := Option.some.inj (hx278_1.symm.trans hx279_1)
       injection ea_ with ea_ en_ ec_
       subst ea_
       subst ec_
       clear en_
       go_wp2
       go_roundg k1
       case measure => have := HK1.out;omega
       case rel => exact ⟨(wrap64 (x3_1 + 1)),(by first | rfl | (simp;done) | (simp [*];done)),H',⟨by have := HK1.out;omega⟩,⟨by repeat (first | (with_reducible first | exact HB.out | apply below_alloc | apply pw_below_drewN | apply below_drew1) | exact HB.out)⟩⟩
      ·rw [if_neg c5] at H
       have c5b0 : ((((rd_T33 l0 x3_1).f1).length : Int) == 0) = false := beq_eq_false_iff_ne.mpr c5
       have c5b1 : ((((rd_T33 l0 x3_1).f1).length : Int) != 0) = true := bne_iff_ne.mpr c5
       have c5b2 : ¬ (((rd_T33 l0 x3_1).f1) = []) := fun h_ => c5 (by rw [h_];rfl)
       by_cases c6 : ((rd_T33 l0 x3_1).f0) = 3
       ·rw [if_pos c6] at H
        have c6b0 : (((rd_T33 l0 x3_1).f0) == 3) = true := beq_iff_eq.mpr c6
        have c6b1 : (((rd_T33 l0 x3_1).f0) != 3) = false := bne_eq_false_iff_eq.mpr c6
        clear c6
        replace H := Option.bind_eq_some_iff.mp H
        obtain ⟨t282,A70,H⟩ := H
        skip
        have A7 := Aside0.mk A70
        clear A70
        by_cases c8 : t282 = (-1)
        ·rw [if_pos c8] at H
         have c8b0 : (t282 == (-1)) = true := beq_iff_eq.mpr c8
         have c8b1 : (t282 != (-1)) = false := bne_eq_false_iff_eq.mpr c8
         clear c8
         have H' := Aside0.mk H
         clear H
         have p278 : 0 ≤ (x3_1 : Int) := of_decide_eq_true (by first | (with_reducible assumption) | assumption)
         have q278 : x3_1 < (l0.length : Int) := of_decide_eq_true (by first | (with_reducible assumption) | assumption)
         obtain ⟨ad278,A278_1,c278_1,e278,hx278_0,hx278_1,hl278_1,hi278_1⟩ := at_T33 HR0.out x3_1 p278 q278
         cases e278
         replace hx278_0 := (HB.out.cell (World.block_lt_of_cell? w _ hx278_0)).trans hx278_0
         replace hx278_1 := (HB.out.cell (World.block_lt_of_cell? w _ hx278_1)).trans hx278_1
         have HR278_1 := Aside0.mk hi278_1
         have HC278_1 := Aside0.mk hl278_1
         clear hi278_1 hl278_1
         replace p278 := eq_true p278
         replace q278 := eq_true q278
         have p279 : 0 ≤ (x3_1 : Int) := of_decide_eq_true (by first | (with_reducible assumption) | assumption)
         have q279 : x3_1 < (l0.length : Int) := of_decide_eq_true (by first | (with_reducible assumption) | assumption)
         obtain ⟨ad279,A279_1,c279_1,e279,hx279_0,hx279_1,hl279_1,hi279_1⟩ := at_T33 HR0.out x3_1 p279 q279
         obtain rfl : ad278 = ad279 := (by injection e279)
         replace hx279_0 := (HB.out.cell (World.block_lt_of_cell? w _ hx279_0)).trans hx279_0
         replace hx279_1 := (HB.out.cell (World.block_lt_of_cell? w _ hx279_1)).trans hx279_1
         have HR279_1 := Aside0.mk hi279_1
         have HC279_1 := Aside0.mk hl279_1
         clear hi279_1 hl279_1
         replace p279 := eq_true p279
         replace q279 := eq_true q279
         have ea_ := Option.some.inj (hx278_1.symm.trans hx279_1)
         injection ea_ with ea_ en_ ec_
         subst ea_
         subst ec_
         clear en_
         have p280 : 0 ≤ (x3_1 : Int) := of_decide_eq_true (by first | (with_reducible assumption) | assumption)
         have q280 : x3_1 < (l0.length : Int) := of_decide_eq_true (by first | (with_reducible assumption) | assumption)
         obtain ⟨ad280,A280_1,c280_1,e280,hx280_0,hx280_1,hl280_1,hi280_1⟩ := at_T33 HR0.out x3_1 p280 q280
         obtain rfl : ad278 = ad280 := (by injection e280)
         replace hx280_0 := (HB.out.cell (World.block_lt_of_cell? w _ hx280_0)).trans hx280_0
         replace hx280_1 := (HB.out.cell (World.block_lt_of_cell? w _ hx280_1)).trans hx280_1
         have HR280_1 := Aside0.mk hi280_1
         have HC280_1 := Aside0.mk hl280_1
         clear hi280_1 hl280_1
         replace p280 := eq_true p280
         replace q280 := eq_true q280
         have ea_ := Option.some.inj (hx278_1.symm.trans hx280_1)
         injection ea_ with ea_ en_ ec_
         subst ea_
         subst ec_
         clear en_
         have p281 : 0 ≤ (x3_1 : Int) := of_decide_eq_true (by first | (with_reducible assumption) | assumption)
         have q281 : x3_1 < (l0.length : Int) := of_decide_eq_true (by first | (with_reducible assumption) | assumption)
         obtain ⟨ad281,A281_1,c281_1,e281,hx281_0,hx281_1,hl281_1,hi281_1⟩ := at_T33 HR0.out x3_1 p281 q281
         obtain rfl : ad278 = ad281 := (by injection e281)
         replace hx281_0 := (HB.out.cell (World.block_lt_of_cell? w _ hx281_0)).trans hx281_0
         replace hx281_1 := (HB.out.cell (World.block_lt_of_cell? w _ hx281_1)).trans hx281_1
         have HR281_1 := Aside0.mk hi281_1
         have HC281_1 := Aside0.mk hl281_1
         clear hi281_1 hl281_1
         replace p281 := eq_true p281
         replace q281 := eq_true q281
         have ea_ := Option.some.inj (hx278_1.symm.trans hx281_1)
         injection ea_ with ea_ en_ ec_
         subst ea_
         subst ec_
         clear en_
         go_wp2_with (first | (go_at_call 17;(with_reducible refine (glyphcutterref16_Check.calls k1 _ _ ((rd_T33 l0 x3_1).f1) t282 _ ?side1 ?side2 A7.out).mono ?_);(case side1 => repeat (first | exact (Kd.C_below HR281_1.out HB.out) | (with_reducible refine Kd.C_alloc ?_ _) | (with_reducible refine Kd.C_drewN ?_ _) | (with_reducible refine Kd.C_drew ?_)));(case side2 => exact HC281_1.out);rintro e w9 ⟨rfl,hb⟩;have n0_ := Aside0.mk (below_step (by repeat (first | (with_reducible first | exact HB.out | apply below_alloc | apply pw_below_drewN | apply below_drew1) | exact HB.out)) hb);clear HB;have HB := n0_;clear n0_;(try clear hb);(try clear hb2);(try clear hk);(try clear hi)))
         go_roundg k1
         case measure => have := HK1.out;omega
         case rel => exact ⟨(wrap64 (x3_1 + 1)),(by first | rfl | (simp;done) | (simp [*];done)),H',⟨by have := HK1.out;omega⟩,⟨by repeat (first | (with_reducible first | exact HB.out | apply below_alloc | apply pw_below_drewN | apply below_drew1) | exact HB.out)⟩⟩
        ·rw [if_neg c8] at H
         have c8b0 : (t282 == (-1)) = false := beq_eq_false_iff_ne.mpr c8
         have c8b1 : (t282 != (-1)) = true := bne_iff_ne.mpr c8
         obtain rfl := Option.some.inj H
         have p278 : 0 ≤ (x3_1 : Int) := of_decide_eq_true (by first | (with_reducible assumption) | assumption)
         have q278 : x3_1 < (l0.length : Int) := of_decide_eq_true (by first | (with_reducible assumption) | assumption)
         obtain ⟨ad278,A278_1,c278_1,e278,hx278_0,hx278_1,hl278_1,hi278_1⟩ := at_T33 HR0.out x3_1 p278 q278
         cases e278
         replace hx278_0 := (HB.out.cell (World.block_lt_of_cell? w _ hx278_0)).trans hx278_0
         replace hx278_1 := (HB.out.cell (World.block_lt_of_cell? w _ hx278_1)).trans hx278_1
         have HR278_1 := Aside0.mk hi278_1
         have HC278_1 := Aside0.mk hl278_1
         clear hi278_1 hl278_1
         replace p278 := eq_true p278
         replace q278 := eq_true q278
         have p279 : 0 ≤ (x3_1 : Int) := of_decide_eq_true (by first | (with_reducible assumption) | assumption)
         have q279 : x3_1 < (l0.length : Int) := of_decide_eq_true (by first | (with_reducible assumption) | assumption)
         obtain ⟨ad279,A279_1,c279_1,e279,hx279_0,hx279_1,hl279_1,hi279_1⟩ := at_T33 HR0.out x3_1 p279 q279
         obtain rfl : ad278 = ad279 := (by injection e279)
         replace hx279_0 := (HB.out.cell (World.block_lt_of_cell? w _ hx279_0)).trans hx279_0
         replace hx279_1 := (HB.out.cell (World.block_lt_of_cell? w _ hx279_1)).trans hx279_1
         have HR279_1 := Aside0.mk hi279_1
         have HC279_1 := Aside0.mk hl279_1
         clear hi279_1 hl279_1
         replace p279 := eq_true p279
         replace q279 := eq_true q279
         have ea_ := Option.some.inj (hx278_1.symm.trans hx279_1)
         injection ea_ with ea_ en_ ec_
         subst ea_
         subst ec_
         clear en_
         have p280 : 0 ≤ (x3_1 : Int) := of_decide_eq_true (by first | (with_reducible assumption) | assumption)
         have q280 : x3_1 < (l0.length : Int) := of_decide_eq_true (by first | (with_reducible assumption) | assumption)
         obtain ⟨ad280,A280_1,c280_1,e280,hx280_0,hx280_1,hl280_1,hi280_1⟩ := at_T33 HR0.out x3_1 p280 q280
         obtain rfl : ad278 = ad280 := (by injection e280)
         replace hx280_0 := (HB.out.cell (World.block_lt_of_cell? w _ hx280_0)).trans hx280_0
         replace hx280_1 := (HB.out.cell (World.block_lt_of_cell? w _ hx280_1)).trans hx280_1
         have HR280_1 := Aside0.mk hi280_1
         have HC280_1 := Aside0.mk hl280_1
         clear hi280_1 hl280_1
         replace p280 := eq_true p280
         replace q280 := eq_true q280
         have ea_ := Option.some.inj (hx278_1.symm.trans hx280_1)
         injection ea_ with ea_ en_ ec_
         subst ea_
         subst ec_
         clear en_
         have p281 : 0 ≤ (x3_1 : Int) := of_decide_eq_true (by first | (with_reducible assumption) | assumption)
         have q281 : x3_1 < (l0.length : Int) := of_decide_eq_true (by first | (with_reducible assumption) | assumption)
         obtain ⟨ad281,A281_1,c281_1,e281,hx281_0,hx281_1,hl281_1,hi281_1⟩ := at_T33 HR0.out x3_1 p281 q281
         obtain rfl : ad278 = ad281 := (by injection e281)
         replace hx281_0 := (HB.out.cell (World.block_lt_of_cell? w _ hx281_0)).trans hx281_0
         replace hx281_1 := (HB.out.cell (World.block_lt_of_cell? w _ hx281_1)).trans hx281_1
         have HR281_1 := Aside0.mk hi281_1
         have HC281_1 := Aside0.mk hl281_1
         clear hi281_1 hl281_1
         replace p281 := eq_true p281
         replace q281 := eq_true q281
         have ea_ := Option.some.inj (hx278_1.symm.trans hx281_1)
         injection ea_ with ea_ en_ ec_
         subst ea_
         subst ec_
         clear en_
         go_wp2_with (first | (go_at_call 17;(with_reducible refine (glyphcutterref16_Check.calls k1 _ _ ((rd_T33 l0 x3_1).f1) t282 _ ?side1 ?side2 A7.out).mono ?_);(case side1 => repeat (first | exact (Kd.C_below HR281_1.out HB.out) | (with_reducible refine Kd.C_alloc ?_ _) | (with_reducible refine Kd.C_drewN ?_ _) | (with_reducible refine Kd.C_drew ?_)));(case side2 => exact HC281_1.out);rintro e w10 ⟨rfl,hb⟩;have n0_ := Aside0.mk (below_step (by repeat (first | (with_reducible first | exact HB.out | apply below_alloc | apply pw_below_drewN | apply below_drew1) | exact HB.out)) hb);clear HB;have HB := n0_;clear n0_;(try clear hb);(try clear hb2);(try clear hk);(try clear hi)))
         go_ret
         exact ⟨by first | rfl | (simp [errW_none,errW_some] <;> rfl) | (simp [*,errW_none,errW_some] <;> rfl),by repeat (first | (with_reducible first | exact HB.out | apply below_alloc | apply pw_below_drewN | apply below_drew1) | exact HB.out)⟩
       ·rw [if_neg c6] at H
        have c6b0 : (((rd_T33 l0 x3_1).f0) == 3) = false := beq_eq_false_iff_ne.mpr c6
        have c6b1 : (((rd_T33 l0 x3_1).f0) != 3) = true := bne_iff_ne.mpr c6
        obtain rfl := Option.some.inj H
        have p278 : 0 ≤ (x3_1 : Int) := of_decide_eq_true (by first | (with_reducible assumption) | assumption)
        have q278 : x3_1 < (l0.length : Int) := of_decide_eq_true (by first | (with_reducible assumption) | assumption)
        obtain ⟨ad278,A278_1,c278_1,e278,hx278_0,hx278_1,hl278_1,hi278_1⟩ := at_T33 HR0.out x3_1 p278 q278
        cases e278
        replace hx278_0 := (HB.out.cell (World.block_lt_of_cell? w _ hx278_0)).trans hx278_0
        replace hx278_1 := (HB.out.cell (World.block_lt_of_cell? w _ hx278_1)).trans hx278_1
        have HR278_1 := Aside0.mk hi278_1
        have HC278_1 := Aside0.mk hl278_1
        clear hi278_1 hl278_1
        replace p278 := eq_true p278
        replace q278 := eq_true q278
        have p279 : 0 ≤ (x3_1 : Int) := of_decide_eq_true (by first | (with_reducible assumption) | assumption)
        have q279 : x3_1 < (l0.length : Int) := of_decide_eq_true (by first | (with_reducible assumption) | assumption)
        obtain ⟨ad279,A279_1,c279_1,e279,hx279_0,hx279_1,hl279_1,hi279_1⟩ := at_T33 HR0.out x3_1 p279 q279
        obtain rfl : ad278 = ad279 := (by injection e279)
        replace hx279_0 := (HB.out.cell (World.block_lt_of_cell? w _ hx279_0)).trans hx279_0
        replace hx279_1 := (HB.out.cell (World.block_lt_of_cell? w _ hx279_1)).trans hx279_1
        have HR279_1 := Aside0.mk hi279_1
        have HC279_1 := Aside0.mk hl279_1
        clear hi279_1 hl279_1
        replace p279 := eq_true p279
        replace q279 := eq_true q279
        have ea_ := Option.some.inj (hx278_1.symm.trans hx279_1)
        injection ea_ with ea_ en_ ec_
        subst ea_
        subst ec_
        clear en_
        have p280 : 0 ≤ (x3_1 : Int) := of_decide_eq_true (by first | (with_reducible assumption) | assumption)
        have q280 : x3_1 < (l0.length : Int) := of_decide_eq_true (by first | (with_reducible assumption) | assumption)
        obtain ⟨ad280,A280_1,c280_1,e280,hx280_0,hx280_1,hl280_1,hi280_1⟩ := at_T33 HR0.out x3_1 p280 q280
        obtain rfl : ad278 = ad280 := (by injection e280)
        replace hx280_0 := (HB.out.cell (World.block_lt_of_cell? w _ hx280_0)).trans hx280_0
        replace hx280_1 := (HB.out.cell (World.block_lt_of_cell? w _ hx280_1)).trans hx280_1
        have HR280_1 := Aside0.mk hi280_1
        have HC280_1 := Aside0.mk hl280_1
        clear hi280_1 hl280_1
        replace p280 := eq_true p280
        replace q280 := eq_true q280
        have ea_ := Option.some.inj (hx278_1.symm.trans hx280_1)
        injection ea_ with ea_ en_ ec_
        subst ea_
        subst ec_
        clear en_
        go_wp2
        go_ret
        exact ⟨by first | rfl | (simp [errW_none,errW_some] <;> rfl) | (simp [*,errW_none,errW_some] <;> rfl),by repeat (first | (with_reducible first | exact HB.out | apply below_alloc | apply pw_below_drewN | apply below_drew1) | exact HB.out)⟩
     ·rw [if_neg c4] at H
      have c4b0 : (((rd_T33 l0 x3_1).f0) == 1) = false := beq_eq_false_iff_ne.mpr c4
      have c4b1 : (((rd_T33 l0 x3_1).f0) != 1) = true := bne_iff_ne.mpr c4
      by_cases c11 : ((rd_T33 l0 x3_1).f0) = 2
      ·rw [if_pos c11] at H
       have c11b0 : (((rd_T33 l0 x3_1).f0) == 2) = true := beq_iff_eq.mpr c11
       have c11b1 : (((rd_T33 l0 x3_1).f0) != 2) = false := bne_eq_false_iff_eq.mpr c11
       clear c11
       by_cases c12 : ((((rd_T33 l0 x3_1).f1).length : Int) = 0)
       ·rw [if_pos c12] at H
        have c12b0 : ((((rd_T33 l0 x3_1).f1).length : Int) == 0) = true := beq_iff_eq.mpr c12
        have c12b1 : ((((rd_T33 l0 x3_1).f1).length : Int) != 0) = false := bne_eq_false_iff_eq.mpr c12
        clear c12
        have H' := Aside0.mk H
        clear H
        have p278 : 0 ≤ (x3_1 : Int) := of_decide_eq_true (by first | (with_reducible assumption) | assumption)
        have q278 : x3_1 < (l0.length : Int) := of_decide_eq_true (by first | (with_reducible assumption) | assumption)
        obtain ⟨ad278,A278_1,c278_1,e278,hx278_0,hx278_1,hl278_1,hi278_1⟩ := at_T33 HR0.out x3_1 p278 q278
        cases e278
        replace hx278_0 := (HB.out.cell (World.block_lt_of_cell? w _ hx278_0)).trans hx278_0
        replace hx278_1 := (HB.out.cell (World.block_lt_of_cell? w _ hx278_1)).trans hx278_1
        have HR278_1 := Aside0.mk hi278_1
        have HC278_1 := Aside0.mk hl278_1
        clear hi278_1 hl278_1
        replace p278 := eq_true p278
        replace q278 := eq_true q278
        have p283 : 0 ≤ (x3_1 : Int) := of_decide_eq_true (by first | (with_reducible assumption) | assumption)
        have q283 : x3_1 < (l0.length : Int) := of_decide_eq_true (by first | (with_reducible assumption) | assumption)
        obtain ⟨ad283,A283_1,c283_1,e283,hx283_0,hx283_1,hl283_1,hi283_1⟩ := at_T33 HR0.out x3_1 p283 q283
        obtain rfl : ad278 = ad283 := (by injection e283)
        replace hx283_0 := (HB.out.cell (World.block_lt_of_cell? w _ hx283_0)).trans hx283_0
        replace hx283_1 := (HB.out.cell (World.block_lt_of_cell? w _ hx283_1)).trans hx283_1
        have HR283_1 := Aside0.mk hi283_1
        have HC283_1 := Aside0.mk hl283_1
        clear hi283_1 hl283_1
        replace p283 := eq_true p283
        replace q283 := eq_true q283
        have ea_ := Option.some.inj (hx278_1.symm.trans hx283_1)
        injection ea_ with ea_ en_ ec_
        subst ea_
        subst ec_
        clear en_
        have p284 : 0 ≤ (x3_1 : Int) := of_decide_eq_true (by first | (with_reducible assumption) | assumption)
        have q284 : x3_1 < (l0.length : Int) := of_decide_eq_true (by first | (with_reducible assumption) | assumption)
        obtain ⟨ad284,A284_1,c284_1,e284,hx284_0,hx284_1,hl284_1,hi284_1⟩ := at_T33 HR0.out x3_1 p284 q284
        obtain rfl : ad278 = ad284 := (by injection e284)
        replace hx284_0 := (HB.out.cell (World.block_lt_of_cell? w _ hx284_0)).trans hx284_0
        replace hx284_1 := (HB.out.cell (World.block_lt_of_cell? w _ hx284_1)).trans hx284_1
        have HR284_1 := Aside0.mk hi284_1
        have HC284_1 := Aside0.mk hl284_1
        clear hi284_1 hl284_1
        replace p284 := eq_true p284
        replace q284 := eq_true q284
        have ea_ := Option.some.inj (hx278_1.symm.trans hx284_1)
        injection ea_ with ea_ en_ ec_
        subst ea_
        subst ec_
        clear en_
        go_wp2
        go_roundg k1
        case measure => have := HK1.out;omega
        case rel => exact ⟨(wrap64 (x3_1 + 1)),(by first | rfl | (simp;done) | (simp [*];done)),H',⟨by have := HK1.out;omega⟩,⟨by repeat (first | (with_reducible first | exact HB.out | apply below_alloc | apply pw_below_drewN | apply below_drew1) | exact HB.out)⟩⟩
       ·rw [if_neg c12] at H
        have c12b0 : ((((rd_T33 l0 x3_1).f1).length : Int) == 0) = false := beq_eq_false_iff_ne.mpr c12
        have c12b1 : ((((rd_T33 l0 x3_1).f1).length : Int) != 0) = true := bne_iff_ne.mpr c12
        have c12b2 : ¬ (((rd_T33 l0 x3_1).f1) = []) := fun h_ => c12 (by rw [h_];rfl)
        by_cases c13 : ((rd_T33 l0 x3_1).f0) = 3
        ·rw [if_pos c13] at H
         have c13b0 : (((rd_T33 l0 x3_1).f0) == 3) = true := beq_iff_eq.mpr c13
         have c13b1 : (((rd_T33 l0 x3_1).f0) != 3) = false := bne_eq_false_iff_eq.mpr c13
         clear c13
         replace H := Option.bind_eq_some_iff.mp H
         obtain ⟨t287,A140,H⟩ := H
         skip
         have A14 := Aside0.mk A140
         clear A140
         by_cases c15 : t287 = (-1)
         ·rw [if_pos c15] at H
          have c15b0 : (t287 == (-1)) = true := beq_iff_eq.mpr c15
          have c15b1 : (t287 != (-1)) = false := bne_eq_false_iff_eq.mpr c15
          clear c15
          have H' := Aside0.mk H
          clear H
          have p278 : 0 ≤ (x3_1 : Int) := of_decide_eq_true (by first | (with_reducible assumption) | assumption)
          have q278 : x3_1 < (l0.length : Int) := of_decide_eq_true (by first | (with_reducible assumption) | assumption)
          obtain ⟨ad278,A278_1,c278_1,e278,hx278_0,hx278_1,hl278_1,hi278_1⟩ := at_T33 HR0.out x3_1 p278 q278
          cases e278
          replace hx278_0 := (HB.out.cell (World.block_lt_of_cell? w _ hx278_0)).trans hx278_0
          replace hx278_1 := (HB.out.cell (World.block_lt_of_cell? w _ hx278_1)).trans hx278_1
          have HR278_1 := Aside0.mk hi278_1
          have HC278_1 := Aside0.mk hl278_1
          clear hi278_1 hl278_1
          replace p278 := eq_true p278
          replace q278 := eq_true q278
          have p283 : 0 ≤ (x3_1 : Int) := of_decide_eq_true (by first | (with_reducible assumption) | assumption)
          have q283 : x3_1 < (l0.length : Int) := of_decide_eq_true (by first | (with_reducible assumption) | assumption)
          obtain ⟨ad283,A283_1,c283_1,e283,hx283_0,hx283_1,hl283_1,hi283_1⟩ := at_T33 HR0.out x3_1 p283 q283
          obtain rfl : ad278 = ad283 := (by injection e283)
          replace hx283_0 := (HB.out.cell (World.block_lt_of_cell? w _ hx283_0)).trans hx283_0
          replace hx283_1 := (HB.out.cell (World.block_lt_of_cell? w _ hx283_1)).trans hx283_1
          have HR283_1 := Aside0.mk hi283_1
          have HC283_1 := Aside0.mk hl283_1
          clear hi283_1 hl283_1
          replace p283 := eq_true p283
          replace q283 := eq_true q283
          have ea_ := Option.some.inj (hx278_1.symm.trans hx283_1)
          injection ea_ with ea_ en_ ec_
          subst ea_
          subst ec_
          clear en_
          have p284 : 0 ≤ (x3_1 : Int) := of_decide_eq_true (by first | (with_reducible assumption) | assumption)
          have q284 : x3_1 < (l0.length : Int) := of_decide_eq_true (by first | (with_reducible assumption) | assumption)
          obtain ⟨ad284,A284_1,c284_1,e284,hx284_0,hx284_1,hl284_1,hi284_1⟩ := at_T33 HR0.out x3_1 p284 q284
          obtain rfl : ad278 = ad284 := (by injection e284)
          replace hx284_0 := (HB.out.cell (World.block_lt_of_cell? w _ hx284_0)).trans hx284_0
          replace hx284_1 := (HB.out.cell (World.block_lt_of_cell? w _ hx284_1)).trans hx284_1
          have HR284_1 := Aside0.mk hi284_1
          have HC284_1 := Aside0.mk hl284_1
          clear hi284_1 hl284_1
          replace p284 := eq_true p284
          replace q284 := eq_true q284
          have ea_ := Option.some.inj (hx278_1.symm.trans hx284_1)
          injection ea_ with ea_ en_ ec_
          subst ea_
          subst ec_
          clear en_
          have p285 : 0 ≤ (x3_1 : Int) := of_decide_eq_true (by first | (with_reducible assumption) | assumption)
          have q285 : x3_1 < (l0.length : Int) := of_decide_eq_true (by first | (with_reducible assumption) | assumption)
          obtain ⟨ad285,A285_1,c285_1,e285,hx285_0,hx285_1,hl285_1,hi285_1⟩ := at_T33 HR0.out x3_1 p285 q285
          obtain rfl : ad278 = ad285 := (by injection e285)
          replace hx285_0 := (HB.out.cell (World.block_lt_of_cell? w _ hx285_0)).trans hx285_0
          replace hx285_1 := (HB.out.cell (World.block_lt_of_cell? w _ hx285_1)).trans hx285_1
          have HR285_1 := Aside0.mk hi285_1
          have HC285_1 := Aside0.mk hl285_1
          clear hi285_1 hl285_1
          replace p285 := eq_true p285
          replace q285 := eq_true q285
          have ea_ := Option.some.inj (hx278_1.symm.trans hx285_1)
          injection ea_ with ea_ en_ ec_
          subst ea_
          subst ec_
          clear en_
          have p286 : 0 ≤ (x3_1 : Int) := of_decide_eq_true (by first | (with_reducible assumption) | assumption)
          have q286 : x3_1 < (l0.length : Int) := of_decide_eq_true (by first | (with_reducible assumption) | assumption)
          obtain ⟨ad286,A286_1,c286_1,e286,hx286_0,hx286_1,hl286_1,hi286_1⟩ := at_T33 HR0.out x3_1 p286 q286
          obtain rfl : ad278 = ad286 := (by injection e286)
          replace hx286_0 := (HB.out.cell (World.block_lt_of_cell? w _ hx286_0)).trans hx286_0
          replace hx286_1 := (HB.out.cell (World.block_lt_of_cell? w _ hx286_1)).trans hx286_1
          have HR286_1 := Aside0.mk hi286_1
          have HC286_1 := Aside0.mk hl286_1
          clear hi286_1 hl286_1
          replace p286 := eq_true p286
          replace q286 := eq_true q286
          have ea_ := Option.some.inj (hx278_1.symm.trans hx286_1)
          injection ea_ with ea_ en_ ec_
          subst ea_
          subst ec_
          clear en_
          go_wp2_with (first | (go_at_call 17;(with_reducible refine (glyphcutterref16_Check.calls k1 _ _ ((rd_T33 l0 x3_1).f1) t287 _ ?side1 ?side2 A14.out).mono ?_);(case side1 => repeat (first | exact (Kd.C_below HR286_1.out HB.out) | (with_reducible refine Kd.C_alloc ?_ _) | (with_reducible refine Kd.C_drewN ?_ _) | (with_reducible refine Kd.C_drew ?_)));(case side2 => exact HC286_1.out);rintro e w16 ⟨rfl,hb⟩;have n0_ := Aside0.mk (below_step (by repeat (first | (with_reducible first | exact HB.out | apply below_alloc | apply pw_below_drewN | apply below_drew1) | exact HB.out)) hb);clear HB;have HB := n0_;clear n0_;(try clear hb);(try clear hb2);(try clear hk);(try clear hi)))
          go_roundg k1
          case measure => have := HK1.out;omega
          case rel => exact ⟨(wrap64 (x3_1 + 1)),(by first | rfl | (simp;done) | (simp [*];done)),H',⟨by have := HK1.out;omega⟩,⟨by repeat (first | (with_reducible first | exact HB.out | apply below_alloc | apply pw_below_drewN | apply below_drew1) | exact HB.out)⟩⟩
         ·rw [if_neg c15] at H
          have c15b0 : (t287 == (-1)) = false := beq_eq_false_iff_ne.mpr c15
          have c15b1 : (t287 != (-1)) = true := bne_iff_ne.mpr c15
          obtain rfl := Option.some.inj H
          have p278 : 0 ≤ (x3_1 : Int) := of_decide_eq_true (by first | (with_reducible assumption) | assumption)
          have q278 : x3_1 < (l0.length : Int) := of_decide_eq_true (by first | (with_reducible assumption) | assumption)
          obtain ⟨ad278,A278_1,c278_1,e278,hx278_0,hx278_1,hl278_1,hi278_1⟩ := at_T33 HR0.out x3_1 p278 q278
          cases e278
          replace hx278_0 := (HB.out.cell (World.block_lt_of_cell? w _ hx278_0)).trans hx278_0
          replace hx278_1 := (HB.out.cell (World.block_lt_of_cell? w _ hx278_1)).trans hx278_1
          have HR278_1 := Aside0.mk hi278_1
          have HC278_1 := Aside0.mk hl278_1
          clear hi278_1 hl278_1
          replace p278 := eq_true p278
          replace q278 := eq_true q278
          have p283 : 0 ≤ (x3_1 : Int) := of_decide_eq_true (by first | (with_reducible assumption) | assumption)
          have q283 : x3_1 < (l0.length : Int) := of_decide_eq_true (by first | (with_reducible assumption) | assumption)
          obtain ⟨ad283,A283_1,c283_1,e283,hx283_0,hx283_1,hl283_1,hi283_1⟩ := at_T33 HR0.out x3_1 p283 q283
          obtain rfl : ad278 = ad283 := (by injection e283)
          replace hx283_0 := (HB.out.cell (World.block_lt_of_cell? w _ hx283_0)).trans hx283_0
          replace hx283_1 := (HB.out.cell (World.block_lt_of_cell? w _ hx283_1)).trans hx283_1
          have HR283_1 := Aside0.mk hi283_1
          have HC283_1 := Aside0.mk hl283_1
          clear hi283_1 hl283_1
          replace p283 := eq_true p283
          replace q283 := eq_true q283
          have ea_ := Option.some.inj (hx278_1.symm.trans hx283_1)
          injection ea_ with ea_ en_ ec_
          subst ea_
          subst ec_
          clear en_
          have p284 : 0 ≤ (x3_1 : Int) := of_decide_eq_true (by first | (with_reducible assumption) | assumption)
          have q284 : x3_1 < (l0.length : Int) := of_decide_eq_true (by first | (with_reducible assumption) | assumption)
          obtain ⟨ad284,A284_1,c284_1,e284,hx284_0,hx284_1,hl284_1,hi284_1⟩ := at_T33 HR0.out x3_1 p284 q284
          obtain rfl : ad278 = ad284 := (by injection e284)
          replace hx284_0 := (HB.out.cell (World.block_lt_of_cell? w _ hx284_0)).trans hx284_0
          replace hx284_1 := (HB.out.cell (World.block_lt_of_cell? w _ hx284_1)).trans hx284_1
          have HR284_1 := Aside0.mk hi284_1
          have HC284_1 := Aside0.mk hl284_1
          clear hi284_1 hl284_1
          replace p284 := eq_true p284
          replace q284 := eq_true q284
          have ea_ := Option.some.inj (hx278_1.symm.trans hx284_1)
          injection ea_ with ea_ en_ ec_
          subst ea_
          subst ec_
          clear en_
          have p285 : 0 ≤ (x3_1 : Int) := of_decide_eq_true (by first | (with_reducible assumption) | assumption)
          have q285 : x3_1 < (l0.length : Int) := of_decide_eq_true (by first | (with_reducible assumption) | assumption)
          obtain ⟨ad285,A285_1,c285_1,e285,hx285_0,hx285_1,hl285_1,hi285_1⟩ := at_T33 HR0.out x3_1 p285 q285
          obtain rfl : ad278 = ad285 := (by injection e285)
          replace hx285_0 := (HB.out.cell (World.block_lt_of_cell? w _ hx285_0)).trans hx285_0
          replace hx285_1 := (HB.out.cell (World.block_lt_of_cell? w _ hx285_1)).trans hx285_1
          have HR285_1 := Aside0.mk hi285_1
          have HC285_1 := Aside0.mk hl285_1
          clear hi285_1 hl285_1
          replace p285 := eq_true p285
          replace q285 := eq_true q285
          have ea_ := Option.some.inj (hx278_1.symm.trans hx285_1)
          injection ea_ with ea_ en_ ec_
          subst ea_
          subst ec_
          clear en_
          have p286 : 0 ≤ (x3_1 : Int) := of_decide_eq_true (by first | (with_reducible assumption) | assumption)
          have q286 : x3_1 < (l0.length : Int) := of_decide_eq_true (by first | (with_reducible assumption) | assumption)
          obtain ⟨ad286,A286_1,c286_1,e286,hx286_0,hx286_1,hl286_1,hi286_1⟩ := at_T33 HR0.out x3_1 p286 q286
          obtain rfl : ad278 = ad286 := (by injection e286)
          replace hx286_0 := (HB.out.cell (World.block_lt_of_cell? w _ hx286_0)).trans hx286_0
          replace hx286_1 := (HB.out.cell (World.block_lt_of_cell? w _ hx286_1)).trans hx286_1
          have HR286_1 := Aside0.mk hi286_1
          have HC286_1 := Aside0.mk hl286_1
          clear hi286_1 hl286_1
          replace p286 := eq_true p286
          replace q286 := eq_true q286
          have ea_ := Option.some.inj (hx278_1.symm.trans hx286_1)
          injection ea_ with ea_ en_ ec_
          subst ea_
          subst ec_
          clear en_
          go_wp2_with (first | (go_at_call 17;(with_reducible refine (glyphcutterref16_Check.calls k1 _ _ ((rd_T33 l0 x3_1).f1) t287 _ ?side1 ?side2 A14.out).mono ?_);(case side1 => repeat (first | exact (Kd.C_below HR286_1.out HB.out) | (with_reducible refine Kd.C_alloc ?_ _) | (with_reducible refine Kd.C_drewN ?_ _) | (with_reducible refine Kd.C_drew ?_)));(case side2 => exact HC286_1.out);rintro e w17 ⟨rfl,hb⟩;have n0_ := Aside0.mk (below_step (by repeat (first | (with_reducible first | exact HB.out | apply below_alloc | apply pw_below_drewN | apply below_drew1) | exact HB.out)) hb);clear HB;have HB := n0_;clear n0_;(try clear hb);(try clear hb2);(try clear hk);(try clear hi)))
          go_ret
          exact ⟨by first | rfl | (simp [errW_none,errW_some] <;> rfl) | (simp [*,errW_none,errW_some] <;> rfl),by repeat (first | (with_reducible first | exact HB.out | apply below_alloc | apply pw_below_drewN | apply below_drew1) | exact HB.out)⟩
        ·rw [if_neg c13] at H
         have c13b0 : (((rd_T33 l0 x3_1).f0) == 3) = false := beq_eq_false_iff_ne.mpr c13
         have c13b1 : (((rd_T33 l0 x3_1).f0) != 3) = true := bne_iff_ne.mpr c13
         obtain rfl := Option.some.inj H
         have p278 : 0 ≤ (x3_1 : Int) := of_decide_eq_true (by first | (with_reducible assumption) | assumption)
         have q278 : x3_1 < (l0.length : Int) := of_decide_eq_true (by first | (with_reducible assumption) | assumption)
         obtain ⟨ad278,A278_1,c278_1,e278,hx278_0,hx278_1,hl278_1,hi278_1⟩ := at_T33 HR0.out x3_1 p278 q278
         cases e278
         replace hx278_0 := (HB.out.cell (World.block_lt_of_cell? w _ hx278_0)).trans hx278_0
         replace hx278_1 := (HB.out.cell (World.block_lt_of_cell? w _ hx278_1)).trans hx278_1
         have HR278_1 := Aside0.mk hi278_1
         have HC278_1 := Aside0.mk hl278_1
         clear hi278_1 hl278_1
         replace p278 := eq_true p278
         replace q278 := eq_true q278
         have p283 : 0 ≤ (x3_1 : Int) := of_decide_eq_true (by first | (with_reducible assumption) | assumption)
         have q283 : x3_1 < (l0.length : Int) := of_decide_eq_true (by first | (with_reducible assumption) | assumption)
         obtain ⟨ad283,A283_1,c283_1,e283,hx283_0,hx283_1,hl283_1,hi283_1⟩ := at_T33 HR0.out x3_1 p283 q283
         obtain rfl : ad278 = ad283 := (by injection e283)
         replace hx283_0 := (HB.out.cell (World.block_lt_of_cell? w _ hx283_0)).trans hx283_0
         replace hx283_1 := (HB.out.cell (World.block_lt_of_cell? w _ hx283_1)).trans hx283_1
         have HR283_1 := Aside0.mk hi283_1
         have HC283_1 := Aside0.mk hl283_1
         clear hi283_1 hl283_1
         replace p283 := eq_true p283
         replace q283 := eq_true q283
         have ea_ := Option.some.inj (hx278_1.symm.trans hx283_1)
         injection ea_ with ea_ en_ ec_
         subst ea_
         subst ec_
         clear en_
         have p284 : 0 ≤ (x3_1 : Int) := of_decide_eq_true (by first | (with_reducible assumption) | assumption)
         have q284 : x3_1 < (l0.length : Int) := of_decide_eq_true (by first | (with_reducible assumption) | assumption)
         obtain ⟨ad284,A284_1,c284_1,e284,hx284_0,hx284_1,hl284_1,hi284_1⟩ := at_T33 HR0.out x3_1 p284 q284
         obtain rfl : ad278 = ad284 := (by injection e284)
         replace hx284_0 := (HB.out.cell (World.block_lt_of_cell? w _ hx284_0)).trans hx284_0
         replace hx284_1 := (HB.out.cell (World.block_lt_of_cell? w _ hx284_1)).trans hx284_1
         have HR284_1 := Aside0.mk hi284_1
         have HC284_1 := Aside0.mk hl284_1
         clear hi284_1 hl284_1
         replace p284 := eq_true p284
         replace q284 := eq_true q284
         have ea_ := Option.some.inj (hx278_1.symm.trans hx284_1)
         injection ea_ with ea_ en_ ec_
         subst ea_
         subst ec_
         clear en_
         have p285 : 0 ≤ (x3_1 : Int) := of_decide_eq_true (by first | (with_reducible assumption) | assumption)
         have q285 : x3_1 < (l0.length : Int) := of_decide_eq_true (by first | (with_reducible assumption) | assumption)
         obtain ⟨ad285,A285_1,c285_1,e285,hx285_0,hx285_1,hl285_1,hi285_1⟩ := at_T33 HR0.out x3_1 p285 q285
         obtain rfl : ad278 = ad285 := (by injection e285)
         replace hx285_0 := (HB.out.cell (World.block_lt_of_cell? w _ hx285_0)).trans hx285_0
         replace hx285_1 := (HB.out.cell (World.block_lt_of_cell? w _ hx285_1)).trans hx285_1
         have HR285_1 := Aside0.mk hi285_1
         have HC285_1 := Aside0.mk hl285_1
         clear hi285_1 hl285_1
         replace p285 := eq_true p285
         replace q285 := eq_true q285
         have ea_ := Option.some.inj (hx278_1.symm.trans hx285_1)
         injection ea_ with ea_ en_ ec_
         subst ea_
         subst ec_
         clear en_
         go_wp2
         go_ret
         exact ⟨by first | rfl | (simp [errW_none,errW_some] <;> rfl) | (simp [*,errW_none,errW_some] <;> rfl),by repeat (first | (with_reducible first | exact HB.out | apply below_alloc | apply pw_below_drewN | apply below_drew1) | exact HB.out)⟩
      ·rw [if_neg c11] at H
       have c11b0 : (((rd_T33 l0 x3_1).f0) == 2) = false := beq_eq_false_iff_ne.mpr c11
       have c11b1 : (((rd_T33 l0 x3_1).f0) != 2) = true := bne_iff_ne.mpr c11
       by_cases c18 : ((rd_T33 l0 x3_1).f0) = 3
       ·rw [if_pos c18] at H
        have c18b0 : (((rd_T33 l0 x3_1).f0) == 3) = true := beq_iff_eq.mpr c18
        have c18b1 : (((rd_T33 l0 x3_1).f0) != 3) = false := bne_eq_false_iff_eq.mpr c18
        clear c18
        replace H := Option.bind_eq_some_iff.mp H
        obtain ⟨t290,A190,H⟩ := H
        skip
        have A19 := Aside0.mk A190
        clear A190
        by_cases c20 : t290 = (-1)
        ·rw [if_pos c20] at H
         have c20b0 : (t290 == (-1)) = true := beq_iff_eq.mpr c20
         have c20b1 : (t290 != (-1)) = false := bne_eq_false_iff_eq.mpr c20
         clear c20
         have H' := Aside0.mk H
         clear H
         have p278 : 0 ≤ (x3_1 : Int) := of_decide_eq_true (by first | (with_reducible assumption) | assumption)
         have q278 : x3_1 < (l0.length : Int) := of_decide_eq_true (by first | (with_reducible assumption) | assumption)
         obtain ⟨ad278,A278_1,c278_1,e278,hx278_0,hx278_1,hl278_1,hi278_1⟩ := at_T33 HR0.out x3_1 p278 q278
         cases e278
         replace hx278_0 := (HB.out.cell (World.block_lt_of_cell? w _ hx278_0)).trans hx278_0
         replace hx278_1 := (HB.out.cell (World.block_lt_of_cell? w _ hx278_1)).trans hx278_1
         have HR278_1 := Aside0.mk hi278_1
         have HC278_1 := Aside0.mk hl278_1
         clear hi278_1 hl278_1
         replace p278 := eq_true p278
         replace q278 := eq_true q278
         have p283 : 0 ≤ (x3_1 : Int) := of_decide_eq_true (by first | (with_reducible assumption) | assumption)
         have q283 : x3_1 < (l0.length : Int) := of_decide_eq_true (by first | (with_reducible assumption) | assumption)
         obtain ⟨ad283,A283_1,c283_1,e283,hx283_0,hx283_1,hl283_1,hi283_1⟩ := at_T33 HR0.out x3_1 p283 q283
         obtain rfl : ad278 = ad283 := (by injection e283)
         replace hx283_0 := (HB.out.cell (World.block_lt_of_cell? w _ hx283_0)).trans hx283_0
         replace hx283_1 := (HB.out.cell (World.block_lt_of_cell? w _ hx283_1)).trans hx283_1
         have HR283_1 := Aside0.mk hi283_1
         have HC283_1 := Aside0.mk hl283_1
         clear hi283_1 hl283_1
         replace p283 := eq_true p283
         replace q283 := eq_true q283
         have ea_ := Option.some.inj (hx278_1.symm.trans hx283_1)
         injection ea_ with ea_ en_ ec_
         subst ea_
         subst ec_
         clear en_
         have p288 : 0 ≤ (x3_1 : Int) := of_decide_eq_true (by first | (with_reducible assumption) | assumption)
         have q288 : x3_1 < (l0.length : Int) := of_decide_eq_true (by first | (with_reducible assumption) | assumption)
         obtain ⟨ad288,A288_1,c288_1,e288,hx288_0,hx288_1,hl288_1,hi288_1⟩ := at_T33 HR0.out x3_1 p288 q288
         obtain rfl : ad278 = ad288 := (by injection e288)
         replace hx288_0 := (HB.out.cell (World.block_lt_of_cell? w _ hx288_0)).trans hx288_0
         replace hx288_1 := (HB.out.cell (World.block_lt_of_cell? w _ hx288_1)).trans hx288_1
         have HR288_1 := Aside0.mk hi288_1
         have HC288_1 := Aside0.mk hl288_1
         clear hi288_1 hl288_1
         replace p288 := eq_true p288
         replace q288 := eq_true q288
         have ea_ := Option.some.inj (hx278_1.symm.trans hx288_1)
         injection ea_ with ea_ en_ ec_
         subst ea_
         subst ec_
         clear en_
         have p289 : 0 ≤ (x3_1 : Int) := of_decide_eq_true (by first | (with_reducible assumption) | assumption)
         have q289 : x3_1 < (l0.length : Int) := of_decide_eq_true (by first | (with_reducible assumption) | assumption)
         obtain ⟨ad289,A289_1,c289_1,e289,hx289_0,hx289_1,hl289_1,hi289_1⟩ := at_T33 HR0.out x3_1 p289 q289
         obtain rfl : ad278 = ad289 := (by injection e289)
         replace hx289_0 := (HB.out.cell (World.block_lt_of_cell? w _ hx289_0)).trans hx289_0
         replace hx289_1 := (HB.out.cell (World.block_lt_of_cell? w _ hx289_1)).trans hx289_1
         have HR289_1 := Aside0.mk hi289_1
         have HC289_1 := Aside0.mk hl289_1
         clear hi289_1 hl289_1
         replace p289 := eq_true p289
         replace q289 := eq_true q289
         have ea_ := Option.some.inj (hx278_1.symm.trans hx289_1)
         injection ea_ with ea_ en_ ec_
         subst ea_
         subst ec_
         clear en_
         go_wp2_with (first | (go_at_call 17;(with_reducible refine (glyphcutterref16_Check.calls k1 _ _ ((rd_T33 l0 x3_1).f1) t290 _ ?side1 ?side2 A19.out).mono ?_);(case side1 => repeat (first | exact (Kd.C_below HR289_1.out HB.out) | (with_reducible refine Kd.C_alloc ?_ _) | (with_reducible refine Kd.C_drewN ?_ _) | (with_reducible refine Kd.C_drew ?_)));(case side2 => exact HC289_1.out);rintro e w21 ⟨rfl,hb⟩;have n0_ := Aside0.mk (below_step (by repeat (first | (with_reducible first | exact HB.out | apply below_alloc | apply pw_below_drewN | apply below_drew1) | exact HB.out)) hb);clear HB;have HB := n0_;clear n0_;(try clear hb);(try clear hb2);(try clear hk);(try clear hi)))
         go_roundg k1
         case measure => have := HK1.out;omega
         case rel => exact ⟨(wrap64 (x3_1 + 1)),(by first | rfl | (simp;done) | (simp [*];done)),H',⟨by have := HK1.out;omega⟩,⟨by repeat (first | (with_reducible first | exact HB.out | apply below_alloc | apply pw_below_drewN | apply below_drew1) | exact HB.out)⟩⟩
        ·rw [if_neg c20] at H
         have c20b0 : (t290 == (-1)) = false := beq_eq_false_iff_ne.mpr c20
         have c20b1 : (t290 != (-1)) = true := bne_iff_ne.mpr c20
         obtain rfl := Option.some.inj H
         have p278 : 0 ≤ (x3_1 : Int) := of_decide_eq_true (by first | (with_reducible assumption) | assumption)
         have q278 : x3_1 < (l0.length : Int) := of_decide_eq_true (by first | (with_reducible assumption) | assumption)
         obtain ⟨ad278,A278_1,c278_1,e278,hx278_0,hx278_1,hl278_1,hi278_1⟩ := at_T33 HR0.out x3_1 p278 q278
         cases e278
         replace hx278_0 := (HB.out.cell (World.block_lt_of_cell? w _ hx278_0)).trans hx278_0
         replace hx278_1 := (HB.out.cell (World.block_lt_of_cell? w _ hx278_1)).trans hx278_1
         have HR278_1 := Aside0.mk hi278_1
         have HC278_1 := Aside0.mk hl278_1
         clear hi278_1 hl278_1
         replace p278 := eq_true p278
         replace q278 := eq_true q278
         have p283 : 0 ≤ (x3_1 : Int) := of_decide_eq_true (by first | (with_reducible assumption) | assumption)
         have q283 : x3_1 < (l0.length : Int) := of_decide_eq_true (by first | (with_reducible assumption) | assumption)
         obtain ⟨ad283,A283_1,c283_1,e283,hx283_0,hx283_1,hl283_1,hi283_1⟩ := at_T33 HR0.out x3_1 p283 q283
         obtain rfl : ad278 = ad283 := (by injection e283)
         replace hx283_0 := (HB.out.cell (World.block_lt_of_cell? w _ hx283_0)).trans hx283_0
         replace hx283_1 := (HB.out.cell (World.block_lt_of_cell? w _ hx283_1)).trans hx283_1
         have HR283_1 := Aside0.mk hi283_1
         have HC283_1 := Aside0.mk hl283_1
         clear hi283_1 hl283_1
         replace p283 := eq_true p283
         replace q283 := eq_true q283
         have ea_ := Option.some.inj (hx278_1.symm.trans hx283_1)
         injection ea_ with ea_ en_ ec_
         subst ea_
         subst ec_
         clear en_
         have p288 : 0 ≤ (x3_1 : Int) := of_decide_eq_true (by first | (with_reducible assumption) | assumption)
         have q288 : x3_1 < (l0.length : Int) := of_decide_eq_true (by first | (with_reducible assumption) | assumption)
         obtain ⟨ad288,A288_1,c288_1,e288,hx288_0,hx288_1,hl288_1,hi288_1⟩ := at_T33 HR0.out x3_1 p288 q288
         obtain rfl : ad278 = ad288 := (by injection e288)
         replace hx288_0 := (HB.out.cell (World.block_lt_of_cell? w _ hx288_0)).trans hx288_0
         replace hx288_1 := (HB.out.cell (World.block_lt_of_cell? w _ hx288_1)).trans hx288_1
         have HR288_1 := Aside0.mk hi288_1
         have HC288_1 := Aside0.mk hl288_1
         clear hi288_1 hl288_1
         replace p288 := eq_true p288
         replace q288 := eq_true q288
         have ea_ := Option.some.inj (hx278_1.symm.trans hx288_1)
         injection ea_ with ea_ en_ ec_
         subst ea_
         subst ec_
         clear en_
         have p289 : 0 ≤ (x3_1 : Int) := of_decide_eq_true (by first | (with_reducible assumption) | assumption)
         have q289 : x3_1 < (l0.length : Int) := of_decide_eq_true (by first | (with_reducible assumption) | assumption)
         obtain ⟨ad289,A289_1,c289_1,e289,hx289_0,hx289_1,hl289_1,hi289_1⟩ := at_T33 HR0.out x3_1 p289 q289
         obtain rfl : ad278 = ad289 := (by injection e289)
         replace hx289_0 := (HB.out.cell (World.block_lt_of_cell? w _ hx289_0)).trans hx289_0
         replace hx289_1 := (HB.out.cell (World.block_lt_of_cell? w _ hx289_1)).trans hx289_1
         have HR289_1 := Aside0.mk hi289_1
         have HC289_1 := Aside0.mk hl289_1
         clear hi289_1 hl289_1
         replace p289 := eq_true p289
         replace q289 := eq_true q289
         have ea_ := Option.some.inj (hx278_1.symm.trans hx289_1)
         injection ea_ with ea_ en_ ec_
         subst ea_
         subst ec_
         clear en_
         go_wp2_with (first | (go_at_call 17;(with_reducible refine (glyphcutterref16_Check.calls k1 _ _ ((rd_T33 l0 x3_1).f1) t290 _ ?side1 ?side2 A19.out).mono ?_);(case side1 => repeat (first | exact (Kd.C_below HR289_1.out HB.out) | (with_reducible refine Kd.C_alloc ?_ _) | (with_reducible refine Kd.C_drewN ?_ _) | (with_reducible refine Kd.C_drew ?_)));(case side2 => exact HC289_1.out);rintro e w22 ⟨rfl,hb⟩;have n0_ := Aside0.mk (below_step (by repeat (first | (with_reducible first | exact HB.out | apply below_alloc | apply pw_below_drewN | apply below_drew1) | exact HB.out)) hb);clear HB;have HB := n0_;clear n0_;(try clear hb);(try clear hb2);(try clear hk);(try clear hi)))
         go_ret
         exact ⟨by first | rfl | (simp [errW_none,errW_some] <;> rfl) | (simp [*,errW_none,errW_some] <;> rfl),by repeat (first | (with_reducible first | exact HB.out | apply below_alloc | apply pw_below_drewN | apply below_drew1) | exact HB.out)⟩
       ·rw [if_neg c18] at H
        have c18b0 : (((rd_T33 l0 x3_1).f0) == 3) = false := beq_eq_false_iff_ne.mpr c18
        have c18b1 : (((rd_T33 l0 x3_1).f0) != 3) = true := bne_iff_ne.mpr c18
        obtain rfl := Option.some.inj H
        have p278 : 0 ≤ (x3_1 : Int) := of_decide_eq_true (by first | (with_reducible assumption) | assumption)
        have q278 : x3_1 < (l0.length : Int) := of_decide_eq_true (by first | (with_reducible assumption) | assumption)
        obtain ⟨ad278,A278_1,c278_1,e278,hx278_0,hx278_1,hl278_1,hi278_1⟩ := at_T33 HR0.out x3_1 p278 q278
        cases e278
        replace hx278_0 := (HB.out.cell (World.block_lt_of_cell? w _ hx278_0)).trans hx278_0
        replace hx278_1 := (HB.out.cell (World.block_lt_of_cell? w _ hx278_1)).trans hx278_1
        have HR278_1 := Aside0.mk hi278_1
        have HC278_1 := Aside0.mk hl278_1
        clear hi278_1 hl278_1
        replace p278 := eq_true p278
        replace q278 := eq_true q278
        have p283 : 0 ≤ (x3_1 : Int) := of_decide_eq_true (by first | (with_reducible assumption) | assumption)
        have q283 : x3_1 < (l0.length : Int) := of_decide_eq_true (by first | (with_reducible assumption) | assumption)
        obtain ⟨ad283,A283_1,c283_1,e283,hx283_0,hx283_1,hl283_1,hi283_1⟩ := at_T33 HR0.out x3_1 p283 q283
        obtain rfl : ad278 = ad283 := (by injection e283)
        replace hx283_0 := (HB.out.cell (World.block_lt_of_cell? w _ hx283_0)).trans hx283_0
        replace hx283_1 := (HB.out.cell (World.block_lt_of_cell? w _ hx283_1)).trans hx283_1
        have HR283_1 := Aside0.mk hi283_1
        have HC283_1 := Aside0.mk hl283_1
        clear hi283_1 hl283_1
        replace p283 := eq_true p283
        replace q283 := eq_true q283
        have ea_ := Option.some.inj (hx278_1.symm.trans hx283_1)
        injection ea_ with ea_ en_ ec_
        subst ea_
        subst ec_
        clear en_
        have p288 : 0 ≤ (x3_1 : Int) := of_decide_eq_true (by first | (with_reducible assumption) | assumption)
        have q288 : x3_1 < (l0.length : Int) := of_decide_eq_true (by first | (with_reducible assumption) | assumption)
        obtain ⟨ad288,A288_1,c288_1,e288,hx288_0,hx288_1,hl288_1,hi288_1⟩ := at_T33 HR0.out x3_1 p288 q288
        obtain rfl : ad278 = ad288 := (by injection e288)
        replace hx288_0 := (HB.out.cell (World.block_lt_of_cell? w _ hx288_0)).trans hx288_0
        replace hx288_1 := (HB.out.cell (World.block_lt_of_cell? w _ hx288_1)).trans hx288_1
        have HR288_1 := Aside0.mk hi288_1
        have HC288_1 := Aside0.mk hl288_1
        clear hi288_1 hl288_1
        replace p288 := eq_true p288
        replace q288 := eq_true q288
        have ea_ := Option.some.inj (hx278_1.symm.trans hx288_1)
        injection ea_ with ea_ en_ ec_
        subst ea_
        subst ec_
        clear en_
        go_wp2
        go_ret
        exact ⟨by first | rfl | (simp [errW_none,errW_some] <;> rfl) | (simp [*,errW_none,errW_some] <;> rfl),by repeat (first | (with_reducible first | exact HB.out | apply below_alloc | apply pw_below_drewN | apply below_drew1) | exact HB.out)⟩
    ·rw [if_neg c3] at H
     exact absurd H (by simp)
   ·rw [if_neg c2] at H
    have c2b0 : decide (x3_1 < (l0.length : Int)) = false := decide_eq_false c2
    clear c2
    obtain rfl := Option.some.inj H
    go_wp2
    go_ret
    exact ⟨by first | rfl | (simp [errW_none,errW_some] <;> rfl) | (simp [*,errW_none,errW_some] <;> rfl),by repeat (first | (with_reducible first | exact HB.out | apply below_alloc | apply pw_below_drewN | apply below_drew1) | exact HB.out)⟩

end Go.Proofs.Ytfaahcgoinkmlaa.P
