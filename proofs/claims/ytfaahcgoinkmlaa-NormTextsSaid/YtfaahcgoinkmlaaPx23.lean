-- WRITTEN BY A PROGRAM (hybrid.py over the kit's print.py): Lean checks it.
import Derived.Test.YtfaahcgoinkmlaaPx0
namespace Go.Proofs.Ytfaahcgoinkmlaa.P
open Go.RowKit Go.Proofs.YtfaahcgoinkmlaaW.PrintWords Go.Proofs.YtfaahcgoinkmlaaW.PrintLast Go.Proofs.YtfaahcgoinkmlaaW.PrintMore
attribute [local go_sem] max2_int min2_int max_two min_two max_three min_three max_four min_four   -- for this text's walks alone
set_option linter.unusedVariables false
set_option linter.unusedSimpArgs false

/-! ### utf_of: function 64 -/
def utf_of.j0 : Nat → Int → Bool → Option (Int × Int × Int × Int)
 | 0,_,_ => none
 | k + 1,x0,x8 => if x8 = true then (some (0,0,0,0)) else (if x0 < 224 then (some (2,Go.bits .and .u8 x0 31,128,191)) else (if x0 = 224 then (some (3,0,160,191)) else (if x0 = 237 then (some (3,13,128,159)) else (if x0 < 240 then (some (3,Go.bits .and .u8 x0 15,128,191)) else (if x0 = 240 then (some (4,0,144,191)) else (if x0 = 244 then (some (4,4,128,143)) else (some (4,Go.bits .and .u8 x0 7,128,191))))))))
def utf_of.f (k : Nat) (a0 : Int) : Option (Int × Int × Int × Int) := if a0 < 128 then (some (1,a0,0,0)) else (if a0 < 194 then (utf_of.j0 k a0 (decide (a0 < 194))) else (utf_of.j0 k a0 (decide (a0 > 244))))
theorem utf_of.mono_l : ∀ k,(∀ y0 y1,LeO (utf_of.j0 k y0 y1) (utf_of.j0 (k + 1) y0 y1))
 | 0 => fun _ _ r h => by simp [utf_of.j0] at h
 | k + 1 => by
  have ih0 := utf_of.mono_l k
  ·intro y0 y1
   unfold utf_of.j0
   repeat' first
   | (with_reducible exact ih0 _ _)
   | (with_reducible exact LeO.refl _)
   | (with_reducible exact LeO.none _)
   | (with_reducible refine LeO.ite ?_ ?_)
   | (with_reducible refine LeO.bind ?_ (fun _ => ?_))
   | exact ih0 _ _
   | exact LeO.none _
   | refine LeO.ite ?_ ?_
   | refine LeO.bind ?_ (fun _ => ?_)
theorem utf_of.mono : ∀ a0 k,LeO (utf_of.f k a0) (utf_of.f (k + 1) a0) := by
 intro a0 k
 have ih0 := utf_of.mono_l k
 unfold utf_of.f
 repeat' first
   | (with_reducible exact ih0 _ _)
   | (with_reducible exact LeO.refl _)
   | (with_reducible exact LeO.none _)
   | (with_reducible refine LeO.ite ?_ ?_)
   | (with_reducible refine LeO.bind ?_ (fun _ => ?_))
   | exact ih0 _ _
   | exact LeO.none _
   | refine LeO.ite ?_ ?_
   | refine LeO.bind ?_ (fun _ => ?_)
set_option maxHeartbeats 8000000 in
set_option maxRecDepth 100000 in
theorem utf_of.calls (k : Nat) (a0 : Int) (r1 : Int) (r2 : Int) (r3 : Int) (r4 : Int) (w : World) (h : utf_of.f k a0 = some (r1,r2,r3,r4)) :
  Calls Try.prog 64 #[.int .u8 a0] w fun e w' => e = .returned (.agg #[.int .i64 r1,.int .u8 r2,.int .u8 r3,.int .u8 r4]) ∧ Below w.heap.size w w' := by
 have hu93 := Try.underlying93
 have HB := Aside0.mk (Below.refl w.heap.size w)
 have H : (if a0 < 128 then (some (1,a0,0,0)) else (if a0 < 194 then (utf_of.j0 k a0 (decide (a0 < 194))) else (utf_of.j0 k a0 (decide (a0 > 244))))) = some (r1,r2,r3,r4) := h
 clear h
 by_cases c2 : a0 < 128
 ·rw [if_pos c2] at H
  have c2b0 : decide (a0 < 128) = true := decide_eq_true c2
  clear c2
  simp only [Option.some.injEq,Prod.mk.injEq] at H
  obtain ⟨rfl,rfl,rfl,rfl⟩ := H
  go_enter Try.func64,Try.ntmps64
  go_wp2_with (first | ((with_reducible refine gate_dst (N := 2) rfl ?_);refine box_event ?hg (N := 2) ?hd (cs := #[.int .i64 0,.int .u8 0,.int .u8 0,.int .u8 0]) (t := 93) ?hr ?_;(case hd => rfl);(case hg => rfl);(case hr => first | (go_simp;done) | (go_simp;rfl));intro gb493 hg w3 hbox hb;have n0_ := Aside0.mk (below_step (by repeat (first | (with_reducible first | exact HB.out | apply below_alloc | apply pw_below_drewN | apply below_drew1) | exact HB.out)) hb);have n1_ := Aside0.mk (hbox);have n2_ := Aside0.mk ((by rw [hg];exact (below_size (by repeat (first | (with_reducible first | exact HB.out | apply below_alloc | apply pw_below_drewN | apply below_drew1) | exact HB.out))) : w.heap.size ≤ gb493));have n3_ := Aside0.mk ((by rw [hg];exact (below_size (by repeat (first | (with_reducible first | exact HB.out | apply below_alloc | apply pw_below_drewN | apply below_drew1) | exact HB.out))) : w.heap.size ≤ gb493));clear HB;have HB := n0_;have BK493 := n1_;have GW493 := n2_;have GE493 := n3_;clear n0_ n1_ n2_ n3_;clear hb hbox hg;have hcz4_0 : w3.cell? ⟨gb493,0,none⟩ = some (.int .i64 0) := (blk_cell BK493.out 0).trans rfl;have hcz4_1 : w3.cell? ⟨gb493,1,none⟩ = some (.int .u8 0) := (blk_cell BK493.out 1).trans rfl;have hcz4_2 : w3.cell? ⟨gb493,2,none⟩ = some (.int .u8 0) := (blk_cell BK493.out 2).trans rfl;have hcz4_3 : w3.cell? ⟨gb493,3,none⟩ = some (.int .u8 0) := (blk_cell BK493.out 3).trans rfl;have hfz4_0 := blk_frozen BK493.out 0;have hfz4_1 := blk_frozen BK493.out 1;have hfz4_2 := blk_frozen BK493.out 2;have hfz4_3 := blk_frozen BK493.out 3))
  refine bodyPost_ret (results_cell_row rfl _ _ gb493 93 #[.int .i64 1,.int .u8 a0,.int .u8 0,.int .u8 0] (0,0) _ rfl (by (with_reducible repeat (first | refine blk_drewN ?_ _ | refine blk_drew ?_ | refine blk_alloc ?_ _));refine blk_put (cs := #[.int .i64 1,.int .u8 a0,.int .u8 0,.int .u8 0]) ?_ 3 _ rfl;(with_reducible repeat (first | refine blk_drewN ?_ _ | refine blk_drew ?_ | refine blk_alloc ?_ _));refine blk_put (cs := #[.int .i64 1,.int .u8 a0,.int .u8 0,.int .u8 0]) ?_ 2 _ rfl;(with_reducible repeat (first | refine blk_drewN ?_ _ | refine blk_drew ?_ | refine blk_alloc ?_ _));refine blk_put (cs := #[.int .i64 1,.int .u8 0,.int .u8 0,.int .u8 0]) ?_ 1 _ rfl;(with_reducible repeat (first | refine blk_drewN ?_ _ | refine blk_drew ?_ | refine blk_alloc ?_ _));refine blk_put (cs := #[.int .i64 0,.int .u8 0,.int .u8 0,.int .u8 0]) ?_ 0 _ rfl;(with_reducible repeat (first | refine blk_drewN ?_ _ | refine blk_drew ?_ | refine blk_alloc ?_ _));exact BK493.out) Try.underlying93 rfl (by kernel_rfl)) rfl ?_
  exact ⟨by first | rfl | (simp [errW_none,errW_some] <;> rfl) | (simp [*,errW_none,errW_some] <;> rfl),by repeat (first | (with_reducible first | exact HB.out | apply below_alloc | apply pw_below_drewN | apply below_drew1 | refine below_set ?_ GE493.out) | exact HB.out)⟩
 ·rw [if_neg c2] at H
  have c2b0 : decide (a0 < 128) = false := decide_eq_false c2
  clear c2
  have HC5 := Aside0.mk H
  clear H
  go_enter Try.func64,Try.ntmps64
  go_upto_if 8 with (first | ((with_reducible refine gate_dst (N := 2) rfl ?_);refine box_event ?hg (N := 2) ?hd (cs := #[.int .i64 0,.int .u8 0,.int .u8 0,.int .u8 0]) (t := 93) ?hr ?_;(case hd => rfl);(case hg => rfl);(case hr => first | (go_simp;done) | (go_simp;rfl));intro gb493 hg w6 hbox hb;have n0_ := Aside0.mk (below_step (by repeat (first | (with_reducible first | exact HB.out | apply below_alloc | apply pw_below_drewN | apply below_drew1) | exact HB.out)) hb);have n1_ := Aside0.mk (hbox);have n2_ := Aside0.mk ((by rw [hg];exact (below_size (by repeat (first | (with_reducible first | exact HB.out | apply below_alloc | apply pw_below_drewN | apply below_drew1) | exact HB.out))) : w.heap.size ≤ gb493));have n3_ := Aside0.mk ((by rw [hg];exact (below_size (by repeat (first | (with_reducible first | exact HB.out | apply below_alloc | apply pw_below_drewN | apply below_drew1) | exact HB.out))) : w.heap.size ≤ gb493));clear HB;have HB := n0_;have BK493 := n1_;have GW493 := n2_;have GE493 := n3_;clear n0_ n1_ n2_ n3_;clear hb hbox hg))
  (try simp only [Act.put,List.setIfInBounds_toArray,List.set_cons_zero,List.set_cons_succ])
  go_cut [8] (fun v8 wc => ∃ (kq : Nat) (x8_4 : Bool),v8 = .bool x8_4 ∧ Aside0 (utf_of.j0 kq a0 x8_4 = some (r1,r2,r3,r4)) ∧ Aside0 (kq ≤ k) ∧ Aside0 (wc.heap[gb493]? = some (.cells #[.int .i64 0,.int .u8 0,.int .u8 0,.int .u8 0] 93 (0,0))) ∧ Aside0 (Below w.heap.size w wc))
  case first =>
   have H := HC5.out
   clear HC5
   by_cases c7 : a0 < 194
   ·rw [if_pos c7] at H
    have c7b0 : decide (a0 < 194) = true := decide_eq_true c7
    clear c7
    (first | rw [c7b0] | (simp only [i64_w,i32_w];rw [c7b0]) | skip)
    have H' := Aside0.mk H
    clear H
    go_wp2
    go_meet
    case rel => exact ⟨_,(decide (a0 < 194)),(by first | rfl | (simp;done) | (simp [*];done)),H',⟨by first | omega | exact Nat.le_refl _⟩,⟨by (with_reducible repeat (first | refine blk_drewN ?_ _ | refine blk_drew ?_ | refine blk_alloc ?_ _));exact BK493.out⟩,⟨by repeat (first | (with_reducible first | exact HB.out | apply below_alloc | apply pw_below_drewN | apply below_drew1 | refine below_set ?_ GE493.out) | exact HB.out)⟩⟩
   ·rw [if_neg c7] at H
    have c7b0 : decide (a0 < 194) = false := decide_eq_false c7
    clear c7
    (first | rw [c7b0] | (simp only [i64_w,i32_w];rw [c7b0]) | skip)
    have H' := Aside0.mk H
    clear H
    go_wp2
    go_meet
    case rel => exact ⟨_,(decide (a0 > 244)),(by first | rfl | (simp;done) | (simp [*];done)),H',⟨by first | omega | exact Nat.le_refl _⟩,⟨by (with_reducible repeat (first | refine blk_drewN ?_ _ | refine blk_drew ?_ | refine blk_alloc ?_ _));exact BK493.out⟩,⟨by repeat (first | (with_reducible first | exact HB.out | apply below_alloc | apply pw_below_drewN | apply below_drew1 | refine below_set ?_ GE493.out) | exact HB.out)⟩⟩
  case rest =>
   clear HC5
   try clear c2
   try clear c2b0
   try clear p2
   try clear c6
   try clear c7
   try clear c7b0
   try clear hcz4_0
   try clear hcz4_1
   try clear hcz4_2
   try clear hcz4_3
   try clear hfz4_0
   try clear hfz4_1
   try clear hfz4_2
   try clear hfz4_3
   obtain ⟨kq,x8_4,rfl,HA,HJ4,BK493,HB⟩ := hcut
   cases kq with
   | zero => exact absurd HA.out (by simp [utf_of.j0])
   | succ kj4 =>
    have H := HA.out
    clear HA
    simp only [utf_of.j0] at H
    by_cases c8 : x8_4 = true
    ·subst c8
     rw [if_pos rfl] at H
     simp only [Option.some.injEq,Prod.mk.injEq] at H
     obtain ⟨rfl,rfl,rfl,rfl⟩ := H
     have hcz9_0 : wc.cell? ⟨gb493,0,none⟩ = some (.int .i64 0) := (blk_cell BK493.out 0).trans rfl
     have hcz9_1 : wc.cell? ⟨gb493,1,none⟩ = some (.int .u8 0) := (blk_cell BK493.out 1).trans rfl
     have hcz9_2 : wc.cell? ⟨gb493,2,none⟩ = some (.int .u8 0) := (blk_cell BK493.out 2).trans rfl
     have hcz9_3 : wc.cell? ⟨gb493,3,none⟩ = some (.int .u8 0) := (blk_cell BK493.out 3).trans rfl
     have hfz9_0 := blk_frozen BK493.out 0
     have hfz9_1 := blk_frozen BK493.out 1
     have hfz9_2 := blk_frozen BK493.out 2
     have hfz9_3 := blk_frozen BK493.out 3
     go_wp2
     refine bodyPost_ret (results_cell_row rfl _ _ gb493 93 #[.int .i64 0,.int .u8 0,.int .u8 0,.int .u8 0] (0,0) _ rfl (by (with_reducible repeat (first | refine blk_drewN ?_ _ | refine blk_drew ?_ | refine blk_alloc ?_ _));refine blk_put (cs := #[.int .i64 0,.int .u8 0,.int .u8 0,.int .u8 0]) ?_ 3 _ rfl;(with_reducible repeat (first | refine blk_drewN ?_ _ | refine blk_drew ?_ | refine blk_alloc ?_ _));refine blk_put (cs := #[.int .i64 0,.int .u8 0,.int .u8 0,.int .u8 0]) ?_ 2 _ rfl;(with_reducible repeat (first | refine blk_drewN ?_ _ | refine blk_drew ?_ | refine blk_alloc ?_ _));refine blk_put (cs := #[.int .i64 0,.int .u8 0,.int .u8 0,.int .u8 0]) ?_ 1 _ rfl;(with_reducible repeat (first | refine blk_drewN ?_ _ | refine blk_drew ?_ | refine blk_alloc ?_ _));refine blk_put (cs := #[.int .i64 0,.int .u8 0,.int .u8 0,.int .u8 0]) ?_ 0 _ rfl;(with_reducible repeat (first | refine blk_drewN ?_ _ | refine blk_drew ?_ | refine blk_alloc ?_ _));exact BK493.out) Try.underlying93 rfl (by kernel_rfl)) rfl ?_
     exact ⟨by first | rfl | (simp [errW_none,errW_some] <;> rfl) | (simp [*,errW_none,errW_some] <;> rfl),by repeat (first | (with_reducible first | exact HB.out | apply below_alloc | apply pw_below_drewN | apply below_drew1 | refine below_set ?_ GE493.out) | exact HB.out)⟩
    ·replace c8 := Bool.eq_false_iff.mpr c8
     subst c8
     rw [if_neg (show ¬ (false = true) by decide)] at H
     by_cases c10 : a0 < 224
     ·rw [if_pos c10] at H
      have c10b0 : decide (a0 < 224) = true := decide_eq_true c10
      clear c10
      simp only [Option.some.injEq,Prod.mk.injEq] at H
      obtain ⟨rfl,rfl,rfl,rfl⟩ := H
      have hcz11_0 : wc.cell? ⟨gb493,0,none⟩ = some (.int .i64 0) := (blk_cell BK493.out 0).trans rfl
      have hcz11_1 : wc.cell? ⟨gb493,1,none⟩ = some (.int .u8 0) := (blk_cell BK493.out 1).trans rfl
      have hcz11_2 : wc.cell? ⟨gb493,2,none⟩ = some (.int .u8 0) := (blk_cell BK493.out 2).trans rfl
      have hcz11_3 : wc.cell? ⟨gb493,3,none⟩ = some (.int .u8 0) := (blk_cell BK493.out 3).trans rfl
      have hfz11_0 := blk_frozen BK493.out 0
      have hfz11_1 := blk_frozen BK493.out 1
      have hfz11_2 := blk_frozen BK493.out 2
      have hfz11_3 := blk_frozen BK493.out 3
      go_wp2
      refine bodyPost_ret (results_cell_row rfl _ _ gb493 93 #[.int .i64 2,.int .u8 (Go.bits .and .u8 a0 31),.int .u8 128,.int .u8 191] (0,0) _ rfl (by (with_reducible repeat (first | refine blk_drewN ?_ _ | refine blk_drew ?_ | refine blk_alloc ?_ _));refine blk_put (cs := #[.int .i64 2,.int .u8 (Go.bits .and .u8 a0 31),.int .u8 128,.int .u8 0]) ?_ 3 _ rfl;(with_reducible repeat (first | refine blk_drewN ?_ _ | refine blk_drew ?_ | refine blk_alloc ?_ _));refine blk_put (cs := #[.int .i64 2,.int .u8 (Go.bits .and .u8 a0 31),.int .u8 0,.int .u8 0]) ?_ 2 _ rfl;(with_reducible repeat (first | refine blk_drewN ?_ _ | refine blk_drew ?_ | refine blk_alloc ?_ _));refine blk_put (cs := #[.int .i64 2,.int .u8 0,.int .u8 0,.int .u8 0]) ?_ 1 _ rfl;(with_reducible repeat (first | refine blk_drewN ?_ _ | refine blk_drew ?_ | refine blk_alloc ?_ _));refine blk_put (cs := #[.int .i64 0,.int .u8 0,.int .u8 0,.int .u8 0]) ?_ 0 _ rfl;(with_reducible repeat (first | refine blk_drewN ?_ _ | refine blk_drew ?_ | refine blk_alloc ?_ _));exact BK493.out) Try.underlying93 rfl (by kernel_rfl)) rfl ?_
      exact ⟨by first | rfl | (simp [errW_none,errW_some] <;> rfl) | (simp [*,errW_none,errW_some] <;> rfl),by repeat (first | (with_reducible first | exact HB.out | apply below_alloc | apply pw_below_drewN | apply below_drew1 | refine below_set ?_ GE493.out) | exact HB.out)⟩
     ·rw [if_neg c10] at H
      have c10b0 : decide (a0 < 224) = false := decide_eq_false c10
      clear c10
      by_cases c12 : a0 = 224
      ·rw [if_pos c12] at H
       have c12b0 : (a0 == 224) = true := beq_iff_eq.mpr c12
       have c12b1 : (a0 != 224) = false := bne_eq_false_iff_eq.mpr c12
       clear c12
       simp only [Option.some.injEq,Prod.mk.injEq] at H
       obtain ⟨rfl,rfl,rfl,rfl⟩ := H
       have hcz13_0 : wc.cell? ⟨gb493,0,none⟩ = some (.int .i64 0) := (blk_cell BK493.out 0).trans rfl
       have hcz13_1 : wc.cell? ⟨gb493,1,none⟩ = some (.int .u8 0) := (blk_cell BK493.out 1).trans rfl
       have hcz13_2 : wc.cell? ⟨gb493,2,none⟩ = some (.int .u8 0) := (blk_cell BK493.out 2).trans rfl
       have hcz13_3 : wc.cell? ⟨gb493,3,none⟩ = some (.int .u8 0) := (blk_cell BK493.out 3).trans rfl
       have hfz13_0 := blk_frozen BK493.out 0
       have hfz13_1 := blk_frozen BK493.out 1
       have hfz13_2 := blk_frozen BK493.out 2
       have hfz13_3 := blk_frozen BK493.out 3
       go_wp2
       refine bodyPost_ret (results_cell_row rfl _ _ gb493 93 #[.int .i64 3,.int .u8 0,.int .u8 160,.int .u8 191] (0,0) _ rfl (by (with_reducible repeat (first | refine blk_drewN ?_ _ | refine blk_drew ?_ | refine blk_alloc ?_ _));refine blk_put (cs := #[.int .i64 3,.int .u8 0,.int .u8 160,.int .u8 0]) ?_ 3 _ rfl;(with_reducible repeat (first | refine blk_drewN ?_ _ | refine blk_drew ?_ | refine blk_alloc ?_ _));refine blk_put (cs := #[.int .i64 3,.int .u8 0,.int .u8 0,.int .u8 0]) ?_ 2 _ rfl;(with_reducible repeat (first | refine blk_drewN ?_ _ | refine blk_drew ?_ | refine blk_alloc ?_ _));refine blk_put (cs := #[.int .i64 3,.int .u8 0,.int .u8 0,.int .u8 0]) ?_ 1 _ rfl;(with_reducible repeat (first | refine blk_drewN ?_ _ | refine blk_drew ?_ | refine blk_alloc ?_ _));refine blk_put (cs := #[.int .i64 0,.int .u8 0,.int .u8 0,.int .u8 0]) ?_ 0 _ rfl;(with_reducible repeat (first | refine blk_drewN ?_ _ | refine blk_drew ?_ | refine blk_alloc ?_ _));exact BK493.out) Try.underlying93 rfl (by kernel_rfl)) rfl ?_
       exact ⟨by first | rfl | (simp [errW_none,errW_some] <;> rfl) | (simp [*,errW_none,errW_some] <;> rfl),by repeat (first | (with_reducible first | exact HB.out | apply below_alloc | apply pw_below_drewN | apply below_drew1 | refine below_set ?_ GE493.out) | exact HB.out)⟩
      ·rw [if_neg c12] at H
       have c12b0 : (a0 == 224) = false := beq_eq_false_iff_ne.mpr c12
       have c12b1 : (a0 != 224) = true := bne_iff_ne.mpr c12
       by_cases c14 : a0 = 237
       ·rw [if_pos c14] at H
        have c14b0 : (a0 == 237) = true := beq_iff_eq.mpr c14
        have c14b1 : (a0 != 237) = false := bne_eq_false_iff_eq.mpr c14
        clear c14
        simp only [Option.some.injEq,Prod.mk.injEq] at H
        obtain ⟨rfl,rfl,rfl,rfl⟩ := H
        have hcz15_0 : wc.cell? ⟨gb493,0,none⟩ = some (.int .i64 0) := (blk_cell BK493.out 0).trans rfl
        have hcz15_1 : wc.cell? ⟨gb493,1,none⟩ = some (.int .u8 0) := (blk_cell BK493.out 1).trans rfl
        have hcz15_2 : wc.cell? ⟨gb493,2,none⟩ = some (.int .u8 0) := (blk_cell BK493.out 2).trans rfl
        have hcz15_3 : wc.cell? ⟨gb493,3,none⟩ = some (.int .u8 0) := (blk_cell BK493.out 3).trans rfl
        have hfz15_0 := blk_frozen BK493.out 0
        have hfz15_1 := blk_frozen BK493.out 1
        have hfz15_2 := blk_frozen BK493.out 2
        have hfz15_3 := blk_frozen BK493.out 3
        go_wp2
        refine bodyPost_ret (results_cell_row rfl _ _ gb493 93 #[.int .i64 3,.int .u8 13,.int .u8 128,.int .u8 159] (0,0) _ rfl (by (with_reducible repeat (first | refine blk_drewN ?_ _ | refine blk_drew ?_ | refine blk_alloc ?_ _));refine blk_put (cs := #[.int .i64 3,.int .u8 13,.int .u8 128,.int .u8 0]) ?_ 3 _ rfl;(with_reducible repeat (first | refine blk_drewN ?_ _ | refine blk_drew ?_ | refine blk_alloc ?_ _));refine blk_put (cs := #[.int .i64 3,.int .u8 13,.int .u8 0,.int .u8 0]) ?_ 2 _ rfl;(with_reducible repeat (first | refine blk_drewN ?_ _ | refine blk_drew ?_ | refine blk_alloc ?_ _));refine blk_put (cs := #[.int .i64 3,.int .u8 0,.int .u8 0,.int .u8 0]) ?_ 1 _ rfl;(with_reducible repeat (first | refine blk_drewN ?_ _ | refine blk_drew ?_ | refine blk_alloc ?_ _));refine blk_put (cs := #[.int .i64 0,.int .u8 0,.int .u8 0,.int .u8 0]) ?_ 0 _ rfl;(with_reducible repeat (first | refine blk_drewN ?_ _ | refine blk_drew ?_ | refine blk_alloc ?_ _));exact BK493.out) Try.underlying93 rfl (by kernel_rfl)) rfl ?_
        exact ⟨by first | rfl | (simp [errW_none,errW_some] <;> rfl) | (simp [*,errW_none,errW_some] <;> rfl),by repeat (first | (with_reducible first | exact HB.out | apply below_alloc | apply pw_below_drewN | apply below_drew1 | refine below_set ?_ GE493.out) | exact HB.out)⟩
       ·rw [if_neg c14] at H
        have c14b0 : (a0 == 237) = false := beq_eq_false_iff_ne.mpr c14
        have c14b1 : (a0 != 237) = true := bne_iff_ne.mpr c14
        by_cases c16 : a0 < 240
        ·rw [if_pos c16] at H
         have c16b0 : decide (a0 < 240) = true := decide_eq_true c16
         clear c16
         simp only [Option.some.injEq,Prod.mk.injEq] at H
         obtain ⟨rfl,rfl,rfl,rfl⟩ := H
         have hcz17_0 : wc.cell? ⟨gb493,0,none⟩ = some (.int .i64 0) := (blk_cell BK493.out 0).trans rfl
         have hcz17_1 : wc.cell? ⟨gb493,1,none⟩ = some (.int .u8 0) := (blk_cell BK493.out 1).trans rfl
         have hcz17_2 : wc.cell? ⟨gb493,2,none⟩ = some (.int .u8 0) := (blk_cell BK493.out 2).trans rfl
         have hcz17_3 : wc.cell? ⟨gb493,3,none⟩ = some (.int .u8 0) := (blk_cell BK493.out 3).trans rfl
         have hfz17_0 := blk_frozen BK493.out 0
         have hfz17_1 := blk_frozen BK493.out 1
         have hfz17_2 := blk_frozen BK493.out 2
         have hfz17_3 := blk_frozen BK493.out 3
         go_wp2
         refine bodyPost_ret (results_cell_row rfl _ _ gb493 93 #[.int .i64 3,.int .u8 (Go.bits .and .u8 a0 15),.int .u8 128,.int .u8 191] (0,0) _ rfl (by (with_reducible repeat (first | refine blk_drewN ?_ _ | refine blk_drew ?_ | refine blk_alloc ?_ _));refine blk_put (cs := #[.int .i64 3,.int .u8 (Go.bits .and .u8 a0 15),.int .u8 128,.int .u8 0]) ?_ 3 _ rfl;(with_reducible repeat (first | refine blk_drewN ?_ _ | refine blk_drew ?_ | refine blk_alloc ?_ _));refine blk_put (cs := #[.int .i64 3,.int .u8 (Go.bits .and .u8 a0 15),.int .u8 0,.int .u8 0]) ?_ 2 _ rfl;(with_reducible repeat (first | refine blk_drewN ?_ _ | refine blk_drew ?_ | refine blk_alloc ?_ _));refine blk_put (cs := #[.int .i64 3,.int .u8 0,.int .u8 0,.int .u8 0]) ?_ 1 _ rfl;(with_reducible repeat (first | refine blk_drewN ?_ _ | refine blk_drew ?_ | refine blk_alloc ?_ _));refine blk_put (cs := #[.int .i64 0,.int .u8 0,.int .u8 0,.int .u8 0]) ?_ 0 _ rfl;(with_reducible repeat (first | refine blk_drewN ?_ _ | refine blk_drew ?_ | refine blk_alloc ?_ _));exact BK493.out) Try.underlying93 rfl (by kernel_rfl)) rfl ?_
         exact ⟨by first | rfl | (simp [errW_none,errW_some] <;> rfl) | (simp [*,errW_none,errW_some] <;> rfl),by repeat (first | (with_reducible first | exact HB.out | apply below_alloc | apply pw_below_drewN | apply below_drew1 | refine below_set ?_ GE493.out) | exact HB.out)⟩
        ·rw [if_neg c16] at H
         have c16b0 : decide (a0 < 240) = false := decide_eq_false c16
         clear c16
         by_cases c18 : a0 = 240
         ·rw [if_pos c18] at H
          have c18b0 : (a0 == 240) = true := beq_iff_eq.mpr c18
          have c18b1 : (a0 != 240) = false := bne_eq_false_iff_eq.mpr c18
          clear c18
          simp only [Option.some.injEq,Prod.mk.injEq] at H
          obtain ⟨rfl,rfl,rfl,rfl⟩ := H
          have hcz19_0 : wc.cell? ⟨gb493,0,none⟩ = some (.int .i64 0) := (blk_cell BK493.out 0).trans rfl
          have hcz19_1 : wc.cell? ⟨gb493,1,none⟩ = some (.int .u8 0) := (blk_cell BK493.out 1).trans rfl
          have hcz19_2 : wc.cell? ⟨gb493,2,none⟩ = some (.int .u8 0) := (blk_cell BK493.out 2).trans rfl
          have hcz19_3 : wc.cell? ⟨gb493,3,none⟩ = some (.int .u8 0) := (blk_cell BK493.out 3).trans rfl
          have hfz19_0 := blk_frozen BK493.out 0
          have hfz19_1 := blk_frozen BK493.out 1
          have hfz19_2 := blk_frozen BK493.out 2
          have hfz19_3 := blk_frozen BK493.out 3
          go_wp2
          refine bodyPost_ret (results_cell_row rfl _ _ gb493 93 #[.int .i64 4,.int .u8 0,.int .u8 144,.int .u8 191] (0,0) _ rfl (by (with_reducible repeat (first | refine blk_drewN ?_ _ | refine blk_drew ?_ | refine blk_alloc ?_ _));refine blk_put (cs := #[.int .i64 4,.int .u8 0,.int .u8 144,.int .u8 0]) ?_ 3 _ rfl;(with_reducible repeat (first | refine blk_drewN ?_ _ | refine blk_drew ?_ | refine blk_alloc ?_ _));refine blk_put (cs := #[.int .i64 4,.int .u8 0,.int .u8 0,.int .u8 0]) ?_ 2 _ rfl;(with_reducible repeat (first | refine blk_drewN ?_ _ | refine blk_drew ?_ | refine blk_alloc ?_ _));refine blk_put (cs := #[.int .i64 4,.int .u8 0,.int .u8 0,.int .u8 0]) ?_ 1 _ rfl;(with_reducible repeat (first | refine blk_drewN ?_ _ | refine blk_drew ?_ | refine blk_alloc ?_ _));refine blk_put (cs := #[.int .i64 0,.int .u8 0,.int .u8 0,.int .u8 0]) ?_ 0 _ rfl;(with_reducible repeat (first | refine blk_drewN ?_ _ | refine blk_drew ?_ | refine blk_alloc ?_ _));exact BK493.out) Try.underlying93 rfl (by kernel_rfl)) rfl ?_
          exact ⟨by first | rfl | (simp [errW_none,errW_some] <;> rfl) | (simp [*,errW_none,errW_some] <;> rfl),by repeat (first | (with_reducible first | exact HB.out | apply below_alloc | apply pw_below_drewN | apply below_drew1 | refine below_set ?_ GE493.out) | exact HB.out)⟩
         ·rw [if_neg c18] at H
          have c18b0 : (a0 == 240) = false := beq_eq_false_iff_ne.mpr c18
          have c18b1 : (a0 != 240) = true := bne_iff_ne.mpr c18
          by_cases c20 : a0 = 244
          ·rw [if_pos c20] at H
           have c20b0 : (a0 == 244) = true := beq_iff_eq.mpr c20
           have c20b1 : (a0 != 244) = false := bne_eq_false_iff_eq.mpr c20
           clear c20
           simp only [Option.some.injEq,Prod.mk.injEq] at H
           obtain ⟨rfl,rfl,rfl,rfl⟩ := H
           have hcz21_0 : wc.cell? ⟨gb493,0,none⟩ = some (.int .i64 0) := (blk_cell BK493.out 0).trans rfl
           have hcz21_1 : wc.cell? ⟨gb493,1,none⟩ = some (.int .u8 0) := (blk_cell BK493.out 1).trans rfl
           have hcz21_2 : wc.cell? ⟨gb493,2,none⟩ = some (.int .u8 0) := (blk_cell BK493.out 2).trans rfl
           have hcz21_3 : wc.cell? ⟨gb493,3,none⟩ = some (.int .u8 0) := (blk_cell BK493.out 3).trans rfl
           have hfz21_0 := blk_frozen BK493.out 0
           have hfz21_1 := blk_frozen BK493.out 1
           have hfz21_2 := blk_frozen BK493.out 2
           have hfz21_3 := blk_frozen BK493.out 3
           go_wp2
           refine bodyPost_ret (results_cell_row rfl _ _ gb493 93 #[.int .i64 4,.int .u8 4,.int .u8 128,.int .u8 143] (0,0) _ rfl (by (with_reducible repeat (first | refine blk_drewN ?_ _ | refine blk_drew ?_ | refine blk_alloc ?_ _));refine blk_put (cs := #[.int .i64 4,.int .u8 4,.int .u8 128,.int .u8 0]) ?_ 3 _ rfl;(with_reducible repeat (first | refine blk_drewN ?_ _ | refine blk_drew ?_ | refine blk_alloc ?_ _));refine blk_put (cs := #[.int .i64 4,.int .u8 4,.int .u8 0,.int .u8 0]) ?_ 2 _ rfl;(with_reducible repeat (first | refine blk_drewN ?_ _ | refine blk_drew ?_ | refine blk_alloc ?_ _));refine blk_put (cs := #[.int .i64 4,.int .u8 0,.int .u8 0,.int .u8 0]) ?_ 1 _ rfl;(with_reducible repeat (first | refine blk_drewN ?_ _ | refine blk_drew ?_ | refine blk_alloc ?_ _));refine blk_put (cs := #[.int .i64 0,.int .u8 0,.int .u8 0,.int .u8 0]) ?_ 0 _ rfl;(with_reducible repeat (first | refine blk_drewN ?_ _ | refine blk_drew ?_ | refine blk_alloc ?_ _));exact BK493.out) Try.underlying93 rfl (by kernel_rfl)) rfl ?_
           exact ⟨by first | rfl | (simp [errW_none,errW_some] <;> rfl) | (simp [*,errW_none,errW_some] <;> rfl),by repeat (first | (with_reducible first | exact HB.out | apply below_alloc | apply pw_below_drewN | apply below_drew1 | refine below_set ?_ GE493.out) | exact HB.out)⟩
          ·rw [if_neg c20] at H
           have c20b0 : (a0 == 244) = false := beq_eq_false_iff_ne.mpr c20
           have c20b1 : (a0 != 244) = true := bne_iff_ne.mpr c20
           simp only [Option.some.injEq,Prod.mk.injEq] at H
           obtain ⟨rfl,rfl,rfl,rfl⟩ := H
           have hcz22_0 : wc.cell? ⟨gb493,0,none⟩ = some (.int .i64 0) := (blk_cell BK493.out 0).trans rfl
           have hcz22_1 : wc.cell? ⟨gb493,1,none⟩ = some (.int .u8 0) := (blk_cell BK493.out 1).trans rfl
           have hcz22_2 : wc.cell? ⟨gb493,2,none⟩ = some (.int .u8 0) := (blk_cell BK493.out 2).trans rfl
           have hcz22_3 : wc.cell? ⟨gb493,3,none⟩ = some (.int .u8 0) := (blk_cell BK493.out 3).trans rfl
           have hfz22_0 := blk_frozen BK493.out 0
           have hfz22_1 := blk_frozen BK493.out 1
           have hfz22_2 := blk_frozen BK493.out 2
           have hfz22_3 := blk_frozen BK493.out 3
           go_wp2
           refine bodyPost_ret (results_cell_row rfl _ _ gb493 93 #[.int .i64 4,.int .u8 (Go.bits .and .u8 a0 7),.int .u8 128,.int .u8 191] (0,0) _ rfl (by (with_reducible repeat (first | refine blk_drewN ?_ _ | refine blk_drew ?_ | refine blk_alloc ?_ _));refine blk_put (cs := #[.int .i64 4,.int .u8 (Go.bits .and .u8 a0 7),.int .u8 128,.int .u8 0]) ?_ 3 _ rfl;(with_reducible repeat (first | refine blk_drewN ?_ _ | refine blk_drew ?_ | refine blk_alloc ?_ _));refine blk_put (cs := #[.int .i64 4,.int .u8 (Go.bits .and .u8 a0 7),.int .u8 0,.int .u8 0]) ?_ 2 _ rfl;(with_reducible repeat (first | refine blk_drewN ?_ _ | refine blk_drew ?_ | refine blk_alloc ?_ _));refine blk_put (cs := #[.int .i64 4,.int .u8 0,.int .u8 0,.int .u8 0]) ?_ 1 _ rfl;(with_reducible repeat (first | refine blk_drewN ?_ _ | refine blk_drew ?_ | refine blk_alloc ?_ _));refine blk_put (cs := #[.int .i64 0,.int .u8 0,.int .u8 0,.int .u8 0]) ?_ 0 _ rfl;(with_reducible repeat (first | refine blk_drewN ?_ _ | refine blk_drew ?_ | refine blk_alloc ?_ _));exact BK493.out) Try.underlying93 rfl (by kernel_rfl)) rfl ?_
           exact ⟨by first | rfl | (simp [errW_none,errW_some] <;> rfl) | (simp [*,errW_none,errW_some] <;> rfl),by repeat (first | (with_reducible first | exact HB.out | apply below_alloc | apply pw_below_drewN | apply below_drew1 | refine below_set ?_ GE493.out) | exact HB.out)⟩

end Go.Proofs.Ytfaahcgoinkmlaa.P
