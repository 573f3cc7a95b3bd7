-- WRITTEN BY A PROGRAM (hybrid.py over the kit's print.py): Lean checks it.
import Derived.Test.YtbhfaeliklaffaaPx0
import Derived.Test.YtbhfaeliklaffaaGEnc
namespace Go.Proofs.Ytbhfaeliklaffaa.P
open Go.RowKit Go.Proofs.YtbhfaeliklaffaaW.PrintWords Go.Proofs.YtbhfaeliklaffaaW.PrintLast Go.Proofs.YtbhfaeliklaffaaW.PrintMore
attribute [local go_sem] max2_int min2_int max_two min_two max_three min_three max_four min_four   -- for this text's walks alone
set_option linter.unusedVariables false
set_option linter.unusedSimpArgs false

/-! ### seqs_place: function 47 -/
def seqs_place.l0 : Nat → Int → Int → Int → Int → Option (Int)
 | 0,_,_,_,_ => none
 | k + 1,x3,x4,x434000,x434001 => if x4 < x3 then (if 0 ≤ (wrap64 (6 * x4)) then (if (Go.bits .andNot .i64 x434000 (wrap64 ((shl .i64 1 (wrap64 (6 * x4))) - 1))) = (Go.bits .andNot .i64 x434001 (wrap64 ((shl .i64 1 (wrap64 (6 * x4))) - 1))) then (seqs_place.l0 k x3 (wrap64 (x4 + 1)) x434000 x434001) else (if (Go.bits .and .i64 x434000 (wrap64 ((shl .i64 1 (wrap64 (6 * x4))) - 1))) = 0 then (if (Go.bits .and .i64 x434001 (wrap64 ((shl .i64 1 (wrap64 (6 * x4))) - 1))) = (wrap64 ((shl .i64 1 (wrap64 (6 * x4))) - 1)) then (seqs_place.l0 k x3 (wrap64 (x4 + 1)) x434000 x434001) else (some (Go.bits .andNot .i64 x434001 (wrap64 ((shl .i64 1 (wrap64 (6 * x4))) - 1))))) else (some (wrap64 ((Go.bits .or .i64 x434000 (wrap64 ((shl .i64 1 (wrap64 (6 * x4))) - 1))) + 1))))) else (none)) else (some 0)
def seqs_place.f (k : Nat) (a0_0 : Int) (a0_1 : Int) : Option (Int) := (utf_Encode.f a0_0).bind fun t434 => (seqs_place.l0 k (t434.length : Int) 1 a0_0 a0_1)
theorem seqs_place.mono_l : ∀ k,(∀ y0 y1 y2 y3,LeO (seqs_place.l0 k y0 y1 y2 y3) (seqs_place.l0 (k + 1) y0 y1 y2 y3))
 | 0 => fun _ _ _ _ r h => by simp [seqs_place.l0] at h
 | k + 1 => by
  have ih0 := seqs_place.mono_l k
  ·intro y0 y1 y2 y3
   unfold seqs_place.l0
   repeat' first
   | (with_reducible exact ih0 _ _ _ _)
   | (with_reducible exact LeO.refl _)
   | (with_reducible exact LeO.none _)
   | (with_reducible refine LeO.ite ?_ ?_)
   | (with_reducible refine LeO.bind ?_ (fun _ => ?_))
   | exact ih0 _ _ _ _
   | exact LeO.none _
   | refine LeO.ite ?_ ?_
   | refine LeO.bind ?_ (fun _ => ?_)
theorem seqs_place.mono : ∀ a0 a1 k,LeO (seqs_place.f k a0 a1) (seqs_place.f (k + 1) a0 a1) := by
 intro a0 a1 k
 have ih0 := seqs_place.mono_l k
 unfold seqs_place.f
 repeat' first
   | (with_reducible exact ih0 _ _ _ _)
   | (with_reducible exact LeO.refl _)
   | (with_reducible exact LeO.none _)
   | (with_reducible refine LeO.ite ?_ ?_)
   | (with_reducible refine LeO.bind ?_ (fun _ => ?_))
   | exact ih0 _ _ _ _
   | exact LeO.none _
   | refine LeO.ite ?_ ?_
   | refine LeO.bind ?_ (fun _ => ?_)
set_option maxHeartbeats 8000000 in
set_option maxRecDepth 100000 in
theorem seqs_place.calls (k : Nat) (a0_0 : Int) (a0_1 : Int) (r : Int) (w : World) (h : seqs_place.f k a0_0 a0_1 = some r) :
  Calls Try.prog 47 #[.agg #[.int .i64 a0_0,.int .i64 a0_1]] w fun e w' => e = .returned (.int .i64 r) ∧ Below w.heap.size w w' := by
 have hu43 := Try.underlying43
 have HB := Aside0.mk (Below.refl w.heap.size w)
 have H : ((utf_Encode.f a0_0).bind fun t434 => (seqs_place.l0 k (t434.length : Int) 1 a0_0 a0_1)) = some r := h
 clear h
 replace H := Option.bind_eq_some_iff.mp H
 obtain ⟨t434,A20,H⟩ := H
 skip
 have A2 := Aside0.mk A20
 clear A20
 have H' := Aside0.mk H
 clear H
 go_enter Try.func47,Try.ntmps47
 go_wp2_with (first | ((with_reducible refine gate_dst (N := 1) rfl ?_);refine box_event ?hg (N := 1) ?hd (cs := #[.int .i64 a0_0,.int .i64 a0_1]) (t := 43) ?hr ?_;(case hd => rfl);(case hg => rfl);(case hr => first | (go_simp;done) | (go_simp;rfl));intro gb433 hg w3 hbox hb;have n0_ := Aside0.mk (below_step (by repeat (first | (with_reducible first | exact HB.out | apply below_alloc | apply pw_below_drewN | apply below_drew1) | exact HB.out)) hb);have n1_ := Aside0.mk (hbox);have n2_ := Aside0.mk ((by rw [hg];exact (below_size (by repeat (first | (with_reducible first | exact HB.out | apply below_alloc | apply pw_below_drewN | apply below_drew1) | exact HB.out))) : w.heap.size ≤ gb433));have n3_ := Aside0.mk ((by rw [hg];exact (below_size (by repeat (first | (with_reducible first | exact HB.out | apply below_alloc | apply pw_below_drewN | apply below_drew1) | exact HB.out))) : w.heap.size ≤ gb433));clear HB;have HB := n0_;have BK433 := n1_;have GW433 := n2_;have GE433 := n3_;clear n0_ n1_ n2_ n3_;clear hb hbox hg;have hcz4_0 : w3.cell? ⟨gb433,0,none⟩ = some (.int .i64 a0_0) := (blk_cell BK433.out 0).trans rfl;have hcz4_1 : w3.cell? ⟨gb433,1,none⟩ = some (.int .i64 a0_1) := (blk_cell BK433.out 1).trans rfl;have hfz4_0 := blk_frozen BK433.out 0;have hfz4_1 := blk_frozen BK433.out 1) | ((with_reducible refine gate_callee (f := 32) rfl ?_);refine goesL_ (some 8) rfl rfl Try.func32 (by kernel_rfl) rfl #[.int .i64 a0_0] rfl (by (try simp only [List.map_toArray,List.map_cons,List.map_nil]);first | done | rfl | (simp only [List.length_drop,List.length_take];rfl)) ?_;(with_reducible refine (utf_Encode.calls a0_0 t434 _ A2.out).mono ?_);rintro e w5 ⟨v435,rfl,ho0,hb⟩;refine ⟨_,rfl,?_⟩;have n0_ := Aside0.mk (Kd.R_lower ho0 (below_size (by repeat (first | (with_reducible first | exact HB.out | apply below_alloc | apply pw_below_drewN | apply below_drew1 | refine below_set ?_ GE433.out) | exact HB.out))));have n1_ := Aside0.mk (blk_below (g := gb433) (o := .cells #[.int .i64 a0_0,.int .i64 a0_1] 43 (0,0)) (by (with_reducible repeat (first | refine blk_drewN ?_ _ | refine blk_drew ?_ | refine blk_alloc ?_ _));exact BK433.out) hb);have n2_ := Aside0.mk (below_step (by repeat (first | (with_reducible first | exact HB.out | apply below_alloc | apply pw_below_drewN | apply below_drew1 | refine below_set ?_ GE433.out) | exact HB.out)) hb);clear BK433;clear HB;have HO436 := n0_;have BK433 := n1_;have HB := n2_;clear n0_ n1_ n2_;(try clear hb);(try clear hb2);(try clear hk);(try clear hi);(try clear ho0);obtain ⟨Ao6,co6,eo6⟩ := Kd.R_slice HO436.out;subst eo6))
 go_loopg [4] k (fun kq v4 w' => ∃ (x4_1 : Int),v4 = .int .i64 x4_1 ∧ Aside0 (seqs_place.l0 kq (t434.length : Int) x4_1 a0_0 a0_1 = some r) ∧ Aside0 (kq ≤ k) ∧ Aside0 (w'.heap[gb433]? = some (.cells #[.int .i64 a0_0,.int .i64 a0_1] 43 (0,0))) ∧ Aside0 (Below w.heap.size w w'))
 case atStart => exact ⟨(1),(by first | rfl | (simp;done) | (simp [*];done)),H',⟨Nat.le_refl _⟩,⟨by (with_reducible repeat (first | refine blk_drewN ?_ _ | refine blk_drew ?_ | refine blk_alloc ?_ _));exact BK433.out⟩,⟨by repeat (first | (with_reducible first | exact HB.out | apply below_alloc | apply pw_below_drewN | apply below_drew1 | refine below_set ?_ GE433.out) | exact HB.out)⟩⟩
 case round =>
  clear H'
  try clear p2
  try clear c3
  try clear c4
  try clear hcz4_0
  try clear hcz4_1
  try clear hfz4_0
  try clear hfz4_1
  obtain ⟨x4_1,rfl,HA,HK1,BK433,HB⟩ := hrel
  cases gk with
  | zero => exact absurd HA.out (by simp [seqs_place.l0])
  | succ k1 =>
   have H := HA.out
   clear HA
   simp only [seqs_place.l0] at H
   by_cases c7 : x4_1 < (t434.length : Int)
   ·rw [if_pos c7] at H
    have c7b0 : decide (x4_1 < (t434.length : Int)) = true := decide_eq_true c7
    clear c7
    obtain ⟨ji8,hji8⟩ : ∃ j_ : Int,(wrap64 (6 * x4_1)) = j_ := ⟨_,rfl⟩
    replace H : (if 0 ≤ (ji8) then (if (Go.bits .andNot .i64 a0_0 (wrap64 ((shl .i64 1 (ji8)) - 1))) = (Go.bits .andNot .i64 a0_1 (wrap64 ((shl .i64 1 (ji8)) - 1))) then (seqs_place.l0 k1 (t434.length : Int) (wrap64 (x4_1 + 1)) a0_0 a0_1) else (if (Go.bits .and .i64 a0_0 (wrap64 ((shl .i64 1 (ji8)) - 1))) = 0 then (if (Go.bits .and .i64 a0_1 (wrap64 ((shl .i64 1 (ji8)) - 1))) = (wrap64 ((shl .i64 1 (ji8)) - 1)) then (seqs_place.l0 k1 (t434.length : Int) (wrap64 (x4_1 + 1)) a0_0 a0_1) else (some (Go.bits .andNot .i64 a0_1 (wrap64 ((shl .i64 1 (ji8)) - 1))))) else (some (wrap64 ((Go.bits .or .i64 a0_0 (wrap64 ((shl .i64 1 (ji8)) - 1))) + 1))))) else (none)) = some r := by first | (rw [hji8] at H;exact H) | (simp only [hji8] at H ⊢;exact H)
    have hji8w : (IntKind.i64.wrap (6 * x4_1)) = ji8 := (i64_w _).trans hji8
    by_cases c9 : 0 ≤ (ji8)
    ·rw [if_pos c9] at H
     have c9b0 := eq_true c9
     have c9b1 : decide (0 ≤ (ji8)) = true := decide_eq_true c9
     clear c9
     obtain ⟨ji10,hji10⟩ : ∃ j_ : Int,(shl .i64 1 (ji8)) = j_ := ⟨_,rfl⟩
     replace H : (if (Go.bits .andNot .i64 a0_0 (wrap64 ((ji10) - 1))) = (Go.bits .andNot .i64 a0_1 (wrap64 ((ji10) - 1))) then (seqs_place.l0 k1 (t434.length : Int) (wrap64 (x4_1 + 1)) a0_0 a0_1) else (if (Go.bits .and .i64 a0_0 (wrap64 ((ji10) - 1))) = 0 then (if (Go.bits .and .i64 a0_1 (wrap64 ((ji10) - 1))) = (wrap64 ((ji10) - 1)) then (seqs_place.l0 k1 (t434.length : Int) (wrap64 (x4_1 + 1)) a0_0 a0_1) else (some (Go.bits .andNot .i64 a0_1 (wrap64 ((ji10) - 1))))) else (some (wrap64 ((Go.bits .or .i64 a0_0 (wrap64 ((ji10) - 1))) + 1))))) = some r := by first | (rw [hji10] at H;exact H) | (simp only [hji10] at H ⊢;exact H)
     have hji10_ : (IntKind.i64.wrap (1 * 2 ^ min (ji8).toNat 64)) = ji10 := hji10
     have hji10z : (ji8) ≤ 64 → (IntKind.i64.wrap (1 * 2 ^ (ji8).toNat)) = ji10 := shl_small hji10
     have hji10u : (IntKind.i64.wrap (2 ^ min (ji8).toNat 64)) = ji10 := by have h_ := hji10_;rw [Int.one_mul] at h_;exact h_
     have hji10v : (ji8) ≤ 64 → (IntKind.i64.wrap (2 ^ (ji8).toNat)) = ji10 := fun hle_ => by have h_ := hji10z hle_;rw [Int.one_mul] at h_;exact h_
     have hji10y : (wrap64 (1 * 2 ^ min (ji8).toNat 64)) = ji10 := (i64_w _).symm.trans hji10_
     have hji10x : (ji8) ≤ 64 → (wrap64 (1 * 2 ^ (ji8).toNat)) = ji10 := fun h_ => (i64_w _).symm.trans (hji10z h_)
     by_cases c11 : (Go.bits .andNot .i64 a0_0 (wrap64 ((ji10) - 1))) = (Go.bits .andNot .i64 a0_1 (wrap64 ((ji10) - 1)))
     ·rw [if_pos c11] at H
      have c11b0 : ((Go.bits .andNot .i64 a0_0 (wrap64 ((ji10) - 1))) == (Go.bits .andNot .i64 a0_1 (wrap64 ((ji10) - 1)))) = true := beq_iff_eq.mpr c11
      have c11b1 : ((Go.bits .andNot .i64 a0_0 (wrap64 ((ji10) - 1))) != (Go.bits .andNot .i64 a0_1 (wrap64 ((ji10) - 1)))) = false := bne_eq_false_iff_eq.mpr c11
      clear c11
      have H' := Aside0.mk H
      clear H
      have hcz12_0 : wr.cell? ⟨gb433,0,none⟩ = some (.int .i64 a0_0) := (blk_cell BK433.out 0).trans rfl
      have hcz12_1 : wr.cell? ⟨gb433,1,none⟩ = some (.int .i64 a0_1) := (blk_cell BK433.out 1).trans rfl
      have hfz12_0 := blk_frozen BK433.out 0
      have hfz12_1 := blk_frozen BK433.out 1
      go_wp2
      go_roundg k1
      case measure => have := HK1.out;omega
      case rel => exact ⟨(wrap64 (x4_1 + 1)),(by first | rfl | (simp;done) | (simp [*];done)),H',⟨by have := HK1.out;omega⟩,⟨by (with_reducible repeat (first | refine blk_drewN ?_ _ | refine blk_drew ?_ | refine blk_alloc ?_ _));exact BK433.out⟩,⟨by repeat (first | (with_reducible first | exact HB.out | apply below_alloc | apply pw_below_drewN | apply below_drew1 | refine below_set ?_ GE433.out) | exact HB.out)⟩⟩
     ·rw [if_neg c11] at H
      have c11b0 : ((Go.bits .andNot .i64 a0_0 (wrap64 ((ji10) - 1))) == (Go.bits .andNot .i64 a0_1 (wrap64 ((ji10) - 1)))) = false := beq_eq_false_iff_ne.mpr c11
      have c11b1 : ((Go.bits .andNot .i64 a0_0 (wrap64 ((ji10) - 1))) != (Go.bits .andNot .i64 a0_1 (wrap64 ((ji10) - 1)))) = true := bne_iff_ne.mpr c11
      by_cases c13 : (Go.bits .and .i64 a0_0 (wrap64 ((ji10) - 1))) = 0
      ·rw [if_pos c13] at H
       have c13b0 : ((Go.bits .and .i64 a0_0 (wrap64 ((ji10) - 1))) == 0) = true := beq_iff_eq.mpr c13
       have c13b1 : ((Go.bits .and .i64 a0_0 (wrap64 ((ji10) - 1))) != 0) = false := bne_eq_false_iff_eq.mpr c13
       clear c13
       by_cases c14 : (Go.bits .and .i64 a0_1 (wrap64 ((ji10) - 1))) = (wrap64 ((ji10) - 1))
       ·rw [if_pos c14] at H
        have c14b0 : ((Go.bits .and .i64 a0_1 (wrap64 ((ji10) - 1))) == (wrap64 ((ji10) - 1))) = true := beq_iff_eq.mpr c14
        have c14b1 : ((Go.bits .and .i64 a0_1 (wrap64 ((ji10) - 1))) != (wrap64 ((ji10) - 1))) = false := bne_eq_false_iff_eq.mpr c14
        clear c14
        have H' := Aside0.mk H
        clear H
        have hcz15_0 : wr.cell? ⟨gb433,0,none⟩ = some (.int .i64 a0_0) := (blk_cell BK433.out 0).trans rfl
        have hcz15_1 : wr.cell? ⟨gb433,1,none⟩ = some (.int .i64 a0_1) := (blk_cell BK433.out 1).trans rfl
        have hfz15_0 := blk_frozen BK433.out 0
        have hfz15_1 := blk_frozen BK433.out 1
        go_wp2
        go_roundg k1
        case measure => have := HK1.out;omega
        case rel => exact ⟨(wrap64 (x4_1 + 1)),(by first | rfl | (simp;done) | (simp [*];done)),H',⟨by have := HK1.out;omega⟩,⟨by (with_reducible repeat (first | refine blk_drewN ?_ _ | refine blk_drew ?_ | refine blk_alloc ?_ _));exact BK433.out⟩,⟨by repeat (first | (with_reducible first | exact HB.out | apply below_alloc | apply pw_below_drewN | apply below_drew1 | refine below_set ?_ GE433.out) | exact HB.out)⟩⟩
       ·rw [if_neg c14] at H
        have c14b0 : ((Go.bits .and .i64 a0_1 (wrap64 ((ji10) - 1))) == (wrap64 ((ji10) - 1))) = false := beq_eq_false_iff_ne.mpr c14
        have c14b1 : ((Go.bits .and .i64 a0_1 (wrap64 ((ji10) - 1))) != (wrap64 ((ji10) - 1))) = true := bne_iff_ne.mpr c14
        obtain rfl := Option.some.inj H
        have hcz16_0 : wr.cell? ⟨gb433,0,none⟩ = some (.int .i64 a0_0) := (blk_cell BK433.out 0).trans rfl
        have hcz16_1 : wr.cell? ⟨gb433,1,none⟩ = some (.int .i64 a0_1) := (blk_cell BK433.out 1).trans rfl
        have hfz16_0 := blk_frozen BK433.out 0
        have hfz16_1 := blk_frozen BK433.out 1
        go_wp2
        go_ret
        exact ⟨by first | rfl | (simp [errW_none,errW_some] <;> rfl) | (simp only [← hji8,← hji10];first | rfl | (simp [errW_none,errW_some] <;> rfl)) | (simp [*,errW_none,errW_some] <;> rfl),by repeat (first | (with_reducible first | exact HB.out | apply below_alloc | apply pw_below_drewN | apply below_drew1 | refine below_set ?_ GE433.out) | exact HB.out)⟩
      ·rw [if_neg c13] at H
       have c13b0 : ((Go.bits .and .i64 a0_0 (wrap64 ((ji10) - 1))) == 0) = false := beq_eq_false_iff_ne.mpr c13
       have c13b1 : ((Go.bits .and .i64 a0_0 (wrap64 ((ji10) - 1))) != 0) = true := bne_iff_ne.mpr c13
       obtain rfl := Option.some.inj H
       have hcz17_0 : wr.cell? ⟨gb433,0,none⟩ = some (.int .i64 a0_0) := (blk_cell BK433.out 0).trans rfl
       have hcz17_1 : wr.cell? ⟨gb433,1,none⟩ = some (.int .i64 a0_1) := (blk_cell BK433.out 1).trans rfl
       have hfz17_0 := blk_frozen BK433.out 0
       have hfz17_1 := blk_frozen BK433.out 1
       go_wp2
       go_ret
       exact ⟨by first | rfl | (simp [errW_none,errW_some] <;> rfl) | (simp only [← hji8,← hji10];first | rfl | (simp [errW_none,errW_some] <;> rfl)) | (simp [*,errW_none,errW_some] <;> rfl),by repeat (first | (with_reducible first | exact HB.out | apply below_alloc | apply pw_below_drewN | apply below_drew1 | refine below_set ?_ GE433.out) | exact HB.out)⟩
    ·rw [if_neg c9] at H
     exact absurd H (by simp)
   ·rw [if_neg c7] at H
    have c7b0 : decide (x4_1 < (t434.length : Int)) = false := decide_eq_false c7
    clear c7
    obtain rfl := Option.some.inj H
    go_wp2
    go_ret
    exact ⟨by first | rfl | (simp [errW_none,errW_some] <;> rfl) | (simp [*,errW_none,errW_some] <;> rfl),by repeat (first | (with_reducible first | exact HB.out | apply below_alloc | apply pw_below_drewN | apply below_drew1 | refine below_set ?_ GE433.out) | exact HB.out)⟩

end Go.Proofs.Ytbhfaeliklaffaa.P
