-- WRITTEN BY A PROGRAM (hybrid.py over the kit's print.py): Lean checks it.
import Derived.Test.YtbhfaeliklaffaaPx0
import Derived.Test.YtbhfaeliklaffaaGStr
namespace Go.Proofs.Ytbhfaeliklaffaa.P
open Go.RowKit Go.Proofs.YtbhfaeliklaffaaW.PrintWords Go.Proofs.YtbhfaeliklaffaaW.PrintLast Go.Proofs.YtbhfaeliklaffaaW.PrintMore
attribute [local go_sem] max2_int min2_int max_two min_two max_three min_three max_four min_four   -- for this text's walks alone
set_option linter.unusedVariables false
set_option linter.unusedSimpArgs false
attribute [local go_sem] binOp_string_leq2

/-! ### glyphcutterlaw03_rise: function 27 -/
mutual
def glyphcutterlaw03_rise.l0 : Nat → List (List (S57)) → ByteArray → Int → Option (Bool)
  | 0, _, _, _ => none
  | k + 1, x0, x3, x4 => if x4 < (x0.length : Int) then (glyphcutterlaw03_rise.l1 k x0 x3 x4 ([] : List Int) ([] : List Int) false 0) else (some true)
def glyphcutterlaw03_rise.l1 : Nat → List (List (S57)) → ByteArray → Int → List Int → List Int → Bool → Int → Option (Bool)
  | 0, _, _, _, _, _, _, _ => none
  | k + 1, x0, x3, x4, x5, x6, x7, x8 => if 0 ≤ x4 then (if x4 < (x0.length : Int) then (if x8 < ((rd_L5 x0 x4).length : Int) then (if 0 ≤ x8 then (if ((rd_T57 (rd_L5 x0 x4) x8).f0) > ((rd_T57 (rd_L5 x0 x4) x8).f1) then (some false) else (if x7 = true then (if ((rd_T57 (rd_L5 x0 x4) x8).f0) = 128 then (if ((rd_T57 (rd_L5 x0 x4) x8).f1) = 191 then (if x5.length < 140737488355328 then (if x6.length < 140737488355328 then (glyphcutterlaw03_rise.l1 k x0 x3 x4 (x5 ++ [(rd_T57 (rd_L5 x0 x4) x8).f0]) (x6 ++ [(rd_T57 (rd_L5 x0 x4) x8).f1]) true (wrap64 (x8 + 1))) else (none)) else (none)) else (some false)) else (some false)) else (if x5.length < 140737488355328 then (if x6.length < 140737488355328 then (glyphcutterlaw03_rise.l1 k x0 x3 x4 (x5 ++ [(rd_T57 (rd_L5 x0 x4) x8).f0]) (x6 ++ [(rd_T57 (rd_L5 x0 x4) x8).f1]) (decide (((rd_T57 (rd_L5 x0 x4) x8).f0) < ((rd_T57 (rd_L5 x0 x4) x8).f1))) (wrap64 (x8 + 1))) else (none)) else (none)))) else (none)) else (if (x5.length : Int) < 1 then (some false) else (if (x5.length : Int) > 4 then (some false) else (if x4 > 0 then (if ((Op.bytesLess x3.toList ((strOfNums x5).toList)) = true) then (glyphcutterlaw03_rise.l0 k x0 (strOfNums x6) (wrap64 (x4 + 1))) else (some false)) else (glyphcutterlaw03_rise.l0 k x0 (strOfNums x6) (wrap64 (x4 + 1))))))) else (none)) else (none)
end
def glyphcutterlaw03_rise.f (k : Nat) (l0 : List (List (S57))) : Option (Bool) := glyphcutterlaw03_rise.l0 k l0 (⟨#[]⟩ : ByteArray) 0
theorem glyphcutterlaw03_rise.mono_l : ∀ k, (∀ y0 y1 y2, LeO (glyphcutterlaw03_rise.l0 k y0 y1 y2) (glyphcutterlaw03_rise.l0 (k + 1) y0 y1 y2)) ∧ (∀ y0 y1 y2 y3 y4 y5 y6, LeO (glyphcutterlaw03_rise.l1 k y0 y1 y2 y3 y4 y5 y6) (glyphcutterlaw03_rise.l1 (k + 1) y0 y1 y2 y3 y4 y5 y6))
  | 0 => ⟨fun _ _ _ r h => by simp [glyphcutterlaw03_rise.l0] at h, fun _ _ _ _ _ _ _ r h => by simp [glyphcutterlaw03_rise.l1] at h⟩
  | k + 1 => by
    obtain ⟨ih0, ih1⟩ := glyphcutterlaw03_rise.mono_l k
    refine ⟨?_, ?_⟩
    · intro y0 y1 y2
      unfold glyphcutterlaw03_rise.l0
      repeat' first
      | (with_reducible exact ih0 _ _ _)
      | (with_reducible exact ih1 _ _ _ _ _ _ _)
      | (with_reducible exact LeO.refl _)
      | (with_reducible exact LeO.none _)
      | (with_reducible refine LeO.ite ?_ ?_)
      | (with_reducible refine LeO.bind ?_ (fun _ => ?_))
      | exact ih0 _ _ _
      | exact ih1 _ _ _ _ _ _ _
      | exact LeO.none _
      | refine LeO.ite ?_ ?_
      | refine LeO.bind ?_ (fun _ => ?_)
    · intro y0 y1 y2 y3 y4 y5 y6
      unfold glyphcutterlaw03_rise.l1
      repeat' first
      | (with_reducible exact ih0 _ _ _)
      | (with_reducible exact ih1 _ _ _ _ _ _ _)
      | (with_reducible exact LeO.refl _)
      | (with_reducible exact LeO.none _)
      | (with_reducible refine LeO.ite ?_ ?_)
      | (with_reducible refine LeO.bind ?_ (fun _ => ?_))
      | exact ih0 _ _ _
      | exact ih1 _ _ _ _ _ _ _
      | exact LeO.none _
      | refine LeO.ite ?_ ?_
      | refine LeO.bind ?_ (fun _ => ?_)
theorem glyphcutterlaw03_rise.mono : ∀ a0 k, LeO (glyphcutterlaw03_rise.f k a0) (glyphcutterlaw03_rise.f (k + 1) a0) := by
  intro a0 k
  obtain ⟨ih0, ih1⟩ := glyphcutterlaw03_rise.mono_l k
  unfold glyphcutterlaw03_rise.f
  repeat' first
      | (with_reducible exact ih0 _ _ _)
      | (with_reducible exact ih1 _ _ _ _ _ _ _)
      | (with_reducible exact LeO.refl _)
      | (with_reducible exact LeO.none _)
      | (with_reducible refine LeO.ite ?_ ?_)
      | (with_reducible refine LeO.bind ?_ (fun _ => ?_))
      | exact ih0 _ _ _
      | exact ih1 _ _ _ _ _ _ _
      | exact LeO.none _
      | refine LeO.ite ?_ ?_
      | refine LeO.bind ?_ (fun _ => ?_)
set_option maxHeartbeats 8000000 in
set_option maxRecDepth 100000 in
theorem glyphcutterlaw03_rise.calls (k : Nat) (A0 : Option Addr) (c0 : Nat) (l0 : List (List (S57))) (r : Bool) (w : World) (hr0 : Kd.C (Kd.slice 57 k57) w A0 l0.length l0) (hc0 : l0.length ≤ c0) (h : glyphcutterlaw03_rise.f k l0 = some r) :
    Calls Try.prog 27 #[.slice A0 l0.length c0] w fun e w' => e = .returned (.bool r) ∧ Below w.heap.size w w' := by
  have hu57 := Try.underlying57
  have HR0 := Aside0.mk hr0
  have HC0 := Aside0.mk hc0
  clear hr0 hc0
  have HB := Aside0.mk (Below.refl w.heap.size w)
  have H : (glyphcutterlaw03_rise.l0 k l0 (⟨#[]⟩ : ByteArray) 0) = some r := h
  clear h
  have H' := Aside0.mk H
  clear H
  go_enter Try.func27, Try.ntmps27
  go_wp2
  go_loopg [3, 4] k (fun kq v3 v4 w' => ∃ (x3_1 : ByteArray) (x4_1 : Int), v3 = .string x3_1 ∧ v4 = .int .i64 x4_1 ∧ Aside0 (glyphcutterlaw03_rise.l0 kq l0 x3_1 x4_1 = some r) ∧ Aside0 (kq ≤ k) ∧ Aside0 (Below w.heap.size w w'))
  case atStart => exact ⟨((⟨#[]⟩ : ByteArray)), (0), (by first | rfl | (simp; done) | (simp [*]; done)), (by first | rfl | (simp; done) | (simp [*]; done)), H', ⟨Nat.le_refl _⟩, ⟨by repeat (first | (with_reducible first | exact HB.out | apply below_alloc | apply pw_below_drewN | apply below_drew1) | exact HB.out)⟩⟩
  case round =>
    clear H'
    obtain ⟨x3_1, x4_1, rfl, rfl, HA, HK1, HB⟩ := hrel
    cases gk with
    | zero => exact absurd HA.out (by simp [glyphcutterlaw03_rise.l0])
    | succ k1 =>
      have H := HA.out
      clear HA
      simp only [glyphcutterlaw03_rise.l0] at H
      by_cases c2 : x4_1 < (l0.length : Int)
      · rw [if_pos c2] at H
        have c2b0 : decide (x4_1 < (l0.length : Int)) = true := decide_eq_true c2
        clear c2
        have H' := Aside0.mk H
        clear H
        go_wp2
        go_loopg [5, 6, 7, 8] k1 (fun kq v5 v6 v7 v8 w' => ∃ (x5_2 : List Int) (x6_2 : List Int) (x7_2 : Bool) (x8_2 : Int), v7 = .bool x7_2 ∧ v8 = .int .i64 x8_2 ∧ Aside0 (glyphcutterlaw03_rise.l1 kq l0 x3_1 x4_1 x5_2 x6_2 x7_2 x8_2 = some r) ∧ Aside0 (kq ≤ k1) ∧ Aside0 (Kd.R (Kd.int .u8) 5 w' w.heap.size (fun k_ => some k_ ≠ (v6 : Value).ownBlock) v5 x5_2) ∧ Aside0 (Kd.R (Kd.int .u8) 5 w' w.heap.size (fun k_ => some k_ ≠ (v5 : Value).ownBlock) v6 x6_2) ∧ Aside0 (Below w.heap.size w w'))
        case atStart => exact ⟨(([] : List Int)), (([] : List Int)), (false), (0), (by first | rfl | (simp; done) | (simp [*]; done)), (by first | rfl | (simp; done) | (simp [*]; done)), H', ⟨Nat.le_refl _⟩, ⟨by first | exact Kd.R_nil _ _ _ _ _ | exact Kd.N_nil _ _ _ _ _ | exact Kd.V_nil _ _ _ _ _ | exact Kd.Q_nil _ _ _ _ _ | exact Kd.S_nil _ _ _ _ _⟩, ⟨by first | exact Kd.R_nil _ _ _ _ _ | exact Kd.N_nil _ _ _ _ _ | exact Kd.V_nil _ _ _ _ _ | exact Kd.Q_nil _ _ _ _ _ | exact Kd.S_nil _ _ _ _ _⟩, ⟨by repeat (first | (with_reducible first | exact HB.out | apply below_alloc | apply pw_below_drewN | apply below_drew1) | exact HB.out)⟩⟩
        case round =>
          clear H'
          try clear c2
          try clear c2b0
          try clear p2
          obtain ⟨x5_2, x6_2, x7_2, x8_2, rfl, rfl, HA, HK2, HO_5, HO_6, HB⟩ := hrel
          cases gk with
          | zero => exact absurd HA.out (by simp [glyphcutterlaw03_rise.l1])
          | succ k2 =>
            have H := HA.out
            clear HA
            simp only [glyphcutterlaw03_rise.l1] at H
            by_cases c3 : 0 ≤ x4_1
            · rw [if_pos c3] at H
              have c3b0 : decide (0 ≤ x4_1) = true := decide_eq_true c3
              clear c3
              by_cases c4 : x4_1 < (l0.length : Int)
              · rw [if_pos c4] at H
                have c4b0 : decide (x4_1 < (l0.length : Int)) = true := decide_eq_true c4
                clear c4
                by_cases c5 : x8_2 < ((rd_L5 l0 x4_1).length : Int)
                · rw [if_pos c5] at H
                  have c5b0 : decide (x8_2 < ((rd_L5 l0 x4_1).length : Int)) = true := decide_eq_true c5
                  clear c5
                  by_cases c6 : 0 ≤ x8_2
                  · rw [if_pos c6] at H
                    have c6b0 : decide (0 ≤ x8_2) = true := decide_eq_true c6
                    clear c6
                    by_cases c7 : ((rd_T57 (rd_L5 l0 x4_1) x8_2).f0) > ((rd_T57 (rd_L5 l0 x4_1) x8_2).f1)
                    · rw [if_pos c7] at H
                      have c7b0 : decide (((rd_T57 (rd_L5 l0 x4_1) x8_2).f1) < ((rd_T57 (rd_L5 l0 x4_1) x8_2).f0)) = true := decide_eq_true c7
                      clear c7
                      obtain rfl := Option.some.inj H
                      have p390 : 0 ≤ (x4_1 : Int) := of_decide_eq_true (by first | (with_reducible assumption) | assumption)
                      have q390 : x4_1 < (l0.length : Int) := of_decide_eq_true (by first | (with_reducible assumption) | assumption)
                      obtain ⟨ad390, A390_0, c390_0, e390, hx390_0, hl390_0, hi390_0⟩ := at_L5 HR0.out x4_1 p390 q390
                      cases e390
                      replace hx390_0 := (HB.out.cell (World.block_lt_of_cell? w _ hx390_0)).trans hx390_0
                      have HR390_0 := Aside0.mk hi390_0
                      have HC390_0 := Aside0.mk hl390_0
                      clear hi390_0 hl390_0
                      replace p390 := eq_true p390
                      replace q390 := eq_true q390
                      have p391 : 0 ≤ (x4_1 : Int) := of_decide_eq_true (by first | (with_reducible assumption) | assumption)
                      have q391 : x4_1 < (l0.length : Int) := of_decide_eq_true (by first | (with_reducible assumption) | assumption)
                      obtain ⟨ad391, A391_0, c391_0, e391, hx391_0, hl391_0, hi391_0⟩ := at_L5 HR0.out x4_1 p391 q391
                      obtain rfl : ad390 = ad391 := (by injection e391)
                      replace hx391_0 := (HB.out.cell (World.block_lt_of_cell? w _ hx391_0)).trans hx391_0
                      have HR391_0 := Aside0.mk hi391_0
                      have HC391_0 := Aside0.mk hl391_0
                      clear hi391_0 hl391_0
                      replace p391 := eq_true p391
                      replace q391 := eq_true q391
                      have ea_ := Option.some.inj (hx390_0.symm.trans hx391_0)
                      injection ea_ with ea_ en_ ec_
                      subst ea_
                      subst ec_
                      clear en_
                      have p392 : 0 ≤ (x8_2 : Int) := of_decide_eq_true (by first | (with_reducible assumption) | assumption)
                      have q392 : x8_2 < ((rd_L5 l0 x4_1).length : Int) := of_decide_eq_true (by first | (with_reducible assumption) | assumption)
                      obtain ⟨ad392, e392, hx392_0, hx392_1⟩ := at_T57 HR391_0.out x8_2 p392 q392
                      cases e392
                      replace hx392_0 := (HB.out.cell (World.block_lt_of_cell? w _ hx392_0)).trans hx392_0
                      replace hx392_1 := (HB.out.cell (World.block_lt_of_cell? w _ hx392_1)).trans hx392_1
                      replace p392 := eq_true p392
                      replace q392 := eq_true q392
                      go_wp2_with (first | ((with_reducible refine gate_dst (N := 9) rfl ?_); (try (refine gate_guard (by rfl) ?_; dsimp only)); refine box_event ?hg (N := 9) ?hd (cs := #[.int .u8 0, .int .u8 0]) (t := 57) ?hr ?_; (case hd => rfl); (case hg => rfl); (case hr => first | (go_simp; done) | (go_simp; rfl)); intro gb393 hg w8 hbox hb; have n0_ := Aside0.mk (Kd.R_below (by (with_reducible repeat (first | apply Kd.R_alloc | apply Kd.R_drewN | apply Kd.R_drew)); exact HO_5.out) hb); have n1_ := Aside0.mk (Kd.R_below (by (with_reducible repeat (first | apply Kd.R_alloc | apply Kd.R_drewN | apply Kd.R_drew)); exact HO_6.out) hb); have n2_ := Aside0.mk (below_step (by repeat (first | (with_reducible first | exact HB.out | apply below_alloc | apply pw_below_drewN | apply below_drew1) | exact HB.out)) hb); have n3_ := Aside0.mk (hbox); have n4_ := Aside0.mk ((by rw [hg]; exact (below_size (by repeat (first | (with_reducible first | exact HB.out | apply below_alloc | apply pw_below_drewN | apply below_drew1) | exact HB.out))) : w.heap.size ≤ gb393)); have n5_ := Aside0.mk ((by rw [hg]; exact (below_size (by repeat (first | (with_reducible first | exact HB.out | apply below_alloc | apply pw_below_drewN | apply below_drew1) | exact HB.out))) : w.heap.size ≤ gb393)); clear HO_5; clear HO_6; clear HB; have HO_5 := n0_; have HO_6 := n1_; have HB := n2_; have BK393 := n3_; have GW393 := n4_; have GE393 := n5_; clear n0_ n1_ n2_ n3_ n4_ n5_; clear hb hbox hg; have hcz9_0 : w8.cell? ⟨gb393, 0, none⟩ = some (.int .u8 0) := (blk_cell BK393.out 0).trans rfl; have hcz9_1 : w8.cell? ⟨gb393, 1, none⟩ = some (.int .u8 0) := (blk_cell BK393.out 1).trans rfl; have hfz9_0 := blk_frozen BK393.out 0; have hfz9_1 := blk_frozen BK393.out 1))
                      go_ret
                      exact ⟨by first | rfl | (simp [errW_none, errW_some] <;> rfl) | (simp [*, errW_none, errW_some] <;> rfl), by repeat (first | (with_reducible first | exact HB.out | apply below_alloc | apply pw_below_drewN | apply below_drew1 | refine below_set ?_ GE393.out) | exact HB.out)⟩
                    · rw [if_neg c7] at H
                      have c7b0 : decide (((rd_T57 (rd_L5 l0 x4_1) x8_2).f1) < ((rd_T57 (rd_L5 l0 x4_1) x8_2).f0)) = false := decide_eq_false c7
                      clear c7
                      by_cases c10 : x7_2 = true
                      · subst c10
                        have H1 : (if ((rd_T57 (rd_L5 l0 x4_1) x8_2).f0) = 128 then (if ((rd_T57 (rd_L5 l0 x4_1) x8_2).f1) = 191 then (if x5_2.length < 140737488355328 then (if x6_2.length < 140737488355328 then (glyphcutterlaw03_rise.l1 k2 l0 x3_1 x4_1 (x5_2 ++ [(rd_T57 (rd_L5 l0 x4_1) x8_2).f0]) (x6_2 ++ [(rd_T57 (rd_L5 l0 x4_1) x8_2).f1]) true (wrap64 (x8_2 + 1))) else (none)) else (none)) else (some false)) else (some false)) = some r := by rw [if_pos rfl] at H; exact H
                        clear H
                        have H := H1
                        clear H1
                        by_cases c11 : ((rd_T57 (rd_L5 l0 x4_1) x8_2).f0) = 128
                        · rw [if_pos c11] at H
                          have c11b0 : (((rd_T57 (rd_L5 l0 x4_1) x8_2).f0) == 128) = true := beq_iff_eq.mpr c11
                          have c11b1 : (((rd_T57 (rd_L5 l0 x4_1) x8_2).f0) != 128) = false := bne_eq_false_iff_eq.mpr c11
                          clear c11
                          by_cases c12 : ((rd_T57 (rd_L5 l0 x4_1) x8_2).f1) = 191
                          · rw [if_pos c12] at H
                            have c12b0 : (((rd_T57 (rd_L5 l0 x4_1) x8_2).f1) == 191) = true := beq_iff_eq.mpr c12
                            have c12b1 : (((rd_T57 (rd_L5 l0 x4_1) x8_2).f1) != 191) = false := bne_eq_false_iff_eq.mpr c12
                            clear c12
                            by_cases c13 : x5_2.length < 140737488355328
                            · rw [if_pos c13] at H
                              have LMc13 := Aside0.mk c13
                              clear c13
                              obtain ⟨y394, hy394⟩ : ∃ y_ : List Int, y_ = (x5_2 ++ [(rd_T57 (rd_L5 l0 x4_1) x8_2).f0]) := ⟨_, rfl⟩
                              replace H : (if x6_2.length < 140737488355328 then (glyphcutterlaw03_rise.l1 k2 l0 x3_1 x4_1 y394 (x6_2 ++ [(rd_T57 (rd_L5 l0 x4_1) x8_2).f1]) true (wrap64 (x8_2 + 1))) else (none)) = some r := by first | (rw [hy394]; with_reducible exact H) | (have H2_ := (Option.bind_some _ _).symm.trans H; rw [hy394]; with_reducible exact H2_) | (have H2_ := (Option.bind_some _ _).symm.trans H; with_reducible exact H2_) | with_reducible exact H | (rw [hy394]; exact H) | exact H
                              have Ny394 := Aside0.mk hy394
                              clear hy394
                              by_cases c14 : x6_2.length < 140737488355328
                              · rw [if_pos c14] at H
                                have LMc14 := Aside0.mk c14
                                clear c14
                                obtain ⟨y397, hy397⟩ : ∃ y_ : List Int, y_ = (x6_2 ++ [(rd_T57 (rd_L5 l0 x4_1) x8_2).f1]) := ⟨_, rfl⟩
                                replace H : (glyphcutterlaw03_rise.l1 k2 l0 x3_1 x4_1 y394 y397 true (wrap64 (x8_2 + 1))) = some r := by first | (rw [hy397]; with_reducible exact H) | (have H2_ := (Option.bind_some _ _).symm.trans H; rw [hy397]; with_reducible exact H2_) | (have H2_ := (Option.bind_some _ _).symm.trans H; with_reducible exact H2_) | with_reducible exact H | (rw [hy397]; exact H) | exact H
                                have Ny397 := Aside0.mk hy397
                                clear hy397
                                have H' := Aside0.mk H
                                clear H
                                have p390 : 0 ≤ (x4_1 : Int) := of_decide_eq_true (by first | (with_reducible assumption) | assumption)
                                have q390 : x4_1 < (l0.length : Int) := of_decide_eq_true (by first | (with_reducible assumption) | assumption)
                                obtain ⟨ad390, A390_0, c390_0, e390, hx390_0, hl390_0, hi390_0⟩ := at_L5 HR0.out x4_1 p390 q390
                                cases e390
                                replace hx390_0 := (HB.out.cell (World.block_lt_of_cell? w _ hx390_0)).trans hx390_0
                                have HR390_0 := Aside0.mk hi390_0
                                have HC390_0 := Aside0.mk hl390_0
                                clear hi390_0 hl390_0
                                replace p390 := eq_true p390
                                replace q390 := eq_true q390
                                have p391 : 0 ≤ (x4_1 : Int) := of_decide_eq_true (by first | (with_reducible assumption) | assumption)
                                have q391 : x4_1 < (l0.length : Int) := of_decide_eq_true (by first | (with_reducible assumption) | assumption)
                                obtain ⟨ad391, A391_0, c391_0, e391, hx391_0, hl391_0, hi391_0⟩ := at_L5 HR0.out x4_1 p391 q391
                                obtain rfl : ad390 = ad391 := (by injection e391)
                                replace hx391_0 := (HB.out.cell (World.block_lt_of_cell? w _ hx391_0)).trans hx391_0
                                have HR391_0 := Aside0.mk hi391_0
                                have HC391_0 := Aside0.mk hl391_0
                                clear hi391_0 hl391_0
                                replace p391 := eq_true p391
                                replace q391 := eq_true q391
                                have ea_ := Option.some.inj (hx390_0.symm.trans hx391_0)
                                injection ea_ with ea_ en_ ec_
                                subst ea_
                                subst ec_
                                clear en_
                                have p392 : 0 ≤ (x8_2 : Int) := of_decide_eq_true (by first | (with_reducible assumption) | assumption)
                                have q392 : x8_2 < ((rd_L5 l0 x4_1).length : Int) := of_decide_eq_true (by first | (with_reducible assumption) | assumption)
                                obtain ⟨ad392, e392, hx392_0, hx392_1⟩ := at_T57 HR391_0.out x8_2 p392 q392
                                cases e392
                                replace hx392_0 := (HB.out.cell (World.block_lt_of_cell? w _ hx392_0)).trans hx392_0
                                replace hx392_1 := (HB.out.cell (World.block_lt_of_cell? w _ hx392_1)).trans hx392_1
                                replace p392 := eq_true p392
                                replace q392 := eq_true q392
                                go_wp2_with (first | ((with_reducible refine gate_dst (N := 9) rfl ?_); (try (refine gate_guard (by rfl) ?_; dsimp only)); refine box_event ?hg (N := 9) ?hd (cs := #[.int .u8 0, .int .u8 0]) (t := 57) ?hr ?_; (case hd => rfl); (case hg => rfl); (case hr => first | (go_simp; done) | (go_simp; rfl)); intro gb393 hg w15 hbox hb; have n0_ := Aside0.mk (Kd.R_below (by (with_reducible repeat (first | apply Kd.R_alloc | apply Kd.R_drewN | apply Kd.R_drew)); exact HO_5.out) hb); have n1_ := Aside0.mk (Kd.R_below (by (with_reducible repeat (first | apply Kd.R_alloc | apply Kd.R_drewN | apply Kd.R_drew)); exact HO_6.out) hb); have n2_ := Aside0.mk (below_step (by repeat (first | (with_reducible first | exact HB.out | apply below_alloc | apply pw_below_drewN | apply below_drew1) | exact HB.out)) hb); have n3_ := Aside0.mk (hbox); have n4_ := Aside0.mk ((by rw [hg]; exact (below_size (by repeat (first | (with_reducible first | exact HB.out | apply below_alloc | apply pw_below_drewN | apply below_drew1) | exact HB.out))) : w.heap.size ≤ gb393)); have n5_ := Aside0.mk ((by rw [hg]; exact (below_size (by repeat (first | (with_reducible first | exact HB.out | apply below_alloc | apply pw_below_drewN | apply below_drew1) | exact HB.out))) : w.heap.size ≤ gb393)); clear HO_5; clear HO_6; clear HB; have HO_5 := n0_; have HO_6 := n1_; have HB := n2_; have BK393 := n3_; have GW393 := n4_; have GE393 := n5_; clear n0_ n1_ n2_ n3_ n4_ n5_; clear hb hbox hg; have hcz16_0 : w15.cell? ⟨gb393, 0, none⟩ = some (.int .u8 0) := (blk_cell BK393.out 0).trans rfl; have hcz16_1 : w15.cell? ⟨gb393, 1, none⟩ = some (.int .u8 0) := (blk_cell BK393.out 1).trans rfl; have hfz16_0 := blk_frozen BK393.out 0; have hfz16_1 := blk_frozen BK393.out 1) | ((with_reducible refine gate_builtin (b := .append) (xs := #[.tmp 58, .tmp 61]) rfl ?_); (try (refine gate_guard (by rfl) ?_; dsimp only)); at_builtin; refine Kd.R_append (Kd.int .u8) (w0 := w) w.heap.size rfl (.tmp 58) (.tmp 61) 30 5 (.int .u8 0) 1 rfl Try.underlying30 info5 rfl (by decide) (by omega) u5 x5_2 ((rd_T57 (rd_L5 l0 x4_1) x8_2).f0) [.int .u8 ((rd_T57 (rd_L5 l0 x4_1) x8_2).f0)] (fun k_ => some k_ ≠ (u6 : Value).ownBlock) (fun _ => False) rfl (by first | (go_simp; done) | (go_simp; rfl)) ?aP (fun _ hk => hk.elim) ?aF ?aO ?aB ?aS ?aL ?_; (case aP => exact rfl); (case aB => exact (by repeat (first | (with_reducible first | exact HB.out | apply below_alloc | apply pw_below_drewN | apply below_drew1 | refine below_set ?_ GE393.out) | exact HB.out))); (case aF => exact (fun k_ hk => Kd.fresh' (Kd.R_lt (by (with_reducible repeat (first | apply Kd.R_alloc | apply Kd.R_drewN | apply Kd.R_drew)); exact (Kd.R_mono (Kd.R_far (p := ⟨gb393, 1, none⟩) (Kd.R_far (p := ⟨gb393, 0, none⟩) (Kd.R_types HO_6.out BK393.out (by decide)) (fun _ hk => hk.2) (.int .u8 ((rd_T57 (rd_L5 l0 x4_1) x8_2).f0))) (fun _ hk => hk.2) (.int .u8 ((rd_T57 (rd_L5 l0 x4_1) x8_2).f1))) (fun _ h_ => h_.1)))) k_ hk)); (case aO => exact (by (with_reducible repeat (first | apply Kd.R_alloc | apply Kd.R_drewN | apply Kd.R_drew)); exact Kd.R_mono (Kd.R_far (p := ⟨gb393, 1, none⟩) (Kd.R_far (p := ⟨gb393, 0, none⟩) (Kd.R_types HO_5.out BK393.out (by decide)) (fun _ hk => hk.2) (.int .u8 ((rd_T57 (rd_L5 l0 x4_1) x8_2).f0))) (fun _ hk => hk.2) (.int .u8 ((rd_T57 (rd_L5 l0 x4_1) x8_2).f1))) (fun _ hk => hk.1))); (case aS => exact (below_size (by repeat (first | (with_reducible first | exact HB.out | apply below_alloc | apply pw_below_drewN | apply below_drew1 | refine below_set ?_ GE393.out) | exact HB.out)))); (case aL => have := LMc13.out; omega); intro v395 w17 ho hb hg hat; rw [← Ny394.out] at ho; have n0_ := Aside0.mk (Kd.R_after (ok := (fun _ => True)) (by (with_reducible repeat (first | apply Kd.R_alloc | apply Kd.R_drewN | apply Kd.R_drew)); exact Kd.R_mono (Kd.R_far (p := ⟨gb393, 1, none⟩) (Kd.R_far (p := ⟨gb393, 0, none⟩) (Kd.R_types HO_6.out BK393.out (by decide)) (fun _ hk => hk.2) (.int .u8 ((rd_T57 (rd_L5 l0 x4_1) x8_2).f0))) (fun _ hk => hk.2) (.int .u8 ((rd_T57 (rd_L5 l0 x4_1) x8_2).f1))) (fun _ hk => ⟨trivial, hk.1⟩)) hg hat); have n1_ := Aside0.mk (blk_grown (g := gb393) (o := .cells #[.int .u8 ((rd_T57 (rd_L5 l0 x4_1) x8_2).f0), .int .u8 ((rd_T57 (rd_L5 l0 x4_1) x8_2).f1)] 57 (0, 0)) (by (with_reducible repeat (first | refine blk_drewN ?_ _ | refine blk_drew ?_ | refine blk_alloc ?_ _)); refine blk_put (cs := #[.int .u8 ((rd_T57 (rd_L5 l0 x4_1) x8_2).f0), .int .u8 0]) ?_ 1 _ rfl; (with_reducible repeat (first | refine blk_drewN ?_ _ | refine blk_drew ?_ | refine blk_alloc ?_ _)); refine blk_put (cs := #[.int .u8 0, .int .u8 0]) ?_ 0 _ rfl; (with_reducible repeat (first | refine blk_drewN ?_ _ | refine blk_drew ?_ | refine blk_alloc ?_ _)); exact BK393.out) hg (Kd.R_ne HO_5.out BK393.out (by decide))); have n2_ := Aside0.mk (hb); have n3_ := Aside0.mk (ho); clear HO_6; clear BK393; clear HB; clear HO_5; have HO_6 := n0_; have BK393 := n1_; have HB := n2_; have HO396 := n3_; clear n0_ n1_ n2_ n3_; clear ho hb hg hat; have hcz18_0 : w17.cell? ⟨gb393, 0, none⟩ = some (.int .u8 ((rd_T57 (rd_L5 l0 x4_1) x8_2).f0)) := (blk_cell BK393.out 0).trans rfl; have hcz18_1 : w17.cell? ⟨gb393, 1, none⟩ = some (.int .u8 ((rd_T57 (rd_L5 l0 x4_1) x8_2).f1)) := (blk_cell BK393.out 1).trans rfl; have hfz18_0 := blk_frozen BK393.out 0; have hfz18_1 := blk_frozen BK393.out 1) | ((with_reducible refine gate_builtin (b := .append) (xs := #[.tmp 63, .tmp 66]) rfl ?_); (try (refine gate_guard (by rfl) ?_; dsimp only)); at_builtin; refine Kd.R_append (Kd.int .u8) (w0 := w) w.heap.size rfl (.tmp 63) (.tmp 66) 30 5 (.int .u8 0) 1 rfl Try.underlying30 info5 rfl (by decide) (by omega) u6 x6_2 ((rd_T57 (rd_L5 l0 x4_1) x8_2).f1) [.int .u8 ((rd_T57 (rd_L5 l0 x4_1) x8_2).f1)] (fun k_ => some k_ ≠ (v395 : Value).ownBlock) (fun _ => False) rfl rfl ?aP (fun _ hk => hk.elim) ?aF ?aO ?aB ?aS ?aL ?_; (case aP => exact rfl); (case aB => exact (by repeat (first | (with_reducible first | exact HB.out | apply below_alloc | apply pw_below_drewN | apply below_drew1 | refine below_set ?_ GE393.out) | exact HB.out))); (case aF => exact (fun k_ hk => Kd.fresh' (Kd.R_lt (by (with_reducible repeat (first | apply Kd.R_alloc | apply Kd.R_drewN | apply Kd.R_drew)); exact HO396.out)) k_ hk)); (case aO => exact (by (with_reducible repeat (first | apply Kd.R_alloc | apply Kd.R_drewN | apply Kd.R_drew)); exact Kd.R_mono HO_6.out (fun _ hk => hk.2))); (case aS => exact (below_size (by repeat (first | (with_reducible first | exact HB.out | apply below_alloc | apply pw_below_drewN | apply below_drew1 | refine below_set ?_ GE393.out) | exact HB.out)))); (case aL => have := LMc14.out; omega); intro v398 w19 ho hb hg hat; rw [← Ny397.out] at ho; have n0_ := Aside0.mk (blk_grown (g := gb393) (o := .cells #[.int .u8 ((rd_T57 (rd_L5 l0 x4_1) x8_2).f0), .int .u8 ((rd_T57 (rd_L5 l0 x4_1) x8_2).f1)] 57 (0, 0)) (by (with_reducible repeat (first | refine blk_drewN ?_ _ | refine blk_drew ?_ | refine blk_alloc ?_ _)); exact BK393.out) hg (Kd.R_ne HO_6.out BK393.out (by decide))); have n1_ := Aside0.mk (Kd.R_after (ok := (fun _ => True)) (by (with_reducible repeat (first | apply Kd.R_alloc | apply Kd.R_drewN | apply Kd.R_drew)); exact Kd.R_mono HO396.out (fun _ hk => ⟨trivial, hk⟩)) hg hat); have n2_ := Aside0.mk (hb); have n3_ := Aside0.mk (ho); clear BK393; clear HO396; clear HB; clear HO_6; have BK393 := n0_; have HO396 := n1_; have HB := n2_; have HO399 := n3_; clear n0_ n1_ n2_ n3_; clear ho hb hg hat))
                                go_roundg k2
                                case measure => have := HK1.out; have := HK2.out; omega
                                case rel => exact ⟨(y394), (y397), (true), (wrap64 (x8_2 + 1)), (by first | rfl | (simp; done) | (simp [*]; done)), (by first | rfl | (simp; done) | (simp [*]; done)), H', ⟨by have := HK1.out; have := HK2.out; omega⟩, ⟨by (with_reducible repeat (first | apply Kd.R_alloc | apply Kd.R_drewN | apply Kd.R_drew)); exact Kd.R_mono HO396.out (fun _ hk => hk.2)⟩, ⟨by (with_reducible repeat (first | apply Kd.R_alloc | apply Kd.R_drewN | apply Kd.R_drew)); exact HO399.out⟩, ⟨by repeat (first | (with_reducible first | exact HB.out | apply below_alloc | apply pw_below_drewN | apply below_drew1 | refine below_set ?_ GE393.out) | exact HB.out)⟩⟩
                              · rw [if_neg c14] at H
                                exact absurd H (by simp)
                            · rw [if_neg c13] at H
                              exact absurd H (by simp)
                          · rw [if_neg c12] at H
                            have c12b0 : (((rd_T57 (rd_L5 l0 x4_1) x8_2).f1) == 191) = false := beq_eq_false_iff_ne.mpr c12
                            have c12b1 : (((rd_T57 (rd_L5 l0 x4_1) x8_2).f1) != 191) = true := bne_iff_ne.mpr c12
                            obtain rfl := Option.some.inj H
                            have p390 : 0 ≤ (x4_1 : Int) := of_decide_eq_true (by first | (with_reducible assumption) | assumption)
                            have q390 : x4_1 < (l0.length : Int) := of_decide_eq_true (by first | (with_reducible assumption) | assumption)
                            obtain ⟨ad390, A390_0, c390_0, e390, hx390_0, hl390_0, hi390_0⟩ := at_L5 HR0.out x4_1 p390 q390
                            cases e390
                            replace hx390_0 := (HB.out.cell (World.block_lt_of_cell? w _ hx390_0)).trans hx390_0
                            have HR390_0 := Aside0.mk hi390_0
                            have HC390_0 := Aside0.mk hl390_0
                            clear hi390_0 hl390_0
                            replace p390 := eq_true p390
                            replace q390 := eq_true q390
                            have p391 : 0 ≤ (x4_1 : Int) := of_decide_eq_true (by first | (with_reducible assumption) | assumption)
                            have q391 : x4_1 < (l0.length : Int) := of_decide_eq_true (by first | (with_reducible assumption) | assumption)
                            obtain ⟨ad391, A391_0, c391_0, e391, hx391_0, hl391_0, hi391_0⟩ := at_L5 HR0.out x4_1 p391 q391
                            obtain rfl : ad390 = ad391 := (by injection e391)
                            replace hx391_0 := (HB.out.cell (World.block_lt_of_cell? w _ hx391_0)).trans hx391_0
                            have HR391_0 := Aside0.mk hi391_0
                            have HC391_0 := Aside0.mk hl391_0
                            clear hi391_0 hl391_0
                            replace p391 := eq_true p391
                            replace q391 := eq_true q391
                            have ea_ := Option.some.inj (hx390_0.symm.trans hx391_0)
                            injection ea_ with ea_ en_ ec_
                            subst ea_
                            subst ec_
                            clear en_
                            have p392 : 0 ≤ (x8_2 : Int) := of_decide_eq_true (by first | (with_reducible assumption) | assumption)
                            have q392 : x8_2 < ((rd_L5 l0 x4_1).length : Int) := of_decide_eq_true (by first | (with_reducible assumption) | assumption)
                            obtain ⟨ad392, e392, hx392_0, hx392_1⟩ := at_T57 HR391_0.out x8_2 p392 q392
                            cases e392
                            replace hx392_0 := (HB.out.cell (World.block_lt_of_cell? w _ hx392_0)).trans hx392_0
                            replace hx392_1 := (HB.out.cell (World.block_lt_of_cell? w _ hx392_1)).trans hx392_1
                            replace p392 := eq_true p392
                            replace q392 := eq_true q392
                            go_wp2_with (first | ((with_reducible refine gate_dst (N := 9) rfl ?_); (try (refine gate_guard (by rfl) ?_; dsimp only)); refine box_event ?hg (N := 9) ?hd (cs := #[.int .u8 0, .int .u8 0]) (t := 57) ?hr ?_; (case hd => rfl); (case hg => rfl); (case hr => first | (go_simp; done) | (go_simp; rfl)); intro gb393 hg w20 hbox hb; have n0_ := Aside0.mk (Kd.R_below (by (with_reducible repeat (first | apply Kd.R_alloc | apply Kd.R_drewN | apply Kd.R_drew)); exact HO_5.out) hb); have n1_ := Aside0.mk (Kd.R_below (by (with_reducible repeat (first | apply Kd.R_alloc | apply Kd.R_drewN | apply Kd.R_drew)); exact HO_6.out) hb); have n2_ := Aside0.mk (below_step (by repeat (first | (with_reducible first | exact HB.out | apply below_alloc | apply pw_below_drewN | apply below_drew1) | exact HB.out)) hb); have n3_ := Aside0.mk (hbox); have n4_ := Aside0.mk ((by rw [hg]; exact (below_size (by repeat (first | (with_reducible first | exact HB.out | apply below_alloc | apply pw_below_drewN | apply below_drew1) | exact HB.out))) : w.heap.size ≤ gb393)); have n5_ := Aside0.mk ((by rw [hg]; exact (below_size (by repeat (first | (with_reducible first | exact HB.out | apply below_alloc | apply pw_below_drewN | apply below_drew1) | exact HB.out))) : w.heap.size ≤ gb393)); clear HO_5; clear HO_6; clear HB; have HO_5 := n0_; have HO_6 := n1_; have HB := n2_; have BK393 := n3_; have GW393 := n4_; have GE393 := n5_; clear n0_ n1_ n2_ n3_ n4_ n5_; clear hb hbox hg; have hcz21_0 : w20.cell? ⟨gb393, 0, none⟩ = some (.int .u8 0) := (blk_cell BK393.out 0).trans rfl; have hcz21_1 : w20.cell? ⟨gb393, 1, none⟩ = some (.int .u8 0) := (blk_cell BK393.out 1).trans rfl; have hfz21_0 := blk_frozen BK393.out 0; have hfz21_1 := blk_frozen BK393.out 1))
                            go_ret
                            exact ⟨by first | rfl | (simp [errW_none, errW_some] <;> rfl) | (simp [*, errW_none, errW_some] <;> rfl), by repeat (first | (with_reducible first | exact HB.out | apply below_alloc | apply pw_below_drewN | apply below_drew1 | refine below_set ?_ GE393.out) | exact HB.out)⟩
                        · rw [if_neg c11] at H
                          have c11b0 : (((rd_T57 (rd_L5 l0 x4_1) x8_2).f0) == 128) = false := beq_eq_false_iff_ne.mpr c11
                          have c11b1 : (((rd_T57 (rd_L5 l0 x4_1) x8_2).f0) != 128) = true := bne_iff_ne.mpr c11
                          obtain rfl := Option.some.inj H
                          have p390 : 0 ≤ (x4_1 : Int) := of_decide_eq_true (by first | (with_reducible assumption) | assumption)
                          have q390 : x4_1 < (l0.length : Int) := of_decide_eq_true (by first | (with_reducible assumption) | assumption)
                          obtain ⟨ad390, A390_0, c390_0, e390, hx390_0, hl390_0, hi390_0⟩ := at_L5 HR0.out x4_1 p390 q390
                          cases e390
                          replace hx390_0 := (HB.out.cell (World.block_lt_of_cell? w _ hx390_0)).trans hx390_0
                          have HR390_0 := Aside0.mk hi390_0
                          have HC390_0 := Aside0.mk hl390_0
                          clear hi390_0 hl390_0
                          replace p390 := eq_true p390
                          replace q390 := eq_true q390
                          have p391 : 0 ≤ (x4_1 : Int) := of_decide_eq_true (by first | (with_reducible assumption) | assumption)
                          have q391 : x4_1 < (l0.length : Int) := of_decide_eq_true (by first | (with_reducible assumption) | assumption)
                          obtain ⟨ad391, A391_0, c391_0, e391, hx391_0, hl391_0, hi391_0⟩ := at_L5 HR0.out x4_1 p391 q391
                          obtain rfl : ad390 = ad391 := (by injection e391)
                          replace hx391_0 := (HB.out.cell (World.block_lt_of_cell? w _ hx391_0)).trans hx391_0
                          have HR391_0 := Aside0.mk hi391_0
                          have HC391_0 := Aside0.mk hl391_0
                          clear hi391_0 hl391_0
                          replace p391 := eq_true p391
                          replace q391 := eq_true q391
                          have ea_ := Option.some.inj (hx390_0.symm.trans hx391_0)
                          injection ea_ with ea_ en_ ec_
                          subst ea_
                          subst ec_
                          clear en_
                          have p392 : 0 ≤ (x8_2 : Int) := of_decide_eq_true (by first | (with_reducible assumption) | assumption)
                          have q392 : x8_2 < ((rd_L5 l0 x4_1).length : Int) := of_decide_eq_true (by first | (with_reducible assumption) | assumption)
                          obtain ⟨ad392, e392, hx392_0, hx392_1⟩ := at_T57 HR391_0.out x8_2 p392 q392
                          cases e392
                          replace hx392_0 := (HB.out.cell (World.block_lt_of_cell? w _ hx392_0)).trans hx392_0
                          replace hx392_1 := (HB.out.cell (World.block_lt_of_cell? w _ hx392_1)).trans hx392_1
                          replace p392 := eq_true p392
                          replace q392 := eq_true q392
                          go_wp2_with (first | ((with_reducible refine gate_dst (N := 9) rfl ?_); (try (refine gate_guard (by rfl) ?_; dsimp only)); refine box_event ?hg (N := 9) ?hd (cs := #[.int .u8 0, .int .u8 0]) (t := 57) ?hr ?_; (case hd => rfl); (case hg => rfl); (case hr => first | (go_simp; done) | (go_simp; rfl)); intro gb393 hg w22 hbox hb; have n0_ := Aside0.mk (Kd.R_below (by (with_reducible repeat (first | apply Kd.R_alloc | apply Kd.R_drewN | apply Kd.R_drew)); exact HO_5.out) hb); have n1_ := Aside0.mk (Kd.R_below (by (with_reducible repeat (first | apply Kd.R_alloc | apply Kd.R_drewN | apply Kd.R_drew)); exact HO_6.out) hb); have n2_ := Aside0.mk (below_step (by repeat (first | (with_reducible first | exact HB.out | apply below_alloc | apply pw_below_drewN | apply below_drew1) | exact HB.out)) hb); have n3_ := Aside0.mk (hbox); have n4_ := Aside0.mk ((by rw [hg]; exact (below_size (by repeat (first | (with_reducible first | exact HB.out | apply below_alloc | apply pw_below_drewN | apply below_drew1) | exact HB.out))) : w.heap.size ≤ gb393)); have n5_ := Aside0.mk ((by rw [hg]; exact (below_size (by repeat (first | (with_reducible first | exact HB.out | apply below_alloc | apply pw_below_drewN | apply below_drew1) | exact HB.out))) : w.heap.size ≤ gb393)); clear HO_5; clear HO_6; clear HB; have HO_5 := n0_; have HO_6 := n1_; have HB := n2_; have BK393 := n3_; have GW393 := n4_; have GE393 := n5_; clear n0_ n1_ n2_ n3_ n4_ n5_; clear hb hbox hg; have hcz23_0 : w22.cell? ⟨gb393, 0, none⟩ = some (.int .u8 0) := (blk_cell BK393.out 0).trans rfl; have hcz23_1 : w22.cell? ⟨gb393, 1, none⟩ = some (.int .u8 0) := (blk_cell BK393.out 1).trans rfl; have hfz23_0 := blk_frozen BK393.out 0; have hfz23_1 := blk_frozen BK393.out 1))
                          go_ret
                          exact ⟨by first | rfl | (simp [errW_none, errW_some] <;> rfl) | (simp [*, errW_none, errW_some] <;> rfl), by repeat (first | (with_reducible first | exact HB.out | apply below_alloc | apply pw_below_drewN | apply below_drew1 | refine below_set ?_ GE393.out) | exact HB.out)⟩
                      · replace c10 := Bool.eq_false_iff.mpr c10
                        subst c10
                        have H1 : (if x5_2.length < 140737488355328 then (if x6_2.length < 140737488355328 then (glyphcutterlaw03_rise.l1 k2 l0 x3_1 x4_1 (x5_2 ++ [(rd_T57 (rd_L5 l0 x4_1) x8_2).f0]) (x6_2 ++ [(rd_T57 (rd_L5 l0 x4_1) x8_2).f1]) (decide (((rd_T57 (rd_L5 l0 x4_1) x8_2).f0) < ((rd_T57 (rd_L5 l0 x4_1) x8_2).f1))) (wrap64 (x8_2 + 1))) else (none)) else (none)) = some r := by rw [if_neg (show ¬ (false = true) by decide)] at H; exact H
                        clear H
                        have H := H1
                        clear H1
                        by_cases c24 : x5_2.length < 140737488355328
                        · rw [if_pos c24] at H
                          have LMc24 := Aside0.mk c24
                          clear c24
                          obtain ⟨y400, hy400⟩ : ∃ y_ : List Int, y_ = (x5_2 ++ [(rd_T57 (rd_L5 l0 x4_1) x8_2).f0]) := ⟨_, rfl⟩
                          replace H : (if x6_2.length < 140737488355328 then (glyphcutterlaw03_rise.l1 k2 l0 x3_1 x4_1 y400 (x6_2 ++ [(rd_T57 (rd_L5 l0 x4_1) x8_2).f1]) (decide (((rd_T57 (rd_L5 l0 x4_1) x8_2).f0) < ((rd_T57 (rd_L5 l0 x4_1) x8_2).f1))) (wrap64 (x8_2 + 1))) else (none)) = some r := by first | (rw [hy400]; with_reducible exact H) | (have H2_ := (Option.bind_some _ _).symm.trans H; rw [hy400]; with_reducible exact H2_) | (have H2_ := (Option.bind_some _ _).symm.trans H; with_reducible exact H2_) | with_reducible exact H | (rw [hy400]; exact H) | exact H
                          have Ny400 := Aside0.mk hy400
                          clear hy400
                          by_cases c25 : x6_2.length < 140737488355328
                          · rw [if_pos c25] at H
                            have LMc25 := Aside0.mk c25
                            clear c25
                            obtain ⟨y403, hy403⟩ : ∃ y_ : List Int, y_ = (x6_2 ++ [(rd_T57 (rd_L5 l0 x4_1) x8_2).f1]) := ⟨_, rfl⟩
                            replace H : (glyphcutterlaw03_rise.l1 k2 l0 x3_1 x4_1 y400 y403 (decide (((rd_T57 (rd_L5 l0 x4_1) x8_2).f0) < ((rd_T57 (rd_L5 l0 x4_1) x8_2).f1))) (wrap64 (x8_2 + 1))) = some r := by first | (rw [hy403]; with_reducible exact H) | (have H2_ := (Option.bind_some _ _).symm.trans H; rw [hy403]; with_reducible exact H2_) | (have H2_ := (Option.bind_some _ _).symm.trans H; with_reducible exact H2_) | with_reducible exact H | (rw [hy403]; exact H) | exact H
                            have Ny403 := Aside0.mk hy403
                            clear hy403
                            have H' := Aside0.mk H
                            clear H
                            have p390 : 0 ≤ (x4_1 : Int) := of_decide_eq_true (by first | (with_reducible assumption) | assumption)
                            have q390 : x4_1 < (l0.length : Int) := of_decide_eq_true (by first | (with_reducible assumption) | assumption)
                            obtain ⟨ad390, A390_0, c390_0, e390, hx390_0, hl390_0, hi390_0⟩ := at_L5 HR0.out x4_1 p390 q390
                            cases e390
                            replace hx390_0 := (HB.out.cell (World.block_lt_of_cell? w _ hx390_0)).trans hx390_0
                            have HR390_0 := Aside0.mk hi390_0
                            have HC390_0 := Aside0.mk hl390_0
                            clear hi390_0 hl390_0
                            replace p390 := eq_true p390
                            replace q390 := eq_true q390
                            have p391 : 0 ≤ (x4_1 : Int) := of_decide_eq_true (by first | (with_reducible assumption) | assumption)
                            have q391 : x4_1 < (l0.length : Int) := of_decide_eq_true (by first | (with_reducible assumption) | assumption)
                            obtain ⟨ad391, A391_0, c391_0, e391, hx391_0, hl391_0, hi391_0⟩ := at_L5 HR0.out x4_1 p391 q391
                            obtain rfl : ad390 = ad391 := (by injection e391)
                            replace hx391_0 := (HB.out.cell (World.block_lt_of_cell? w _ hx391_0)).trans hx391_0
                            have HR391_0 := Aside0.mk hi391_0
                            have HC391_0 := Aside0.mk hl391_0
                            clear hi391_0 hl391_0
                            replace p391 := eq_true p391
                            replace q391 := eq_true q391
                            have ea_ := Option.some.inj (hx390_0.symm.trans hx391_0)
                            injection ea_ with ea_ en_ ec_
                            subst ea_
                            subst ec_
                            clear en_
                            have p392 : 0 ≤ (x8_2 : Int) := of_decide_eq_true (by first | (with_reducible assumption) | assumption)
                            have q392 : x8_2 < ((rd_L5 l0 x4_1).length : Int) := of_decide_eq_true (by first | (with_reducible assumption) | assumption)
                            obtain ⟨ad392, e392, hx392_0, hx392_1⟩ := at_T57 HR391_0.out x8_2 p392 q392
                            cases e392
                            replace hx392_0 := (HB.out.cell (World.block_lt_of_cell? w _ hx392_0)).trans hx392_0
                            replace hx392_1 := (HB.out.cell (World.block_lt_of_cell? w _ hx392_1)).trans hx392_1
                            replace p392 := eq_true p392
                            replace q392 := eq_true q392
                            go_wp2_with (first | ((with_reducible refine gate_dst (N := 9) rfl ?_); (try (refine gate_guard (by rfl) ?_; dsimp only)); refine box_event ?hg (N := 9) ?hd (cs := #[.int .u8 0, .int .u8 0]) (t := 57) ?hr ?_; (case hd => rfl); (case hg => rfl); (case hr => first | (go_simp; done) | (go_simp; rfl)); intro gb393 hg w26 hbox hb; have n0_ := Aside0.mk (Kd.R_below (by (with_reducible repeat (first | apply Kd.R_alloc | apply Kd.R_drewN | apply Kd.R_drew)); exact HO_5.out) hb); have n1_ := Aside0.mk (Kd.R_below (by (with_reducible repeat (first | apply Kd.R_alloc | apply Kd.R_drewN | apply Kd.R_drew)); exact HO_6.out) hb); have n2_ := Aside0.mk (below_step (by repeat (first | (with_reducible first | exact HB.out | apply below_alloc | apply pw_below_drewN | apply below_drew1) | exact HB.out)) hb); have n3_ := Aside0.mk (hbox); have n4_ := Aside0.mk ((by rw [hg]; exact (below_size (by repeat (first | (with_reducible first | exact HB.out | apply below_alloc | apply pw_below_drewN | apply below_drew1) | exact HB.out))) : w.heap.size ≤ gb393)); have n5_ := Aside0.mk ((by rw [hg]; exact (below_size (by repeat (first | (with_reducible first | exact HB.out | apply below_alloc | apply pw_below_drewN | apply below_drew1) | exact HB.out))) : w.heap.size ≤ gb393)); clear HO_5; clear HO_6; clear HB; have HO_5 := n0_; have HO_6 := n1_; have HB := n2_; have BK393 := n3_; have GW393 := n4_; have GE393 := n5_; clear n0_ n1_ n2_ n3_ n4_ n5_; clear hb hbox hg; have hcz27_0 : w26.cell? ⟨gb393, 0, none⟩ = some (.int .u8 0) := (blk_cell BK393.out 0).trans rfl; have hcz27_1 : w26.cell? ⟨gb393, 1, none⟩ = some (.int .u8 0) := (blk_cell BK393.out 1).trans rfl; have hfz27_0 := blk_frozen BK393.out 0; have hfz27_1 := blk_frozen BK393.out 1) | ((with_reducible refine gate_builtin (b := .append) (xs := #[.tmp 58, .tmp 61]) rfl ?_); (try (refine gate_guard (by rfl) ?_; dsimp only)); at_builtin; refine Kd.R_append (Kd.int .u8) (w0 := w) w.heap.size rfl (.tmp 58) (.tmp 61) 30 5 (.int .u8 0) 1 rfl Try.underlying30 info5 rfl (by decide) (by omega) u5 x5_2 ((rd_T57 (rd_L5 l0 x4_1) x8_2).f0) [.int .u8 ((rd_T57 (rd_L5 l0 x4_1) x8_2).f0)] (fun k_ => some k_ ≠ (u6 : Value).ownBlock) (fun _ => False) rfl (by first | (go_simp; done) | (go_simp; rfl)) ?aP (fun _ hk => hk.elim) ?aF ?aO ?aB ?aS ?aL ?_; (case aP => exact rfl); (case aB => exact (by repeat (first | (with_reducible first | exact HB.out | apply below_alloc | apply pw_below_drewN | apply below_drew1 | refine below_set ?_ GE393.out) | exact HB.out))); (case aF => exact (fun k_ hk => Kd.fresh' (Kd.R_lt (by (with_reducible repeat (first | apply Kd.R_alloc | apply Kd.R_drewN | apply Kd.R_drew)); exact (Kd.R_mono (Kd.R_far (p := ⟨gb393, 1, none⟩) (Kd.R_far (p := ⟨gb393, 0, none⟩) (Kd.R_types HO_6.out BK393.out (by decide)) (fun _ hk => hk.2) (.int .u8 ((rd_T57 (rd_L5 l0 x4_1) x8_2).f0))) (fun _ hk => hk.2) (.int .u8 ((rd_T57 (rd_L5 l0 x4_1) x8_2).f1))) (fun _ h_ => h_.1)))) k_ hk)); (case aO => exact (by (with_reducible repeat (first | apply Kd.R_alloc | apply Kd.R_drewN | apply Kd.R_drew)); exact Kd.R_mono (Kd.R_far (p := ⟨gb393, 1, none⟩) (Kd.R_far (p := ⟨gb393, 0, none⟩) (Kd.R_types HO_5.out BK393.out (by decide)) (fun _ hk => hk.2) (.int .u8 ((rd_T57 (rd_L5 l0 x4_1) x8_2).f0))) (fun _ hk => hk.2) (.int .u8 ((rd_T57 (rd_L5 l0 x4_1) x8_2).f1))) (fun _ hk => hk.1))); (case aS => exact (below_size (by repeat (first | (with_reducible first | exact HB.out | apply below_alloc | apply pw_below_drewN | apply below_drew1 | refine below_set ?_ GE393.out) | exact HB.out)))); (case aL => have := LMc24.out; omega); intro v401 w28 ho hb hg hat; rw [← Ny400.out] at ho; have n0_ := Aside0.mk (Kd.R_after (ok := (fun _ => True)) (by (with_reducible repeat (first | apply Kd.R_alloc | apply Kd.R_drewN | apply Kd.R_drew)); exact Kd.R_mono (Kd.R_far (p := ⟨gb393, 1, none⟩) (Kd.R_far (p := ⟨gb393, 0, none⟩) (Kd.R_types HO_6.out BK393.out (by decide)) (fun _ hk => hk.2) (.int .u8 ((rd_T57 (rd_L5 l0 x4_1) x8_2).f0))) (fun _ hk => hk.2) (.int .u8 ((rd_T57 (rd_L5 l0 x4_1) x8_2).f1))) (fun _ hk => ⟨trivial, hk.1⟩)) hg hat); have n1_ := Aside0.mk (blk_grown (g := gb393) (o := .cells #[.int .u8 ((rd_T57 (rd_L5 l0 x4_1) x8_2).f0), .int .u8 ((rd_T57 (rd_L5 l0 x4_1) x8_2).f1)] 57 (0, 0)) (by (with_reducible repeat (first | refine blk_drewN ?_ _ | refine blk_drew ?_ | refine blk_alloc ?_ _)); refine blk_put (cs := #[.int .u8 ((rd_T57 (rd_L5 l0 x4_1) x8_2).f0), .int .u8 0]) ?_ 1 _ rfl; (with_reducible repeat (first | refine blk_drewN ?_ _ | refine blk_drew ?_ | refine blk_alloc ?_ _)); refine blk_put (cs := #[.int .u8 0, .int .u8 0]) ?_ 0 _ rfl; (with_reducible repeat (first | refine blk_drewN ?_ _ | refine blk_drew ?_ | refine blk_alloc ?_ _)); exact BK393.out) hg (Kd.R_ne HO_5.out BK393.out (by decide))); have n2_ := Aside0.mk (hb); have n3_ := Aside0.mk (ho); clear HO_6; clear BK393; clear HB; clear HO_5; have HO_6 := n0_; have BK393 := n1_; have HB := n2_; have HO402 := n3_; clear n0_ n1_ n2_ n3_; clear ho hb hg hat; have hcz29_0 : w28.cell? ⟨gb393, 0, none⟩ = some (.int .u8 ((rd_T57 (rd_L5 l0 x4_1) x8_2).f0)) := (blk_cell BK393.out 0).trans rfl; have hcz29_1 : w28.cell? ⟨gb393, 1, none⟩ = some (.int .u8 ((rd_T57 (rd_L5 l0 x4_1) x8_2).f1)) := (blk_cell BK393.out 1).trans rfl; have hfz29_0 := blk_frozen BK393.out 0; have hfz29_1 := blk_frozen BK393.out 1) | ((with_reducible refine gate_builtin (b := .append) (xs := #[.tmp 63, .tmp 66]) rfl ?_); (try (refine gate_guard (by rfl) ?_; dsimp only)); at_builtin; refine Kd.R_append (Kd.int .u8) (w0 := w) w.heap.size rfl (.tmp 63) (.tmp 66) 30 5 (.int .u8 0) 1 rfl Try.underlying30 info5 rfl (by decide) (by omega) u6 x6_2 ((rd_T57 (rd_L5 l0 x4_1) x8_2).f1) [.int .u8 ((rd_T57 (rd_L5 l0 x4_1) x8_2).f1)] (fun k_ => some k_ ≠ (v401 : Value).ownBlock) (fun _ => False) rfl rfl ?aP (fun _ hk => hk.elim) ?aF ?aO ?aB ?aS ?aL ?_; (case aP => exact rfl); (case aB => exact (by repeat (first | (with_reducible first | exact HB.out | apply below_alloc | apply pw_below_drewN | apply below_drew1 | refine below_set ?_ GE393.out) | exact HB.out))); (case aF => exact (fun k_ hk => Kd.fresh' (Kd.R_lt (by (with_reducible repeat (first | apply Kd.R_alloc | apply Kd.R_drewN | apply Kd.R_drew)); exact HO402.out)) k_ hk)); (case aO => exact (by (with_reducible repeat (first | apply Kd.R_alloc | apply Kd.R_drewN | apply Kd.R_drew)); exact Kd.R_mono HO_6.out (fun _ hk => hk.2))); (case aS => exact (below_size (by repeat (first | (with_reducible first | exact HB.out | apply below_alloc | apply pw_below_drewN | apply below_drew1 | refine below_set ?_ GE393.out) | exact HB.out)))); (case aL => have := LMc25.out; omega); intro v404 w30 ho hb hg hat; rw [← Ny403.out] at ho; have n0_ := Aside0.mk (blk_grown (g := gb393) (o := .cells #[.int .u8 ((rd_T57 (rd_L5 l0 x4_1) x8_2).f0), .int .u8 ((rd_T57 (rd_L5 l0 x4_1) x8_2).f1)] 57 (0, 0)) (by (with_reducible repeat (first | refine blk_drewN ?_ _ | refine blk_drew ?_ | refine blk_alloc ?_ _)); exact BK393.out) hg (Kd.R_ne HO_6.out BK393.out (by decide))); have n1_ := Aside0.mk (Kd.R_after (ok := (fun _ => True)) (by (with_reducible repeat (first | apply Kd.R_alloc | apply Kd.R_drewN | apply Kd.R_drew)); exact Kd.R_mono HO402.out (fun _ hk => ⟨trivial, hk⟩)) hg hat); have n2_ := Aside0.mk (hb); have n3_ := Aside0.mk (ho); clear BK393; clear HO402; clear HB; clear HO_6; have BK393 := n0_; have HO402 := n1_; have HB := n2_; have HO405 := n3_; clear n0_ n1_ n2_ n3_; clear ho hb hg hat))
                            go_roundg k2
                            case measure => have := HK1.out; have := HK2.out; omega
                            case rel => exact ⟨(y400), (y403), (decide (((rd_T57 (rd_L5 l0 x4_1) x8_2).f0) < ((rd_T57 (rd_L5 l0 x4_1) x8_2).f1))), (wrap64 (x8_2 + 1)), (by first | rfl | (simp; done) | (simp [*]; done)), (by first | rfl | (simp; done) | (simp [*]; done)), H', ⟨by have := HK1.out; have := HK2.out; omega⟩, ⟨by (with_reducible repeat (first | apply Kd.R_alloc | apply Kd.R_drewN | apply Kd.R_drew)); exact Kd.R_mono HO402.out (fun _ hk => hk.2)⟩, ⟨by (with_reducible repeat (first | apply Kd.R_alloc | apply Kd.R_drewN | apply Kd.R_drew)); exact HO405.out⟩, ⟨by repeat (first | (with_reducible first | exact HB.out | apply below_alloc | apply pw_below_drewN | apply below_drew1 | refine below_set ?_ GE393.out) | exact HB.out)⟩⟩
                          · rw [if_neg c25] at H
                            exact absurd H (by simp)
                        · rw [if_neg c24] at H
                          exact absurd H (by simp)
                  · rw [if_neg c6] at H
                    exact absurd H (by simp)
                · rw [if_neg c5] at H
                  have c5b0 : decide (x8_2 < ((rd_L5 l0 x4_1).length : Int)) = false := decide_eq_false c5
                  clear c5
                  by_cases c31 : (x5_2.length : Int) < 1
                  · rw [if_pos c31] at H
                    have c31b0 : decide ((x5_2.length : Int) < 1) = true := decide_eq_true c31
                    have c31b1 : decide (x5_2.length < 1) = true := decide_eq_true (by omega)
                    clear c31
                    obtain rfl := Option.some.inj H
                    have p390 : 0 ≤ (x4_1 : Int) := of_decide_eq_true (by first | (with_reducible assumption) | assumption)
                    have q390 : x4_1 < (l0.length : Int) := of_decide_eq_true (by first | (with_reducible assumption) | assumption)
                    obtain ⟨ad390, A390_0, c390_0, e390, hx390_0, hl390_0, hi390_0⟩ := at_L5 HR0.out x4_1 p390 q390
                    cases e390
                    replace hx390_0 := (HB.out.cell (World.block_lt_of_cell? w _ hx390_0)).trans hx390_0
                    have HR390_0 := Aside0.mk hi390_0
                    have HC390_0 := Aside0.mk hl390_0
                    clear hi390_0 hl390_0
                    replace p390 := eq_true p390
                    replace q390 := eq_true q390
                    obtain ⟨Ao32, co32, eo32⟩ := Kd.R_slice HO_5.out
                    subst eo32
                    go_wp2
                    go_ret
                    exact ⟨by first | rfl | (simp [errW_none, errW_some] <;> rfl) | (simp [*, errW_none, errW_some] <;> rfl), by repeat (first | (with_reducible first | exact HB.out | apply below_alloc | apply pw_below_drewN | apply below_drew1) | exact HB.out)⟩
                  · rw [if_neg c31] at H
                    have c31b0 : decide ((x5_2.length : Int) < 1) = false := decide_eq_false c31
                    have c31b1 : decide (x5_2.length < 1) = false := decide_eq_false (by omega)
                    clear c31
                    by_cases c33 : (x5_2.length : Int) > 4
                    · rw [if_pos c33] at H
                      have c33b0 : decide (4 < (x5_2.length : Int)) = true := decide_eq_true c33
                      have c33b1 : decide (4 < x5_2.length) = true := decide_eq_true (by omega)
                      clear c33
                      obtain rfl := Option.some.inj H
                      have p390 : 0 ≤ (x4_1 : Int) := of_decide_eq_true (by first | (with_reducible assumption) | assumption)
                      have q390 : x4_1 < (l0.length : Int) := of_decide_eq_true (by first | (with_reducible assumption) | assumption)
                      obtain ⟨ad390, A390_0, c390_0, e390, hx390_0, hl390_0, hi390_0⟩ := at_L5 HR0.out x4_1 p390 q390
                      cases e390
                      replace hx390_0 := (HB.out.cell (World.block_lt_of_cell? w _ hx390_0)).trans hx390_0
                      have HR390_0 := Aside0.mk hi390_0
                      have HC390_0 := Aside0.mk hl390_0
                      clear hi390_0 hl390_0
                      replace p390 := eq_true p390
                      replace q390 := eq_true q390
                      obtain ⟨Ao34, co34, eo34⟩ := Kd.R_slice HO_5.out
                      subst eo34
                      go_wp2
                      go_ret
                      exact ⟨by first | rfl | (simp [errW_none, errW_some] <;> rfl) | (simp [*, errW_none, errW_some] <;> rfl), by repeat (first | (with_reducible first | exact HB.out | apply below_alloc | apply pw_below_drewN | apply below_drew1) | exact HB.out)⟩
                    · rw [if_neg c33] at H
                      have c33b0 : decide (4 < (x5_2.length : Int)) = false := decide_eq_false c33
                      have c33b1 : decide (4 < x5_2.length) = false := decide_eq_false (by omega)
                      clear c33
                      by_cases c35 : x4_1 > 0
                      · rw [if_pos c35] at H
                        have c35b0 : decide (0 < x4_1) = true := decide_eq_true c35
                        clear c35
                        by_cases c36 : ((Op.bytesLess x3_1.toList ((strOfNums x5_2).toList)) = true)
                        · rw [if_pos c36] at H
                          have c36b0 : (Op.bytesLess x3_1.toList ((strOfNums x5_2).toList)) = true := c36
                          clear c36
                          have H' := Aside0.mk H
                          clear H
                          have p390 : 0 ≤ (x4_1 : Int) := of_decide_eq_true (by first | (with_reducible assumption) | assumption)
                          have q390 : x4_1 < (l0.length : Int) := of_decide_eq_true (by first | (with_reducible assumption) | assumption)
                          obtain ⟨ad390, A390_0, c390_0, e390, hx390_0, hl390_0, hi390_0⟩ := at_L5 HR0.out x4_1 p390 q390
                          cases e390
                          replace hx390_0 := (HB.out.cell (World.block_lt_of_cell? w _ hx390_0)).trans hx390_0
                          have HR390_0 := Aside0.mk hi390_0
                          have HC390_0 := Aside0.mk hl390_0
                          clear hi390_0 hl390_0
                          replace p390 := eq_true p390
                          replace q390 := eq_true q390
                          obtain ⟨Ao37, co37, eo37⟩ := Kd.R_slice HO_5.out
                          subst eo37
                          have hcv38 := own_string (P := Try.prog) Try.underlying30 Try.underlying5 Try.underlying9 (Kd.own_of_R HO_5.out)
                          obtain ⟨Ap39, cp39, ep39⟩ := Kd.R_slice HO_6.out
                          subst ep39
                          have hcv39 := own_string (P := Try.prog) Try.underlying30 Try.underlying5 Try.underlying9 (Kd.own_of_R HO_6.out)
                          go_wp2
                          go_roundg k2
                          case measure => have := HK1.out; have := HK2.out; omega
                          case rel => exact ⟨(strOfNums x6_2), (wrap64 (x4_1 + 1)), (by first | rfl | (simp; done) | (simp [*]; done)), (by first | rfl | (simp; done) | (simp [*]; done)), H', ⟨by have := HK1.out; have := HK2.out; omega⟩, ⟨by repeat (first | (with_reducible first | exact HB.out | apply below_alloc | apply pw_below_drewN | apply below_drew1) | exact HB.out)⟩⟩
                        · rw [if_neg c36] at H
                          have c36b0 : (Op.bytesLess x3_1.toList ((strOfNums x5_2).toList)) = false := by simpa using c36
                          clear c36
                          obtain rfl := Option.some.inj H
                          have p390 : 0 ≤ (x4_1 : Int) := of_decide_eq_true (by first | (with_reducible assumption) | assumption)
                          have q390 : x4_1 < (l0.length : Int) := of_decide_eq_true (by first | (with_reducible assumption) | assumption)
                          obtain ⟨ad390, A390_0, c390_0, e390, hx390_0, hl390_0, hi390_0⟩ := at_L5 HR0.out x4_1 p390 q390
                          cases e390
                          replace hx390_0 := (HB.out.cell (World.block_lt_of_cell? w _ hx390_0)).trans hx390_0
                          have HR390_0 := Aside0.mk hi390_0
                          have HC390_0 := Aside0.mk hl390_0
                          clear hi390_0 hl390_0
                          replace p390 := eq_true p390
                          replace q390 := eq_true q390
                          obtain ⟨Ao40, co40, eo40⟩ := Kd.R_slice HO_5.out
                          subst eo40
                          have hcv41 := own_string (P := Try.prog) Try.underlying30 Try.underlying5 Try.underlying9 (Kd.own_of_R HO_5.out)
                          go_wp2
                          go_ret
                          exact ⟨by first | rfl | (simp [errW_none, errW_some] <;> rfl) | (simp [*, errW_none, errW_some] <;> rfl), by repeat (first | (with_reducible first | exact HB.out | apply below_alloc | apply pw_below_drewN | apply below_drew1) | exact HB.out)⟩
                      · rw [if_neg c35] at H
                        have c35b0 : decide (0 < x4_1) = false := decide_eq_false c35
                        clear c35
                        have H' := Aside0.mk H
                        clear H
                        have p390 : 0 ≤ (x4_1 : Int) := of_decide_eq_true (by first | (with_reducible assumption) | assumption)
                        have q390 : x4_1 < (l0.length : Int) := of_decide_eq_true (by first | (with_reducible assumption) | assumption)
                        obtain ⟨ad390, A390_0, c390_0, e390, hx390_0, hl390_0, hi390_0⟩ := at_L5 HR0.out x4_1 p390 q390
                        cases e390
                        replace hx390_0 := (HB.out.cell (World.block_lt_of_cell? w _ hx390_0)).trans hx390_0
                        have HR390_0 := Aside0.mk hi390_0
                        have HC390_0 := Aside0.mk hl390_0
                        clear hi390_0 hl390_0
                        replace p390 := eq_true p390
                        replace q390 := eq_true q390
                        obtain ⟨Ao42, co42, eo42⟩ := Kd.R_slice HO_5.out
                        subst eo42
                        obtain ⟨Ap43, cp43, ep43⟩ := Kd.R_slice HO_6.out
                        subst ep43
                        have hcv43 := own_string (P := Try.prog) Try.underlying30 Try.underlying5 Try.underlying9 (Kd.own_of_R HO_6.out)
                        go_wp2
                        go_roundg k2
                        case measure => have := HK1.out; have := HK2.out; omega
                        case rel => exact ⟨(strOfNums x6_2), (wrap64 (x4_1 + 1)), (by first | rfl | (simp; done) | (simp [*]; done)), (by first | rfl | (simp; done) | (simp [*]; done)), H', ⟨by have := HK1.out; have := HK2.out; omega⟩, ⟨by repeat (first | (with_reducible first | exact HB.out | apply below_alloc | apply pw_below_drewN | apply below_drew1) | exact HB.out)⟩⟩
              · rw [if_neg c4] at H
                exact absurd H (by simp)
            · rw [if_neg c3] at H
              exact absurd H (by simp)
      · rw [if_neg c2] at H
        have c2b0 : decide (x4_1 < (l0.length : Int)) = false := decide_eq_false c2
        clear c2
        obtain rfl := Option.some.inj H
        go_wp2
        go_ret
        exact ⟨by first | rfl | (simp [errW_none, errW_some] <;> rfl) | (simp [*, errW_none, errW_some] <;> rfl), by repeat (first | (with_reducible first | exact HB.out | apply below_alloc | apply pw_below_drewN | apply below_drew1) | exact HB.out)⟩

end Go.Proofs.Ytbhfaeliklaffaa.P
