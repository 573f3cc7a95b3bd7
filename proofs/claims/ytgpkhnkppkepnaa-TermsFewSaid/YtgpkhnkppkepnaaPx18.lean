-- WRITTEN BY A PROGRAM (hybrid.py over the kit's print.py): Lean checks it.
import Derived.Test.YtgpkhnkppkepnaaPx0
import Derived.Test.YtgpkhnkppkepnaaPx2
import Derived.Test.YtgpkhnkppkepnaaPx3
import Derived.Test.YtgpkhnkppkepnaaPx11
import Derived.Test.YtgpkhnkppkepnaaGTerms
namespace Go.Proofs.Ytgpkhnkppkepnaa.P
open Go.RowKit Go.Proofs.YtgpkhnkppkepnaaW.PrintWords Go.Proofs.YtgpkhnkppkepnaaW.PrintLast Go.Proofs.YtgpkhnkppkepnaaW.PrintMore
attribute [local go_sem] max2_int min2_int max_two min_two max_three min_three max_four min_four   -- for this text's walks alone
set_option linter.unusedVariables false
set_option linter.unusedSimpArgs false

/-! ### glyphcutterlaw10_TermsFew: function 8 -/
mutual
def glyphcutterlaw10_TermsFew.l0 : Nat → List (List (S42)) → List (List (S42)) → Int → Option (Bool)
  | 0, _, _, _ => none
  | k + 1, x3, x4, x5 => if x5 < (x4.length : Int) then (glyphcutterlaw10_TermsFew.l1 k x3 x4 x5 0) else ((glyphcutterlaw10_known.f k).bind fun t465 => (some t465))
def glyphcutterlaw10_TermsFew.l1 : Nat → List (List (S42)) → List (List (S42)) → Int → Int → Option (Bool)
  | 0, _, _, _, _ => none
  | k + 1, x3, x4, x5, x6 => if x6 < x5 then (glyphcutterlaw10_TermsFew.l2 k x3 x4 x5 x6 false 0) else (glyphcutterlaw10_TermsFew.l0 k x3 x4 (wrap64 (x5 + 1)))
def glyphcutterlaw10_TermsFew.l2 : Nat → List (List (S42)) → List (List (S42)) → Int → Int → Bool → Int → Option (Bool)
  | 0, _, _, _, _, _, _ => none
  | k + 1, x3, x4, x5, x6, x7, x8 => if x8 < (x3.length : Int) then (if x7 = true then (glyphcutterlaw10_TermsFew.l2 k x3 x4 x5 x6 true (wrap64 (x8 + 1))) else (if 0 ≤ x8 then (if 0 ≤ x5 then (if x5 < (x4.length : Int) then (if 0 < ((rd_L2 x4 x5).length : Int) then ((glyphcutterref01_Has.f k (rd_L2 x3 x8) ((rd_T42 (rd_L2 x4 x5) 0).f0)).bind fun t469 => (if 0 ≤ x6 then (if x6 < (x4.length : Int) then (if 0 < ((rd_L2 x4 x6).length : Int) then ((glyphcutterref01_Has.f k (rd_L2 x3 x8) ((rd_T42 (rd_L2 x4 x6) 0).f0)).bind fun t473 => (glyphcutterlaw10_TermsFew.l2 k x3 x4 x5 x6 (t469 != t473) (wrap64 (x8 + 1)))) else (none)) else (none)) else (none))) else (none)) else (none)) else (none)) else (none))) else (if x7 = true then (glyphcutterlaw10_TermsFew.l1 k x3 x4 x5 (wrap64 (x6 + 1))) else (some false))
end
def glyphcutterlaw10_TermsFew.f (k : Nat) (l0 : List (List Int)) : Option (Bool) := (glyphcutterlaw10_List.f k l0).bind fun t459 => ((terms_Of.f t459).bind fun t462 => (glyphcutterlaw10_TermsFew.l0 k t459 t462 0))
theorem glyphcutterlaw10_TermsFew.mono_l : ∀ k, (∀ y0 y1 y2, LeO (glyphcutterlaw10_TermsFew.l0 k y0 y1 y2) (glyphcutterlaw10_TermsFew.l0 (k + 1) y0 y1 y2)) ∧ (∀ y0 y1 y2 y3, LeO (glyphcutterlaw10_TermsFew.l1 k y0 y1 y2 y3) (glyphcutterlaw10_TermsFew.l1 (k + 1) y0 y1 y2 y3)) ∧ (∀ y0 y1 y2 y3 y4 y5, LeO (glyphcutterlaw10_TermsFew.l2 k y0 y1 y2 y3 y4 y5) (glyphcutterlaw10_TermsFew.l2 (k + 1) y0 y1 y2 y3 y4 y5))
  | 0 => ⟨fun _ _ _ r h => by simp [glyphcutterlaw10_TermsFew.l0] at h, fun _ _ _ _ r h => by simp [glyphcutterlaw10_TermsFew.l1] at h, fun _ _ _ _ _ _ r h => by simp [glyphcutterlaw10_TermsFew.l2] at h⟩
  | k + 1 => by
    obtain ⟨ih0, ih1, ih2⟩ := glyphcutterlaw10_TermsFew.mono_l k
    refine ⟨?_, ?_, ?_⟩
    · intro y0 y1 y2
      unfold glyphcutterlaw10_TermsFew.l0
      repeat' first
      | (with_reducible exact ih0 _ _ _)
      | (with_reducible exact ih1 _ _ _ _)
      | (with_reducible exact ih2 _ _ _ _ _ _)
      | (with_reducible exact glyphcutterlaw10_List.mono _ _)
      | (with_reducible exact glyphcutterlaw10_known.mono _)
      | (with_reducible exact glyphcutterref01_Has.mono _ _ _)
      | (with_reducible exact LeO.refl _)
      | (with_reducible exact LeO.none _)
      | (with_reducible refine LeO.ite ?_ ?_)
      | (with_reducible refine LeO.bind ?_ (fun _ => ?_))
      | exact ih0 _ _ _
      | exact ih1 _ _ _ _
      | exact ih2 _ _ _ _ _ _
      | exact glyphcutterlaw10_List.mono _ _
      | exact glyphcutterlaw10_known.mono _
      | exact glyphcutterref01_Has.mono _ _ _
      | exact LeO.none _
      | refine LeO.ite ?_ ?_
      | refine LeO.bind ?_ (fun _ => ?_)
    · intro y0 y1 y2 y3
      unfold glyphcutterlaw10_TermsFew.l1
      repeat' first
      | (with_reducible exact ih0 _ _ _)
      | (with_reducible exact ih1 _ _ _ _)
      | (with_reducible exact ih2 _ _ _ _ _ _)
      | (with_reducible exact glyphcutterlaw10_List.mono _ _)
      | (with_reducible exact glyphcutterlaw10_known.mono _)
      | (with_reducible exact glyphcutterref01_Has.mono _ _ _)
      | (with_reducible exact LeO.refl _)
      | (with_reducible exact LeO.none _)
      | (with_reducible refine LeO.ite ?_ ?_)
      | (with_reducible refine LeO.bind ?_ (fun _ => ?_))
      | exact ih0 _ _ _
      | exact ih1 _ _ _ _
      | exact ih2 _ _ _ _ _ _
      | exact glyphcutterlaw10_List.mono _ _
      | exact glyphcutterlaw10_known.mono _
      | exact glyphcutterref01_Has.mono _ _ _
      | exact LeO.none _
      | refine LeO.ite ?_ ?_
      | refine LeO.bind ?_ (fun _ => ?_)
    · intro y0 y1 y2 y3 y4 y5
      unfold glyphcutterlaw10_TermsFew.l2
      repeat' first
      | (with_reducible exact ih0 _ _ _)
      | (with_reducible exact ih1 _ _ _ _)
      | (with_reducible exact ih2 _ _ _ _ _ _)
      | (with_reducible exact glyphcutterlaw10_List.mono _ _)
      | (with_reducible exact glyphcutterlaw10_known.mono _)
      | (with_reducible exact glyphcutterref01_Has.mono _ _ _)
      | (with_reducible exact LeO.refl _)
      | (with_reducible exact LeO.none _)
      | (with_reducible refine LeO.ite ?_ ?_)
      | (with_reducible refine LeO.bind ?_ (fun _ => ?_))
      | exact ih0 _ _ _
      | exact ih1 _ _ _ _
      | exact ih2 _ _ _ _ _ _
      | exact glyphcutterlaw10_List.mono _ _
      | exact glyphcutterlaw10_known.mono _
      | exact glyphcutterref01_Has.mono _ _ _
      | exact LeO.none _
      | refine LeO.ite ?_ ?_
      | refine LeO.bind ?_ (fun _ => ?_)
theorem glyphcutterlaw10_TermsFew.mono : ∀ a0 k, LeO (glyphcutterlaw10_TermsFew.f k a0) (glyphcutterlaw10_TermsFew.f (k + 1) a0) := by
  intro a0 k
  obtain ⟨ih0, ih1, ih2⟩ := glyphcutterlaw10_TermsFew.mono_l k
  unfold glyphcutterlaw10_TermsFew.f
  repeat' first
      | (with_reducible exact ih0 _ _ _)
      | (with_reducible exact ih1 _ _ _ _)
      | (with_reducible exact ih2 _ _ _ _ _ _)
      | (with_reducible exact glyphcutterlaw10_List.mono _ _)
      | (with_reducible exact glyphcutterlaw10_known.mono _)
      | (with_reducible exact glyphcutterref01_Has.mono _ _ _)
      | (with_reducible exact LeO.refl _)
      | (with_reducible exact LeO.none _)
      | (with_reducible refine LeO.ite ?_ ?_)
      | (with_reducible refine LeO.bind ?_ (fun _ => ?_))
      | exact ih0 _ _ _
      | exact ih1 _ _ _ _
      | exact ih2 _ _ _ _ _ _
      | exact glyphcutterlaw10_List.mono _ _
      | exact glyphcutterlaw10_known.mono _
      | exact glyphcutterref01_Has.mono _ _ _
      | exact LeO.none _
      | refine LeO.ite ?_ ?_
      | refine LeO.bind ?_ (fun _ => ?_)
set_option maxHeartbeats 8000000 in
set_option maxRecDepth 100000 in
theorem glyphcutterlaw10_TermsFew.calls (k : Nat) (A0 : Option Addr) (c0 : Nat) (l0 : List (List Int)) (r : Bool) (w : World) (hrt : r = true) (hr0 : Kd.C (Kd.slice 54 (Kd.int .u16)) w A0 l0.length l0) (hc0 : l0.length ≤ c0) (h : glyphcutterlaw10_TermsFew.f k l0 = some r) :
    Calls Try.prog 8 #[.slice A0 l0.length c0] w fun e w' => e = .returned (.bool r) ∧ Below w.heap.size w w' := by
  have HRT := Aside0.mk hrt
  clear hrt
  have HR0 := Aside0.mk hr0
  have HC0 := Aside0.mk hc0
  clear hr0 hc0
  have HB := Aside0.mk (Below.refl w.heap.size w)
  have H : ((glyphcutterlaw10_List.f k l0).bind fun t459 => ((terms_Of.f t459).bind fun t462 => (glyphcutterlaw10_TermsFew.l0 k t459 t462 0))) = some r := h
  clear h
  replace H := Option.bind_eq_some_iff.mp H
  obtain ⟨t459, A20, H⟩ := H
  skip
  have A2 := Aside0.mk A20
  clear A20
  replace H := Option.bind_eq_some_iff.mp H
  obtain ⟨t462, A30, H⟩ := H
  skip
  have A3 := Aside0.mk A30
  clear A30
  have H' := Aside0.mk H
  clear H
  go_enter Try.func8, Try.ntmps8
  go_wp2_with (first | (go_at_call 10; (with_reducible refine (glyphcutterlaw10_List.calls k _ _ l0 t459 _ ?side1 ?side2 A2.out).mono ?_); (case side1 => repeat (first | exact HR0.out | (with_reducible refine Kd.C_alloc ?_ _) | (with_reducible refine Kd.C_drewN ?_ _) | (with_reducible refine Kd.C_drew ?_))); (case side2 => exact HC0.out); rintro e w4 ⟨v460, rfl, ho0, hb⟩; have n0_ := Aside0.mk (Kd.N_lower (Kd.N_mono (ok' := fun k_ => True) (Kd.S_N (Kd.S_bound ho0)) (fun k_ hk_ => trivial)) (below_size (by repeat (first | (with_reducible first | exact HB.out | apply below_alloc | apply pw_below_drewN | apply below_drew1) | exact HB.out)))); have n1_ := Aside0.mk (below_step (by repeat (first | (with_reducible first | exact HB.out | apply below_alloc | apply pw_below_drewN | apply below_drew1) | exact HB.out)) hb); clear HB; have HO461 := n0_; have HB := n1_; clear n0_ n1_; (try clear hb); (try clear hb2); (try clear hk); (try clear hi); (try clear ho0); obtain ⟨Ao5, co5, eo5⟩ := Kd.N_slice HO461.out; subst eo5) | (go_at_call 11; (with_reducible refine (terms_Of.calls _ _ t459 t462 _ ?side1 ?side2 A3.out).mono ?_); (case side1 => repeat (first | exact (Kd.N_reads' HO461.out).2.2 | (with_reducible refine Kd.C_alloc ?_ _) | (with_reducible refine Kd.C_drewN ?_ _) | (with_reducible refine Kd.C_drew ?_))); (case side2 => exact (Kd.N_reads' HO461.out).2.1); rintro e w6 ⟨v463, rfl, ho0, hb⟩; have n0_ := Aside0.mk (Kd.N_elder' (by (with_reducible repeat (first | apply Kd.N_alloc | apply Kd.N_drewN | apply Kd.N_drew)); exact HO461.out) (Kd.N_base ho0) hb); have n1_ := Aside0.mk (Kd.N_lower (Kd.N_mono (ok' := fun k_ => some k_ ≠ (.slice Ao5 t459.length co5 : Value).ownBlock) ho0 (fun k_ hk_ => (Kd.fresh' (Kd.N_lt (by (with_reducible repeat (first | apply Kd.N_alloc | apply Kd.N_drewN | apply Kd.N_drew)); exact HO461.out)) k_ hk_))) (below_size (by repeat (first | (with_reducible first | exact HB.out | apply below_alloc | apply pw_below_drewN | apply below_drew1) | exact HB.out)))); have n2_ := Aside0.mk (below_step (by repeat (first | (with_reducible first | exact HB.out | apply below_alloc | apply pw_below_drewN | apply below_drew1) | exact HB.out)) hb); clear HO461; clear HB; have HO461 := n0_; have HO464 := n1_; have HB := n2_; clear n0_ n1_ n2_; (try clear hb); (try clear hb2); (try clear hk); (try clear hi); (try clear ho0)))
  repeat (go_quiet (first | (go_at_call 10; (with_reducible refine (glyphcutterlaw10_List.calls k _ _ l0 t459 _ ?side1 ?side2 A2.out).mono ?_); (case side1 => repeat (first | exact HR0.out | (with_reducible refine Kd.C_alloc ?_ _) | (with_reducible refine Kd.C_drewN ?_ _) | (with_reducible refine Kd.C_drew ?_))); (case side2 => exact HC0.out); rintro e w4 ⟨v460, rfl, ho0, hb⟩; have n0_ := Aside0.mk (Kd.N_lower (Kd.N_mono (ok' := fun k_ => True) (Kd.S_N (Kd.S_bound ho0)) (fun k_ hk_ => trivial)) (below_size (by repeat (first | (with_reducible first | exact HB.out | apply below_alloc | apply pw_below_drewN | apply below_drew1) | exact HB.out)))); have n1_ := Aside0.mk (below_step (by repeat (first | (with_reducible first | exact HB.out | apply below_alloc | apply pw_below_drewN | apply below_drew1) | exact HB.out)) hb); clear HB; have HO461 := n0_; have HB := n1_; clear n0_ n1_; (try clear hb); (try clear hb2); (try clear hk); (try clear hi); (try clear ho0); obtain ⟨Ao5, co5, eo5⟩ := Kd.N_slice HO461.out; subst eo5) | (go_at_call 11; (with_reducible refine (terms_Of.calls _ _ t459 t462 _ ?side1 ?side2 A3.out).mono ?_); (case side1 => repeat (first | exact (Kd.N_reads' HO461.out).2.2 | (with_reducible refine Kd.C_alloc ?_ _) | (with_reducible refine Kd.C_drewN ?_ _) | (with_reducible refine Kd.C_drew ?_))); (case side2 => exact (Kd.N_reads' HO461.out).2.1); rintro e w6 ⟨v463, rfl, ho0, hb⟩; have n0_ := Aside0.mk (Kd.N_elder' (by (with_reducible repeat (first | apply Kd.N_alloc | apply Kd.N_drewN | apply Kd.N_drew)); exact HO461.out) (Kd.N_base ho0) hb); have n1_ := Aside0.mk (Kd.N_lower (Kd.N_mono (ok' := fun k_ => some k_ ≠ (.slice Ao5 t459.length co5 : Value).ownBlock) ho0 (fun k_ hk_ => (Kd.fresh' (Kd.N_lt (by (with_reducible repeat (first | apply Kd.N_alloc | apply Kd.N_drewN | apply Kd.N_drew)); exact HO461.out)) k_ hk_))) (below_size (by repeat (first | (with_reducible first | exact HB.out | apply below_alloc | apply pw_below_drewN | apply below_drew1) | exact HB.out)))); have n2_ := Aside0.mk (below_step (by repeat (first | (with_reducible first | exact HB.out | apply below_alloc | apply pw_below_drewN | apply below_drew1) | exact HB.out)) hb); clear HO461; clear HB; have HO461 := n0_; have HO464 := n1_; have HB := n2_; clear n0_ n1_ n2_; (try clear hb); (try clear hb2); (try clear hk); (try clear hi); (try clear ho0))); try go_wp2_with (first | (go_at_call 10; (with_reducible refine (glyphcutterlaw10_List.calls k _ _ l0 t459 _ ?side1 ?side2 A2.out).mono ?_); (case side1 => repeat (first | exact HR0.out | (with_reducible refine Kd.C_alloc ?_ _) | (with_reducible refine Kd.C_drewN ?_ _) | (with_reducible refine Kd.C_drew ?_))); (case side2 => exact HC0.out); rintro e w4 ⟨v460, rfl, ho0, hb⟩; have n0_ := Aside0.mk (Kd.N_lower (Kd.N_mono (ok' := fun k_ => True) (Kd.S_N (Kd.S_bound ho0)) (fun k_ hk_ => trivial)) (below_size (by repeat (first | (with_reducible first | exact HB.out | apply below_alloc | apply pw_below_drewN | apply below_drew1) | exact HB.out)))); have n1_ := Aside0.mk (below_step (by repeat (first | (with_reducible first | exact HB.out | apply below_alloc | apply pw_below_drewN | apply below_drew1) | exact HB.out)) hb); clear HB; have HO461 := n0_; have HB := n1_; clear n0_ n1_; (try clear hb); (try clear hb2); (try clear hk); (try clear hi); (try clear ho0); obtain ⟨Ao5, co5, eo5⟩ := Kd.N_slice HO461.out; subst eo5) | (go_at_call 11; (with_reducible refine (terms_Of.calls _ _ t459 t462 _ ?side1 ?side2 A3.out).mono ?_); (case side1 => repeat (first | exact (Kd.N_reads' HO461.out).2.2 | (with_reducible refine Kd.C_alloc ?_ _) | (with_reducible refine Kd.C_drewN ?_ _) | (with_reducible refine Kd.C_drew ?_))); (case side2 => exact (Kd.N_reads' HO461.out).2.1); rintro e w6 ⟨v463, rfl, ho0, hb⟩; have n0_ := Aside0.mk (Kd.N_elder' (by (with_reducible repeat (first | apply Kd.N_alloc | apply Kd.N_drewN | apply Kd.N_drew)); exact HO461.out) (Kd.N_base ho0) hb); have n1_ := Aside0.mk (Kd.N_lower (Kd.N_mono (ok' := fun k_ => some k_ ≠ (.slice Ao5 t459.length co5 : Value).ownBlock) ho0 (fun k_ hk_ => (Kd.fresh' (Kd.N_lt (by (with_reducible repeat (first | apply Kd.N_alloc | apply Kd.N_drewN | apply Kd.N_drew)); exact HO461.out)) k_ hk_))) (below_size (by repeat (first | (with_reducible first | exact HB.out | apply below_alloc | apply pw_below_drewN | apply below_drew1) | exact HB.out)))); have n2_ := Aside0.mk (below_step (by repeat (first | (with_reducible first | exact HB.out | apply below_alloc | apply pw_below_drewN | apply below_drew1) | exact HB.out)) hb); clear HO461; clear HB; have HO461 := n0_; have HO464 := n1_; have HB := n2_; clear n0_ n1_ n2_; (try clear hb); (try clear hb2); (try clear hk); (try clear hi); (try clear ho0))))
  go_loopg [5] k (fun kq v5 w' => ∃ (x5_1 : Int), v5 = .int .i64 x5_1 ∧ Aside0 (glyphcutterlaw10_TermsFew.l0 kq t459 t462 x5_1 = some r) ∧ Aside0 (kq ≤ k) ∧ Aside0 (Kd.N (Kd.slice 42 k42) 28 w' w.heap.size (fun k_ => some k_ ≠ (v463 : Value).ownBlock) (.slice Ao5 t459.length co5) t459) ∧ Aside0 (Kd.N (Kd.slice 42 k42) 28 w' w.heap.size (fun k_ => some k_ ≠ ((.slice Ao5 t459.length co5) : Value).ownBlock) v463 t462) ∧ Aside0 (Below w.heap.size w w'))
  case atStart => exact ⟨(0), (by first | rfl | (simp; done) | (simp [*]; done)), H', ⟨Nat.le_refl _⟩, ⟨by (with_reducible repeat (first | apply Kd.N_alloc | apply Kd.N_drewN | apply Kd.N_drew)); exact Kd.N_mono HO461.out (fun _ hk => hk.2)⟩, ⟨by (with_reducible repeat (first | apply Kd.N_alloc | apply Kd.N_drewN | apply Kd.N_drew)); exact HO464.out⟩, ⟨by repeat (first | (with_reducible first | exact HB.out | apply below_alloc | apply pw_below_drewN | apply below_drew1) | exact HB.out)⟩⟩
  case round =>
    clear H'
    try clear p2
    obtain ⟨x5_1, rfl, HA, HK1, HO_3, HO_4, HB⟩ := hrel
    cases gk with
    | zero => exact absurd HA.out (by simp [glyphcutterlaw10_TermsFew.l0])
    | succ k1 =>
      have H := HA.out
      clear HA
      simp only [glyphcutterlaw10_TermsFew.l0] at H
      by_cases c7 : x5_1 < (t462.length : Int)
      · rw [if_pos c7] at H
        have c7b0 : decide (x5_1 < (t462.length : Int)) = true := decide_eq_true c7
        clear c7
        have H' := Aside0.mk H
        clear H
        obtain ⟨Ao8, co8, eo8⟩ := Kd.N_slice HO_4.out
        subst eo8
        go_wp2
        repeat (go_quiet (fail); try go_wp2)
        go_loopg [6] k1 (fun kq v6 w' => ∃ (x6_2 : Int), v6 = .int .i64 x6_2 ∧ Aside0 (glyphcutterlaw10_TermsFew.l1 kq t459 t462 x5_1 x6_2 = some r) ∧ Aside0 (kq ≤ k1) ∧ Aside0 (Kd.N (Kd.slice 42 k42) 28 w' w.heap.size (fun k_ => some k_ ≠ ((.slice Ao8 t462.length co8) : Value).ownBlock) (.slice Ao5 t459.length co5) t459) ∧ Aside0 (Kd.N (Kd.slice 42 k42) 28 w' w.heap.size (fun k_ => some k_ ≠ ((.slice Ao5 t459.length co5) : Value).ownBlock) (.slice Ao8 t462.length co8) t462) ∧ Aside0 (Below w.heap.size w w'))
        case atStart => exact ⟨(0), (by first | rfl | (simp; done) | (simp [*]; done)), H', ⟨Nat.le_refl _⟩, ⟨by (with_reducible repeat (first | apply Kd.N_alloc | apply Kd.N_drewN | apply Kd.N_drew)); exact HO_3.out⟩, ⟨by (with_reducible repeat (first | apply Kd.N_alloc | apply Kd.N_drewN | apply Kd.N_drew)); exact HO_4.out⟩, ⟨by repeat (first | (with_reducible first | exact HB.out | apply below_alloc | apply pw_below_drewN | apply below_drew1) | exact HB.out)⟩⟩
        case round =>
          clear H'
          try clear p2
          try clear c7
          try clear c7b0
          try clear c8
          try clear p2
          obtain ⟨x6_2, rfl, HA, HK2, HO_3, HO_4, HB⟩ := hrel
          cases gk with
          | zero => exact absurd HA.out (by simp [glyphcutterlaw10_TermsFew.l1])
          | succ k2 =>
            have H := HA.out
            clear HA
            simp only [glyphcutterlaw10_TermsFew.l1] at H
            by_cases c9 : x6_2 < x5_1
            · rw [if_pos c9] at H
              have c9b0 : decide (x6_2 < x5_1) = true := decide_eq_true c9
              clear c9
              have H' := Aside0.mk H
              clear H
              go_wp2
              repeat (go_quiet (fail); try go_wp2)
              go_loopg [7, 8] k2 (fun kq v7 v8 w' => ∃ (x7_3 : Bool) (x8_3 : Int), v7 = .bool x7_3 ∧ v8 = .int .i64 x8_3 ∧ Aside0 (glyphcutterlaw10_TermsFew.l2 kq t459 t462 x5_1 x6_2 x7_3 x8_3 = some r) ∧ Aside0 (kq ≤ k2) ∧ Aside0 (Kd.N (Kd.slice 42 k42) 28 w' w.heap.size (fun k_ => some k_ ≠ ((.slice Ao8 t462.length co8) : Value).ownBlock) (.slice Ao5 t459.length co5) t459) ∧ Aside0 (Kd.N (Kd.slice 42 k42) 28 w' w.heap.size (fun k_ => some k_ ≠ ((.slice Ao5 t459.length co5) : Value).ownBlock) (.slice Ao8 t462.length co8) t462) ∧ Aside0 (Below w.heap.size w w'))
              case atStart => exact ⟨(false), (0), (by first | rfl | (simp; done) | (simp [*]; done)), (by first | rfl | (simp; done) | (simp [*]; done)), H', ⟨Nat.le_refl _⟩, ⟨by (with_reducible repeat (first | apply Kd.N_alloc | apply Kd.N_drewN | apply Kd.N_drew)); exact HO_3.out⟩, ⟨by (with_reducible repeat (first | apply Kd.N_alloc | apply Kd.N_drewN | apply Kd.N_drew)); exact HO_4.out⟩, ⟨by repeat (first | (with_reducible first | exact HB.out | apply below_alloc | apply pw_below_drewN | apply below_drew1) | exact HB.out)⟩⟩
              case round =>
                clear H'
                try clear p2
                try clear c7
                try clear c7b0
                try clear c8
                try clear c9
                try clear c9b0
                try clear p2
                obtain ⟨x7_3, x8_3, rfl, rfl, HA, HK3, HO_3, HO_4, HB⟩ := hrel
                cases gk with
                | zero => exact absurd HA.out (by simp [glyphcutterlaw10_TermsFew.l2])
                | succ k3 =>
                  have H := HA.out
                  clear HA
                  simp only [glyphcutterlaw10_TermsFew.l2] at H
                  by_cases c10 : x8_3 < (t459.length : Int)
                  · rw [if_pos c10] at H
                    have c10b0 : decide (x8_3 < (t459.length : Int)) = true := decide_eq_true c10
                    clear c10
                    by_cases c11 : x7_3 = true
                    · subst c11
                      rw [if_pos rfl] at H
                      have H' := Aside0.mk H
                      clear H
                      go_wp2
                      repeat (go_quiet (fail); try go_wp2)
                      go_roundg k3
                      case measure => have := HK1.out; have := HK2.out; have := HK3.out; omega
                      case rel => exact ⟨(true), (wrap64 (x8_3 + 1)), (by first | rfl | (simp; done) | (simp [*]; done)), (by first | rfl | (simp; done) | (simp [*]; done)), H', ⟨by have := HK1.out; have := HK2.out; have := HK3.out; omega⟩, ⟨by (with_reducible repeat (first | apply Kd.N_alloc | apply Kd.N_drewN | apply Kd.N_drew)); exact HO_3.out⟩, ⟨by (with_reducible repeat (first | apply Kd.N_alloc | apply Kd.N_drewN | apply Kd.N_drew)); exact HO_4.out⟩, ⟨by repeat (first | (with_reducible first | exact HB.out | apply below_alloc | apply pw_below_drewN | apply below_drew1) | exact HB.out)⟩⟩
                    · replace c11 := Bool.eq_false_iff.mpr c11
                      subst c11
                      rw [if_neg (show ¬ (false = true) by decide)] at H
                      by_cases c12 : 0 ≤ x8_3
                      · rw [if_pos c12] at H
                        have c12b0 : decide (0 ≤ x8_3) = true := decide_eq_true c12
                        clear c12
                        by_cases c13 : 0 ≤ x5_1
                        · rw [if_pos c13] at H
                          have c13b0 : decide (0 ≤ x5_1) = true := decide_eq_true c13
                          clear c13
                          by_cases c14 : x5_1 < (t462.length : Int)
                          · rw [if_pos c14] at H
                            have c14b0 : decide (x5_1 < (t462.length : Int)) = true := decide_eq_true c14
                            clear c14
                            by_cases c15 : 0 < ((rd_L2 t462 x5_1).length : Int)
                            · rw [if_pos c15] at H
                              have c15b0 : decide (0 < ((rd_L2 t462 x5_1).length : Int)) = true := decide_eq_true c15
                              have c15b1 : decide (0 < (rd_L2 t462 x5_1).length) = true := decide_eq_true (by omega)
                              clear c15
                              replace H := Option.bind_eq_some_iff.mp H
                              obtain ⟨t469, A160, H⟩ := H
                              skip
                              have A16 := Aside0.mk A160
                              clear A160
                              by_cases c17 : 0 ≤ x6_2
                              · rw [if_pos c17] at H
                                have c17b0 : decide (0 ≤ x6_2) = true := decide_eq_true c17
                                clear c17
                                by_cases c18 : x6_2 < (t462.length : Int)
                                · rw [if_pos c18] at H
                                  have c18b0 : decide (x6_2 < (t462.length : Int)) = true := decide_eq_true c18
                                  clear c18
                                  by_cases c19 : 0 < ((rd_L2 t462 x6_2).length : Int)
                                  · rw [if_pos c19] at H
                                    have c19b0 : decide (0 < ((rd_L2 t462 x6_2).length : Int)) = true := decide_eq_true c19
                                    have c19b1 : decide (0 < (rd_L2 t462 x6_2).length) = true := decide_eq_true (by omega)
                                    clear c19
                                    replace H := Option.bind_eq_some_iff.mp H
                                    obtain ⟨t473, A200, H⟩ := H
                                    skip
                                    have A20 := Aside0.mk A200
                                    clear A200
                                    have H' := Aside0.mk H
                                    clear H
                                    have p466 : 0 ≤ (x8_3 : Int) := of_decide_eq_true (by first | (with_reducible assumption) | assumption)
                                    have q466 : x8_3 < (t459.length : Int) := of_decide_eq_true (by first | (with_reducible assumption) | assumption)
                                    obtain ⟨ad466, A466_0, c466_0, e466, hx466_0, hl466_0, hi466_0⟩ := at_L2 (Kd.N_reads' HO_3.out).2.2 x8_3 p466 q466
                                    cases e466
                                    obtain ⟨ce466, hce466, hMe466, hcc466⟩ := Kd.N_get HO_3.out [] x8_3 p466 (by first | exact q466 | exact of_decide_eq_true (by first | (with_reducible assumption) | assumption) | (have e_ := (Kd.N_reads' HO_3.out).1; omega))
                                    obtain ⟨ua466_0, uc466_0, rfl, ul466_0, ge466_0⟩ := Kd.FK_slice_open hMe466
                                    have hv466_0 := hcc466 0 _ rfl
                                    rw [Nat.add_zero, show ((Kd.slice 42 k42)).sz = 1 from rfl, Nat.mul_one] at hv466_0
                                    replace hv466_0 := Option.some.inj (hv466_0.symm.trans hx466_0)
                                    injection hv466_0 with hva_ hvn_ hvc_
                                    rw [hva_] at ge466_0
                                    rw [hvc_] at ul466_0
                                    have HL466_0 := Aside0.mk (show Kd.V k42 42 _ w.heap.size _ _ (rd_L2 t459 x8_3) from Kd.V_mk ul466_0 ge466_0)
                                    clear hva_ hvn_ hvc_ ge466_0 ul466_0
                                    clear hcc466 hce466
                                    have HR466_0 := Aside0.mk hi466_0
                                    have HC466_0 := Aside0.mk hl466_0
                                    clear hi466_0 hl466_0
                                    replace p466 := eq_true p466
                                    replace q466 := eq_true q466
                                    have p467 : 0 ≤ (x5_1 : Int) := of_decide_eq_true (by first | (with_reducible assumption) | assumption)
                                    have q467 : x5_1 < (t462.length : Int) := of_decide_eq_true (by first | (with_reducible assumption) | assumption)
                                    obtain ⟨ad467, A467_0, c467_0, e467, hx467_0, hl467_0, hi467_0⟩ := at_L2 (Kd.N_reads' HO_4.out).2.2 x5_1 p467 q467
                                    cases e467
                                    obtain ⟨ce467, hce467, hMe467, hcc467⟩ := Kd.N_get HO_4.out [] x5_1 p467 (by first | exact q467 | exact of_decide_eq_true (by first | (with_reducible assumption) | assumption) | (have e_ := (Kd.N_reads' HO_4.out).1; omega))
                                    obtain ⟨ua467_0, uc467_0, rfl, ul467_0, ge467_0⟩ := Kd.FK_slice_open hMe467
                                    have hv467_0 := hcc467 0 _ rfl
                                    rw [Nat.add_zero, show ((Kd.slice 42 k42)).sz = 1 from rfl, Nat.mul_one] at hv467_0
                                    replace hv467_0 := Option.some.inj (hv467_0.symm.trans hx467_0)
                                    injection hv467_0 with hva_ hvn_ hvc_
                                    rw [hva_] at ge467_0
                                    rw [hvc_] at ul467_0
                                    have HL467_0 := Aside0.mk (show Kd.V k42 42 _ w.heap.size _ _ (rd_L2 t462 x5_1) from Kd.V_mk ul467_0 ge467_0)
                                    clear hva_ hvn_ hvc_ ge467_0 ul467_0
                                    clear hcc467 hce467
                                    have HR467_0 := Aside0.mk hi467_0
                                    have HC467_0 := Aside0.mk hl467_0
                                    clear hi467_0 hl467_0
                                    replace p467 := eq_true p467
                                    replace q467 := eq_true q467
                                    have p468 : 0 ≤ (0 : Int) := (by omega)
                                    have q468 : 0 < ((rd_L2 t462 x5_1).length : Int) := of_decide_eq_true (by first | (with_reducible assumption) | assumption)
                                    obtain ⟨ad468, e468, hx468_0, hx468_1⟩ := at_T42 (by repeat (first | (with_reducible exact HR467_0.out) | (with_reducible refine Kd.C_alloc ?_ _) | (with_reducible refine Kd.C_drewN ?_ _) | (with_reducible refine Kd.C_drew ?_) | exact HR467_0.out)) 0 p468 q468
                                    cases e468
                                    have qi468 : (0 < (rd_L2 t462 x5_1).length) = True := eq_true (by omega)
                                    (try rw [show ((0 : Int)).toNat = 0 from rfl] at hx468_0)
                                    (try rw [show 0 * 2 = 0 from rfl] at hx468_0)
                                    (try rw [Addr.add_zero'] at hx468_0)
                                    (try rw [show ((0 : Int)).toNat = 0 from rfl] at hx468_1)
                                    (try rw [show 0 * 2 = 0 from rfl] at hx468_1)
                                    (try rw [Addr.add_zero'] at hx468_1)
                                    replace p468 := eq_true p468
                                    replace q468 := eq_true q468
                                    go_wp2_with (first | (go_at_call 25; (with_reducible refine (glyphcutterref01_Has.calls k3 _ _ (rd_L2 t459 x8_3) ((rd_T42 (rd_L2 t462 x5_1) 0).f0) t469 _ ?side1 ?side2 A16.out).mono ?_); (case side1 => repeat (first | exact (by repeat (first | (with_reducible exact HR466_0.out) | (with_reducible refine Kd.C_alloc ?_ _) | (with_reducible refine Kd.C_drewN ?_ _) | (with_reducible refine Kd.C_drew ?_) | exact HR466_0.out)) | (with_reducible refine Kd.C_alloc ?_ _) | (with_reducible refine Kd.C_drewN ?_ _) | (with_reducible refine Kd.C_drew ?_))); (case side2 => exact HC466_0.out); rintro e w' ⟨rfl, ⟨nd, rfl⟩⟩; (try first | exact ⟨rfl, _, World.drewN_drewN _ _ _⟩ | exact ⟨rfl, _, Eq.trans (World.drewN_drewN _ _ _) (congrArg (World.drewN _) (Nat.add_assoc _ _ _))⟩); have p470 : 0 ≤ (x8_3 : Int) := of_decide_eq_true (by first | (with_reducible assumption) | assumption); have q470 : x8_3 < (t459.length : Int) := of_decide_eq_true (by first | (with_reducible assumption) | assumption); obtain ⟨ad470, A470_0, c470_0, e470, hx470_0, hl470_0, hi470_0⟩ := at_L2 (Kd.N_reads' HO_3.out).2.2 x8_3 p470 q470; obtain rfl : ad466 = ad470 := (by injection e470); obtain ⟨ce470, hce470, hMe470, hcc470⟩ := Kd.N_get HO_3.out [] x8_3 p470 (by first | exact q470 | exact of_decide_eq_true (by first | (with_reducible assumption) | assumption) | (have e_ := (Kd.N_reads' HO_3.out).1; omega)); obtain ⟨ua470_0, uc470_0, rfl, ul470_0, ge470_0⟩ := Kd.FK_slice_open hMe470; have hv470_0 := hcc470 0 _ rfl; rw [Nat.add_zero, show ((Kd.slice 42 k42)).sz = 1 from rfl, Nat.mul_one] at hv470_0; replace hv470_0 := Option.some.inj (hv470_0.symm.trans hx470_0); injection hv470_0 with hva_ hvn_ hvc_; rw [hva_] at ge470_0; rw [hvc_] at ul470_0; have HL470_0 := Aside0.mk (show Kd.V k42 42 _ w.heap.size _ _ (rd_L2 t459 x8_3) from Kd.V_mk ul470_0 ge470_0); clear hva_ hvn_ hvc_ ge470_0 ul470_0; clear hcc470 hce470; have HR470_0 := Aside0.mk hi470_0; have HC470_0 := Aside0.mk hl470_0; clear hi470_0 hl470_0; replace p470 := eq_true p470; replace q470 := eq_true q470; have ea_ := Option.some.inj (hx466_0.symm.trans hx470_0); injection ea_ with ea_ en_ ec_; subst ea_; subst ec_; clear en_; have p471 : 0 ≤ (x6_2 : Int) := of_decide_eq_true (by first | (with_reducible assumption) | assumption); have q471 : x6_2 < (t462.length : Int) := of_decide_eq_true (by first | (with_reducible assumption) | assumption); obtain ⟨ad471, A471_0, c471_0, e471, hx471_0, hl471_0, hi471_0⟩ := at_L2 (Kd.N_reads' HO_4.out).2.2 x6_2 p471 q471; obtain rfl : ad467 = ad471 := (by injection e471); obtain ⟨ce471, hce471, hMe471, hcc471⟩ := Kd.N_get HO_4.out [] x6_2 p471 (by first | exact q471 | exact of_decide_eq_true (by first | (with_reducible assumption) | assumption) | (have e_ := (Kd.N_reads' HO_4.out).1; omega)); obtain ⟨ua471_0, uc471_0, rfl, ul471_0, ge471_0⟩ := Kd.FK_slice_open hMe471; have hv471_0 := hcc471 0 _ rfl; rw [Nat.add_zero, show ((Kd.slice 42 k42)).sz = 1 from rfl, Nat.mul_one] at hv471_0; replace hv471_0 := Option.some.inj (hv471_0.symm.trans hx471_0); injection hv471_0 with hva_ hvn_ hvc_; rw [hva_] at ge471_0; rw [hvc_] at ul471_0; have HL471_0 := Aside0.mk (show Kd.V k42 42 _ w.heap.size _ _ (rd_L2 t462 x6_2) from Kd.V_mk ul471_0 ge471_0); clear hva_ hvn_ hvc_ ge471_0 ul471_0; clear hcc471 hce471; have HR471_0 := Aside0.mk hi471_0; have HC471_0 := Aside0.mk hl471_0; clear hi471_0 hl471_0; replace p471 := eq_true p471; replace q471 := eq_true q471; have p472 : 0 ≤ (0 : Int) := (by omega); have q472 : 0 < ((rd_L2 t462 x6_2).length : Int) := of_decide_eq_true (by first | (with_reducible assumption) | assumption); obtain ⟨ad472, e472, hx472_0, hx472_1⟩ := at_T42 (by repeat (first | (with_reducible exact HR471_0.out) | (with_reducible refine Kd.C_alloc ?_ _) | (with_reducible refine Kd.C_drewN ?_ _) | (with_reducible refine Kd.C_drew ?_) | exact HR471_0.out)) 0 p472 q472; cases e472; have qi472 : (0 < (rd_L2 t462 x6_2).length) = True := eq_true (by omega); (try rw [show ((0 : Int)).toNat = 0 from rfl] at hx472_0); (try rw [show 0 * 2 = 0 from rfl] at hx472_0); (try rw [Addr.add_zero'] at hx472_0); (try rw [show ((0 : Int)).toNat = 0 from rfl] at hx472_1); (try rw [show 0 * 2 = 0 from rfl] at hx472_1); (try rw [Addr.add_zero'] at hx472_1); replace p472 := eq_true p472; replace q472 := eq_true q472) | (go_at_call 25; (with_reducible refine (glyphcutterref01_Has.calls k3 _ _ (rd_L2 t459 x8_3) ((rd_T42 (rd_L2 t462 x6_2) 0).f0) t473 _ ?side1 ?side2 A20.out).mono ?_); (case side1 => repeat (first | exact (by repeat (first | (with_reducible exact HR470_0.out) | (with_reducible refine Kd.C_alloc ?_ _) | (with_reducible refine Kd.C_drewN ?_ _) | (with_reducible refine Kd.C_drew ?_) | exact HR470_0.out)) | (with_reducible refine Kd.C_alloc ?_ _) | (with_reducible refine Kd.C_drewN ?_ _) | (with_reducible refine Kd.C_drew ?_))); (case side2 => exact HC470_0.out); rintro e w' ⟨rfl, ⟨nd, rfl⟩⟩; (try first | exact ⟨rfl, _, World.drewN_drewN _ _ _⟩ | exact ⟨rfl, _, Eq.trans (World.drewN_drewN _ _ _) (congrArg (World.drewN _) (Nat.add_assoc _ _ _))⟩)))
                                    repeat (go_quiet (first | (go_at_call 25; (with_reducible refine (glyphcutterref01_Has.calls k3 _ _ (rd_L2 t459 x8_3) ((rd_T42 (rd_L2 t462 x5_1) 0).f0) t469 _ ?side1 ?side2 A16.out).mono ?_); (case side1 => repeat (first | exact (by repeat (first | (with_reducible exact HR466_0.out) | (with_reducible refine Kd.C_alloc ?_ _) | (with_reducible refine Kd.C_drewN ?_ _) | (with_reducible refine Kd.C_drew ?_) | exact HR466_0.out)) | (with_reducible refine Kd.C_alloc ?_ _) | (with_reducible refine Kd.C_drewN ?_ _) | (with_reducible refine Kd.C_drew ?_))); (case side2 => exact HC466_0.out); rintro e w' ⟨rfl, ⟨nd, rfl⟩⟩; (try first | exact ⟨rfl, _, World.drewN_drewN _ _ _⟩ | exact ⟨rfl, _, Eq.trans (World.drewN_drewN _ _ _) (congrArg (World.drewN _) (Nat.add_assoc _ _ _))⟩); have p470 : 0 ≤ (x8_3 : Int) := of_decide_eq_true (by first | (with_reducible assumption) | assumption); have q470 : x8_3 < (t459.length : Int) := of_decide_eq_true (by first | (with_reducible assumption) | assumption); obtain ⟨ad470, A470_0, c470_0, e470, hx470_0, hl470_0, hi470_0⟩ := at_L2 (Kd.N_reads' HO_3.out).2.2 x8_3 p470 q470; obtain rfl : ad466 = ad470 := (by injection e470); obtain ⟨ce470, hce470, hMe470, hcc470⟩ := Kd.N_get HO_3.out [] x8_3 p470 (by first | exact q470 | exact of_decide_eq_true (by first | (with_reducible assumption) | assumption) | (have e_ := (Kd.N_reads' HO_3.out).1; omega)); obtain ⟨ua470_0, uc470_0, rfl, ul470_0, ge470_0⟩ := Kd.FK_slice_open hMe470; have hv470_0 := hcc470 0 _ rfl; rw [Nat.add_zero, show ((Kd.slice 42 k42)).sz = 1 from rfl, Nat.mul_one] at hv470_0; replace hv470_0 := Option.some.inj (hv470_0.symm.trans hx470_0); injection hv470_0 with hva_ hvn_ hvc_; rw [hva_] at ge470_0; rw [hvc_] at ul470_0; have HL470_0 := Aside0.mk (show Kd.V k42 42 _ w.heap.size _ _ (rd_L2 t459 x8_3) from Kd.V_mk ul470_0 ge470_0); clear hva_ hvn_ hvc_ ge470_0 ul470_0; clear hcc470 hce470; have HR470_0 := Aside0.mk hi470_0; have HC470_0 := Aside0.mk hl470_0; clear hi470_0 hl470_0; replace p470 := eq_true p470; replace q470 := eq_true q470; have ea_ := Option.some.inj (hx466_0.symm.trans hx470_0); injection ea_ with ea_ en_ ec_; subst ea_; subst ec_; clear en_; have p471 : 0 ≤ (x6_2 : Int) := of_decide_eq_true (by first | (with_reducible assumption) | assumption); have q471 : x6_2 < (t462.length : Int) := of_decide_eq_true (by first | (with_reducible assumption) | assumption); obtain ⟨ad471, A471_0, c471_0, e471, hx471_0, hl471_0, hi471_0⟩ := at_L2 (Kd.N_reads' HO_4.out).2.2 x6_2 p471 q471; obtain rfl : ad467 = ad471 := (by injection e471); obtain ⟨ce471, hce471, hMe471, hcc471⟩ := Kd.N_get HO_4.out [] x6_2 p471 (by first | exact q471 | exact of_decide_eq_true (by first | (with_reducible assumption) | assumption) | (have e_ := (Kd.N_reads' HO_4.out).1; omega)); obtain ⟨ua471_0, uc471_0, rfl, ul471_0, ge471_0⟩ := Kd.FK_slice_open hMe471; have hv471_0 := hcc471 0 _ rfl; rw [Nat.add_zero, show ((Kd.slice 42 k42)).sz = 1 from rfl, Nat.mul_one] at hv471_0; replace hv471_0 := Option.some.inj (hv471_0.symm.trans hx471_0); injection hv471_0 with hva_ hvn_ hvc_; rw [hva_] at ge471_0; rw [hvc_] at ul471_0; have HL471_0 := Aside0.mk (show Kd.V k42 42 _ w.heap.size _ _ (rd_L2 t462 x6_2) from Kd.V_mk ul471_0 ge471_0); clear hva_ hvn_ hvc_ ge471_0 ul471_0; clear hcc471 hce471; have HR471_0 := Aside0.mk hi471_0; have HC471_0 := Aside0.mk hl471_0; clear hi471_0 hl471_0; replace p471 := eq_true p471; replace q471 := eq_true q471; have p472 : 0 ≤ (0 : Int) := (by omega); have q472 : 0 < ((rd_L2 t462 x6_2).length : Int) := of_decide_eq_true (by first | (with_reducible assumption) | assumption); obtain ⟨ad472, e472, hx472_0, hx472_1⟩ := at_T42 (by repeat (first | (with_reducible exact HR471_0.out) | (with_reducible refine Kd.C_alloc ?_ _) | (with_reducible refine Kd.C_drewN ?_ _) | (with_reducible refine Kd.C_drew ?_) | exact HR471_0.out)) 0 p472 q472; cases e472; have qi472 : (0 < (rd_L2 t462 x6_2).length) = True := eq_true (by omega); (try rw [show ((0 : Int)).toNat = 0 from rfl] at hx472_0); (try rw [show 0 * 2 = 0 from rfl] at hx472_0); (try rw [Addr.add_zero'] at hx472_0); (try rw [show ((0 : Int)).toNat = 0 from rfl] at hx472_1); (try rw [show 0 * 2 = 0 from rfl] at hx472_1); (try rw [Addr.add_zero'] at hx472_1); replace p472 := eq_true p472; replace q472 := eq_true q472) | (go_at_call 25; (with_reducible refine (glyphcutterref01_Has.calls k3 _ _ (rd_L2 t459 x8_3) ((rd_T42 (rd_L2 t462 x6_2) 0).f0) t473 _ ?side1 ?side2 A20.out).mono ?_); (case side1 => repeat (first | exact (by repeat (first | (with_reducible exact HR470_0.out) | (with_reducible refine Kd.C_alloc ?_ _) | (with_reducible refine Kd.C_drewN ?_ _) | (with_reducible refine Kd.C_drew ?_) | exact HR470_0.out)) | (with_reducible refine Kd.C_alloc ?_ _) | (with_reducible refine Kd.C_drewN ?_ _) | (with_reducible refine Kd.C_drew ?_))); (case side2 => exact HC470_0.out); rintro e w' ⟨rfl, ⟨nd, rfl⟩⟩; (try first | exact ⟨rfl, _, World.drewN_drewN _ _ _⟩ | exact ⟨rfl, _, Eq.trans (World.drewN_drewN _ _ _) (congrArg (World.drewN _) (Nat.add_assoc _ _ _))⟩))); try go_wp2_with (first | (go_at_call 25; (with_reducible refine (glyphcutterref01_Has.calls k3 _ _ (rd_L2 t459 x8_3) ((rd_T42 (rd_L2 t462 x5_1) 0).f0) t469 _ ?side1 ?side2 A16.out).mono ?_); (case side1 => repeat (first | exact (by repeat (first | (with_reducible exact HR466_0.out) | (with_reducible refine Kd.C_alloc ?_ _) | (with_reducible refine Kd.C_drewN ?_ _) | (with_reducible refine Kd.C_drew ?_) | exact HR466_0.out)) | (with_reducible refine Kd.C_alloc ?_ _) | (with_reducible refine Kd.C_drewN ?_ _) | (with_reducible refine Kd.C_drew ?_))); (case side2 => exact HC466_0.out); rintro e w' ⟨rfl, ⟨nd, rfl⟩⟩; (try first | exact ⟨rfl, _, World.drewN_drewN _ _ _⟩ | exact ⟨rfl, _, Eq.trans (World.drewN_drewN _ _ _) (congrArg (World.drewN _) (Nat.add_assoc _ _ _))⟩); have p470 : 0 ≤ (x8_3 : Int) := of_decide_eq_true (by first | (with_reducible assumption) | assumption); have q470 : x8_3 < (t459.length : Int) := of_decide_eq_true (by first | (with_reducible assumption) | assumption); obtain ⟨ad470, A470_0, c470_0, e470, hx470_0, hl470_0, hi470_0⟩ := at_L2 (Kd.N_reads' HO_3.out).2.2 x8_3 p470 q470; obtain rfl : ad466 = ad470 := (by injection e470); obtain ⟨ce470, hce470, hMe470, hcc470⟩ := Kd.N_get HO_3.out [] x8_3 p470 (by first | exact q470 | exact of_decide_eq_true (by first | (with_reducible assumption) | assumption) | (have e_ := (Kd.N_reads' HO_3.out).1; omega)); obtain ⟨ua470_0, uc470_0, rfl, ul470_0, ge470_0⟩ := Kd.FK_slice_open hMe470; have hv470_0 := hcc470 0 _ rfl; rw [Nat.add_zero, show ((Kd.slice 42 k42)).sz = 1 from rfl, Nat.mul_one] at hv470_0; replace hv470_0 := Option.some.inj (hv470_0.symm.trans hx470_0); injection hv470_0 with hva_ hvn_ hvc_; rw [hva_] at ge470_0; rw [hvc_] at ul470_0; have HL470_0 := Aside0.mk (show Kd.V k42 42 _ w.heap.size _ _ (rd_L2 t459 x8_3) from Kd.V_mk ul470_0 ge470_0); clear hva_ hvn_ hvc_ ge470_0 ul470_0; clear hcc470 hce470; have HR470_0 := Aside0.mk hi470_0; have HC470_0 := Aside0.mk hl470_0; clear hi470_0 hl470_0; replace p470 := eq_true p470; replace q470 := eq_true q470; have ea_ := Option.some.inj (hx466_0.symm.trans hx470_0); injection ea_ with ea_ en_ ec_; subst ea_; subst ec_; clear en_; have p471 : 0 ≤ (x6_2 : Int) := of_decide_eq_true (by first | (with_reducible assumption) | assumption); have q471 : x6_2 < (t462.length : Int) := of_decide_eq_true (by first | (with_reducible assumption) | assumption); obtain ⟨ad471, A471_0, c471_0, e471, hx471_0, hl471_0, hi471_0⟩ := at_L2 (Kd.N_reads' HO_4.out).2.2 x6_2 p471 q471; obtain rfl : ad467 = ad471 := (by injection e471); obtain ⟨ce471, hce471, hMe471, hcc471⟩ := Kd.N_get HO_4.out [] x6_2 p471 (by first | exact q471 | exact of_decide_eq_true (by first | (with_reducible assumption) | assumption) | (have e_ := (Kd.N_reads' HO_4.out).1; omega)); obtain ⟨ua471_0, uc471_0, rfl, ul471_0, ge471_0⟩ := Kd.FK_slice_open hMe471; have hv471_0 := hcc471 0 _ rfl; rw [Nat.add_zero, show ((Kd.slice 42 k42)).sz = 1 from rfl, Nat.mul_one] at hv471_0; replace hv471_0 := Option.some.inj (hv471_0.symm.trans hx471_0); injection hv471_0 with hva_ hvn_ hvc_; rw [hva_] at ge471_0; rw [hvc_] at ul471_0; have HL471_0 := Aside0.mk (show Kd.V k42 42 _ w.heap.size _ _ (rd_L2 t462 x6_2) from Kd.V_mk ul471_0 ge471_0); clear hva_ hvn_ hvc_ ge471_0 ul471_0; clear hcc471 hce471; have HR471_0 := Aside0.mk hi471_0; have HC471_0 := Aside0.mk hl471_0; clear hi471_0 hl471_0; replace p471 := eq_true p471; replace q471 := eq_true q471; have p472 : 0 ≤ (0 : Int) := (by omega); have q472 : 0 < ((rd_L2 t462 x6_2).length : Int) := of_decide_eq_true (by first | (with_reducible assumption) | assumption); obtain ⟨ad472, e472, hx472_0, hx472_1⟩ := at_T42 (by repeat (first | (with_reducible exact HR471_0.out) | (with_reducible refine Kd.C_alloc ?_ _) | (with_reducible refine Kd.C_drewN ?_ _) | (with_reducible refine Kd.C_drew ?_) | exact HR471_0.out)) 0 p472 q472; cases e472; have qi472 : (0 < (rd_L2 t462 x6_2).length) = True := eq_true (by omega); (try rw [show ((0 : Int)).toNat = 0 from rfl] at hx472_0); (try rw [show 0 * 2 = 0 from rfl] at hx472_0); (try rw [Addr.add_zero'] at hx472_0); (try rw [show ((0 : Int)).toNat = 0 from rfl] at hx472_1); (try rw [show 0 * 2 = 0 from rfl] at hx472_1); (try rw [Addr.add_zero'] at hx472_1); replace p472 := eq_true p472; replace q472 := eq_true q472) | (go_at_call 25; (with_reducible refine (glyphcutterref01_Has.calls k3 _ _ (rd_L2 t459 x8_3) ((rd_T42 (rd_L2 t462 x6_2) 0).f0) t473 _ ?side1 ?side2 A20.out).mono ?_); (case side1 => repeat (first | exact (by repeat (first | (with_reducible exact HR470_0.out) | (with_reducible refine Kd.C_alloc ?_ _) | (with_reducible refine Kd.C_drewN ?_ _) | (with_reducible refine Kd.C_drew ?_) | exact HR470_0.out)) | (with_reducible refine Kd.C_alloc ?_ _) | (with_reducible refine Kd.C_drewN ?_ _) | (with_reducible refine Kd.C_drew ?_))); (case side2 => exact HC470_0.out); rintro e w' ⟨rfl, ⟨nd, rfl⟩⟩; (try first | exact ⟨rfl, _, World.drewN_drewN _ _ _⟩ | exact ⟨rfl, _, Eq.trans (World.drewN_drewN _ _ _) (congrArg (World.drewN _) (Nat.add_assoc _ _ _))⟩))))
                                    go_roundg k3
                                    case measure => have := HK1.out; have := HK2.out; have := HK3.out; omega
                                    case rel => exact ⟨((t469 != t473)), (wrap64 (x8_3 + 1)), (by first | rfl | (simp; done) | (simp [*]; done)), (by first | rfl | (simp; done) | (simp [*]; done)), H', ⟨by have := HK1.out; have := HK2.out; have := HK3.out; omega⟩, ⟨by (with_reducible repeat (first | apply Kd.N_alloc | apply Kd.N_drewN | apply Kd.N_drew)); exact HO_3.out⟩, ⟨by (with_reducible repeat (first | apply Kd.N_alloc | apply Kd.N_drewN | apply Kd.N_drew)); exact HO_4.out⟩, ⟨by repeat (first | (with_reducible first | exact HB.out | apply below_alloc | apply pw_below_drewN | apply below_drew1) | exact HB.out)⟩⟩
                                  · rw [if_neg c19] at H
                                    exact absurd H (by simp)
                                · rw [if_neg c18] at H
                                  exact absurd H (by simp)
                              · rw [if_neg c17] at H
                                exact absurd H (by simp)
                            · rw [if_neg c15] at H
                              exact absurd H (by simp)
                          · rw [if_neg c14] at H
                            exact absurd H (by simp)
                        · rw [if_neg c13] at H
                          exact absurd H (by simp)
                      · rw [if_neg c12] at H
                        exact absurd H (by simp)
                  · rw [if_neg c10] at H
                    have c10b0 : decide (x8_3 < (t459.length : Int)) = false := decide_eq_false c10
                    clear c10
                    by_cases c21 : x7_3 = true
                    · subst c21
                      rw [if_pos rfl] at H
                      have H' := Aside0.mk H
                      clear H
                      go_wp2
                      repeat (go_quiet (fail); try go_wp2)
                      go_roundg k3
                      case measure => have := HK1.out; have := HK2.out; have := HK3.out; omega
                      case rel => exact ⟨(wrap64 (x6_2 + 1)), (by first | rfl | (simp; done) | (simp [*]; done)), H', ⟨by have := HK1.out; have := HK2.out; have := HK3.out; omega⟩, ⟨by (with_reducible repeat (first | apply Kd.N_alloc | apply Kd.N_drewN | apply Kd.N_drew)); exact HO_3.out⟩, ⟨by (with_reducible repeat (first | apply Kd.N_alloc | apply Kd.N_drewN | apply Kd.N_drew)); exact HO_4.out⟩, ⟨by repeat (first | (with_reducible first | exact HB.out | apply below_alloc | apply pw_below_drewN | apply below_drew1) | exact HB.out)⟩⟩
                    · replace c21 := Bool.eq_false_iff.mpr c21
                      subst c21
                      rw [if_neg (show ¬ (false = true) by decide)] at H
                      obtain rfl := Option.some.inj H
                      exact absurd HRT.out (by decide)
            · rw [if_neg c9] at H
              have c9b0 : decide (x6_2 < x5_1) = false := decide_eq_false c9
              clear c9
              have H' := Aside0.mk H
              clear H
              go_wp2
              repeat (go_quiet (fail); try go_wp2)
              go_roundg k2
              case measure => have := HK1.out; have := HK2.out; omega
              case rel => exact ⟨(wrap64 (x5_1 + 1)), (by first | rfl | (simp; done) | (simp [*]; done)), H', ⟨by have := HK1.out; have := HK2.out; omega⟩, ⟨by (with_reducible repeat (first | apply Kd.N_alloc | apply Kd.N_drewN | apply Kd.N_drew)); exact HO_3.out⟩, ⟨by (with_reducible repeat (first | apply Kd.N_alloc | apply Kd.N_drewN | apply Kd.N_drew)); exact HO_4.out⟩, ⟨by repeat (first | (with_reducible first | exact HB.out | apply below_alloc | apply pw_below_drewN | apply below_drew1) | exact HB.out)⟩⟩
      · rw [if_neg c7] at H
        have c7b0 : decide (x5_1 < (t462.length : Int)) = false := decide_eq_false c7
        clear c7
        replace H := Option.bind_eq_some_iff.mp H
        obtain ⟨t465, A220, H⟩ := H
        skip
        have A22 := Aside0.mk A220
        clear A220
        obtain rfl := Option.some.inj H
        obtain ⟨Ao23, co23, eo23⟩ := Kd.N_slice HO_4.out
        subst eo23
        go_wp2_with (first | (go_at_call 9; (with_reducible refine (glyphcutterlaw10_known.calls k1  t465 _ A22.out).mono ?_); rintro e w24 ⟨rfl, hb⟩; have n0_ := Aside0.mk (Kd.N_below (by (with_reducible repeat (first | apply Kd.N_alloc | apply Kd.N_drewN | apply Kd.N_drew)); exact HO_3.out) hb); have n1_ := Aside0.mk (Kd.N_below (by (with_reducible repeat (first | apply Kd.N_alloc | apply Kd.N_drewN | apply Kd.N_drew)); exact HO_4.out) hb); have n2_ := Aside0.mk (below_step (by repeat (first | (with_reducible first | exact HB.out | apply below_alloc | apply pw_below_drewN | apply below_drew1) | exact HB.out)) hb); clear HO_3; clear HO_4; clear HB; have HO_3 := n0_; have HO_4 := n1_; have HB := n2_; clear n0_ n1_ n2_; (try clear hb); (try clear hb2); (try clear hk); (try clear hi)))
        repeat (go_quiet (first | (go_at_call 9; (with_reducible refine (glyphcutterlaw10_known.calls k1  t465 _ A22.out).mono ?_); rintro e w24 ⟨rfl, hb⟩; have n0_ := Aside0.mk (Kd.N_below (by (with_reducible repeat (first | apply Kd.N_alloc | apply Kd.N_drewN | apply Kd.N_drew)); exact HO_3.out) hb); have n1_ := Aside0.mk (Kd.N_below (by (with_reducible repeat (first | apply Kd.N_alloc | apply Kd.N_drewN | apply Kd.N_drew)); exact HO_4.out) hb); have n2_ := Aside0.mk (below_step (by repeat (first | (with_reducible first | exact HB.out | apply below_alloc | apply pw_below_drewN | apply below_drew1) | exact HB.out)) hb); clear HO_3; clear HO_4; clear HB; have HO_3 := n0_; have HO_4 := n1_; have HB := n2_; clear n0_ n1_ n2_; (try clear hb); (try clear hb2); (try clear hk); (try clear hi))); try go_wp2_with (first | (go_at_call 9; (with_reducible refine (glyphcutterlaw10_known.calls k1  t465 _ A22.out).mono ?_); rintro e w24 ⟨rfl, hb⟩; have n0_ := Aside0.mk (Kd.N_below (by (with_reducible repeat (first | apply Kd.N_alloc | apply Kd.N_drewN | apply Kd.N_drew)); exact HO_3.out) hb); have n1_ := Aside0.mk (Kd.N_below (by (with_reducible repeat (first | apply Kd.N_alloc | apply Kd.N_drewN | apply Kd.N_drew)); exact HO_4.out) hb); have n2_ := Aside0.mk (below_step (by repeat (first | (with_reducible first | exact HB.out | apply below_alloc | apply pw_below_drewN | apply below_drew1) | exact HB.out)) hb); clear HO_3; clear HO_4; clear HB; have HO_3 := n0_; have HO_4 := n1_; have HB := n2_; clear n0_ n1_ n2_; (try clear hb); (try clear hb2); (try clear hk); (try clear hi))))
        go_ret
        exact ⟨by first | rfl | (simp [errW_none, errW_some] <;> rfl) | (simp [*, errW_none, errW_some] <;> rfl), by repeat (first | (with_reducible first | exact HB.out | apply below_alloc | apply pw_below_drewN | apply below_drew1) | exact HB.out)⟩

end Go.Proofs.Ytgpkhnkppkepnaa.P
