-- WRITTEN BY A PROGRAM (hybrid.py over the kit's print.py): Lean checks it.
import Derived.Test.YtmbhpkpoppdilaaPx0
import Derived.Test.YtmbhpkpoppdilaaPx2
import Derived.Test.YtmbhpkpoppdilaaPx5
import Derived.Test.YtmbhpkpoppdilaaPx6
import Derived.Test.YtmbhpkpoppdilaaPx7
import Derived.Test.YtmbhpkpoppdilaaGFold
namespace Go.Proofs.Ytmbhpkpoppdilaa.P
open Go.RowKit Go.Proofs.YtmbhpkpoppdilaaW.PrintWords Go.Proofs.YtmbhpkpoppdilaaW.PrintLast Go.Proofs.YtmbhpkpoppdilaaW.PrintMore
attribute [local go_sem] max2_int min2_int max_two min_two max_three min_three max_four min_four   -- for this text's walks alone
set_option linter.unusedVariables false
set_option linter.unusedSimpArgs false

/-! ### glyphcutterlaw04_FoldFolds: function 5 -/
def glyphcutterlaw04_FoldFolds.f (k : Nat) (a0 : Int) (a1 : Int) : Option (Bool) := (glyphcutterlaw04_known.f).bind fun t258 => (if t258 = true then ((fold_Fold.f a0).bind fun t259 => ((glyphcutterref04_Fold.f k a0).bind fun t260 => (if t259 = t260 then ((glyphcutterlaw04_near.f a1).bind fun t261 => ((fold_Fold.f t261).bind fun t262 => ((glyphcutterlaw04_near.f a1).bind fun t263 => ((glyphcutterref04_Fold.f k t263).bind fun t264 => (if t262 = t264 then ((fold_Orbit.f a0).bind fun t265 => ((glyphcutterref04_Orbit.f k a0).bind fun t268 => ((glyphcutterlaw04_same.f k t265 t268).bind fun t271 => (if t271 = true then ((glyphcutterlaw04_near.f a1).bind fun t272 => ((fold_Orbit.f t272).bind fun t273 => ((glyphcutterlaw04_near.f a1).bind fun t276 => ((glyphcutterref04_Orbit.f k t276).bind fun t277 => ((glyphcutterlaw04_same.f k t273 t277).bind fun t280 => (some t280)))))) else (some false))))) else (some false)))))) else (some false)))) else (some false))
theorem glyphcutterlaw04_FoldFolds.mono : ∀ a0 a1 k, LeO (glyphcutterlaw04_FoldFolds.f k a0 a1) (glyphcutterlaw04_FoldFolds.f (k + 1) a0 a1) := by
  intro a0 a1 k
  unfold glyphcutterlaw04_FoldFolds.f
  repeat' first
      | (with_reducible exact glyphcutterlaw04_same.mono _ _ _)
      | (with_reducible exact glyphcutterref04_Fold.mono _ _)
      | (with_reducible exact glyphcutterref04_Orbit.mono _ _)
      | (with_reducible exact LeO.refl _)
      | (with_reducible exact LeO.none _)
      | (with_reducible refine LeO.ite ?_ ?_)
      | (with_reducible refine LeO.bind ?_ (fun _ => ?_))
      | exact glyphcutterlaw04_same.mono _ _ _
      | exact glyphcutterref04_Fold.mono _ _
      | exact glyphcutterref04_Orbit.mono _ _
      | exact LeO.none _
      | refine LeO.ite ?_ ?_
      | refine LeO.bind ?_ (fun _ => ?_)
set_option maxHeartbeats 8000000 in
set_option maxRecDepth 100000 in
theorem glyphcutterlaw04_FoldFolds.calls (k : Nat) (a0 : Int) (a1 : Int) (r : Bool) (w : World) (h : glyphcutterlaw04_FoldFolds.f k a0 a1 = some r) :
    Calls Try.prog 5 #[.int .i64 a0, .int .u16 a1] w fun e w' => e = .returned (.bool r) ∧ Below w.heap.size w w' := by
  have HB := Aside0.mk (Below.refl w.heap.size w)
  have H : ((glyphcutterlaw04_known.f).bind fun t258 => (if t258 = true then ((fold_Fold.f a0).bind fun t259 => ((glyphcutterref04_Fold.f k a0).bind fun t260 => (if t259 = t260 then ((glyphcutterlaw04_near.f a1).bind fun t261 => ((fold_Fold.f t261).bind fun t262 => ((glyphcutterlaw04_near.f a1).bind fun t263 => ((glyphcutterref04_Fold.f k t263).bind fun t264 => (if t262 = t264 then ((fold_Orbit.f a0).bind fun t265 => ((glyphcutterref04_Orbit.f k a0).bind fun t268 => ((glyphcutterlaw04_same.f k t265 t268).bind fun t271 => (if t271 = true then ((glyphcutterlaw04_near.f a1).bind fun t272 => ((fold_Orbit.f t272).bind fun t273 => ((glyphcutterlaw04_near.f a1).bind fun t276 => ((glyphcutterref04_Orbit.f k t276).bind fun t277 => ((glyphcutterlaw04_same.f k t273 t277).bind fun t280 => (some t280)))))) else (some false))))) else (some false)))))) else (some false)))) else (some false))) = some r := h
  clear h
  replace H := Option.bind_eq_some_iff.mp H
  obtain ⟨t258, A30, H⟩ := H
  replace H : (if t258 = true then ((fold_Fold.f a0).bind fun t259 => ((glyphcutterref04_Fold.f k a0).bind fun t260 => (if t259 = t260 then ((glyphcutterlaw04_near.f a1).bind fun t261 => ((fold_Fold.f t261).bind fun t262 => ((glyphcutterlaw04_near.f a1).bind fun t263 => ((glyphcutterref04_Fold.f k t263).bind fun t264 => (if t262 = t264 then ((fold_Orbit.f a0).bind fun t265 => ((glyphcutterref04_Orbit.f k a0).bind fun t268 => ((glyphcutterlaw04_same.f k t265 t268).bind fun t271 => (if t271 = true then ((glyphcutterlaw04_near.f a1).bind fun t272 => ((fold_Orbit.f t272).bind fun t273 => ((glyphcutterlaw04_near.f a1).bind fun t276 => ((glyphcutterref04_Orbit.f k t276).bind fun t277 => ((glyphcutterlaw04_same.f k t273 t277).bind fun t280 => (some t280)))))) else (some false))))) else (some false)))))) else (some false)))) else (some false)) = some r := H
  have A3 := Aside0.mk A30
  clear A30
  by_cases c4 : t258 = true
  · subst c4
    have H1 : ((fold_Fold.f a0).bind fun t259 => ((glyphcutterref04_Fold.f k a0).bind fun t260 => (if t259 = t260 then ((glyphcutterlaw04_near.f a1).bind fun t261 => ((fold_Fold.f t261).bind fun t262 => ((glyphcutterlaw04_near.f a1).bind fun t263 => ((glyphcutterref04_Fold.f k t263).bind fun t264 => (if t262 = t264 then ((fold_Orbit.f a0).bind fun t265 => ((glyphcutterref04_Orbit.f k a0).bind fun t268 => ((glyphcutterlaw04_same.f k t265 t268).bind fun t271 => (if t271 = true then ((glyphcutterlaw04_near.f a1).bind fun t272 => ((fold_Orbit.f t272).bind fun t273 => ((glyphcutterlaw04_near.f a1).bind fun t276 => ((glyphcutterref04_Orbit.f k t276).bind fun t277 => ((glyphcutterlaw04_same.f k t273 t277).bind fun t280 => (some t280)))))) else (some false))))) else (some false)))))) else (some false)))) = some r := by rw [if_pos rfl] at H; exact H
    clear H
    have H := H1
    clear H1
    replace H := Option.bind_eq_some_iff.mp H
    obtain ⟨t259, A50, H⟩ := H
    replace H : ((glyphcutterref04_Fold.f k a0).bind fun t260 => (if t259 = t260 then ((glyphcutterlaw04_near.f a1).bind fun t261 => ((fold_Fold.f t261).bind fun t262 => ((glyphcutterlaw04_near.f a1).bind fun t263 => ((glyphcutterref04_Fold.f k t263).bind fun t264 => (if t262 = t264 then ((fold_Orbit.f a0).bind fun t265 => ((glyphcutterref04_Orbit.f k a0).bind fun t268 => ((glyphcutterlaw04_same.f k t265 t268).bind fun t271 => (if t271 = true then ((glyphcutterlaw04_near.f a1).bind fun t272 => ((fold_Orbit.f t272).bind fun t273 => ((glyphcutterlaw04_near.f a1).bind fun t276 => ((glyphcutterref04_Orbit.f k t276).bind fun t277 => ((glyphcutterlaw04_same.f k t273 t277).bind fun t280 => (some t280)))))) else (some false))))) else (some false)))))) else (some false))) = some r := H
    have A5 := Aside0.mk A50
    clear A50
    replace H := Option.bind_eq_some_iff.mp H
    obtain ⟨t260, A60, H⟩ := H
    replace H : (if t259 = t260 then ((glyphcutterlaw04_near.f a1).bind fun t261 => ((fold_Fold.f t261).bind fun t262 => ((glyphcutterlaw04_near.f a1).bind fun t263 => ((glyphcutterref04_Fold.f k t263).bind fun t264 => (if t262 = t264 then ((fold_Orbit.f a0).bind fun t265 => ((glyphcutterref04_Orbit.f k a0).bind fun t268 => ((glyphcutterlaw04_same.f k t265 t268).bind fun t271 => (if t271 = true then ((glyphcutterlaw04_near.f a1).bind fun t272 => ((fold_Orbit.f t272).bind fun t273 => ((glyphcutterlaw04_near.f a1).bind fun t276 => ((glyphcutterref04_Orbit.f k t276).bind fun t277 => ((glyphcutterlaw04_same.f k t273 t277).bind fun t280 => (some t280)))))) else (some false))))) else (some false)))))) else (some false)) = some r := H
    have A6 := Aside0.mk A60
    clear A60
    by_cases c7 : t259 = t260
    · rw [if_pos c7] at H
      have c7b0 : (t259 == t260) = true := beq_iff_eq.mpr c7
      have c7b1 : (t259 != t260) = false := bne_eq_false_iff_eq.mpr c7
      clear c7
      replace H := Option.bind_eq_some_iff.mp H
      obtain ⟨t261, A80, H⟩ := H
      replace H : ((fold_Fold.f t261).bind fun t262 => ((glyphcutterlaw04_near.f a1).bind fun t263 => ((glyphcutterref04_Fold.f k t263).bind fun t264 => (if t262 = t264 then ((fold_Orbit.f a0).bind fun t265 => ((glyphcutterref04_Orbit.f k a0).bind fun t268 => ((glyphcutterlaw04_same.f k t265 t268).bind fun t271 => (if t271 = true then ((glyphcutterlaw04_near.f a1).bind fun t272 => ((fold_Orbit.f t272).bind fun t273 => ((glyphcutterlaw04_near.f a1).bind fun t276 => ((glyphcutterref04_Orbit.f k t276).bind fun t277 => ((glyphcutterlaw04_same.f k t273 t277).bind fun t280 => (some t280)))))) else (some false))))) else (some false))))) = some r := H
      have A8 := Aside0.mk A80
      clear A80
      replace H := Option.bind_eq_some_iff.mp H
      obtain ⟨t262, A90, H⟩ := H
      replace H : ((glyphcutterlaw04_near.f a1).bind fun t263 => ((glyphcutterref04_Fold.f k t263).bind fun t264 => (if t262 = t264 then ((fold_Orbit.f a0).bind fun t265 => ((glyphcutterref04_Orbit.f k a0).bind fun t268 => ((glyphcutterlaw04_same.f k t265 t268).bind fun t271 => (if t271 = true then ((glyphcutterlaw04_near.f a1).bind fun t272 => ((fold_Orbit.f t272).bind fun t273 => ((glyphcutterlaw04_near.f a1).bind fun t276 => ((glyphcutterref04_Orbit.f k t276).bind fun t277 => ((glyphcutterlaw04_same.f k t273 t277).bind fun t280 => (some t280)))))) else (some false))))) else (some false)))) = some r := H
      have A9 := Aside0.mk A90
      clear A90
      replace H := Option.bind_eq_some_iff.mp H
      obtain ⟨t263, A100, H⟩ := H
      replace H : ((glyphcutterref04_Fold.f k t263).bind fun t264 => (if t262 = t264 then ((fold_Orbit.f a0).bind fun t265 => ((glyphcutterref04_Orbit.f k a0).bind fun t268 => ((glyphcutterlaw04_same.f k t265 t268).bind fun t271 => (if t271 = true then ((glyphcutterlaw04_near.f a1).bind fun t272 => ((fold_Orbit.f t272).bind fun t273 => ((glyphcutterlaw04_near.f a1).bind fun t276 => ((glyphcutterref04_Orbit.f k t276).bind fun t277 => ((glyphcutterlaw04_same.f k t273 t277).bind fun t280 => (some t280)))))) else (some false))))) else (some false))) = some r := H
      have A10 := Aside0.mk A100
      clear A100
      obtain rfl : t261 = t263 := Option.some.inj (A8.out.symm.trans A10.out)
      replace H := Option.bind_eq_some_iff.mp H
      obtain ⟨t264, A110, H⟩ := H
      replace H : (if t262 = t264 then ((fold_Orbit.f a0).bind fun t265 => ((glyphcutterref04_Orbit.f k a0).bind fun t268 => ((glyphcutterlaw04_same.f k t265 t268).bind fun t271 => (if t271 = true then ((glyphcutterlaw04_near.f a1).bind fun t272 => ((fold_Orbit.f t272).bind fun t273 => ((glyphcutterlaw04_near.f a1).bind fun t276 => ((glyphcutterref04_Orbit.f k t276).bind fun t277 => ((glyphcutterlaw04_same.f k t273 t277).bind fun t280 => (some t280)))))) else (some false))))) else (some false)) = some r := H
      have A11 := Aside0.mk A110
      clear A110
      by_cases c12 : t262 = t264
      · rw [if_pos c12] at H
        have c12b0 : (t262 == t264) = true := beq_iff_eq.mpr c12
        have c12b1 : (t262 != t264) = false := bne_eq_false_iff_eq.mpr c12
        clear c12
        replace H := Option.bind_eq_some_iff.mp H
        obtain ⟨t265, A130, H⟩ := H
        replace H : ((glyphcutterref04_Orbit.f k a0).bind fun t268 => ((glyphcutterlaw04_same.f k t265 t268).bind fun t271 => (if t271 = true then ((glyphcutterlaw04_near.f a1).bind fun t272 => ((fold_Orbit.f t272).bind fun t273 => ((glyphcutterlaw04_near.f a1).bind fun t276 => ((glyphcutterref04_Orbit.f k t276).bind fun t277 => ((glyphcutterlaw04_same.f k t273 t277).bind fun t280 => (some t280)))))) else (some false)))) = some r := H
        have A13 := Aside0.mk A130
        clear A130
        replace H := Option.bind_eq_some_iff.mp H
        obtain ⟨t268, A140, H⟩ := H
        replace H : ((glyphcutterlaw04_same.f k t265 t268).bind fun t271 => (if t271 = true then ((glyphcutterlaw04_near.f a1).bind fun t272 => ((fold_Orbit.f t272).bind fun t273 => ((glyphcutterlaw04_near.f a1).bind fun t276 => ((glyphcutterref04_Orbit.f k t276).bind fun t277 => ((glyphcutterlaw04_same.f k t273 t277).bind fun t280 => (some t280)))))) else (some false))) = some r := H
        have A14 := Aside0.mk A140
        clear A140
        replace H := Option.bind_eq_some_iff.mp H
        obtain ⟨t271, A150, H⟩ := H
        replace H : (if t271 = true then ((glyphcutterlaw04_near.f a1).bind fun t272 => ((fold_Orbit.f t272).bind fun t273 => ((glyphcutterlaw04_near.f a1).bind fun t276 => ((glyphcutterref04_Orbit.f k t276).bind fun t277 => ((glyphcutterlaw04_same.f k t273 t277).bind fun t280 => (some t280)))))) else (some false)) = some r := H
        have A15 := Aside0.mk A150
        clear A150
        by_cases c16 : t271 = true
        · subst c16
          have H1 : ((glyphcutterlaw04_near.f a1).bind fun t272 => ((fold_Orbit.f t272).bind fun t273 => ((glyphcutterlaw04_near.f a1).bind fun t276 => ((glyphcutterref04_Orbit.f k t276).bind fun t277 => ((glyphcutterlaw04_same.f k t273 t277).bind fun t280 => (some t280)))))) = some r := by rw [if_pos rfl] at H; exact H
          clear H
          have H := H1
          clear H1
          replace H := Option.bind_eq_some_iff.mp H
          obtain ⟨t272, A170, H⟩ := H
          replace H : ((fold_Orbit.f t272).bind fun t273 => ((glyphcutterlaw04_near.f a1).bind fun t276 => ((glyphcutterref04_Orbit.f k t276).bind fun t277 => ((glyphcutterlaw04_same.f k t273 t277).bind fun t280 => (some t280))))) = some r := H
          have A17 := Aside0.mk A170
          clear A170
          obtain rfl : t261 = t272 := Option.some.inj (A8.out.symm.trans A17.out)
          replace H := Option.bind_eq_some_iff.mp H
          obtain ⟨t273, A180, H⟩ := H
          replace H : ((glyphcutterlaw04_near.f a1).bind fun t276 => ((glyphcutterref04_Orbit.f k t276).bind fun t277 => ((glyphcutterlaw04_same.f k t273 t277).bind fun t280 => (some t280)))) = some r := H
          have A18 := Aside0.mk A180
          clear A180
          replace H := Option.bind_eq_some_iff.mp H
          obtain ⟨t276, A190, H⟩ := H
          replace H : ((glyphcutterref04_Orbit.f k t276).bind fun t277 => ((glyphcutterlaw04_same.f k t273 t277).bind fun t280 => (some t280))) = some r := H
          have A19 := Aside0.mk A190
          clear A190
          obtain rfl : t261 = t276 := Option.some.inj (A8.out.symm.trans A19.out)
          replace H := Option.bind_eq_some_iff.mp H
          obtain ⟨t277, A200, H⟩ := H
          replace H : ((glyphcutterlaw04_same.f k t273 t277).bind fun t280 => (some t280)) = some r := H
          have A20 := Aside0.mk A200
          clear A200
          replace H := Option.bind_eq_some_iff.mp H
          obtain ⟨t280, A210, H⟩ := H
          replace H : (some t280) = some r := H
          have A21 := Aside0.mk A210
          clear A210
          obtain rfl := Option.some.inj H
          go_enter Try.func5, Try.ntmps5
          go_wp2_with (first | ((with_reducible refine gate_callee (f := 10) rfl ?_); refine goesL_ (some 5) rfl rfl Try.func10 (by kernel_rfl) rfl #[] rfl (by (try simp only [List.map_toArray, List.map_cons, List.map_nil]); first | done | rfl | (simp only [List.length_drop, List.length_take]; rfl)) ?_; (with_reducible refine (glyphcutterlaw04_known.calls  true _ A3.out).mono ?_); rintro e w22 ⟨rfl, hb⟩; refine ⟨_, rfl, ?_⟩; have n0_ := Aside0.mk (below_step (by repeat (first | (with_reducible first | exact HB.out | apply below_alloc | apply pw_below_drewN | apply below_drew1) | exact HB.out)) hb); clear HB; have HB := n0_; clear n0_; (try clear hb); (try clear hb2); (try clear hk); (try clear hi)) | (go_at_call 9; (with_reducible refine (fold_Fold.calls a0 t259 _ A5.out).mono ?_); rintro e w23 ⟨rfl, hb⟩; have n0_ := Aside0.mk (below_step (by repeat (first | (with_reducible first | exact HB.out | apply below_alloc | apply pw_below_drewN | apply below_drew1) | exact HB.out)) hb); clear HB; have HB := n0_; clear n0_; (try clear hb); (try clear hb2); (try clear hk); (try clear hi)) | (go_at_call 15; (with_reducible refine (glyphcutterref04_Fold.calls k a0 t260 _ A6.out).mono ?_); rintro e w' ⟨rfl, ⟨nd, rfl⟩⟩) | (go_at_call 11; (with_reducible refine (glyphcutterlaw04_near.calls a1 t261 _ A8.out).mono ?_); rintro e w' ⟨rfl, ⟨nd, rfl⟩⟩) | (go_at_call 9; (with_reducible refine (fold_Fold.calls t261 t262 _ A9.out).mono ?_); rintro e w24 ⟨rfl, hb⟩; have n0_ := Aside0.mk (below_step (by repeat (first | (with_reducible first | exact HB.out | apply below_alloc | apply pw_below_drewN | apply below_drew1) | exact HB.out)) hb); clear HB; have HB := n0_; clear n0_; (try clear hb); (try clear hb2); (try clear hk); (try clear hi)) | (go_at_call 11; (with_reducible refine (glyphcutterlaw04_near.calls a1 t261 _ A10.out).mono ?_); rintro e w' ⟨rfl, ⟨nd, rfl⟩⟩) | (go_at_call 15; (with_reducible refine (glyphcutterref04_Fold.calls k t261 t264 _ A11.out).mono ?_); rintro e w' ⟨rfl, ⟨nd, rfl⟩⟩) | (go_at_call 17; (with_reducible refine (fold_Orbit.calls a0 t265 _ A13.out).mono ?_); rintro e w25 ⟨v266, rfl, ho0, hb⟩; have n0_ := Aside0.mk (Kd.R_lower ho0 (below_size (by repeat (first | (with_reducible first | exact HB.out | apply below_alloc | apply pw_below_drewN | apply below_drew1) | exact HB.out)))); have n1_ := Aside0.mk (below_step (by repeat (first | (with_reducible first | exact HB.out | apply below_alloc | apply pw_below_drewN | apply below_drew1) | exact HB.out)) hb); clear HB; have HO267 := n0_; have HB := n1_; clear n0_ n1_; (try clear hb); (try clear hb2); (try clear hk); (try clear hi); (try clear ho0)) | (go_at_call 18; (with_reducible refine (glyphcutterref04_Orbit.calls k a0 t268 _ A14.out).mono ?_); rintro e w26 ⟨v269, rfl, ho0, hb⟩; have n0_ := Aside0.mk (Kd.R_elder' (by (with_reducible repeat (first | apply Kd.R_alloc | apply Kd.R_drewN | apply Kd.R_drew)); exact HO267.out) (Kd.R_base ho0) hb); have n1_ := Aside0.mk (Kd.R_lower (Kd.R_new' ho0 (Kd.R_lt (by (with_reducible repeat (first | apply Kd.R_alloc | apply Kd.R_drewN | apply Kd.R_drew)); exact HO267.out))) (below_size (by repeat (first | (with_reducible first | exact HB.out | apply below_alloc | apply pw_below_drewN | apply below_drew1) | exact HB.out)))); have n2_ := Aside0.mk (below_step (by repeat (first | (with_reducible first | exact HB.out | apply below_alloc | apply pw_below_drewN | apply below_drew1) | exact HB.out)) hb); clear HO267; clear HB; have HO267 := n0_; have HO270 := n1_; have HB := n2_; clear n0_ n1_ n2_; (try clear hb); (try clear hb2); (try clear hk); (try clear hi); (try clear ho0); obtain ⟨Ao27, co27, eo27⟩ := Kd.R_slice HO267.out; subst eo27; obtain ⟨Ao28, co28, eo28⟩ := Kd.R_slice HO270.out; subst eo28) | (go_at_call 16; (with_reducible refine (glyphcutterlaw04_same.calls k _ _ t265 _ _ t268 true _ ?side1 ?side2 ?side3 ?side4 A15.out).mono ?_); (case side1 => repeat (first | exact (Kd.R_reads' HO267.out).2.2 | (with_reducible refine Kd.C_alloc ?_ _) | (with_reducible refine Kd.C_drewN ?_ _) | (with_reducible refine Kd.C_drew ?_))); (case side2 => exact (Kd.R_reads' HO267.out).2.1); (case side3 => repeat (first | exact (Kd.R_reads' HO270.out).2.2 | (with_reducible refine Kd.C_alloc ?_ _) | (with_reducible refine Kd.C_drewN ?_ _) | (with_reducible refine Kd.C_drew ?_))); (case side4 => exact (Kd.R_reads' HO270.out).2.1); rintro e w' ⟨rfl, ⟨nd, rfl⟩⟩) | (go_at_call 11; (with_reducible refine (glyphcutterlaw04_near.calls a1 t261 _ A17.out).mono ?_); rintro e w' ⟨rfl, ⟨nd, rfl⟩⟩) | (go_at_call 17; (with_reducible refine (fold_Orbit.calls t261 t273 _ A18.out).mono ?_); rintro e w29 ⟨v274, rfl, ho0, hb⟩; have n0_ := Aside0.mk (Kd.R_elder' (by (with_reducible repeat (first | apply Kd.R_alloc | apply Kd.R_drewN | apply Kd.R_drew)); exact HO267.out) (Kd.R_base ho0) hb); have n1_ := Aside0.mk (Kd.R_elder' (by (with_reducible repeat (first | apply Kd.R_alloc | apply Kd.R_drewN | apply Kd.R_drew)); exact HO270.out) (Kd.R_base ho0) hb); have n2_ := Aside0.mk (Kd.R_lower (Kd.R_new' (Kd.R_new' ho0 (Kd.R_lt (by (with_reducible repeat (first | apply Kd.R_alloc | apply Kd.R_drewN | apply Kd.R_drew)); exact HO267.out))) (Kd.R_lt (by (with_reducible repeat (first | apply Kd.R_alloc | apply Kd.R_drewN | apply Kd.R_drew)); exact HO270.out))) (below_size (by repeat (first | (with_reducible first | exact HB.out | apply below_alloc | apply pw_below_drewN | apply below_drew1) | exact HB.out)))); have n3_ := Aside0.mk (below_step (by repeat (first | (with_reducible first | exact HB.out | apply below_alloc | apply pw_below_drewN | apply below_drew1) | exact HB.out)) hb); clear HO267; clear HO270; clear HB; have HO267 := n0_; have HO270 := n1_; have HO275 := n2_; have HB := n3_; clear n0_ n1_ n2_ n3_; (try clear hb); (try clear hb2); (try clear hk); (try clear hi); (try clear ho0)) | (go_at_call 11; (with_reducible refine (glyphcutterlaw04_near.calls a1 t261 _ A19.out).mono ?_); rintro e w' ⟨rfl, ⟨nd, rfl⟩⟩) | (go_at_call 18; (with_reducible refine (glyphcutterref04_Orbit.calls k t261 t277 _ A20.out).mono ?_); rintro e w30 ⟨v278, rfl, ho0, hb⟩; have n0_ := Aside0.mk (Kd.R_elder' (by (with_reducible repeat (first | apply Kd.R_alloc | apply Kd.R_drewN | apply Kd.R_drew)); exact HO267.out) (Kd.R_base ho0) hb); have n1_ := Aside0.mk (Kd.R_elder' (by (with_reducible repeat (first | apply Kd.R_alloc | apply Kd.R_drewN | apply Kd.R_drew)); exact HO270.out) (Kd.R_base ho0) hb); have n2_ := Aside0.mk (Kd.R_elder' (by (with_reducible repeat (first | apply Kd.R_alloc | apply Kd.R_drewN | apply Kd.R_drew)); exact HO275.out) (Kd.R_base ho0) hb); have n3_ := Aside0.mk (Kd.R_lower (Kd.R_new' (Kd.R_new' (Kd.R_new' ho0 (Kd.R_lt (by (with_reducible repeat (first | apply Kd.R_alloc | apply Kd.R_drewN | apply Kd.R_drew)); exact HO267.out))) (Kd.R_lt (by (with_reducible repeat (first | apply Kd.R_alloc | apply Kd.R_drewN | apply Kd.R_drew)); exact HO270.out))) (Kd.R_lt (by (with_reducible repeat (first | apply Kd.R_alloc | apply Kd.R_drewN | apply Kd.R_drew)); exact HO275.out))) (below_size (by repeat (first | (with_reducible first | exact HB.out | apply below_alloc | apply pw_below_drewN | apply below_drew1) | exact HB.out)))); have n4_ := Aside0.mk (below_step (by repeat (first | (with_reducible first | exact HB.out | apply below_alloc | apply pw_below_drewN | apply below_drew1) | exact HB.out)) hb); clear HO267; clear HO270; clear HO275; clear HB; have HO267 := n0_; have HO270 := n1_; have HO275 := n2_; have HO279 := n3_; have HB := n4_; clear n0_ n1_ n2_ n3_ n4_; (try clear hb); (try clear hb2); (try clear hk); (try clear hi); (try clear ho0); obtain ⟨Ao31, co31, eo31⟩ := Kd.R_slice HO275.out; subst eo31; obtain ⟨Ao32, co32, eo32⟩ := Kd.R_slice HO279.out; subst eo32) | (go_at_call 16; (with_reducible refine (glyphcutterlaw04_same.calls k _ _ t273 _ _ t277 t280 _ ?side1 ?side2 ?side3 ?side4 A21.out).mono ?_); (case side1 => repeat (first | exact (Kd.R_reads' HO275.out).2.2 | (with_reducible refine Kd.C_alloc ?_ _) | (with_reducible refine Kd.C_drewN ?_ _) | (with_reducible refine Kd.C_drew ?_))); (case side2 => exact (Kd.R_reads' HO275.out).2.1); (case side3 => repeat (first | exact (Kd.R_reads' HO279.out).2.2 | (with_reducible refine Kd.C_alloc ?_ _) | (with_reducible refine Kd.C_drewN ?_ _) | (with_reducible refine Kd.C_drew ?_))); (case side4 => exact (Kd.R_reads' HO279.out).2.1); rintro e w' ⟨rfl, ⟨nd, rfl⟩⟩))
          go_ret
          exact ⟨by first | rfl | (simp [errW_none, errW_some] <;> rfl) | (simp [*, errW_none, errW_some] <;> rfl), by repeat (first | (with_reducible first | exact HB.out | apply below_alloc | apply pw_below_drewN | apply below_drew1) | exact HB.out)⟩
        · replace c16 := Bool.eq_false_iff.mpr c16
          subst c16
          have H1 : (some false) = some r := by rw [if_neg (show ¬ (false = true) by decide)] at H; exact H
          clear H
          have H := H1
          clear H1
          obtain rfl := Option.some.inj H
          go_enter Try.func5, Try.ntmps5
          go_wp2_with (first | ((with_reducible refine gate_callee (f := 10) rfl ?_); refine goesL_ (some 5) rfl rfl Try.func10 (by kernel_rfl) rfl #[] rfl (by (try simp only [List.map_toArray, List.map_cons, List.map_nil]); first | done | rfl | (simp only [List.length_drop, List.length_take]; rfl)) ?_; (with_reducible refine (glyphcutterlaw04_known.calls  true _ A3.out).mono ?_); rintro e w33 ⟨rfl, hb⟩; refine ⟨_, rfl, ?_⟩; have n0_ := Aside0.mk (below_step (by repeat (first | (with_reducible first | exact HB.out | apply below_alloc | apply pw_below_drewN | apply below_drew1) | exact HB.out)) hb); clear HB; have HB := n0_; clear n0_; (try clear hb); (try clear hb2); (try clear hk); (try clear hi)) | (go_at_call 9; (with_reducible refine (fold_Fold.calls a0 t259 _ A5.out).mono ?_); rintro e w34 ⟨rfl, hb⟩; have n0_ := Aside0.mk (below_step (by repeat (first | (with_reducible first | exact HB.out | apply below_alloc | apply pw_below_drewN | apply below_drew1) | exact HB.out)) hb); clear HB; have HB := n0_; clear n0_; (try clear hb); (try clear hb2); (try clear hk); (try clear hi)) | (go_at_call 15; (with_reducible refine (glyphcutterref04_Fold.calls k a0 t260 _ A6.out).mono ?_); rintro e w' ⟨rfl, ⟨nd, rfl⟩⟩) | (go_at_call 11; (with_reducible refine (glyphcutterlaw04_near.calls a1 t261 _ A8.out).mono ?_); rintro e w' ⟨rfl, ⟨nd, rfl⟩⟩) | (go_at_call 9; (with_reducible refine (fold_Fold.calls t261 t262 _ A9.out).mono ?_); rintro e w35 ⟨rfl, hb⟩; have n0_ := Aside0.mk (below_step (by repeat (first | (with_reducible first | exact HB.out | apply below_alloc | apply pw_below_drewN | apply below_drew1) | exact HB.out)) hb); clear HB; have HB := n0_; clear n0_; (try clear hb); (try clear hb2); (try clear hk); (try clear hi)) | (go_at_call 11; (with_reducible refine (glyphcutterlaw04_near.calls a1 t261 _ A10.out).mono ?_); rintro e w' ⟨rfl, ⟨nd, rfl⟩⟩) | (go_at_call 15; (with_reducible refine (glyphcutterref04_Fold.calls k t261 t264 _ A11.out).mono ?_); rintro e w' ⟨rfl, ⟨nd, rfl⟩⟩) | (go_at_call 17; (with_reducible refine (fold_Orbit.calls a0 t265 _ A13.out).mono ?_); rintro e w36 ⟨v266, rfl, ho0, hb⟩; have n0_ := Aside0.mk (Kd.R_lower ho0 (below_size (by repeat (first | (with_reducible first | exact HB.out | apply below_alloc | apply pw_below_drewN | apply below_drew1) | exact HB.out)))); have n1_ := Aside0.mk (below_step (by repeat (first | (with_reducible first | exact HB.out | apply below_alloc | apply pw_below_drewN | apply below_drew1) | exact HB.out)) hb); clear HB; have HO267 := n0_; have HB := n1_; clear n0_ n1_; (try clear hb); (try clear hb2); (try clear hk); (try clear hi); (try clear ho0)) | (go_at_call 18; (with_reducible refine (glyphcutterref04_Orbit.calls k a0 t268 _ A14.out).mono ?_); rintro e w37 ⟨v269, rfl, ho0, hb⟩; have n0_ := Aside0.mk (Kd.R_elder' (by (with_reducible repeat (first | apply Kd.R_alloc | apply Kd.R_drewN | apply Kd.R_drew)); exact HO267.out) (Kd.R_base ho0) hb); have n1_ := Aside0.mk (Kd.R_lower (Kd.R_new' ho0 (Kd.R_lt (by (with_reducible repeat (first | apply Kd.R_alloc | apply Kd.R_drewN | apply Kd.R_drew)); exact HO267.out))) (below_size (by repeat (first | (with_reducible first | exact HB.out | apply below_alloc | apply pw_below_drewN | apply below_drew1) | exact HB.out)))); have n2_ := Aside0.mk (below_step (by repeat (first | (with_reducible first | exact HB.out | apply below_alloc | apply pw_below_drewN | apply below_drew1) | exact HB.out)) hb); clear HO267; clear HB; have HO267 := n0_; have HO270 := n1_; have HB := n2_; clear n0_ n1_ n2_; (try clear hb); (try clear hb2); (try clear hk); (try clear hi); (try clear ho0); obtain ⟨Ao38, co38, eo38⟩ := Kd.R_slice HO267.out; subst eo38; obtain ⟨Ao39, co39, eo39⟩ := Kd.R_slice HO270.out; subst eo39) | (go_at_call 16; (with_reducible refine (glyphcutterlaw04_same.calls k _ _ t265 _ _ t268 false _ ?side1 ?side2 ?side3 ?side4 A15.out).mono ?_); (case side1 => repeat (first | exact (Kd.R_reads' HO267.out).2.2 | (with_reducible refine Kd.C_alloc ?_ _) | (with_reducible refine Kd.C_drewN ?_ _) | (with_reducible refine Kd.C_drew ?_))); (case side2 => exact (Kd.R_reads' HO267.out).2.1); (case side3 => repeat (first | exact (Kd.R_reads' HO270.out).2.2 | (with_reducible refine Kd.C_alloc ?_ _) | (with_reducible refine Kd.C_drewN ?_ _) | (with_reducible refine Kd.C_drew ?_))); (case side4 => exact (Kd.R_reads' HO270.out).2.1); rintro e w' ⟨rfl, ⟨nd, rfl⟩⟩))
          go_ret
          exact ⟨by first | rfl | (simp [errW_none, errW_some] <;> rfl) | (simp [*, errW_none, errW_some] <;> rfl), by repeat (first | (with_reducible first | exact HB.out | apply below_alloc | apply pw_below_drewN | apply below_drew1) | exact HB.out)⟩
      · rw [if_neg c12] at H
        have c12b0 : (t262 == t264) = false := beq_eq_false_iff_ne.mpr c12
        have c12b1 : (t262 != t264) = true := bne_iff_ne.mpr c12
        obtain rfl := Option.some.inj H
        go_enter Try.func5, Try.ntmps5
        go_wp2_with (first | ((with_reducible refine gate_callee (f := 10) rfl ?_); refine goesL_ (some 5) rfl rfl Try.func10 (by kernel_rfl) rfl #[] rfl (by (try simp only [List.map_toArray, List.map_cons, List.map_nil]); first | done | rfl | (simp only [List.length_drop, List.length_take]; rfl)) ?_; (with_reducible refine (glyphcutterlaw04_known.calls  true _ A3.out).mono ?_); rintro e w40 ⟨rfl, hb⟩; refine ⟨_, rfl, ?_⟩; have n0_ := Aside0.mk (below_step (by repeat (first | (with_reducible first | exact HB.out | apply below_alloc | apply pw_below_drewN | apply below_drew1) | exact HB.out)) hb); clear HB; have HB := n0_; clear n0_; (try clear hb); (try clear hb2); (try clear hk); (try clear hi)) | (go_at_call 9; (with_reducible refine (fold_Fold.calls a0 t259 _ A5.out).mono ?_); rintro e w41 ⟨rfl, hb⟩; have n0_ := Aside0.mk (below_step (by repeat (first | (with_reducible first | exact HB.out | apply below_alloc | apply pw_below_drewN | apply below_drew1) | exact HB.out)) hb); clear HB; have HB := n0_; clear n0_; (try clear hb); (try clear hb2); (try clear hk); (try clear hi)) | (go_at_call 15; (with_reducible refine (glyphcutterref04_Fold.calls k a0 t260 _ A6.out).mono ?_); rintro e w' ⟨rfl, ⟨nd, rfl⟩⟩) | (go_at_call 11; (with_reducible refine (glyphcutterlaw04_near.calls a1 t261 _ A8.out).mono ?_); rintro e w' ⟨rfl, ⟨nd, rfl⟩⟩) | (go_at_call 9; (with_reducible refine (fold_Fold.calls t261 t262 _ A9.out).mono ?_); rintro e w42 ⟨rfl, hb⟩; have n0_ := Aside0.mk (below_step (by repeat (first | (with_reducible first | exact HB.out | apply below_alloc | apply pw_below_drewN | apply below_drew1) | exact HB.out)) hb); clear HB; have HB := n0_; clear n0_; (try clear hb); (try clear hb2); (try clear hk); (try clear hi)) | (go_at_call 11; (with_reducible refine (glyphcutterlaw04_near.calls a1 t261 _ A10.out).mono ?_); rintro e w' ⟨rfl, ⟨nd, rfl⟩⟩) | (go_at_call 15; (with_reducible refine (glyphcutterref04_Fold.calls k t261 t264 _ A11.out).mono ?_); rintro e w' ⟨rfl, ⟨nd, rfl⟩⟩))
        go_ret
        exact ⟨by first | rfl | (simp [errW_none, errW_some] <;> rfl) | (simp [*, errW_none, errW_some] <;> rfl), by repeat (first | (with_reducible first | exact HB.out | apply below_alloc | apply pw_below_drewN | apply below_drew1) | exact HB.out)⟩
    · rw [if_neg c7] at H
      have c7b0 : (t259 == t260) = false := beq_eq_false_iff_ne.mpr c7
      have c7b1 : (t259 != t260) = true := bne_iff_ne.mpr c7
      obtain rfl := Option.some.inj H
      go_enter Try.func5, Try.ntmps5
      go_wp2_with (first | ((with_reducible refine gate_callee (f := 10) rfl ?_); refine goesL_ (some 5) rfl rfl Try.func10 (by kernel_rfl) rfl #[] rfl (by (try simp only [List.map_toArray, List.map_cons, List.map_nil]); first | done | rfl | (simp only [List.length_drop, List.length_take]; rfl)) ?_; (with_reducible refine (glyphcutterlaw04_known.calls  true _ A3.out).mono ?_); rintro e w43 ⟨rfl, hb⟩; refine ⟨_, rfl, ?_⟩; have n0_ := Aside0.mk (below_step (by repeat (first | (with_reducible first | exact HB.out | apply below_alloc | apply pw_below_drewN | apply below_drew1) | exact HB.out)) hb); clear HB; have HB := n0_; clear n0_; (try clear hb); (try clear hb2); (try clear hk); (try clear hi)) | (go_at_call 9; (with_reducible refine (fold_Fold.calls a0 t259 _ A5.out).mono ?_); rintro e w44 ⟨rfl, hb⟩; have n0_ := Aside0.mk (below_step (by repeat (first | (with_reducible first | exact HB.out | apply below_alloc | apply pw_below_drewN | apply below_drew1) | exact HB.out)) hb); clear HB; have HB := n0_; clear n0_; (try clear hb); (try clear hb2); (try clear hk); (try clear hi)) | (go_at_call 15; (with_reducible refine (glyphcutterref04_Fold.calls k a0 t260 _ A6.out).mono ?_); rintro e w' ⟨rfl, ⟨nd, rfl⟩⟩))
      go_ret
      exact ⟨by first | rfl | (simp [errW_none, errW_some] <;> rfl) | (simp [*, errW_none, errW_some] <;> rfl), by repeat (first | (with_reducible first | exact HB.out | apply below_alloc | apply pw_below_drewN | apply below_drew1) | exact HB.out)⟩
  · replace c4 := Bool.eq_false_iff.mpr c4
    subst c4
    have H1 : (some false) = some r := by rw [if_neg (show ¬ (false = true) by decide)] at H; exact H
    clear H
    have H := H1
    clear H1
    obtain rfl := Option.some.inj H
    go_enter Try.func5, Try.ntmps5
    go_wp2_with (first | ((with_reducible refine gate_callee (f := 10) rfl ?_); refine goesL_ (some 5) rfl rfl Try.func10 (by kernel_rfl) rfl #[] rfl (by (try simp only [List.map_toArray, List.map_cons, List.map_nil]); first | done | rfl | (simp only [List.length_drop, List.length_take]; rfl)) ?_; (with_reducible refine (glyphcutterlaw04_known.calls  false _ A3.out).mono ?_); rintro e w45 ⟨rfl, hb⟩; refine ⟨_, rfl, ?_⟩; have n0_ := Aside0.mk (below_step (by repeat (first | (with_reducible first | exact HB.out | apply below_alloc | apply pw_below_drewN | apply below_drew1) | exact HB.out)) hb); clear HB; have HB := n0_; clear n0_; (try clear hb); (try clear hb2); (try clear hk); (try clear hi)))
    go_ret
    exact ⟨by first | rfl | (simp [errW_none, errW_some] <;> rfl) | (simp [*, errW_none, errW_some] <;> rfl), by repeat (first | (with_reducible first | exact HB.out | apply below_alloc | apply pw_below_drewN | apply below_drew1) | exact HB.out)⟩

end Go.Proofs.Ytmbhpkpoppdilaa.P
