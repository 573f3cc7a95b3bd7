/- The law SetOne: the walk. -/
import Derived.Test.YtjnkllbecldfeaaWAll
namespace Go.Proofs.Ytjnkllbecldfeaa.P
set_option linter.unusedVariables false
set_option linter.unusedSimpArgs false
open Go.RowKit Go.Proofs.YtjnkllbecldfeaaW.PrintWords Go.Proofs.YtjnkllbecldfeaaW.PrintLast Go.Proofs.YtjnkllbecldfeaaW.PrintMore

theorem len1 (x : S27) : ((([x] : List S27).length : Nat) : Int) = 1 := rfl
theorem len00 : ((([] : List S27).length : Nat) : Int) = 0 := rfl
attribute [local go_sem] len1 len00
def oneL (x : Int) : List S27 := [⟨x, x⟩]
theorem oneL_len (x : Int) : (((oneL x).length : Nat) : Int) = 1 := rfl
theorem ld_one {w : World} {A : Option Addr} {x : Int} (h : Kd.C k27 w A (oneL x).length (oneL x)) : ∃ ad : Addr, A = some ad ∧ w.cell? ad = some (.int .i64 x) ∧ w.cell? ⟨ad.block, ad.off + 1, none⟩ = some (.int .i64 x) := C_head h
attribute [local go_sem] oneL_len
theorem one_nf {x : Int} (h : Scal x) : Nf [⟨x, x⟩] := ⟨fun s hs => by simp at hs; subst hs; unfold Scal at h; unfold Ok; simp only; omega, by simp⟩
theorem one_norm {x : Int} (h : Scal x) : normP [⟨x, x⟩] = [⟨x, x⟩] := normP_of_nf (one_nf h)
theorem one_none {x : Int} (h : ¬ Scal x) : normP [⟨x, x⟩] = [] := Nf.ext (normP_nf _) Nf.nil fun r => by
  rw [normP_mem, mem_one]
  exact ⟨fun ⟨h1, h2, h3⟩ => absurd (show Scal x by rw [show x = r by simp only at h2 h3; omega]; exact h1) h, fun h => absurd h (mem_nil r)⟩
theorem one_size {x : Int} (h : Scal x) : ∃ k, set_Size.f k [⟨x, x⟩] = some 1 := by
  have h1 := set_size [⟨x, x⟩] (by simp)
  rw [one_norm h] at h1
  have e : sizeW [⟨x, x⟩] 0 = 1 := by
    show wrap64 (0 + wrap64 (wrap64 (x - x) + 1)) = 1
    rw [show x - x = 0 by omega, wrap_in (i := 0) (by decide) (by decide), wrap_in (i := 0 + 1) (by decide) (by decide), wrap_in (by decide) (by decide)]
    rfl
  rw [e] at h1
  exact h1.rounds
theorem one_has {x : Int} (h : Scal x) : set_Has.f [⟨x, x⟩] x = some true := by
  unfold set_Has.f
  congr 1
  rw [hasP_iff, mem_one]
  exact ⟨h, by simp⟩
theorem one_has1 {x : Int} (h : Scal x) : set_Has.f [⟨x, x⟩] (wrap64 (x + 1)) = some false := by
  rw [wrap_in (by unfold Scal at h; omega) (by unfold Scal at h; omega)]
  unfold set_Has.f
  congr 1
  rw [← Bool.not_eq_true, hasP_iff, mem_one]
  simp only
  omega
theorem one_not {x : Int} (h : ¬ Scal x) : set_Has.f [⟨x, x⟩] x = some false := by
  unfold set_Has.f
  congr 1
  rw [← Bool.not_eq_true, hasP_iff]
  exact fun hh => h hh.1
set_option maxRecDepth 100000 in
set_option maxHeartbeats 4000000 in
theorem SetOne.calls (w : World) (r : Int) (v_r : (Lit.int .i64 r).wf = true) (c : Int) (v_c : (Lit.int .u16 c).wf = true) (far : Int) (v_far : (Lit.int .u8 far).wf = true) :
    Calls Try.prog 3 #[.int .i64 r, .int .u16 c, .int .u8 far] w fun e w' => e = .returned (.bool true) ∧ Below w.heap.size w w' := by
  have hc16 := u16_of (l := [c]) (by simpa using v_c) c (by simp)
  obtain ⟨v, hv, v0, v1⟩ := law_place c hc16.1 hc16.2
  replace hv := Aside0.mk hv
  clear hc16 v_r v_c v_far v0 v1
  by_cases hc : Int.tmod far 5 = 0
  · have g0 : (Int.tmod far 5 == 0) = true := beq_iff_eq.2 hc
    clear hc
    by_cases h0 : 0 ≤ r
    · have d0 : decide (0 ≤ r) = true := decide_eq_true h0
      by_cases h1 : r ≤ 1114111
      · have d1 : decide (r ≤ 1114111) = true := decide_eq_true h1
        by_cases h2 : r < 55296
        · have d2 : decide (r < 55296) = true := decide_eq_true h2
          have hs : Scal r := ⟨h0, h1, .inl h2⟩
          obtain ⟨kS, hS⟩ := one_size hs
          replace hS : Aside0 (set_Size.f kS (oneL r) = some 1) := ⟨hS⟩
          have hN : Aside0 (set_Norm.f [⟨r, r⟩] = some (oneL r)) := ⟨(set_norm _ (by simp)).trans (congrArg some (one_norm hs))⟩
          have hH0 : Aside0 (set_Has.f (oneL r) r = some true) := ⟨one_has hs⟩
          have hH1 : Aside0 (set_Has.f (oneL r) (wrap64 (r + 1)) = some false) := ⟨one_has1 hs⟩
          have e0 : (r == r) = true := beq_self_eq_true r
          clear h0 h1 h2 hs
          have HB := Aside0.mk (Below.refl w.heap.size w)
          have hu := Try.underlying27
          go_enter Try.func3, Try.ntmps3
          go_wp2_with (first
              | (go_at_call 12; (with_reducible refine (glyphcutterlaw01_place.calls c v _  hv.out).mono ?_); rintro e w_ ⟨rfl, hd⟩; (first | (have hb := Drawn0.below hd) | (have hb := hd)); clear hd; (try (have z_ := C_l; clear z_; replace C_l := Aside0.mk (Kd.C_below C_l.out (below_step (by repeat (first | (with_reducible first | exact Below.refl _ _ | apply below_alloc | apply pw_below_drewN | apply below_drew1) | exact Below.refl _ _)) hb)))); replace HB := Aside0.mk (below_step (by repeat (first | (with_reducible first | exact HB.out | apply below_alloc | apply pw_below_drewN | apply below_drew1) | exact HB.out)) hb); clear hb)
              | (go_at_call 13; (refine (set_Norm.calls _ _ [⟨r, r⟩] (oneL r) _ ?s0 ?t0 hN.out).mono ?_); (case s0 => exact C_span1 _ ⟨r, r⟩); (case t0 => exact (Nat.le_refl _)); rintro e w_ ⟨v_, rfl, ho, hb⟩; (try (have z_ := C_l; clear z_; replace C_l := Aside0.mk (Kd.C_below C_l.out (below_step (by repeat (first | (with_reducible first | exact Below.refl _ _ | apply below_alloc | apply pw_below_drewN | apply below_drew1) | exact Below.refl _ _)) hb)))); obtain ⟨A_l, c_l, rfl⟩ := Kd.R_slice ho; have C_l := Aside0.mk (Kd.R_reads' ho).2.2; have L_l := Aside0.mk (Kd.R_reads' ho).2.1; replace HB := Aside0.mk (below_step (by repeat (first | (with_reducible first | exact HB.out | apply below_alloc | apply pw_below_drewN | apply below_drew1) | exact HB.out)) hb); clear hb ho)
              | (go_at_call 14; (with_reducible refine (known.calls _).mono ?_); rintro e w_ ⟨rfl, hb⟩; (try (have z_ := C_l; clear z_; replace C_l := Aside0.mk (Kd.C_below C_l.out (below_step (by repeat (first | (with_reducible first | exact Below.refl _ _ | apply below_alloc | apply pw_below_drewN | apply below_drew1) | exact Below.refl _ _)) hb)))); replace HB := Aside0.mk (below_step (by repeat (first | (with_reducible first | exact HB.out | apply below_alloc | apply pw_below_drewN | apply below_drew1) | exact HB.out)) hb); clear hb; obtain ⟨ad, e1, x0, x1⟩ := ld_one C_l.out; cases e1)
              | (go_at_call 16; (with_reducible refine (set_Size.calls kS _ _ (oneL r) 1 _ ?s0 ?t0 hS.out).mono ?_); (case s0 => exact (by repeat (first | exact C_l.out | (with_reducible refine Kd.C_alloc ?_ _) | (with_reducible refine Kd.C_drewN ?_ _) | (with_reducible refine Kd.C_drew ?_)))); (case t0 => exact L_l.out); rintro e w_ ⟨rfl, hd⟩; (first | (have hb := Drawn0.below hd) | (have hb := hd)); clear hd; (try (have z_ := C_l; clear z_; replace C_l := Aside0.mk (Kd.C_below C_l.out (below_step (by repeat (first | (with_reducible first | exact Below.refl _ _ | apply below_alloc | apply pw_below_drewN | apply below_drew1) | exact Below.refl _ _)) hb)))); replace HB := Aside0.mk (below_step (by repeat (first | (with_reducible first | exact HB.out | apply below_alloc | apply pw_below_drewN | apply below_drew1) | exact HB.out)) hb); clear hb)
              | (go_at_call 15; (with_reducible refine (set_Has.calls _ _ (oneL r) (wrap64 (r + 1)) false _ ?s0 ?t0 hH1.out).mono ?_); (case s0 => exact (by repeat (first | exact C_l.out | (with_reducible refine Kd.C_alloc ?_ _) | (with_reducible refine Kd.C_drewN ?_ _) | (with_reducible refine Kd.C_drew ?_)))); (case t0 => exact L_l.out); rintro e w_ ⟨rfl, hd⟩; (first | (have hb := Drawn0.below hd) | (have hb := hd)); clear hd; (try (have z_ := C_l; clear z_; replace C_l := Aside0.mk (Kd.C_below C_l.out (below_step (by repeat (first | (with_reducible first | exact Below.refl _ _ | apply below_alloc | apply pw_below_drewN | apply below_drew1) | exact Below.refl _ _)) hb)))); replace HB := Aside0.mk (below_step (by repeat (first | (with_reducible first | exact HB.out | apply below_alloc | apply pw_below_drewN | apply below_drew1) | exact HB.out)) hb); clear hb)
              | (go_at_call 15; (with_reducible refine (set_Has.calls _ _ (oneL r) r true _ ?s0 ?t0 hH0.out).mono ?_); (case s0 => exact (by repeat (first | exact C_l.out | (with_reducible refine Kd.C_alloc ?_ _) | (with_reducible refine Kd.C_drewN ?_ _) | (with_reducible refine Kd.C_drew ?_)))); (case t0 => exact L_l.out); rintro e w_ ⟨rfl, hd⟩; (first | (have hb := Drawn0.below hd) | (have hb := hd)); clear hd; (try (have z_ := C_l; clear z_; replace C_l := Aside0.mk (Kd.C_below C_l.out (below_step (by repeat (first | (with_reducible first | exact Below.refl _ _ | apply below_alloc | apply pw_below_drewN | apply below_drew1) | exact Below.refl _ _)) hb)))); replace HB := Aside0.mk (below_step (by repeat (first | (with_reducible first | exact HB.out | apply below_alloc | apply pw_below_drewN | apply below_drew1) | exact HB.out)) hb); clear hb))
          go_ret
          exact ⟨by first | rfl | (simp; done) | (simp [*]; done), HB.out⟩
        · have d2 : decide (r < 55296) = false := decide_eq_false h2
          by_cases h3 : 57343 < r
          · have d3 : decide (57343 < r) = true := decide_eq_true h3
            have hs : Scal r := ⟨h0, h1, .inr h3⟩
            obtain ⟨kS, hS⟩ := one_size hs
            replace hS : Aside0 (set_Size.f kS (oneL r) = some 1) := ⟨hS⟩
            have hN : Aside0 (set_Norm.f [⟨r, r⟩] = some (oneL r)) := ⟨(set_norm _ (by simp)).trans (congrArg some (one_norm hs))⟩
            have hH0 : Aside0 (set_Has.f (oneL r) r = some true) := ⟨one_has hs⟩
            have hH1 : Aside0 (set_Has.f (oneL r) (wrap64 (r + 1)) = some false) := ⟨one_has1 hs⟩
            have e0 : (r == r) = true := beq_self_eq_true r
            clear h0 h1 h2 h3 hs
            have HB := Aside0.mk (Below.refl w.heap.size w)
            have hu := Try.underlying27
            go_enter Try.func3, Try.ntmps3
            go_wp2_with (first
                | (go_at_call 12; (with_reducible refine (glyphcutterlaw01_place.calls c v _  hv.out).mono ?_); rintro e w_ ⟨rfl, hd⟩; (first | (have hb := Drawn0.below hd) | (have hb := hd)); clear hd; (try (have z_ := C_l; clear z_; replace C_l := Aside0.mk (Kd.C_below C_l.out (below_step (by repeat (first | (with_reducible first | exact Below.refl _ _ | apply below_alloc | apply pw_below_drewN | apply below_drew1) | exact Below.refl _ _)) hb)))); replace HB := Aside0.mk (below_step (by repeat (first | (with_reducible first | exact HB.out | apply below_alloc | apply pw_below_drewN | apply below_drew1) | exact HB.out)) hb); clear hb)
                | (go_at_call 13; (refine (set_Norm.calls _ _ [⟨r, r⟩] (oneL r) _ ?s0 ?t0 hN.out).mono ?_); (case s0 => exact C_span1 _ ⟨r, r⟩); (case t0 => exact (Nat.le_refl _)); rintro e w_ ⟨v_, rfl, ho, hb⟩; (try (have z_ := C_l; clear z_; replace C_l := Aside0.mk (Kd.C_below C_l.out (below_step (by repeat (first | (with_reducible first | exact Below.refl _ _ | apply below_alloc | apply pw_below_drewN | apply below_drew1) | exact Below.refl _ _)) hb)))); obtain ⟨A_l, c_l, rfl⟩ := Kd.R_slice ho; have C_l := Aside0.mk (Kd.R_reads' ho).2.2; have L_l := Aside0.mk (Kd.R_reads' ho).2.1; replace HB := Aside0.mk (below_step (by repeat (first | (with_reducible first | exact HB.out | apply below_alloc | apply pw_below_drewN | apply below_drew1) | exact HB.out)) hb); clear hb ho)
                | (go_at_call 14; (with_reducible refine (known.calls _).mono ?_); rintro e w_ ⟨rfl, hb⟩; (try (have z_ := C_l; clear z_; replace C_l := Aside0.mk (Kd.C_below C_l.out (below_step (by repeat (first | (with_reducible first | exact Below.refl _ _ | apply below_alloc | apply pw_below_drewN | apply below_drew1) | exact Below.refl _ _)) hb)))); replace HB := Aside0.mk (below_step (by repeat (first | (with_reducible first | exact HB.out | apply below_alloc | apply pw_below_drewN | apply below_drew1) | exact HB.out)) hb); clear hb; obtain ⟨ad, e1, x0, x1⟩ := ld_one C_l.out; cases e1)
                | (go_at_call 16; (with_reducible refine (set_Size.calls kS _ _ (oneL r) 1 _ ?s0 ?t0 hS.out).mono ?_); (case s0 => exact (by repeat (first | exact C_l.out | (with_reducible refine Kd.C_alloc ?_ _) | (with_reducible refine Kd.C_drewN ?_ _) | (with_reducible refine Kd.C_drew ?_)))); (case t0 => exact L_l.out); rintro e w_ ⟨rfl, hd⟩; (first | (have hb := Drawn0.below hd) | (have hb := hd)); clear hd; (try (have z_ := C_l; clear z_; replace C_l := Aside0.mk (Kd.C_below C_l.out (below_step (by repeat (first | (with_reducible first | exact Below.refl _ _ | apply below_alloc | apply pw_below_drewN | apply below_drew1) | exact Below.refl _ _)) hb)))); replace HB := Aside0.mk (below_step (by repeat (first | (with_reducible first | exact HB.out | apply below_alloc | apply pw_below_drewN | apply below_drew1) | exact HB.out)) hb); clear hb)
                | (go_at_call 15; (with_reducible refine (set_Has.calls _ _ (oneL r) (wrap64 (r + 1)) false _ ?s0 ?t0 hH1.out).mono ?_); (case s0 => exact (by repeat (first | exact C_l.out | (with_reducible refine Kd.C_alloc ?_ _) | (with_reducible refine Kd.C_drewN ?_ _) | (with_reducible refine Kd.C_drew ?_)))); (case t0 => exact L_l.out); rintro e w_ ⟨rfl, hd⟩; (first | (have hb := Drawn0.below hd) | (have hb := hd)); clear hd; (try (have z_ := C_l; clear z_; replace C_l := Aside0.mk (Kd.C_below C_l.out (below_step (by repeat (first | (with_reducible first | exact Below.refl _ _ | apply below_alloc | apply pw_below_drewN | apply below_drew1) | exact Below.refl _ _)) hb)))); replace HB := Aside0.mk (below_step (by repeat (first | (with_reducible first | exact HB.out | apply below_alloc | apply pw_below_drewN | apply below_drew1) | exact HB.out)) hb); clear hb)
                | (go_at_call 15; (with_reducible refine (set_Has.calls _ _ (oneL r) r true _ ?s0 ?t0 hH0.out).mono ?_); (case s0 => exact (by repeat (first | exact C_l.out | (with_reducible refine Kd.C_alloc ?_ _) | (with_reducible refine Kd.C_drewN ?_ _) | (with_reducible refine Kd.C_drew ?_)))); (case t0 => exact L_l.out); rintro e w_ ⟨rfl, hd⟩; (first | (have hb := Drawn0.below hd) | (have hb := hd)); clear hd; (try (have z_ := C_l; clear z_; replace C_l := Aside0.mk (Kd.C_below C_l.out (below_step (by repeat (first | (with_reducible first | exact Below.refl _ _ | apply below_alloc | apply pw_below_drewN | apply below_drew1) | exact Below.refl _ _)) hb)))); replace HB := Aside0.mk (below_step (by repeat (first | (with_reducible first | exact HB.out | apply below_alloc | apply pw_below_drewN | apply below_drew1) | exact HB.out)) hb); clear hb))
            go_ret
            exact ⟨by first | rfl | (simp; done) | (simp [*]; done), HB.out⟩
          · have d3 : decide (57343 < r) = false := decide_eq_false h3
            have hs : ¬ Scal r := fun h => by unfold Scal at h; omega
            have hN : Aside0 (set_Norm.f [⟨r, r⟩] = some []) := ⟨(set_norm _ (by simp)).trans (congrArg some (one_none hs))⟩
            have hH0 := Aside0.mk (one_not hs)
            clear h0 h1 h2 h3 hs
            have HB := Aside0.mk (Below.refl w.heap.size w)
            have hu := Try.underlying27
            go_enter Try.func3, Try.ntmps3
            go_wp2_with (first
                | (go_at_call 12; (with_reducible refine (glyphcutterlaw01_place.calls c v _  hv.out).mono ?_); rintro e w_ ⟨rfl, hd⟩; (first | (have hb := Drawn0.below hd) | (have hb := hd)); clear hd; (try (have z_ := C_l; clear z_; replace C_l := Aside0.mk (Kd.C_below C_l.out (below_step (by repeat (first | (with_reducible first | exact Below.refl _ _ | apply below_alloc | apply pw_below_drewN | apply below_drew1) | exact Below.refl _ _)) hb)))); replace HB := Aside0.mk (below_step (by repeat (first | (with_reducible first | exact HB.out | apply below_alloc | apply pw_below_drewN | apply below_drew1) | exact HB.out)) hb); clear hb)
                | (go_at_call 13; (refine (set_Norm.calls _ _ [⟨r, r⟩] [] _ ?s0 ?t0 hN.out).mono ?_); (case s0 => exact C_span1 _ ⟨r, r⟩); (case t0 => exact (Nat.le_refl _)); rintro e w_ ⟨v_, rfl, ho, hb⟩; (try (have z_ := C_l; clear z_; replace C_l := Aside0.mk (Kd.C_below C_l.out (below_step (by repeat (first | (with_reducible first | exact Below.refl _ _ | apply below_alloc | apply pw_below_drewN | apply below_drew1) | exact Below.refl _ _)) hb)))); obtain ⟨A_l, c_l, rfl⟩ := Kd.R_slice ho; have C_l := Aside0.mk (Kd.R_reads' ho).2.2; have L_l := Aside0.mk (Kd.R_reads' ho).2.1; replace HB := Aside0.mk (below_step (by repeat (first | (with_reducible first | exact HB.out | apply below_alloc | apply pw_below_drewN | apply below_drew1) | exact HB.out)) hb); clear hb ho)
                | (go_at_call 14; (with_reducible refine (known.calls _).mono ?_); rintro e w_ ⟨rfl, hb⟩; (try (have z_ := C_l; clear z_; replace C_l := Aside0.mk (Kd.C_below C_l.out (below_step (by repeat (first | (with_reducible first | exact Below.refl _ _ | apply below_alloc | apply pw_below_drewN | apply below_drew1) | exact Below.refl _ _)) hb)))); replace HB := Aside0.mk (below_step (by repeat (first | (with_reducible first | exact HB.out | apply below_alloc | apply pw_below_drewN | apply below_drew1) | exact HB.out)) hb); clear hb)
                | (go_at_call 15; (refine (set_Has.calls _ _ [⟨r, r⟩] r false _ ?s0 ?t0 hH0.out).mono ?_); (case s0 => exact C_span1 _ ⟨r, r⟩); (case t0 => exact (Nat.le_refl _)); rintro e w_ ⟨rfl, hd⟩; (first | (have hb := Drawn0.below hd) | (have hb := hd)); clear hd; (try (have z_ := C_l; clear z_; replace C_l := Aside0.mk (Kd.C_below C_l.out (below_step (by repeat (first | (with_reducible first | exact Below.refl _ _ | apply below_alloc | apply pw_below_drewN | apply below_drew1) | exact Below.refl _ _)) hb)))); replace HB := Aside0.mk (below_step (by repeat (first | (with_reducible first | exact HB.out | apply below_alloc | apply pw_below_drewN | apply below_drew1) | exact HB.out)) hb); clear hb))
            go_ret
            exact ⟨by first | rfl | (simp; done) | (simp [*]; done), HB.out⟩
      · have d1 : decide (r ≤ 1114111) = false := decide_eq_false h1
        have hs : ¬ Scal r := fun h => by unfold Scal at h; omega
        have hN : Aside0 (set_Norm.f [⟨r, r⟩] = some []) := ⟨(set_norm _ (by simp)).trans (congrArg some (one_none hs))⟩
        have hH0 := Aside0.mk (one_not hs)
        clear h0 h1 hs
        have HB := Aside0.mk (Below.refl w.heap.size w)
        have hu := Try.underlying27
        go_enter Try.func3, Try.ntmps3
        go_wp2_with (first
            | (go_at_call 12; (with_reducible refine (glyphcutterlaw01_place.calls c v _  hv.out).mono ?_); rintro e w_ ⟨rfl, hd⟩; (first | (have hb := Drawn0.below hd) | (have hb := hd)); clear hd; (try (have z_ := C_l; clear z_; replace C_l := Aside0.mk (Kd.C_below C_l.out (below_step (by repeat (first | (with_reducible first | exact Below.refl _ _ | apply below_alloc | apply pw_below_drewN | apply below_drew1) | exact Below.refl _ _)) hb)))); replace HB := Aside0.mk (below_step (by repeat (first | (with_reducible first | exact HB.out | apply below_alloc | apply pw_below_drewN | apply below_drew1) | exact HB.out)) hb); clear hb)
            | (go_at_call 13; (refine (set_Norm.calls _ _ [⟨r, r⟩] [] _ ?s0 ?t0 hN.out).mono ?_); (case s0 => exact C_span1 _ ⟨r, r⟩); (case t0 => exact (Nat.le_refl _)); rintro e w_ ⟨v_, rfl, ho, hb⟩; (try (have z_ := C_l; clear z_; replace C_l := Aside0.mk (Kd.C_below C_l.out (below_step (by repeat (first | (with_reducible first | exact Below.refl _ _ | apply below_alloc | apply pw_below_drewN | apply below_drew1) | exact Below.refl _ _)) hb)))); obtain ⟨A_l, c_l, rfl⟩ := Kd.R_slice ho; have C_l := Aside0.mk (Kd.R_reads' ho).2.2; have L_l := Aside0.mk (Kd.R_reads' ho).2.1; replace HB := Aside0.mk (below_step (by repeat (first | (with_reducible first | exact HB.out | apply below_alloc | apply pw_below_drewN | apply below_drew1) | exact HB.out)) hb); clear hb ho)
            | (go_at_call 14; (with_reducible refine (known.calls _).mono ?_); rintro e w_ ⟨rfl, hb⟩; (try (have z_ := C_l; clear z_; replace C_l := Aside0.mk (Kd.C_below C_l.out (below_step (by repeat (first | (with_reducible first | exact Below.refl _ _ | apply below_alloc | apply pw_below_drewN | apply below_drew1) | exact Below.refl _ _)) hb)))); replace HB := Aside0.mk (below_step (by repeat (first | (with_reducible first | exact HB.out | apply below_alloc | apply pw_below_drewN | apply below_drew1) | exact HB.out)) hb); clear hb)
            | (go_at_call 15; (refine (set_Has.calls _ _ [⟨r, r⟩] r false _ ?s0 ?t0 hH0.out).mono ?_); (case s0 => exact C_span1 _ ⟨r, r⟩); (case t0 => exact (Nat.le_refl _)); rintro e w_ ⟨rfl, hd⟩; (first | (have hb := Drawn0.below hd) | (have hb := hd)); clear hd; (try (have z_ := C_l; clear z_; replace C_l := Aside0.mk (Kd.C_below C_l.out (below_step (by repeat (first | (with_reducible first | exact Below.refl _ _ | apply below_alloc | apply pw_below_drewN | apply below_drew1) | exact Below.refl _ _)) hb)))); replace HB := Aside0.mk (below_step (by repeat (first | (with_reducible first | exact HB.out | apply below_alloc | apply pw_below_drewN | apply below_drew1) | exact HB.out)) hb); clear hb))
        go_ret
        exact ⟨by first | rfl | (simp; done) | (simp [*]; done), HB.out⟩
    · have d0 : decide (0 ≤ r) = false := decide_eq_false h0
      have hs : ¬ Scal r := fun h => by unfold Scal at h; omega
      have hN : Aside0 (set_Norm.f [⟨r, r⟩] = some []) := ⟨(set_norm _ (by simp)).trans (congrArg some (one_none hs))⟩
      have hH0 := Aside0.mk (one_not hs)
      clear h0 hs
      have HB := Aside0.mk (Below.refl w.heap.size w)
      have hu := Try.underlying27
      go_enter Try.func3, Try.ntmps3
      go_wp2_with (first
          | (go_at_call 12; (with_reducible refine (glyphcutterlaw01_place.calls c v _  hv.out).mono ?_); rintro e w_ ⟨rfl, hd⟩; (first | (have hb := Drawn0.below hd) | (have hb := hd)); clear hd; (try (have z_ := C_l; clear z_; replace C_l := Aside0.mk (Kd.C_below C_l.out (below_step (by repeat (first | (with_reducible first | exact Below.refl _ _ | apply below_alloc | apply pw_below_drewN | apply below_drew1) | exact Below.refl _ _)) hb)))); replace HB := Aside0.mk (below_step (by repeat (first | (with_reducible first | exact HB.out | apply below_alloc | apply pw_below_drewN | apply below_drew1) | exact HB.out)) hb); clear hb)
          | (go_at_call 13; (refine (set_Norm.calls _ _ [⟨r, r⟩] [] _ ?s0 ?t0 hN.out).mono ?_); (case s0 => exact C_span1 _ ⟨r, r⟩); (case t0 => exact (Nat.le_refl _)); rintro e w_ ⟨v_, rfl, ho, hb⟩; (try (have z_ := C_l; clear z_; replace C_l := Aside0.mk (Kd.C_below C_l.out (below_step (by repeat (first | (with_reducible first | exact Below.refl _ _ | apply below_alloc | apply pw_below_drewN | apply below_drew1) | exact Below.refl _ _)) hb)))); obtain ⟨A_l, c_l, rfl⟩ := Kd.R_slice ho; have C_l := Aside0.mk (Kd.R_reads' ho).2.2; have L_l := Aside0.mk (Kd.R_reads' ho).2.1; replace HB := Aside0.mk (below_step (by repeat (first | (with_reducible first | exact HB.out | apply below_alloc | apply pw_below_drewN | apply below_drew1) | exact HB.out)) hb); clear hb ho)
          | (go_at_call 14; (with_reducible refine (known.calls _).mono ?_); rintro e w_ ⟨rfl, hb⟩; (try (have z_ := C_l; clear z_; replace C_l := Aside0.mk (Kd.C_below C_l.out (below_step (by repeat (first | (with_reducible first | exact Below.refl _ _ | apply below_alloc | apply pw_below_drewN | apply below_drew1) | exact Below.refl _ _)) hb)))); replace HB := Aside0.mk (below_step (by repeat (first | (with_reducible first | exact HB.out | apply below_alloc | apply pw_below_drewN | apply below_drew1) | exact HB.out)) hb); clear hb)
          | (go_at_call 15; (refine (set_Has.calls _ _ [⟨r, r⟩] r false _ ?s0 ?t0 hH0.out).mono ?_); (case s0 => exact C_span1 _ ⟨r, r⟩); (case t0 => exact (Nat.le_refl _)); rintro e w_ ⟨rfl, hd⟩; (first | (have hb := Drawn0.below hd) | (have hb := hd)); clear hd; (try (have z_ := C_l; clear z_; replace C_l := Aside0.mk (Kd.C_below C_l.out (below_step (by repeat (first | (with_reducible first | exact Below.refl _ _ | apply below_alloc | apply pw_below_drewN | apply below_drew1) | exact Below.refl _ _)) hb)))); replace HB := Aside0.mk (below_step (by repeat (first | (with_reducible first | exact HB.out | apply below_alloc | apply pw_below_drewN | apply below_drew1) | exact HB.out)) hb); clear hb))
      go_ret
      exact ⟨by first | rfl | (simp; done) | (simp [*]; done), HB.out⟩
  · have g0 : (Int.tmod far 5 == 0) = false := beq_eq_false_iff_ne.2 hc
    clear hc
    by_cases h0 : 0 ≤ v
    · have d0 : decide (0 ≤ v) = true := decide_eq_true h0
      by_cases h1 : v ≤ 1114111
      · have d1 : decide (v ≤ 1114111) = true := decide_eq_true h1
        by_cases h2 : v < 55296
        · have d2 : decide (v < 55296) = true := decide_eq_true h2
          have hs : Scal v := ⟨h0, h1, .inl h2⟩
          obtain ⟨kS, hS⟩ := one_size hs
          replace hS : Aside0 (set_Size.f kS (oneL v) = some 1) := ⟨hS⟩
          have hN : Aside0 (set_Norm.f [⟨v, v⟩] = some (oneL v)) := ⟨(set_norm _ (by simp)).trans (congrArg some (one_norm hs))⟩
          have hH0 : Aside0 (set_Has.f (oneL v) v = some true) := ⟨one_has hs⟩
          have hH1 : Aside0 (set_Has.f (oneL v) (wrap64 (v + 1)) = some false) := ⟨one_has1 hs⟩
          have e0 : (v == v) = true := beq_self_eq_true v
          clear h0 h1 h2 hs
          have HB := Aside0.mk (Below.refl w.heap.size w)
          have hu := Try.underlying27
          go_enter Try.func3, Try.ntmps3
          go_wp2_with (first
              | (go_at_call 12; (with_reducible refine (glyphcutterlaw01_place.calls c v _  hv.out).mono ?_); rintro e w_ ⟨rfl, hd⟩; (first | (have hb := Drawn0.below hd) | (have hb := hd)); clear hd; (try (have z_ := C_l; clear z_; replace C_l := Aside0.mk (Kd.C_below C_l.out (below_step (by repeat (first | (with_reducible first | exact Below.refl _ _ | apply below_alloc | apply pw_below_drewN | apply below_drew1) | exact Below.refl _ _)) hb)))); replace HB := Aside0.mk (below_step (by repeat (first | (with_reducible first | exact HB.out | apply below_alloc | apply pw_below_drewN | apply below_drew1) | exact HB.out)) hb); clear hb)
              | (go_at_call 13; (refine (set_Norm.calls _ _ [⟨v, v⟩] (oneL v) _ ?s0 ?t0 hN.out).mono ?_); (case s0 => exact C_span1 _ ⟨v, v⟩); (case t0 => exact (Nat.le_refl _)); rintro e w_ ⟨v_, rfl, ho, hb⟩; (try (have z_ := C_l; clear z_; replace C_l := Aside0.mk (Kd.C_below C_l.out (below_step (by repeat (first | (with_reducible first | exact Below.refl _ _ | apply below_alloc | apply pw_below_drewN | apply below_drew1) | exact Below.refl _ _)) hb)))); obtain ⟨A_l, c_l, rfl⟩ := Kd.R_slice ho; have C_l := Aside0.mk (Kd.R_reads' ho).2.2; have L_l := Aside0.mk (Kd.R_reads' ho).2.1; replace HB := Aside0.mk (below_step (by repeat (first | (with_reducible first | exact HB.out | apply below_alloc | apply pw_below_drewN | apply below_drew1) | exact HB.out)) hb); clear hb ho)
              | (go_at_call 14; (with_reducible refine (known.calls _).mono ?_); rintro e w_ ⟨rfl, hb⟩; (try (have z_ := C_l; clear z_; replace C_l := Aside0.mk (Kd.C_below C_l.out (below_step (by repeat (first | (with_reducible first | exact Below.refl _ _ | apply below_alloc | apply pw_below_drewN | apply below_drew1) | exact Below.refl _ _)) hb)))); replace HB := Aside0.mk (below_step (by repeat (first | (with_reducible first | exact HB.out | apply below_alloc | apply pw_below_drewN | apply below_drew1) | exact HB.out)) hb); clear hb; obtain ⟨ad, e1, x0, x1⟩ := ld_one C_l.out; cases e1)
              | (go_at_call 16; (with_reducible refine (set_Size.calls kS _ _ (oneL v) 1 _ ?s0 ?t0 hS.out).mono ?_); (case s0 => exact (by repeat (first | exact C_l.out | (with_reducible refine Kd.C_alloc ?_ _) | (with_reducible refine Kd.C_drewN ?_ _) | (with_reducible refine Kd.C_drew ?_)))); (case t0 => exact L_l.out); rintro e w_ ⟨rfl, hd⟩; (first | (have hb := Drawn0.below hd) | (have hb := hd)); clear hd; (try (have z_ := C_l; clear z_; replace C_l := Aside0.mk (Kd.C_below C_l.out (below_step (by repeat (first | (with_reducible first | exact Below.refl _ _ | apply below_alloc | apply pw_below_drewN | apply below_drew1) | exact Below.refl _ _)) hb)))); replace HB := Aside0.mk (below_step (by repeat (first | (with_reducible first | exact HB.out | apply below_alloc | apply pw_below_drewN | apply below_drew1) | exact HB.out)) hb); clear hb)
              | (go_at_call 15; (with_reducible refine (set_Has.calls _ _ (oneL v) (wrap64 (v + 1)) false _ ?s0 ?t0 hH1.out).mono ?_); (case s0 => exact (by repeat (first | exact C_l.out | (with_reducible refine Kd.C_alloc ?_ _) | (with_reducible refine Kd.C_drewN ?_ _) | (with_reducible refine Kd.C_drew ?_)))); (case t0 => exact L_l.out); rintro e w_ ⟨rfl, hd⟩; (first | (have hb := Drawn0.below hd) | (have hb := hd)); clear hd; (try (have z_ := C_l; clear z_; replace C_l := Aside0.mk (Kd.C_below C_l.out (below_step (by repeat (first | (with_reducible first | exact Below.refl _ _ | apply below_alloc | apply pw_below_drewN | apply below_drew1) | exact Below.refl _ _)) hb)))); replace HB := Aside0.mk (below_step (by repeat (first | (with_reducible first | exact HB.out | apply below_alloc | apply pw_below_drewN | apply below_drew1) | exact HB.out)) hb); clear hb)
              | (go_at_call 15; (with_reducible refine (set_Has.calls _ _ (oneL v) v true _ ?s0 ?t0 hH0.out).mono ?_); (case s0 => exact (by repeat (first | exact C_l.out | (with_reducible refine Kd.C_alloc ?_ _) | (with_reducible refine Kd.C_drewN ?_ _) | (with_reducible refine Kd.C_drew ?_)))); (case t0 => exact L_l.out); rintro e w_ ⟨rfl, hd⟩; (first | (have hb := Drawn0.below hd) | (have hb := hd)); clear hd; (try (have z_ := C_l; clear z_; replace C_l := Aside0.mk (Kd.C_below C_l.out (below_step (by repeat (first | (with_reducible first | exact Below.refl _ _ | apply below_alloc | apply pw_below_drewN | apply below_drew1) | exact Below.refl _ _)) hb)))); replace HB := Aside0.mk (below_step (by repeat (first | (with_reducible first | exact HB.out | apply below_alloc | apply pw_below_drewN | apply below_drew1) | exact HB.out)) hb); clear hb))
          go_ret
          exact ⟨by first | rfl | (simp; done) | (simp [*]; done), HB.out⟩
        · have d2 : decide (v < 55296) = false := decide_eq_false h2
          by_cases h3 : 57343 < v
          · have d3 : decide (57343 < v) = true := decide_eq_true h3
            have hs : Scal v := ⟨h0, h1, .inr h3⟩
            obtain ⟨kS, hS⟩ := one_size hs
            replace hS : Aside0 (set_Size.f kS (oneL v) = some 1) := ⟨hS⟩
            have hN : Aside0 (set_Norm.f [⟨v, v⟩] = some (oneL v)) := ⟨(set_norm _ (by simp)).trans (congrArg some (one_norm hs))⟩
            have hH0 : Aside0 (set_Has.f (oneL v) v = some true) := ⟨one_has hs⟩
            have hH1 : Aside0 (set_Has.f (oneL v) (wrap64 (v + 1)) = some false) := ⟨one_has1 hs⟩
            have e0 : (v == v) = true := beq_self_eq_true v
            clear h0 h1 h2 h3 hs
            have HB := Aside0.mk (Below.refl w.heap.size w)
            have hu := Try.underlying27
            go_enter Try.func3, Try.ntmps3
            go_wp2_with (first
                | (go_at_call 12; (with_reducible refine (glyphcutterlaw01_place.calls c v _  hv.out).mono ?_); rintro e w_ ⟨rfl, hd⟩; (first | (have hb := Drawn0.below hd) | (have hb := hd)); clear hd; (try (have z_ := C_l; clear z_; replace C_l := Aside0.mk (Kd.C_below C_l.out (below_step (by repeat (first | (with_reducible first | exact Below.refl _ _ | apply below_alloc | apply pw_below_drewN | apply below_drew1) | exact Below.refl _ _)) hb)))); replace HB := Aside0.mk (below_step (by repeat (first | (with_reducible first | exact HB.out | apply below_alloc | apply pw_below_drewN | apply below_drew1) | exact HB.out)) hb); clear hb)
                | (go_at_call 13; (refine (set_Norm.calls _ _ [⟨v, v⟩] (oneL v) _ ?s0 ?t0 hN.out).mono ?_); (case s0 => exact C_span1 _ ⟨v, v⟩); (case t0 => exact (Nat.le_refl _)); rintro e w_ ⟨v_, rfl, ho, hb⟩; (try (have z_ := C_l; clear z_; replace C_l := Aside0.mk (Kd.C_below C_l.out (below_step (by repeat (first | (with_reducible first | exact Below.refl _ _ | apply below_alloc | apply pw_below_drewN | apply below_drew1) | exact Below.refl _ _)) hb)))); obtain ⟨A_l, c_l, rfl⟩ := Kd.R_slice ho; have C_l := Aside0.mk (Kd.R_reads' ho).2.2; have L_l := Aside0.mk (Kd.R_reads' ho).2.1; replace HB := Aside0.mk (below_step (by repeat (first | (with_reducible first | exact HB.out | apply below_alloc | apply pw_below_drewN | apply below_drew1) | exact HB.out)) hb); clear hb ho)
                | (go_at_call 14; (with_reducible refine (known.calls _).mono ?_); rintro e w_ ⟨rfl, hb⟩; (try (have z_ := C_l; clear z_; replace C_l := Aside0.mk (Kd.C_below C_l.out (below_step (by repeat (first | (with_reducible first | exact Below.refl _ _ | apply below_alloc | apply pw_below_drewN | apply below_drew1) | exact Below.refl _ _)) hb)))); replace HB := Aside0.mk (below_step (by repeat (first | (with_reducible first | exact HB.out | apply below_alloc | apply pw_below_drewN | apply below_drew1) | exact HB.out)) hb); clear hb; obtain ⟨ad, e1, x0, x1⟩ := ld_one C_l.out; cases e1)
                | (go_at_call 16; (with_reducible refine (set_Size.calls kS _ _ (oneL v) 1 _ ?s0 ?t0 hS.out).mono ?_); (case s0 => exact (by repeat (first | exact C_l.out | (with_reducible refine Kd.C_alloc ?_ _) | (with_reducible refine Kd.C_drewN ?_ _) | (with_reducible refine Kd.C_drew ?_)))); (case t0 => exact L_l.out); rintro e w_ ⟨rfl, hd⟩; (first | (have hb := Drawn0.below hd) | (have hb := hd)); clear hd; (try (have z_ := C_l; clear z_; replace C_l := Aside0.mk (Kd.C_below C_l.out (below_step (by repeat (first | (with_reducible first | exact Below.refl _ _ | apply below_alloc | apply pw_below_drewN | apply below_drew1) | exact Below.refl _ _)) hb)))); replace HB := Aside0.mk (below_step (by repeat (first | (with_reducible first | exact HB.out | apply below_alloc | apply pw_below_drewN | apply below_drew1) | exact HB.out)) hb); clear hb)
                | (go_at_call 15; (with_reducible refine (set_Has.calls _ _ (oneL v) (wrap64 (v + 1)) false _ ?s0 ?t0 hH1.out).mono ?_); (case s0 => exact (by repeat (first | exact C_l.out | (with_reducible refine Kd.C_alloc ?_ _) | (with_reducible refine Kd.C_drewN ?_ _) | (with_reducible refine Kd.C_drew ?_)))); (case t0 => exact L_l.out); rintro e w_ ⟨rfl, hd⟩; (first | (have hb := Drawn0.below hd) | (have hb := hd)); clear hd; (try (have z_ := C_l; clear z_; replace C_l := Aside0.mk (Kd.C_below C_l.out (below_step (by repeat (first | (with_reducible first | exact Below.refl _ _ | apply below_alloc | apply pw_below_drewN | apply below_drew1) | exact Below.refl _ _)) hb)))); replace HB := Aside0.mk (below_step (by repeat (first | (with_reducible first | exact HB.out | apply below_alloc | apply pw_below_drewN | apply below_drew1) | exact HB.out)) hb); clear hb)
                | (go_at_call 15; (with_reducible refine (set_Has.calls _ _ (oneL v) v true _ ?s0 ?t0 hH0.out).mono ?_); (case s0 => exact (by repeat (first | exact C_l.out | (with_reducible refine Kd.C_alloc ?_ _) | (with_reducible refine Kd.C_drewN ?_ _) | (with_reducible refine Kd.C_drew ?_)))); (case t0 => exact L_l.out); rintro e w_ ⟨rfl, hd⟩; (first | (have hb := Drawn0.below hd) | (have hb := hd)); clear hd; (try (have z_ := C_l; clear z_; replace C_l := Aside0.mk (Kd.C_below C_l.out (below_step (by repeat (first | (with_reducible first | exact Below.refl _ _ | apply below_alloc | apply pw_below_drewN | apply below_drew1) | exact Below.refl _ _)) hb)))); replace HB := Aside0.mk (below_step (by repeat (first | (with_reducible first | exact HB.out | apply below_alloc | apply pw_below_drewN | apply below_drew1) | exact HB.out)) hb); clear hb))
            go_ret
            exact ⟨by first | rfl | (simp; done) | (simp [*]; done), HB.out⟩
          · have d3 : decide (57343 < v) = false := decide_eq_false h3
            have hs : ¬ Scal v := fun h => by unfold Scal at h; omega
            have hN : Aside0 (set_Norm.f [⟨v, v⟩] = some []) := ⟨(set_norm _ (by simp)).trans (congrArg some (one_none hs))⟩
            have hH0 := Aside0.mk (one_not hs)
            clear h0 h1 h2 h3 hs
            have HB := Aside0.mk (Below.refl w.heap.size w)
            have hu := Try.underlying27
            go_enter Try.func3, Try.ntmps3
            go_wp2_with (first
                | (go_at_call 12; (with_reducible refine (glyphcutterlaw01_place.calls c v _  hv.out).mono ?_); rintro e w_ ⟨rfl, hd⟩; (first | (have hb := Drawn0.below hd) | (have hb := hd)); clear hd; (try (have z_ := C_l; clear z_; replace C_l := Aside0.mk (Kd.C_below C_l.out (below_step (by repeat (first | (with_reducible first | exact Below.refl _ _ | apply below_alloc | apply pw_below_drewN | apply below_drew1) | exact Below.refl _ _)) hb)))); replace HB := Aside0.mk (below_step (by repeat (first | (with_reducible first | exact HB.out | apply below_alloc | apply pw_below_drewN | apply below_drew1) | exact HB.out)) hb); clear hb)
                | (go_at_call 13; (refine (set_Norm.calls _ _ [⟨v, v⟩] [] _ ?s0 ?t0 hN.out).mono ?_); (case s0 => exact C_span1 _ ⟨v, v⟩); (case t0 => exact (Nat.le_refl _)); rintro e w_ ⟨v_, rfl, ho, hb⟩; (try (have z_ := C_l; clear z_; replace C_l := Aside0.mk (Kd.C_below C_l.out (below_step (by repeat (first | (with_reducible first | exact Below.refl _ _ | apply below_alloc | apply pw_below_drewN | apply below_drew1) | exact Below.refl _ _)) hb)))); obtain ⟨A_l, c_l, rfl⟩ := Kd.R_slice ho; have C_l := Aside0.mk (Kd.R_reads' ho).2.2; have L_l := Aside0.mk (Kd.R_reads' ho).2.1; replace HB := Aside0.mk (below_step (by repeat (first | (with_reducible first | exact HB.out | apply below_alloc | apply pw_below_drewN | apply below_drew1) | exact HB.out)) hb); clear hb ho)
                | (go_at_call 14; (with_reducible refine (known.calls _).mono ?_); rintro e w_ ⟨rfl, hb⟩; (try (have z_ := C_l; clear z_; replace C_l := Aside0.mk (Kd.C_below C_l.out (below_step (by repeat (first | (with_reducible first | exact Below.refl _ _ | apply below_alloc | apply pw_below_drewN | apply below_drew1) | exact Below.refl _ _)) hb)))); replace HB := Aside0.mk (below_step (by repeat (first | (with_reducible first | exact HB.out | apply below_alloc | apply pw_below_drewN | apply below_drew1) | exact HB.out)) hb); clear hb)
                | (go_at_call 15; (refine (set_Has.calls _ _ [⟨v, v⟩] v false _ ?s0 ?t0 hH0.out).mono ?_); (case s0 => exact C_span1 _ ⟨v, v⟩); (case t0 => exact (Nat.le_refl _)); rintro e w_ ⟨rfl, hd⟩; (first | (have hb := Drawn0.below hd) | (have hb := hd)); clear hd; (try (have z_ := C_l; clear z_; replace C_l := Aside0.mk (Kd.C_below C_l.out (below_step (by repeat (first | (with_reducible first | exact Below.refl _ _ | apply below_alloc | apply pw_below_drewN | apply below_drew1) | exact Below.refl _ _)) hb)))); replace HB := Aside0.mk (below_step (by repeat (first | (with_reducible first | exact HB.out | apply below_alloc | apply pw_below_drewN | apply below_drew1) | exact HB.out)) hb); clear hb))
            go_ret
            exact ⟨by first | rfl | (simp; done) | (simp [*]; done), HB.out⟩
      · have d1 : decide (v ≤ 1114111) = false := decide_eq_false h1
        have hs : ¬ Scal v := fun h => by unfold Scal at h; omega
        have hN : Aside0 (set_Norm.f [⟨v, v⟩] = some []) := ⟨(set_norm _ (by simp)).trans (congrArg some (one_none hs))⟩
        have hH0 := Aside0.mk (one_not hs)
        clear h0 h1 hs
        have HB := Aside0.mk (Below.refl w.heap.size w)
        have hu := Try.underlying27
        go_enter Try.func3, Try.ntmps3
        go_wp2_with (first
            | (go_at_call 12; (with_reducible refine (glyphcutterlaw01_place.calls c v _  hv.out).mono ?_); rintro e w_ ⟨rfl, hd⟩; (first | (have hb := Drawn0.below hd) | (have hb := hd)); clear hd; (try (have z_ := C_l; clear z_; replace C_l := Aside0.mk (Kd.C_below C_l.out (below_step (by repeat (first | (with_reducible first | exact Below.refl _ _ | apply below_alloc | apply pw_below_drewN | apply below_drew1) | exact Below.refl _ _)) hb)))); replace HB := Aside0.mk (below_step (by repeat (first | (with_reducible first | exact HB.out | apply below_alloc | apply pw_below_drewN | apply below_drew1) | exact HB.out)) hb); clear hb)
            | (go_at_call 13; (refine (set_Norm.calls _ _ [⟨v, v⟩] [] _ ?s0 ?t0 hN.out).mono ?_); (case s0 => exact C_span1 _ ⟨v, v⟩); (case t0 => exact (Nat.le_refl _)); rintro e w_ ⟨v_, rfl, ho, hb⟩; (try (have z_ := C_l; clear z_; replace C_l := Aside0.mk (Kd.C_below C_l.out (below_step (by repeat (first | (with_reducible first | exact Below.refl _ _ | apply below_alloc | apply pw_below_drewN | apply below_drew1) | exact Below.refl _ _)) hb)))); obtain ⟨A_l, c_l, rfl⟩ := Kd.R_slice ho; have C_l := Aside0.mk (Kd.R_reads' ho).2.2; have L_l := Aside0.mk (Kd.R_reads' ho).2.1; replace HB := Aside0.mk (below_step (by repeat (first | (with_reducible first | exact HB.out | apply below_alloc | apply pw_below_drewN | apply below_drew1) | exact HB.out)) hb); clear hb ho)
            | (go_at_call 14; (with_reducible refine (known.calls _).mono ?_); rintro e w_ ⟨rfl, hb⟩; (try (have z_ := C_l; clear z_; replace C_l := Aside0.mk (Kd.C_below C_l.out (below_step (by repeat (first | (with_reducible first | exact Below.refl _ _ | apply below_alloc | apply pw_below_drewN | apply below_drew1) | exact Below.refl _ _)) hb)))); replace HB := Aside0.mk (below_step (by repeat (first | (with_reducible first | exact HB.out | apply below_alloc | apply pw_below_drewN | apply below_drew1) | exact HB.out)) hb); clear hb)
            | (go_at_call 15; (refine (set_Has.calls _ _ [⟨v, v⟩] v false _ ?s0 ?t0 hH0.out).mono ?_); (case s0 => exact C_span1 _ ⟨v, v⟩); (case t0 => exact (Nat.le_refl _)); rintro e w_ ⟨rfl, hd⟩; (first | (have hb := Drawn0.below hd) | (have hb := hd)); clear hd; (try (have z_ := C_l; clear z_; replace C_l := Aside0.mk (Kd.C_below C_l.out (below_step (by repeat (first | (with_reducible first | exact Below.refl _ _ | apply below_alloc | apply pw_below_drewN | apply below_drew1) | exact Below.refl _ _)) hb)))); replace HB := Aside0.mk (below_step (by repeat (first | (with_reducible first | exact HB.out | apply below_alloc | apply pw_below_drewN | apply below_drew1) | exact HB.out)) hb); clear hb))
        go_ret
        exact ⟨by first | rfl | (simp; done) | (simp [*]; done), HB.out⟩
    · have d0 : decide (0 ≤ v) = false := decide_eq_false h0
      have hs : ¬ Scal v := fun h => by unfold Scal at h; omega
      have hN : Aside0 (set_Norm.f [⟨v, v⟩] = some []) := ⟨(set_norm _ (by simp)).trans (congrArg some (one_none hs))⟩
      have hH0 := Aside0.mk (one_not hs)
      clear h0 hs
      have HB := Aside0.mk (Below.refl w.heap.size w)
      have hu := Try.underlying27
      go_enter Try.func3, Try.ntmps3
      go_wp2_with (first
          | (go_at_call 12; (with_reducible refine (glyphcutterlaw01_place.calls c v _  hv.out).mono ?_); rintro e w_ ⟨rfl, hd⟩; (first | (have hb := Drawn0.below hd) | (have hb := hd)); clear hd; (try (have z_ := C_l; clear z_; replace C_l := Aside0.mk (Kd.C_below C_l.out (below_step (by repeat (first | (with_reducible first | exact Below.refl _ _ | apply below_alloc | apply pw_below_drewN | apply below_drew1) | exact Below.refl _ _)) hb)))); replace HB := Aside0.mk (below_step (by repeat (first | (with_reducible first | exact HB.out | apply below_alloc | apply pw_below_drewN | apply below_drew1) | exact HB.out)) hb); clear hb)
          | (go_at_call 13; (refine (set_Norm.calls _ _ [⟨v, v⟩] [] _ ?s0 ?t0 hN.out).mono ?_); (case s0 => exact C_span1 _ ⟨v, v⟩); (case t0 => exact (Nat.le_refl _)); rintro e w_ ⟨v_, rfl, ho, hb⟩; (try (have z_ := C_l; clear z_; replace C_l := Aside0.mk (Kd.C_below C_l.out (below_step (by repeat (first | (with_reducible first | exact Below.refl _ _ | apply below_alloc | apply pw_below_drewN | apply below_drew1) | exact Below.refl _ _)) hb)))); obtain ⟨A_l, c_l, rfl⟩ := Kd.R_slice ho; have C_l := Aside0.mk (Kd.R_reads' ho).2.2; have L_l := Aside0.mk (Kd.R_reads' ho).2.1; replace HB := Aside0.mk (below_step (by repeat (first | (with_reducible first | exact HB.out | apply below_alloc | apply pw_below_drewN | apply below_drew1) | exact HB.out)) hb); clear hb ho)
          | (go_at_call 14; (with_reducible refine (known.calls _).mono ?_); rintro e w_ ⟨rfl, hb⟩; (try (have z_ := C_l; clear z_; replace C_l := Aside0.mk (Kd.C_below C_l.out (below_step (by repeat (first | (with_reducible first | exact Below.refl _ _ | apply below_alloc | apply pw_below_drewN | apply below_drew1) | exact Below.refl _ _)) hb)))); replace HB := Aside0.mk (below_step (by repeat (first | (with_reducible first | exact HB.out | apply below_alloc | apply pw_below_drewN | apply below_drew1) | exact HB.out)) hb); clear hb)
          | (go_at_call 15; (refine (set_Has.calls _ _ [⟨v, v⟩] v false _ ?s0 ?t0 hH0.out).mono ?_); (case s0 => exact C_span1 _ ⟨v, v⟩); (case t0 => exact (Nat.le_refl _)); rintro e w_ ⟨rfl, hd⟩; (first | (have hb := Drawn0.below hd) | (have hb := hd)); clear hd; (try (have z_ := C_l; clear z_; replace C_l := Aside0.mk (Kd.C_below C_l.out (below_step (by repeat (first | (with_reducible first | exact Below.refl _ _ | apply below_alloc | apply pw_below_drewN | apply below_drew1) | exact Below.refl _ _)) hb)))); replace HB := Aside0.mk (below_step (by repeat (first | (with_reducible first | exact HB.out | apply below_alloc | apply pw_below_drewN | apply below_drew1) | exact HB.out)) hb); clear hb))
      go_ret
      exact ⟨by first | rfl | (simp; done) | (simp [*]; done), HB.out⟩
end Go.Proofs.Ytjnkllbecldfeaa.P
