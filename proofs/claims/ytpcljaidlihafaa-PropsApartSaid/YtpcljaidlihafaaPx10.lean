-- WRITTEN BY A PROGRAM (hybrid.py over the kit's print.py): Lean checks it.
import Derived.Test.YtpcljaidlihafaaPx0
import Derived.Test.YtpcljaidlihafaaPx9
namespace Go.Proofs.Ytpcljaidlihafaa.P
open Go.RowKit Go.Proofs.YtpcljaidlihafaaW.PrintWords Go.Proofs.YtpcljaidlihafaaW.PrintLast Go.Proofs.YtpcljaidlihafaaW.PrintMore
attribute [local go_sem] max2_int min2_int max_two min_two max_three min_three max_four min_four   -- for this text's walks alone
set_option linter.unusedVariables false
set_option linter.unusedSimpArgs false

/-! ### glyphcutterlaw05_PropsApart: function 3 -/
def glyphcutterlaw05_PropsApart.f (k : Nat) (a0 : Int) : Option (Bool) := (glyphcutterlaw05_known.f k).bind fun t136 => (if t136 = true then ((glyphcutterlaw05_of.f k (⟨#[117, 112, 112, 101, 114]⟩ : ByteArray) a0).bind fun t137 => (if t137 = true then ((glyphcutterlaw05_of.f k (⟨#[108, 111, 119, 101, 114]⟩ : ByteArray) a0).bind fun t138 => (if t138 = true then (some false) else ((glyphcutterlaw05_of.f k (⟨#[108, 101, 116, 116, 101, 114]⟩ : ByteArray) a0).bind fun t139 => (if t139 = true then ((glyphcutterlaw05_of.f k (⟨#[100, 105, 103, 105, 116]⟩ : ByteArray) a0).bind fun t140 => (if t140 = true then (some false) else ((glyphcutterlaw05_of.f k (⟨#[119, 111, 114, 100]⟩ : ByteArray) a0).bind fun t141 => (if t141 = true then ((glyphcutterlaw05_of.f k (⟨#[98, 108, 97, 110, 107]⟩ : ByteArray) a0).bind fun t142 => (some (!t142))) else (some (!false)))))) else ((glyphcutterlaw05_of.f k (⟨#[119, 111, 114, 100]⟩ : ByteArray) a0).bind fun t143 => (if t143 = true then ((glyphcutterlaw05_of.f k (⟨#[98, 108, 97, 110, 107]⟩ : ByteArray) a0).bind fun t144 => (some (!t144))) else (some (!false)))))))) else ((glyphcutterlaw05_of.f k (⟨#[108, 101, 116, 116, 101, 114]⟩ : ByteArray) a0).bind fun t145 => (if t145 = true then ((glyphcutterlaw05_of.f k (⟨#[100, 105, 103, 105, 116]⟩ : ByteArray) a0).bind fun t146 => (if t146 = true then (some false) else ((glyphcutterlaw05_of.f k (⟨#[119, 111, 114, 100]⟩ : ByteArray) a0).bind fun t147 => (if t147 = true then ((glyphcutterlaw05_of.f k (⟨#[98, 108, 97, 110, 107]⟩ : ByteArray) a0).bind fun t148 => (some (!t148))) else (some (!false)))))) else ((glyphcutterlaw05_of.f k (⟨#[119, 111, 114, 100]⟩ : ByteArray) a0).bind fun t149 => (if t149 = true then ((glyphcutterlaw05_of.f k (⟨#[98, 108, 97, 110, 107]⟩ : ByteArray) a0).bind fun t150 => (some (!t150))) else (some (!false)))))))) else (some false))
theorem glyphcutterlaw05_PropsApart.mono : ∀ a0 k, LeO (glyphcutterlaw05_PropsApart.f k a0) (glyphcutterlaw05_PropsApart.f (k + 1) a0) := by
  intro a0 k
  unfold glyphcutterlaw05_PropsApart.f
  repeat' first
      | (with_reducible exact glyphcutterlaw05_known.mono _)
      | (with_reducible exact glyphcutterlaw05_of.mono _ _ _)
      | (with_reducible exact LeO.refl _)
      | (with_reducible exact LeO.none _)
      | (with_reducible refine LeO.ite ?_ ?_)
      | (with_reducible refine LeO.bind ?_ (fun _ => ?_))
      | exact glyphcutterlaw05_known.mono _
      | exact glyphcutterlaw05_of.mono _ _ _
      | exact LeO.none _
      | refine LeO.ite ?_ ?_
      | refine LeO.bind ?_ (fun _ => ?_)
set_option maxHeartbeats 8000000 in
set_option maxRecDepth 100000 in
theorem glyphcutterlaw05_PropsApart.calls (k : Nat) (a0 : Int) (r : Bool) (w : World) (h : glyphcutterlaw05_PropsApart.f k a0 = some r) :
    Calls Try.prog 3 #[.int .i64 a0] w fun e w' => e = .returned (.bool r) ∧ Below w.heap.size w w' := by
  have HB := Aside0.mk (Below.refl w.heap.size w)
  have H : ((glyphcutterlaw05_known.f k).bind fun t136 => (if t136 = true then ((glyphcutterlaw05_of.f k (⟨#[117, 112, 112, 101, 114]⟩ : ByteArray) a0).bind fun t137 => (if t137 = true then ((glyphcutterlaw05_of.f k (⟨#[108, 111, 119, 101, 114]⟩ : ByteArray) a0).bind fun t138 => (if t138 = true then (some false) else ((glyphcutterlaw05_of.f k (⟨#[108, 101, 116, 116, 101, 114]⟩ : ByteArray) a0).bind fun t139 => (if t139 = true then ((glyphcutterlaw05_of.f k (⟨#[100, 105, 103, 105, 116]⟩ : ByteArray) a0).bind fun t140 => (if t140 = true then (some false) else ((glyphcutterlaw05_of.f k (⟨#[119, 111, 114, 100]⟩ : ByteArray) a0).bind fun t141 => (if t141 = true then ((glyphcutterlaw05_of.f k (⟨#[98, 108, 97, 110, 107]⟩ : ByteArray) a0).bind fun t142 => (some (!t142))) else (some (!false)))))) else ((glyphcutterlaw05_of.f k (⟨#[119, 111, 114, 100]⟩ : ByteArray) a0).bind fun t143 => (if t143 = true then ((glyphcutterlaw05_of.f k (⟨#[98, 108, 97, 110, 107]⟩ : ByteArray) a0).bind fun t144 => (some (!t144))) else (some (!false)))))))) else ((glyphcutterlaw05_of.f k (⟨#[108, 101, 116, 116, 101, 114]⟩ : ByteArray) a0).bind fun t145 => (if t145 = true then ((glyphcutterlaw05_of.f k (⟨#[100, 105, 103, 105, 116]⟩ : ByteArray) a0).bind fun t146 => (if t146 = true then (some false) else ((glyphcutterlaw05_of.f k (⟨#[119, 111, 114, 100]⟩ : ByteArray) a0).bind fun t147 => (if t147 = true then ((glyphcutterlaw05_of.f k (⟨#[98, 108, 97, 110, 107]⟩ : ByteArray) a0).bind fun t148 => (some (!t148))) else (some (!false)))))) else ((glyphcutterlaw05_of.f k (⟨#[119, 111, 114, 100]⟩ : ByteArray) a0).bind fun t149 => (if t149 = true then ((glyphcutterlaw05_of.f k (⟨#[98, 108, 97, 110, 107]⟩ : ByteArray) a0).bind fun t150 => (some (!t150))) else (some (!false)))))))) else (some false))) = some r := h
  clear h
  replace H := Option.bind_eq_some_iff.mp H
  obtain ⟨t136, A20, H⟩ := H
  replace H : (if t136 = true then ((glyphcutterlaw05_of.f k (⟨#[117, 112, 112, 101, 114]⟩ : ByteArray) a0).bind fun t137 => (if t137 = true then ((glyphcutterlaw05_of.f k (⟨#[108, 111, 119, 101, 114]⟩ : ByteArray) a0).bind fun t138 => (if t138 = true then (some false) else ((glyphcutterlaw05_of.f k (⟨#[108, 101, 116, 116, 101, 114]⟩ : ByteArray) a0).bind fun t139 => (if t139 = true then ((glyphcutterlaw05_of.f k (⟨#[100, 105, 103, 105, 116]⟩ : ByteArray) a0).bind fun t140 => (if t140 = true then (some false) else ((glyphcutterlaw05_of.f k (⟨#[119, 111, 114, 100]⟩ : ByteArray) a0).bind fun t141 => (if t141 = true then ((glyphcutterlaw05_of.f k (⟨#[98, 108, 97, 110, 107]⟩ : ByteArray) a0).bind fun t142 => (some (!t142))) else (some (!false)))))) else ((glyphcutterlaw05_of.f k (⟨#[119, 111, 114, 100]⟩ : ByteArray) a0).bind fun t143 => (if t143 = true then ((glyphcutterlaw05_of.f k (⟨#[98, 108, 97, 110, 107]⟩ : ByteArray) a0).bind fun t144 => (some (!t144))) else (some (!false)))))))) else ((glyphcutterlaw05_of.f k (⟨#[108, 101, 116, 116, 101, 114]⟩ : ByteArray) a0).bind fun t145 => (if t145 = true then ((glyphcutterlaw05_of.f k (⟨#[100, 105, 103, 105, 116]⟩ : ByteArray) a0).bind fun t146 => (if t146 = true then (some false) else ((glyphcutterlaw05_of.f k (⟨#[119, 111, 114, 100]⟩ : ByteArray) a0).bind fun t147 => (if t147 = true then ((glyphcutterlaw05_of.f k (⟨#[98, 108, 97, 110, 107]⟩ : ByteArray) a0).bind fun t148 => (some (!t148))) else (some (!false)))))) else ((glyphcutterlaw05_of.f k (⟨#[119, 111, 114, 100]⟩ : ByteArray) a0).bind fun t149 => (if t149 = true then ((glyphcutterlaw05_of.f k (⟨#[98, 108, 97, 110, 107]⟩ : ByteArray) a0).bind fun t150 => (some (!t150))) else (some (!false)))))))) else (some false)) = some r := H
  have A2 := Aside0.mk A20
  clear A20
  by_cases c3 : t136 = true
  · subst c3
    have H1 : ((glyphcutterlaw05_of.f k (⟨#[117, 112, 112, 101, 114]⟩ : ByteArray) a0).bind fun t137 => (if t137 = true then ((glyphcutterlaw05_of.f k (⟨#[108, 111, 119, 101, 114]⟩ : ByteArray) a0).bind fun t138 => (if t138 = true then (some false) else ((glyphcutterlaw05_of.f k (⟨#[108, 101, 116, 116, 101, 114]⟩ : ByteArray) a0).bind fun t139 => (if t139 = true then ((glyphcutterlaw05_of.f k (⟨#[100, 105, 103, 105, 116]⟩ : ByteArray) a0).bind fun t140 => (if t140 = true then (some false) else ((glyphcutterlaw05_of.f k (⟨#[119, 111, 114, 100]⟩ : ByteArray) a0).bind fun t141 => (if t141 = true then ((glyphcutterlaw05_of.f k (⟨#[98, 108, 97, 110, 107]⟩ : ByteArray) a0).bind fun t142 => (some (!t142))) else (some (!false)))))) else ((glyphcutterlaw05_of.f k (⟨#[119, 111, 114, 100]⟩ : ByteArray) a0).bind fun t143 => (if t143 = true then ((glyphcutterlaw05_of.f k (⟨#[98, 108, 97, 110, 107]⟩ : ByteArray) a0).bind fun t144 => (some (!t144))) else (some (!false)))))))) else ((glyphcutterlaw05_of.f k (⟨#[108, 101, 116, 116, 101, 114]⟩ : ByteArray) a0).bind fun t145 => (if t145 = true then ((glyphcutterlaw05_of.f k (⟨#[100, 105, 103, 105, 116]⟩ : ByteArray) a0).bind fun t146 => (if t146 = true then (some false) else ((glyphcutterlaw05_of.f k (⟨#[119, 111, 114, 100]⟩ : ByteArray) a0).bind fun t147 => (if t147 = true then ((glyphcutterlaw05_of.f k (⟨#[98, 108, 97, 110, 107]⟩ : ByteArray) a0).bind fun t148 => (some (!t148))) else (some (!false)))))) else ((glyphcutterlaw05_of.f k (⟨#[119, 111, 114, 100]⟩ : ByteArray) a0).bind fun t149 => (if t149 = true then ((glyphcutterlaw05_of.f k (⟨#[98, 108, 97, 110, 107]⟩ : ByteArray) a0).bind fun t150 => (some (!t150))) else (some (!false)))))))) = some r := by rw [if_pos rfl] at H; exact H
    clear H
    have H := H1
    clear H1
    replace H := Option.bind_eq_some_iff.mp H
    obtain ⟨t137, A40, H⟩ := H
    replace H : (if t137 = true then ((glyphcutterlaw05_of.f k (⟨#[108, 111, 119, 101, 114]⟩ : ByteArray) a0).bind fun t138 => (if t138 = true then (some false) else ((glyphcutterlaw05_of.f k (⟨#[108, 101, 116, 116, 101, 114]⟩ : ByteArray) a0).bind fun t139 => (if t139 = true then ((glyphcutterlaw05_of.f k (⟨#[100, 105, 103, 105, 116]⟩ : ByteArray) a0).bind fun t140 => (if t140 = true then (some false) else ((glyphcutterlaw05_of.f k (⟨#[119, 111, 114, 100]⟩ : ByteArray) a0).bind fun t141 => (if t141 = true then ((glyphcutterlaw05_of.f k (⟨#[98, 108, 97, 110, 107]⟩ : ByteArray) a0).bind fun t142 => (some (!t142))) else (some (!false)))))) else ((glyphcutterlaw05_of.f k (⟨#[119, 111, 114, 100]⟩ : ByteArray) a0).bind fun t143 => (if t143 = true then ((glyphcutterlaw05_of.f k (⟨#[98, 108, 97, 110, 107]⟩ : ByteArray) a0).bind fun t144 => (some (!t144))) else (some (!false)))))))) else ((glyphcutterlaw05_of.f k (⟨#[108, 101, 116, 116, 101, 114]⟩ : ByteArray) a0).bind fun t145 => (if t145 = true then ((glyphcutterlaw05_of.f k (⟨#[100, 105, 103, 105, 116]⟩ : ByteArray) a0).bind fun t146 => (if t146 = true then (some false) else ((glyphcutterlaw05_of.f k (⟨#[119, 111, 114, 100]⟩ : ByteArray) a0).bind fun t147 => (if t147 = true then ((glyphcutterlaw05_of.f k (⟨#[98, 108, 97, 110, 107]⟩ : ByteArray) a0).bind fun t148 => (some (!t148))) else (some (!false)))))) else ((glyphcutterlaw05_of.f k (⟨#[119, 111, 114, 100]⟩ : ByteArray) a0).bind fun t149 => (if t149 = true then ((glyphcutterlaw05_of.f k (⟨#[98, 108, 97, 110, 107]⟩ : ByteArray) a0).bind fun t150 => (some (!t150))) else (some (!false))))))) = some r := H
    have A4 := Aside0.mk A40
    clear A40
    by_cases c5 : t137 = true
    · subst c5
      have H1 : ((glyphcutterlaw05_of.f k (⟨#[108, 111, 119, 101, 114]⟩ : ByteArray) a0).bind fun t138 => (if t138 = true then (some false) else ((glyphcutterlaw05_of.f k (⟨#[108, 101, 116, 116, 101, 114]⟩ : ByteArray) a0).bind fun t139 => (if t139 = true then ((glyphcutterlaw05_of.f k (⟨#[100, 105, 103, 105, 116]⟩ : ByteArray) a0).bind fun t140 => (if t140 = true then (some false) else ((glyphcutterlaw05_of.f k (⟨#[119, 111, 114, 100]⟩ : ByteArray) a0).bind fun t141 => (if t141 = true then ((glyphcutterlaw05_of.f k (⟨#[98, 108, 97, 110, 107]⟩ : ByteArray) a0).bind fun t142 => (some (!t142))) else (some (!false)))))) else ((glyphcutterlaw05_of.f k (⟨#[119, 111, 114, 100]⟩ : ByteArray) a0).bind fun t143 => (if t143 = true then ((glyphcutterlaw05_of.f k (⟨#[98, 108, 97, 110, 107]⟩ : ByteArray) a0).bind fun t144 => (some (!t144))) else (some (!false)))))))) = some r := by rw [if_pos rfl] at H; exact H
      clear H
      have H := H1
      clear H1
      replace H := Option.bind_eq_some_iff.mp H
      obtain ⟨t138, A60, H⟩ := H
      replace H : (if t138 = true then (some false) else ((glyphcutterlaw05_of.f k (⟨#[108, 101, 116, 116, 101, 114]⟩ : ByteArray) a0).bind fun t139 => (if t139 = true then ((glyphcutterlaw05_of.f k (⟨#[100, 105, 103, 105, 116]⟩ : ByteArray) a0).bind fun t140 => (if t140 = true then (some false) else ((glyphcutterlaw05_of.f k (⟨#[119, 111, 114, 100]⟩ : ByteArray) a0).bind fun t141 => (if t141 = true then ((glyphcutterlaw05_of.f k (⟨#[98, 108, 97, 110, 107]⟩ : ByteArray) a0).bind fun t142 => (some (!t142))) else (some (!false)))))) else ((glyphcutterlaw05_of.f k (⟨#[119, 111, 114, 100]⟩ : ByteArray) a0).bind fun t143 => (if t143 = true then ((glyphcutterlaw05_of.f k (⟨#[98, 108, 97, 110, 107]⟩ : ByteArray) a0).bind fun t144 => (some (!t144))) else (some (!false))))))) = some r := H
      have A6 := Aside0.mk A60
      clear A60
      by_cases c7 : t138 = true
      · subst c7
        have H1 : (some false) = some r := by rw [if_pos rfl] at H; exact H
        clear H
        have H := H1
        clear H1
        obtain rfl := Option.some.inj H
        go_enter Try.func3, Try.ntmps3
        go_wp2_with (first | ((with_reducible refine gate_callee (f := 9) rfl ?_); refine goesL_ (some 3) rfl rfl Try.func9 (by kernel_rfl) rfl #[] rfl (by (try simp only [List.map_toArray, List.map_cons, List.map_nil]); first | done | rfl | (simp only [List.length_drop, List.length_take]; rfl)) ?_; (with_reducible refine (glyphcutterlaw05_known.calls k  true _ A2.out).mono ?_); rintro e w8 ⟨rfl, hb⟩; refine ⟨_, rfl, ?_⟩; have n0_ := Aside0.mk (below_step (by repeat (first | (with_reducible first | exact HB.out | apply below_alloc | apply pw_below_drewN | apply below_drew1) | exact HB.out)) hb); clear HB; have HB := n0_; clear n0_; (try clear hb); (try clear hb2); (try clear hk); (try clear hi)) | (go_at_call 10; (with_reducible refine (glyphcutterlaw05_of.calls k (⟨#[117, 112, 112, 101, 114]⟩ : ByteArray) a0 true _ A4.out).mono ?_); rintro e w9 ⟨rfl, hb⟩; have n0_ := Aside0.mk (below_step (by repeat (first | (with_reducible first | exact HB.out | apply below_alloc | apply pw_below_drewN | apply below_drew1) | exact HB.out)) hb); clear HB; have HB := n0_; clear n0_; (try clear hb); (try clear hb2); (try clear hk); (try clear hi)) | (go_at_call 10; (with_reducible refine (glyphcutterlaw05_of.calls k (⟨#[108, 111, 119, 101, 114]⟩ : ByteArray) a0 true _ A6.out).mono ?_); rintro e w10 ⟨rfl, hb⟩; have n0_ := Aside0.mk (below_step (by repeat (first | (with_reducible first | exact HB.out | apply below_alloc | apply pw_below_drewN | apply below_drew1) | exact HB.out)) hb); clear HB; have HB := n0_; clear n0_; (try clear hb); (try clear hb2); (try clear hk); (try clear hi)))
        go_ret
        exact ⟨by first | rfl | (simp [errW_none, errW_some] <;> rfl) | (simp [*, errW_none, errW_some] <;> rfl), by repeat (first | (with_reducible first | exact HB.out | apply below_alloc | apply pw_below_drewN | apply below_drew1) | exact HB.out)⟩
      · replace c7 := Bool.eq_false_iff.mpr c7
        subst c7
        have H1 : ((glyphcutterlaw05_of.f k (⟨#[108, 101, 116, 116, 101, 114]⟩ : ByteArray) a0).bind fun t139 => (if t139 = true then ((glyphcutterlaw05_of.f k (⟨#[100, 105, 103, 105, 116]⟩ : ByteArray) a0).bind fun t140 => (if t140 = true then (some false) else ((glyphcutterlaw05_of.f k (⟨#[119, 111, 114, 100]⟩ : ByteArray) a0).bind fun t141 => (if t141 = true then ((glyphcutterlaw05_of.f k (⟨#[98, 108, 97, 110, 107]⟩ : ByteArray) a0).bind fun t142 => (some (!t142))) else (some (!false)))))) else ((glyphcutterlaw05_of.f k (⟨#[119, 111, 114, 100]⟩ : ByteArray) a0).bind fun t143 => (if t143 = true then ((glyphcutterlaw05_of.f k (⟨#[98, 108, 97, 110, 107]⟩ : ByteArray) a0).bind fun t144 => (some (!t144))) else (some (!false)))))) = some r := by rw [if_neg (show ¬ (false = true) by decide)] at H; exact H
        clear H
        have H := H1
        clear H1
        replace H := Option.bind_eq_some_iff.mp H
        obtain ⟨t139, A110, H⟩ := H
        replace H : (if t139 = true then ((glyphcutterlaw05_of.f k (⟨#[100, 105, 103, 105, 116]⟩ : ByteArray) a0).bind fun t140 => (if t140 = true then (some false) else ((glyphcutterlaw05_of.f k (⟨#[119, 111, 114, 100]⟩ : ByteArray) a0).bind fun t141 => (if t141 = true then ((glyphcutterlaw05_of.f k (⟨#[98, 108, 97, 110, 107]⟩ : ByteArray) a0).bind fun t142 => (some (!t142))) else (some (!false)))))) else ((glyphcutterlaw05_of.f k (⟨#[119, 111, 114, 100]⟩ : ByteArray) a0).bind fun t143 => (if t143 = true then ((glyphcutterlaw05_of.f k (⟨#[98, 108, 97, 110, 107]⟩ : ByteArray) a0).bind fun t144 => (some (!t144))) else (some (!false))))) = some r := H
        have A11 := Aside0.mk A110
        clear A110
        by_cases c12 : t139 = true
        · subst c12
          have H1 : ((glyphcutterlaw05_of.f k (⟨#[100, 105, 103, 105, 116]⟩ : ByteArray) a0).bind fun t140 => (if t140 = true then (some false) else ((glyphcutterlaw05_of.f k (⟨#[119, 111, 114, 100]⟩ : ByteArray) a0).bind fun t141 => (if t141 = true then ((glyphcutterlaw05_of.f k (⟨#[98, 108, 97, 110, 107]⟩ : ByteArray) a0).bind fun t142 => (some (!t142))) else (some (!false)))))) = some r := by rw [if_pos rfl] at H; exact H
          clear H
          have H := H1
          clear H1
          replace H := Option.bind_eq_some_iff.mp H
          obtain ⟨t140, A130, H⟩ := H
          replace H : (if t140 = true then (some false) else ((glyphcutterlaw05_of.f k (⟨#[119, 111, 114, 100]⟩ : ByteArray) a0).bind fun t141 => (if t141 = true then ((glyphcutterlaw05_of.f k (⟨#[98, 108, 97, 110, 107]⟩ : ByteArray) a0).bind fun t142 => (some (!t142))) else (some (!false))))) = some r := H
          have A13 := Aside0.mk A130
          clear A130
          by_cases c14 : t140 = true
          · subst c14
            have H1 : (some false) = some r := by rw [if_pos rfl] at H; exact H
            clear H
            have H := H1
            clear H1
            obtain rfl := Option.some.inj H
            go_enter Try.func3, Try.ntmps3
            go_wp2_with (first | ((with_reducible refine gate_callee (f := 9) rfl ?_); refine goesL_ (some 3) rfl rfl Try.func9 (by kernel_rfl) rfl #[] rfl (by (try simp only [List.map_toArray, List.map_cons, List.map_nil]); first | done | rfl | (simp only [List.length_drop, List.length_take]; rfl)) ?_; (with_reducible refine (glyphcutterlaw05_known.calls k  true _ A2.out).mono ?_); rintro e w15 ⟨rfl, hb⟩; refine ⟨_, rfl, ?_⟩; have n0_ := Aside0.mk (below_step (by repeat (first | (with_reducible first | exact HB.out | apply below_alloc | apply pw_below_drewN | apply below_drew1) | exact HB.out)) hb); clear HB; have HB := n0_; clear n0_; (try clear hb); (try clear hb2); (try clear hk); (try clear hi)) | (go_at_call 10; (with_reducible refine (glyphcutterlaw05_of.calls k (⟨#[117, 112, 112, 101, 114]⟩ : ByteArray) a0 true _ A4.out).mono ?_); rintro e w16 ⟨rfl, hb⟩; have n0_ := Aside0.mk (below_step (by repeat (first | (with_reducible first | exact HB.out | apply below_alloc | apply pw_below_drewN | apply below_drew1) | exact HB.out)) hb); clear HB; have HB := n0_; clear n0_; (try clear hb); (try clear hb2); (try clear hk); (try clear hi)) | (go_at_call 10; (with_reducible refine (glyphcutterlaw05_of.calls k (⟨#[108, 111, 119, 101, 114]⟩ : ByteArray) a0 false _ A6.out).mono ?_); rintro e w17 ⟨rfl, hb⟩; have n0_ := Aside0.mk (below_step (by repeat (first | (with_reducible first | exact HB.out | apply below_alloc | apply pw_below_drewN | apply below_drew1) | exact HB.out)) hb); clear HB; have HB := n0_; clear n0_; (try clear hb); (try clear hb2); (try clear hk); (try clear hi)) | (go_at_call 10; (with_reducible refine (glyphcutterlaw05_of.calls k (⟨#[108, 101, 116, 116, 101, 114]⟩ : ByteArray) a0 true _ A11.out).mono ?_); rintro e w18 ⟨rfl, hb⟩; have n0_ := Aside0.mk (below_step (by repeat (first | (with_reducible first | exact HB.out | apply below_alloc | apply pw_below_drewN | apply below_drew1) | exact HB.out)) hb); clear HB; have HB := n0_; clear n0_; (try clear hb); (try clear hb2); (try clear hk); (try clear hi)) | (go_at_call 10; (with_reducible refine (glyphcutterlaw05_of.calls k (⟨#[100, 105, 103, 105, 116]⟩ : ByteArray) a0 true _ A13.out).mono ?_); rintro e w19 ⟨rfl, hb⟩; have n0_ := Aside0.mk (below_step (by repeat (first | (with_reducible first | exact HB.out | apply below_alloc | apply pw_below_drewN | apply below_drew1) | exact HB.out)) hb); clear HB; have HB := n0_; clear n0_; (try clear hb); (try clear hb2); (try clear hk); (try clear hi)))
            go_ret
            exact ⟨by first | rfl | (simp [errW_none, errW_some] <;> rfl) | (simp [*, errW_none, errW_some] <;> rfl), by repeat (first | (with_reducible first | exact HB.out | apply below_alloc | apply pw_below_drewN | apply below_drew1) | exact HB.out)⟩
          · replace c14 := Bool.eq_false_iff.mpr c14
            subst c14
            have H1 : ((glyphcutterlaw05_of.f k (⟨#[119, 111, 114, 100]⟩ : ByteArray) a0).bind fun t141 => (if t141 = true then ((glyphcutterlaw05_of.f k (⟨#[98, 108, 97, 110, 107]⟩ : ByteArray) a0).bind fun t142 => (some (!t142))) else (some (!false)))) = some r := by rw [if_neg (show ¬ (false = true) by decide)] at H; exact H
            clear H
            have H := H1
            clear H1
            replace H := Option.bind_eq_some_iff.mp H
            obtain ⟨t141, A200, H⟩ := H
            replace H : (if t141 = true then ((glyphcutterlaw05_of.f k (⟨#[98, 108, 97, 110, 107]⟩ : ByteArray) a0).bind fun t142 => (some (!t142))) else (some (!false))) = some r := H
            have A20 := Aside0.mk A200
            clear A200
            by_cases c21 : t141 = true
            · subst c21
              have H1 : ((glyphcutterlaw05_of.f k (⟨#[98, 108, 97, 110, 107]⟩ : ByteArray) a0).bind fun t142 => (some (!t142))) = some r := by rw [if_pos rfl] at H; exact H
              clear H
              have H := H1
              clear H1
              replace H := Option.bind_eq_some_iff.mp H
              obtain ⟨t142, A220, H⟩ := H
              replace H : (some (!t142)) = some r := H
              have A22 := Aside0.mk A220
              clear A220
              obtain rfl := Option.some.inj H
              go_enter Try.func3, Try.ntmps3
              go_wp2_with (first | ((with_reducible refine gate_callee (f := 9) rfl ?_); refine goesL_ (some 3) rfl rfl Try.func9 (by kernel_rfl) rfl #[] rfl (by (try simp only [List.map_toArray, List.map_cons, List.map_nil]); first | done | rfl | (simp only [List.length_drop, List.length_take]; rfl)) ?_; (with_reducible refine (glyphcutterlaw05_known.calls k  true _ A2.out).mono ?_); rintro e w23 ⟨rfl, hb⟩; refine ⟨_, rfl, ?_⟩; have n0_ := Aside0.mk (below_step (by repeat (first | (with_reducible first | exact HB.out | apply below_alloc | apply pw_below_drewN | apply below_drew1) | exact HB.out)) hb); clear HB; have HB := n0_; clear n0_; (try clear hb); (try clear hb2); (try clear hk); (try clear hi)) | (go_at_call 10; (with_reducible refine (glyphcutterlaw05_of.calls k (⟨#[117, 112, 112, 101, 114]⟩ : ByteArray) a0 true _ A4.out).mono ?_); rintro e w24 ⟨rfl, hb⟩; have n0_ := Aside0.mk (below_step (by repeat (first | (with_reducible first | exact HB.out | apply below_alloc | apply pw_below_drewN | apply below_drew1) | exact HB.out)) hb); clear HB; have HB := n0_; clear n0_; (try clear hb); (try clear hb2); (try clear hk); (try clear hi)) | (go_at_call 10; (with_reducible refine (glyphcutterlaw05_of.calls k (⟨#[108, 111, 119, 101, 114]⟩ : ByteArray) a0 false _ A6.out).mono ?_); rintro e w25 ⟨rfl, hb⟩; have n0_ := Aside0.mk (below_step (by repeat (first | (with_reducible first | exact HB.out | apply below_alloc | apply pw_below_drewN | apply below_drew1) | exact HB.out)) hb); clear HB; have HB := n0_; clear n0_; (try clear hb); (try clear hb2); (try clear hk); (try clear hi)) | (go_at_call 10; (with_reducible refine (glyphcutterlaw05_of.calls k (⟨#[108, 101, 116, 116, 101, 114]⟩ : ByteArray) a0 true _ A11.out).mono ?_); rintro e w26 ⟨rfl, hb⟩; have n0_ := Aside0.mk (below_step (by repeat (first | (with_reducible first | exact HB.out | apply below_alloc | apply pw_below_drewN | apply below_drew1) | exact HB.out)) hb); clear HB; have HB := n0_; clear n0_; (try clear hb); (try clear hb2); (try clear hk); (try clear hi)) | (go_at_call 10; (with_reducible refine (glyphcutterlaw05_of.calls k (⟨#[100, 105, 103, 105, 116]⟩ : ByteArray) a0 false _ A13.out).mono ?_); rintro e w27 ⟨rfl, hb⟩; have n0_ := Aside0.mk (below_step (by repeat (first | (with_reducible first | exact HB.out | apply below_alloc | apply pw_below_drewN | apply below_drew1) | exact HB.out)) hb); clear HB; have HB := n0_; clear n0_; (try clear hb); (try clear hb2); (try clear hk); (try clear hi)) | (go_at_call 10; (with_reducible refine (glyphcutterlaw05_of.calls k (⟨#[119, 111, 114, 100]⟩ : ByteArray) a0 true _ A20.out).mono ?_); rintro e w28 ⟨rfl, hb⟩; have n0_ := Aside0.mk (below_step (by repeat (first | (with_reducible first | exact HB.out | apply below_alloc | apply pw_below_drewN | apply below_drew1) | exact HB.out)) hb); clear HB; have HB := n0_; clear n0_; (try clear hb); (try clear hb2); (try clear hk); (try clear hi)) | (go_at_call 10; (with_reducible refine (glyphcutterlaw05_of.calls k (⟨#[98, 108, 97, 110, 107]⟩ : ByteArray) a0 t142 _ A22.out).mono ?_); rintro e w29 ⟨rfl, hb⟩; have n0_ := Aside0.mk (below_step (by repeat (first | (with_reducible first | exact HB.out | apply below_alloc | apply pw_below_drewN | apply below_drew1) | exact HB.out)) hb); clear HB; have HB := n0_; clear n0_; (try clear hb); (try clear hb2); (try clear hk); (try clear hi)))
              go_ret
              exact ⟨by first | rfl | (simp [errW_none, errW_some] <;> rfl) | (simp [*, errW_none, errW_some] <;> rfl), by repeat (first | (with_reducible first | exact HB.out | apply below_alloc | apply pw_below_drewN | apply below_drew1) | exact HB.out)⟩
            · replace c21 := Bool.eq_false_iff.mpr c21
              subst c21
              have H1 : (some (!false)) = some r := by rw [if_neg (show ¬ (false = true) by decide)] at H; exact H
              clear H
              have H := H1
              clear H1
              obtain rfl := Option.some.inj H
              go_enter Try.func3, Try.ntmps3
              go_wp2_with (first | ((with_reducible refine gate_callee (f := 9) rfl ?_); refine goesL_ (some 3) rfl rfl Try.func9 (by kernel_rfl) rfl #[] rfl (by (try simp only [List.map_toArray, List.map_cons, List.map_nil]); first | done | rfl | (simp only [List.length_drop, List.length_take]; rfl)) ?_; (with_reducible refine (glyphcutterlaw05_known.calls k  true _ A2.out).mono ?_); rintro e w30 ⟨rfl, hb⟩; refine ⟨_, rfl, ?_⟩; have n0_ := Aside0.mk (below_step (by repeat (first | (with_reducible first | exact HB.out | apply below_alloc | apply pw_below_drewN | apply below_drew1) | exact HB.out)) hb); clear HB; have HB := n0_; clear n0_; (try clear hb); (try clear hb2); (try clear hk); (try clear hi)) | (go_at_call 10; (with_reducible refine (glyphcutterlaw05_of.calls k (⟨#[117, 112, 112, 101, 114]⟩ : ByteArray) a0 true _ A4.out).mono ?_); rintro e w31 ⟨rfl, hb⟩; have n0_ := Aside0.mk (below_step (by repeat (first | (with_reducible first | exact HB.out | apply below_alloc | apply pw_below_drewN | apply below_drew1) | exact HB.out)) hb); clear HB; have HB := n0_; clear n0_; (try clear hb); (try clear hb2); (try clear hk); (try clear hi)) | (go_at_call 10; (with_reducible refine (glyphcutterlaw05_of.calls k (⟨#[108, 111, 119, 101, 114]⟩ : ByteArray) a0 false _ A6.out).mono ?_); rintro e w32 ⟨rfl, hb⟩; have n0_ := Aside0.mk (below_step (by repeat (first | (with_reducible first | exact HB.out | apply below_alloc | apply pw_below_drewN | apply below_drew1) | exact HB.out)) hb); clear HB; have HB := n0_; clear n0_; (try clear hb); (try clear hb2); (try clear hk); (try clear hi)) | (go_at_call 10; (with_reducible refine (glyphcutterlaw05_of.calls k (⟨#[108, 101, 116, 116, 101, 114]⟩ : ByteArray) a0 true _ A11.out).mono ?_); rintro e w33 ⟨rfl, hb⟩; have n0_ := Aside0.mk (below_step (by repeat (first | (with_reducible first | exact HB.out | apply below_alloc | apply pw_below_drewN | apply below_drew1) | exact HB.out)) hb); clear HB; have HB := n0_; clear n0_; (try clear hb); (try clear hb2); (try clear hk); (try clear hi)) | (go_at_call 10; (with_reducible refine (glyphcutterlaw05_of.calls k (⟨#[100, 105, 103, 105, 116]⟩ : ByteArray) a0 false _ A13.out).mono ?_); rintro e w34 ⟨rfl, hb⟩; have n0_ := Aside0.mk (below_step (by repeat (first | (with_reducible first | exact HB.out | apply below_alloc | apply pw_below_drewN | apply below_drew1) | exact HB.out)) hb); clear HB; have HB := n0_; clear n0_; (try clear hb); (try clear hb2); (try clear hk); (try clear hi)) | (go_at_call 10; (with_reducible refine (glyphcutterlaw05_of.calls k (⟨#[119, 111, 114, 100]⟩ : ByteArray) a0 false _ A20.out).mono ?_); rintro e w35 ⟨rfl, hb⟩; have n0_ := Aside0.mk (below_step (by repeat (first | (with_reducible first | exact HB.out | apply below_alloc | apply pw_below_drewN | apply below_drew1) | exact HB.out)) hb); clear HB; have HB := n0_; clear n0_; (try clear hb); (try clear hb2); (try clear hk); (try clear hi)))
              go_ret
              exact ⟨by first | rfl | (simp [errW_none, errW_some] <;> rfl) | (simp [*, errW_none, errW_some] <;> rfl), by repeat (first | (with_reducible first | exact HB.out | apply below_alloc | apply pw_below_drewN | apply below_drew1) | exact HB.out)⟩
        · replace c12 := Bool.eq_false_iff.mpr c12
          subst c12
          have H1 : ((glyphcutterlaw05_of.f k (⟨#[119, 111, 114, 100]⟩ : ByteArray) a0).bind fun t143 => (if t143 = true then ((glyphcutterlaw05_of.f k (⟨#[98, 108, 97, 110, 107]⟩ : ByteArray) a0).bind fun t144 => (some (!t144))) else (some (!false)))) = some r := by rw [if_neg (show ¬ (false = true) by decide)] at H; exact H
          clear H
          have H := H1
          clear H1
          replace H := Option.bind_eq_some_iff.mp H
          obtain ⟨t143, A360, H⟩ := H
          replace H : (if t143 = true then ((glyphcutterlaw05_of.f k (⟨#[98, 108, 97, 110, 107]⟩ : ByteArray) a0).bind fun t144 => (some (!t144))) else (some (!false))) = some r := H
          have A36 := Aside0.mk A360
          clear A360
          by_cases c37 : t143 = true
          · subst c37
            have H1 : ((glyphcutterlaw05_of.f k (⟨#[98, 108, 97, 110, 107]⟩ : ByteArray) a0).bind fun t144 => (some (!t144))) = some r := by rw [if_pos rfl] at H; exact H
            clear H
            have H := H1
            clear H1
            replace H := Option.bind_eq_some_iff.mp H
            obtain ⟨t144, A380, H⟩ := H
            replace H : (some (!t144)) = some r := H
            have A38 := Aside0.mk A380
            clear A380
            obtain rfl := Option.some.inj H
            go_enter Try.func3, Try.ntmps3
            go_wp2_with (first | ((with_reducible refine gate_callee (f := 9) rfl ?_); refine goesL_ (some 3) rfl rfl Try.func9 (by kernel_rfl) rfl #[] rfl (by (try simp only [List.map_toArray, List.map_cons, List.map_nil]); first | done | rfl | (simp only [List.length_drop, List.length_take]; rfl)) ?_; (with_reducible refine (glyphcutterlaw05_known.calls k  true _ A2.out).mono ?_); rintro e w39 ⟨rfl, hb⟩; refine ⟨_, rfl, ?_⟩; have n0_ := Aside0.mk (below_step (by repeat (first | (with_reducible first | exact HB.out | apply below_alloc | apply pw_below_drewN | apply below_drew1) | exact HB.out)) hb); clear HB; have HB := n0_; clear n0_; (try clear hb); (try clear hb2); (try clear hk); (try clear hi)) | (go_at_call 10; (with_reducible refine (glyphcutterlaw05_of.calls k (⟨#[117, 112, 112, 101, 114]⟩ : ByteArray) a0 true _ A4.out).mono ?_); rintro e w40 ⟨rfl, hb⟩; have n0_ := Aside0.mk (below_step (by repeat (first | (with_reducible first | exact HB.out | apply below_alloc | apply pw_below_drewN | apply below_drew1) | exact HB.out)) hb); clear HB; have HB := n0_; clear n0_; (try clear hb); (try clear hb2); (try clear hk); (try clear hi)) | (go_at_call 10; (with_reducible refine (glyphcutterlaw05_of.calls k (⟨#[108, 111, 119, 101, 114]⟩ : ByteArray) a0 false _ A6.out).mono ?_); rintro e w41 ⟨rfl, hb⟩; have n0_ := Aside0.mk (below_step (by repeat (first | (with_reducible first | exact HB.out | apply below_alloc | apply pw_below_drewN | apply below_drew1) | exact HB.out)) hb); clear HB; have HB := n0_; clear n0_; (try clear hb); (try clear hb2); (try clear hk); (try clear hi)) | (go_at_call 10; (with_reducible refine (glyphcutterlaw05_of.calls k (⟨#[108, 101, 116, 116, 101, 114]⟩ : ByteArray) a0 false _ A11.out).mono ?_); rintro e w42 ⟨rfl, hb⟩; have n0_ := Aside0.mk (below_step (by repeat (first | (with_reducible first | exact HB.out | apply below_alloc | apply pw_below_drewN | apply below_drew1) | exact HB.out)) hb); clear HB; have HB := n0_; clear n0_; (try clear hb); (try clear hb2); (try clear hk); (try clear hi)) | (go_at_call 10; (with_reducible refine (glyphcutterlaw05_of.calls k (⟨#[119, 111, 114, 100]⟩ : ByteArray) a0 true _ A36.out).mono ?_); rintro e w43 ⟨rfl, hb⟩; have n0_ := Aside0.mk (below_step (by repeat (first | (with_reducible first | exact HB.out | apply below_alloc | apply pw_below_drewN | apply below_drew1) | exact HB.out)) hb); clear HB; have HB := n0_; clear n0_; (try clear hb); (try clear hb2); (try clear hk); (try clear hi)) | (go_at_call 10; (with_reducible refine (glyphcutterlaw05_of.calls k (⟨#[98, 108, 97, 110, 107]⟩ : ByteArray) a0 t144 _ A38.out).mono ?_); rintro e w44 ⟨rfl, hb⟩; have n0_ := Aside0.mk (below_step (by repeat (first | (with_reducible first | exact HB.out | apply below_alloc | apply pw_below_drewN | apply below_drew1) | exact HB.out)) hb); clear HB; have HB := n0_; clear n0_; (try clear hb); (try clear hb2); (try clear hk); (try clear hi)))
            go_ret
            exact ⟨by first | rfl | (simp [errW_none, errW_some] <;> rfl) | (simp [*, errW_none, errW_some] <;> rfl), by repeat (first | (with_reducible first | exact HB.out | apply below_alloc | apply pw_below_drewN | apply below_drew1) | exact HB.out)⟩
          · replace c37 := Bool.eq_false_iff.mpr c37
            subst c37
            have H1 : (some (!false)) = some r := by rw [if_neg (show ¬ (false = true) by decide)] at H; exact H
            clear H
            have H := H1
            clear H1
            obtain rfl := Option.some.inj H
            go_enter Try.func3, Try.ntmps3
            go_wp2_with (first | ((with_reducible refine gate_callee (f := 9) rfl ?_); refine goesL_ (some 3) rfl rfl Try.func9 (by kernel_rfl) rfl #[] rfl (by (try simp only [List.map_toArray, List.map_cons, List.map_nil]); first | done | rfl | (simp only [List.length_drop, List.length_take]; rfl)) ?_; (with_reducible refine (glyphcutterlaw05_known.calls k  true _ A2.out).mono ?_); rintro e w45 ⟨rfl, hb⟩; refine ⟨_, rfl, ?_⟩; have n0_ := Aside0.mk (below_step (by repeat (first | (with_reducible first | exact HB.out | apply below_alloc | apply pw_below_drewN | apply below_drew1) | exact HB.out)) hb); clear HB; have HB := n0_; clear n0_; (try clear hb); (try clear hb2); (try clear hk); (try clear hi)) | (go_at_call 10; (with_reducible refine (glyphcutterlaw05_of.calls k (⟨#[117, 112, 112, 101, 114]⟩ : ByteArray) a0 true _ A4.out).mono ?_); rintro e w46 ⟨rfl, hb⟩; have n0_ := Aside0.mk (below_step (by repeat (first | (with_reducible first | exact HB.out | apply below_alloc | apply pw_below_drewN | apply below_drew1) | exact HB.out)) hb); clear HB; have HB := n0_; clear n0_; (try clear hb); (try clear hb2); (try clear hk); (try clear hi)) | (go_at_call 10; (with_reducible refine (glyphcutterlaw05_of.calls k (⟨#[108, 111, 119, 101, 114]⟩ : ByteArray) a0 false _ A6.out).mono ?_); rintro e w47 ⟨rfl, hb⟩; have n0_ := Aside0.mk (below_step (by repeat (first | (with_reducible first | exact HB.out | apply below_alloc | apply pw_below_drewN | apply below_drew1) | exact HB.out)) hb); clear HB; have HB := n0_; clear n0_; (try clear hb); (try clear hb2); (try clear hk); (try clear hi)) | (go_at_call 10; (with_reducible refine (glyphcutterlaw05_of.calls k (⟨#[108, 101, 116, 116, 101, 114]⟩ : ByteArray) a0 false _ A11.out).mono ?_); rintro e w48 ⟨rfl, hb⟩; have n0_ := Aside0.mk (below_step (by repeat (first | (with_reducible first | exact HB.out | apply below_alloc | apply pw_below_drewN | apply below_drew1) | exact HB.out)) hb); clear HB; have HB := n0_; clear n0_; (try clear hb); (try clear hb2); (try clear hk); (try clear hi)) | (go_at_call 10; (with_reducible refine (glyphcutterlaw05_of.calls k (⟨#[119, 111, 114, 100]⟩ : ByteArray) a0 false _ A36.out).mono ?_); rintro e w49 ⟨rfl, hb⟩; have n0_ := Aside0.mk (below_step (by repeat (first | (with_reducible first | exact HB.out | apply below_alloc | apply pw_below_drewN | apply below_drew1) | exact HB.out)) hb); clear HB; have HB := n0_; clear n0_; (try clear hb); (try clear hb2); (try clear hk); (try clear hi)))
            go_ret
            exact ⟨by first | rfl | (simp [errW_none, errW_some] <;> rfl) | (simp [*, errW_none, errW_some] <;> rfl), by repeat (first | (with_reducible first | exact HB.out | apply below_alloc | apply pw_below_drewN | apply below_drew1) | exact HB.out)⟩
    · replace c5 := Bool.eq_false_iff.mpr c5
      subst c5
      have H1 : ((glyphcutterlaw05_of.f k (⟨#[108, 101, 116, 116, 101, 114]⟩ : ByteArray) a0).bind fun t145 => (if t145 = true then ((glyphcutterlaw05_of.f k (⟨#[100, 105, 103, 105, 116]⟩ : ByteArray) a0).bind fun t146 => (if t146 = true then (some false) else ((glyphcutterlaw05_of.f k (⟨#[119, 111, 114, 100]⟩ : ByteArray) a0).bind fun t147 => (if t147 = true then ((glyphcutterlaw05_of.f k (⟨#[98, 108, 97, 110, 107]⟩ : ByteArray) a0).bind fun t148 => (some (!t148))) else (some (!false)))))) else ((glyphcutterlaw05_of.f k (⟨#[119, 111, 114, 100]⟩ : ByteArray) a0).bind fun t149 => (if t149 = true then ((glyphcutterlaw05_of.f k (⟨#[98, 108, 97, 110, 107]⟩ : ByteArray) a0).bind fun t150 => (some (!t150))) else (some (!false)))))) = some r := by rw [if_neg (show ¬ (false = true) by decide)] at H; exact H
      clear H
      have H := H1
      clear H1
      replace H := Option.bind_eq_some_iff.mp H
      obtain ⟨t145, A500, H⟩ := H
      replace H : (if t145 = true then ((glyphcutterlaw05_of.f k (⟨#[100, 105, 103, 105, 116]⟩ : ByteArray) a0).bind fun t146 => (if t146 = true then (some false) else ((glyphcutterlaw05_of.f k (⟨#[119, 111, 114, 100]⟩ : ByteArray) a0).bind fun t147 => (if t147 = true then ((glyphcutterlaw05_of.f k (⟨#[98, 108, 97, 110, 107]⟩ : ByteArray) a0).bind fun t148 => (some (!t148))) else (some (!false)))))) else ((glyphcutterlaw05_of.f k (⟨#[119, 111, 114, 100]⟩ : ByteArray) a0).bind fun t149 => (if t149 = true then ((glyphcutterlaw05_of.f k (⟨#[98, 108, 97, 110, 107]⟩ : ByteArray) a0).bind fun t150 => (some (!t150))) else (some (!false))))) = some r := H
      have A50 := Aside0.mk A500
      clear A500
      by_cases c51 : t145 = true
      · subst c51
        have H1 : ((glyphcutterlaw05_of.f k (⟨#[100, 105, 103, 105, 116]⟩ : ByteArray) a0).bind fun t146 => (if t146 = true then (some false) else ((glyphcutterlaw05_of.f k (⟨#[119, 111, 114, 100]⟩ : ByteArray) a0).bind fun t147 => (if t147 = true then ((glyphcutterlaw05_of.f k (⟨#[98, 108, 97, 110, 107]⟩ : ByteArray) a0).bind fun t148 => (some (!t148))) else (some (!false)))))) = some r := by rw [if_pos rfl] at H; exact H
        clear H
        have H := H1
        clear H1
        replace H := Option.bind_eq_some_iff.mp H
        obtain ⟨t146, A520, H⟩ := H
        replace H : (if t146 = true then (some false) else ((glyphcutterlaw05_of.f k (⟨#[119, 111, 114, 100]⟩ : ByteArray) a0).bind fun t147 => (if t147 = true then ((glyphcutterlaw05_of.f k (⟨#[98, 108, 97, 110, 107]⟩ : ByteArray) a0).bind fun t148 => (some (!t148))) else (some (!false))))) = some r := H
        have A52 := Aside0.mk A520
        clear A520
        by_cases c53 : t146 = true
        · subst c53
          have H1 : (some false) = some r := by rw [if_pos rfl] at H; exact H
          clear H
          have H := H1
          clear H1
          obtain rfl := Option.some.inj H
          go_enter Try.func3, Try.ntmps3
          go_wp2_with (first | ((with_reducible refine gate_callee (f := 9) rfl ?_); refine goesL_ (some 3) rfl rfl Try.func9 (by kernel_rfl) rfl #[] rfl (by (try simp only [List.map_toArray, List.map_cons, List.map_nil]); first | done | rfl | (simp only [List.length_drop, List.length_take]; rfl)) ?_; (with_reducible refine (glyphcutterlaw05_known.calls k  true _ A2.out).mono ?_); rintro e w54 ⟨rfl, hb⟩; refine ⟨_, rfl, ?_⟩; have n0_ := Aside0.mk (below_step (by repeat (first | (with_reducible first | exact HB.out | apply below_alloc | apply pw_below_drewN | apply below_drew1) | exact HB.out)) hb); clear HB; have HB := n0_; clear n0_; (try clear hb); (try clear hb2); (try clear hk); (try clear hi)) | (go_at_call 10; (with_reducible refine (glyphcutterlaw05_of.calls k (⟨#[117, 112, 112, 101, 114]⟩ : ByteArray) a0 false _ A4.out).mono ?_); rintro e w55 ⟨rfl, hb⟩; have n0_ := Aside0.mk (below_step (by repeat (first | (with_reducible first | exact HB.out | apply below_alloc | apply pw_below_drewN | apply below_drew1) | exact HB.out)) hb); clear HB; have HB := n0_; clear n0_; (try clear hb); (try clear hb2); (try clear hk); (try clear hi)) | (go_at_call 10; (with_reducible refine (glyphcutterlaw05_of.calls k (⟨#[108, 101, 116, 116, 101, 114]⟩ : ByteArray) a0 true _ A50.out).mono ?_); rintro e w56 ⟨rfl, hb⟩; have n0_ := Aside0.mk (below_step (by repeat (first | (with_reducible first | exact HB.out | apply below_alloc | apply pw_below_drewN | apply below_drew1) | exact HB.out)) hb); clear HB; have HB := n0_; clear n0_; (try clear hb); (try clear hb2); (try clear hk); (try clear hi)) | (go_at_call 10; (with_reducible refine (glyphcutterlaw05_of.calls k (⟨#[100, 105, 103, 105, 116]⟩ : ByteArray) a0 true _ A52.out).mono ?_); rintro e w57 ⟨rfl, hb⟩; have n0_ := Aside0.mk (below_step (by repeat (first | (with_reducible first | exact HB.out | apply below_alloc | apply pw_below_drewN | apply below_drew1) | exact HB.out)) hb); clear HB; have HB := n0_; clear n0_; (try clear hb); (try clear hb2); (try clear hk); (try clear hi)))
          go_ret
          exact ⟨by first | rfl | (simp [errW_none, errW_some] <;> rfl) | (simp [*, errW_none, errW_some] <;> rfl), by repeat (first | (with_reducible first | exact HB.out | apply below_alloc | apply pw_below_drewN | apply below_drew1) | exact HB.out)⟩
        · replace c53 := Bool.eq_false_iff.mpr c53
          subst c53
          have H1 : ((glyphcutterlaw05_of.f k (⟨#[119, 111, 114, 100]⟩ : ByteArray) a0).bind fun t147 => (if t147 = true then ((glyphcutterlaw05_of.f k (⟨#[98, 108, 97, 110, 107]⟩ : ByteArray) a0).bind fun t148 => (some (!t148))) else (some (!false)))) = some r := by rw [if_neg (show ¬ (false = true) by decide)] at H; exact H
          clear H
          have H := H1
          clear H1
          replace H := Option.bind_eq_some_iff.mp H
          obtain ⟨t147, A580, H⟩ := H
          replace H : (if t147 = true then ((glyphcutterlaw05_of.f k (⟨#[98, 108, 97, 110, 107]⟩ : ByteArray) a0).bind fun t148 => (some (!t148))) else (some (!false))) = some r := H
          have A58 := Aside0.mk A580
          clear A580
          by_cases c59 : t147 = true
          · subst c59
            have H1 : ((glyphcutterlaw05_of.f k (⟨#[98, 108, 97, 110, 107]⟩ : ByteArray) a0).bind fun t148 => (some (!t148))) = some r := by rw [if_pos rfl] at H; exact H
            clear H
            have H := H1
            clear H1
            replace H := Option.bind_eq_some_iff.mp H
            obtain ⟨t148, A600, H⟩ := H
            replace H : (some (!t148)) = some r := H
            have A60 := Aside0.mk A600
            clear A600
            obtain rfl := Option.some.inj H
            go_enter Try.func3, Try.ntmps3
            go_wp2_with (first | ((with_reducible refine gate_callee (f := 9) rfl ?_); refine goesL_ (some 3) rfl rfl Try.func9 (by kernel_rfl) rfl #[] rfl (by (try simp only [List.map_toArray, List.map_cons, List.map_nil]); first | done | rfl | (simp only [List.length_drop, List.length_take]; rfl)) ?_; (with_reducible refine (glyphcutterlaw05_known.calls k  true _ A2.out).mono ?_); rintro e w61 ⟨rfl, hb⟩; refine ⟨_, rfl, ?_⟩; have n0_ := Aside0.mk (below_step (by repeat (first | (with_reducible first | exact HB.out | apply below_alloc | apply pw_below_drewN | apply below_drew1) | exact HB.out)) hb); clear HB; have HB := n0_; clear n0_; (try clear hb); (try clear hb2); (try clear hk); (try clear hi)) | (go_at_call 10; (with_reducible refine (glyphcutterlaw05_of.calls k (⟨#[117, 112, 112, 101, 114]⟩ : ByteArray) a0 false _ A4.out).mono ?_); rintro e w62 ⟨rfl, hb⟩; have n0_ := Aside0.mk (below_step (by repeat (first | (with_reducible first | exact HB.out | apply below_alloc | apply pw_below_drewN | apply below_drew1) | exact HB.out)) hb); clear HB; have HB := n0_; clear n0_; (try clear hb); (try clear hb2); (try clear hk); (try clear hi)) | (go_at_call 10; (with_reducible refine (glyphcutterlaw05_of.calls k (⟨#[108, 101, 116, 116, 101, 114]⟩ : ByteArray) a0 true _ A50.out).mono ?_); rintro e w63 ⟨rfl, hb⟩; have n0_ := Aside0.mk (below_step (by repeat (first | (with_reducible first | exact HB.out | apply below_alloc | apply pw_below_drewN | apply below_drew1) | exact HB.out)) hb); clear HB; have HB := n0_; clear n0_; (try clear hb); (try clear hb2); (try clear hk); (try clear hi)) | (go_at_call 10; (with_reducible refine (glyphcutterlaw05_of.calls k (⟨#[100, 105, 103, 105, 116]⟩ : ByteArray) a0 false _ A52.out).mono ?_); rintro e w64 ⟨rfl, hb⟩; have n0_ := Aside0.mk (below_step (by repeat (first | (with_reducible first | exact HB.out | apply below_alloc | apply pw_below_drewN | apply below_drew1) | exact HB.out)) hb); clear HB; have HB := n0_; clear n0_; (try clear hb); (try clear hb2); (try clear hk); (try clear hi)) | (go_at_call 10; (with_reducible refine (glyphcutterlaw05_of.calls k (⟨#[119, 111, 114, 100]⟩ : ByteArray) a0 true _ A58.out).mono ?_); rintro e w65 ⟨rfl, hb⟩; have n0_ := Aside0.mk (below_step (by repeat (first | (with_reducible first | exact HB.out | apply below_alloc | apply pw_below_drewN | apply below_drew1) | exact HB.out)) hb); clear HB; have HB := n0_; clear n0_; (try clear hb); (try clear hb2); (try clear hk); (try clear hi)) | (go_at_call 10; (with_reducible refine (glyphcutterlaw05_of.calls k (⟨#[98, 108, 97, 110, 107]⟩ : ByteArray) a0 t148 _ A60.out).mono ?_); rintro e w66 ⟨rfl, hb⟩; have n0_ := Aside0.mk (below_step (by repeat (first | (with_reducible first | exact HB.out | apply below_alloc | apply pw_below_drewN | apply below_drew1) | exact HB.out)) hb); clear HB; have HB := n0_; clear n0_; (try clear hb); (try clear hb2); (try clear hk); (try clear hi)))
            go_ret
            exact ⟨by first | rfl | (simp [errW_none, errW_some] <;> rfl) | (simp [*, errW_none, errW_some] <;> rfl), by repeat (first | (with_reducible first | exact HB.out | apply below_alloc | apply pw_below_drewN | apply below_drew1) | exact HB.out)⟩
          · replace c59 := Bool.eq_false_iff.mpr c59
            subst c59
            have H1 : (some (!false)) = some r := by rw [if_neg (show ¬ (false = true) by decide)] at H; exact H
            clear H
            have H := H1
            clear H1
            obtain rfl := Option.some.inj H
            go_enter Try.func3, Try.ntmps3
            go_wp2_with (first | ((with_reducible refine gate_callee (f := 9) rfl ?_); refine goesL_ (some 3) rfl rfl Try.func9 (by kernel_rfl) rfl #[] rfl (by (try simp only [List.map_toArray, List.map_cons, List.map_nil]); first | done | rfl | (simp only [List.length_drop, List.length_take]; rfl)) ?_; (with_reducible refine (glyphcutterlaw05_known.calls k  true _ A2.out).mono ?_); rintro e w67 ⟨rfl, hb⟩; refine ⟨_, rfl, ?_⟩; have n0_ := Aside0.mk (below_step (by repeat (first | (with_reducible first | exact HB.out | apply below_alloc | apply pw_below_drewN | apply below_drew1) | exact HB.out)) hb); clear HB; have HB := n0_; clear n0_; (try clear hb); (try clear hb2); (try clear hk); (try clear hi)) | (go_at_call 10; (with_reducible refine (glyphcutterlaw05_of.calls k (⟨#[117, 112, 112, 101, 114]⟩ : ByteArray) a0 false _ A4.out).mono ?_); rintro e w68 ⟨rfl, hb⟩; have n0_ := Aside0.mk (below_step (by repeat (first | (with_reducible first | exact HB.out | apply below_alloc | apply pw_below_drewN | apply below_drew1) | exact HB.out)) hb); clear HB; have HB := n0_; clear n0_; (try clear hb); (try clear hb2); (try clear hk); (try clear hi)) | (go_at_call 10; (with_reducible refine (glyphcutterlaw05_of.calls k (⟨#[108, 101, 116, 116, 101, 114]⟩ : ByteArray) a0 true _ A50.out).mono ?_); rintro e w69 ⟨rfl, hb⟩; have n0_ := Aside0.mk (below_step (by repeat (first | (with_reducible first | exact HB.out | apply below_alloc | apply pw_below_drewN | apply below_drew1) | exact HB.out)) hb); clear HB; have HB := n0_; clear n0_; (try clear hb); (try clear hb2); (try clear hk); (try clear hi)) | (go_at_call 10; (with_reducible refine (glyphcutterlaw05_of.calls k (⟨#[100, 105, 103, 105, 116]⟩ : ByteArray) a0 false _ A52.out).mono ?_); rintro e w70 ⟨rfl, hb⟩; have n0_ := Aside0.mk (below_step (by repeat (first | (with_reducible first | exact HB.out | apply below_alloc | apply pw_below_drewN | apply below_drew1) | exact HB.out)) hb); clear HB; have HB := n0_; clear n0_; (try clear hb); (try clear hb2); (try clear hk); (try clear hi)) | (go_at_call 10; (with_reducible refine (glyphcutterlaw05_of.calls k (⟨#[119, 111, 114, 100]⟩ : ByteArray) a0 false _ A58.out).mono ?_); rintro e w71 ⟨rfl, hb⟩; have n0_ := Aside0.mk (below_step (by repeat (first | (with_reducible first | exact HB.out | apply below_alloc | apply pw_below_drewN | apply below_drew1) | exact HB.out)) hb); clear HB; have HB := n0_; clear n0_; (try clear hb); (try clear hb2); (try clear hk); (try clear hi)))
            go_ret
            exact ⟨by first | rfl | (simp [errW_none, errW_some] <;> rfl) | (simp [*, errW_none, errW_some] <;> rfl), by repeat (first | (with_reducible first | exact HB.out | apply below_alloc | apply pw_below_drewN | apply below_drew1) | exact HB.out)⟩
      · replace c51 := Bool.eq_false_iff.mpr c51
        subst c51
        have H1 : ((glyphcutterlaw05_of.f k (⟨#[119, 111, 114, 100]⟩ : ByteArray) a0).bind fun t149 => (if t149 = true then ((glyphcutterlaw05_of.f k (⟨#[98, 108, 97, 110, 107]⟩ : ByteArray) a0).bind fun t150 => (some (!t150))) else (some (!false)))) = some r := by rw [if_neg (show ¬ (false = true) by decide)] at H; exact H
        clear H
        have H := H1
        clear H1
        replace H := Option.bind_eq_some_iff.mp H
        obtain ⟨t149, A720, H⟩ := H
        replace H : (if t149 = true then ((glyphcutterlaw05_of.f k (⟨#[98, 108, 97, 110, 107]⟩ : ByteArray) a0).bind fun t150 => (some (!t150))) else (some (!false))) = some r := H
        have A72 := Aside0.mk A720
        clear A720
        by_cases c73 : t149 = true
        · subst c73
          have H1 : ((glyphcutterlaw05_of.f k (⟨#[98, 108, 97, 110, 107]⟩ : ByteArray) a0).bind fun t150 => (some (!t150))) = some r := by rw [if_pos rfl] at H; exact H
          clear H
          have H := H1
          clear H1
          replace H := Option.bind_eq_some_iff.mp H
          obtain ⟨t150, A740, H⟩ := H
          replace H : (some (!t150)) = some r := H
          have A74 := Aside0.mk A740
          clear A740
          obtain rfl := Option.some.inj H
          go_enter Try.func3, Try.ntmps3
          go_wp2_with (first | ((with_reducible refine gate_callee (f := 9) rfl ?_); refine goesL_ (some 3) rfl rfl Try.func9 (by kernel_rfl) rfl #[] rfl (by (try simp only [List.map_toArray, List.map_cons, List.map_nil]); first | done | rfl | (simp only [List.length_drop, List.length_take]; rfl)) ?_; (with_reducible refine (glyphcutterlaw05_known.calls k  true _ A2.out).mono ?_); rintro e w75 ⟨rfl, hb⟩; refine ⟨_, rfl, ?_⟩; have n0_ := Aside0.mk (below_step (by repeat (first | (with_reducible first | exact HB.out | apply below_alloc | apply pw_below_drewN | apply below_drew1) | exact HB.out)) hb); clear HB; have HB := n0_; clear n0_; (try clear hb); (try clear hb2); (try clear hk); (try clear hi)) | (go_at_call 10; (with_reducible refine (glyphcutterlaw05_of.calls k (⟨#[117, 112, 112, 101, 114]⟩ : ByteArray) a0 false _ A4.out).mono ?_); rintro e w76 ⟨rfl, hb⟩; have n0_ := Aside0.mk (below_step (by repeat (first | (with_reducible first | exact HB.out | apply below_alloc | apply pw_below_drewN | apply below_drew1) | exact HB.out)) hb); clear HB; have HB := n0_; clear n0_; (try clear hb); (try clear hb2); (try clear hk); (try clear hi)) | (go_at_call 10; (with_reducible refine (glyphcutterlaw05_of.calls k (⟨#[108, 101, 116, 116, 101, 114]⟩ : ByteArray) a0 false _ A50.out).mono ?_); rintro e w77 ⟨rfl, hb⟩; have n0_ := Aside0.mk (below_step (by repeat (first | (with_reducible first | exact HB.out | apply below_alloc | apply pw_below_drewN | apply below_drew1) | exact HB.out)) hb); clear HB; have HB := n0_; clear n0_; (try clear hb); (try clear hb2); (try clear hk); (try clear hi)) | (go_at_call 10; (with_reducible refine (glyphcutterlaw05_of.calls k (⟨#[119, 111, 114, 100]⟩ : ByteArray) a0 true _ A72.out).mono ?_); rintro e w78 ⟨rfl, hb⟩; have n0_ := Aside0.mk (below_step (by repeat (first | (with_reducible first | exact HB.out | apply below_alloc | apply pw_below_drewN | apply below_drew1) | exact HB.out)) hb); clear HB; have HB := n0_; clear n0_; (try clear hb); (try clear hb2); (try clear hk); (try clear hi)) | (go_at_call 10; (with_reducible refine (glyphcutterlaw05_of.calls k (⟨#[98, 108, 97, 110, 107]⟩ : ByteArray) a0 t150 _ A74.out).mono ?_); rintro e w79 ⟨rfl, hb⟩; have n0_ := Aside0.mk (below_step (by repeat (first | (with_reducible first | exact HB.out | apply below_alloc | apply pw_below_drewN | apply below_drew1) | exact HB.out)) hb); clear HB; have HB := n0_; clear n0_; (try clear hb); (try clear hb2); (try clear hk); (try clear hi)))
          go_ret
          exact ⟨by first | rfl | (simp [errW_none, errW_some] <;> rfl) | (simp [*, errW_none, errW_some] <;> rfl), by repeat (first | (with_reducible first | exact HB.out | apply below_alloc | apply pw_below_drewN | apply below_drew1) | exact HB.out)⟩
        · replace c73 := Bool.eq_false_iff.mpr c73
          subst c73
          have H1 : (some (!false)) = some r := by rw [if_neg (show ¬ (false = true) by decide)] at H; exact H
          clear H
          have H := H1
          clear H1
          obtain rfl := Option.some.inj H
          go_enter Try.func3, Try.ntmps3
          go_wp2_with (first | ((with_reducible refine gate_callee (f := 9) rfl ?_); refine goesL_ (some 3) rfl rfl Try.func9 (by kernel_rfl) rfl #[] rfl (by (try simp only [List.map_toArray, List.map_cons, List.map_nil]); first | done | rfl | (simp only [List.length_drop, List.length_take]; rfl)) ?_; (with_reducible refine (glyphcutterlaw05_known.calls k  true _ A2.out).mono ?_); rintro e w80 ⟨rfl, hb⟩; refine ⟨_, rfl, ?_⟩; have n0_ := Aside0.mk (below_step (by repeat (first | (with_reducible first | exact HB.out | apply below_alloc | apply pw_below_drewN | apply below_drew1) | exact HB.out)) hb); clear HB; have HB := n0_; clear n0_; (try clear hb); (try clear hb2); (try clear hk); (try clear hi)) | (go_at_call 10; (with_reducible refine (glyphcutterlaw05_of.calls k (⟨#[117, 112, 112, 101, 114]⟩ : ByteArray) a0 false _ A4.out).mono ?_); rintro e w81 ⟨rfl, hb⟩; have n0_ := Aside0.mk (below_step (by repeat (first | (with_reducible first | exact HB.out | apply below_alloc | apply pw_below_drewN | apply below_drew1) | exact HB.out)) hb); clear HB; have HB := n0_; clear n0_; (try clear hb); (try clear hb2); (try clear hk); (try clear hi)) | (go_at_call 10; (with_reducible refine (glyphcutterlaw05_of.calls k (⟨#[108, 101, 116, 116, 101, 114]⟩ : ByteArray) a0 false _ A50.out).mono ?_); rintro e w82 ⟨rfl, hb⟩; have n0_ := Aside0.mk (below_step (by repeat (first | (with_reducible first | exact HB.out | apply below_alloc | apply pw_below_drewN | apply below_drew1) | exact HB.out)) hb); clear HB; have HB := n0_; clear n0_; (try clear hb); (try clear hb2); (try clear hk); (try clear hi)) | (go_at_call 10; (with_reducible refine (glyphcutterlaw05_of.calls k (⟨#[119, 111, 114, 100]⟩ : ByteArray) a0 false _ A72.out).mono ?_); rintro e w83 ⟨rfl, hb⟩; have n0_ := Aside0.mk (below_step (by repeat (first | (with_reducible first | exact HB.out | apply below_alloc | apply pw_below_drewN | apply below_drew1) | exact HB.out)) hb); clear HB; have HB := n0_; clear n0_; (try clear hb); (try clear hb2); (try clear hk); (try clear hi)))
          go_ret
          exact ⟨by first | rfl | (simp [errW_none, errW_some] <;> rfl) | (simp [*, errW_none, errW_some] <;> rfl), by repeat (first | (with_reducible first | exact HB.out | apply below_alloc | apply pw_below_drewN | apply below_drew1) | exact HB.out)⟩
  · replace c3 := Bool.eq_false_iff.mpr c3
    subst c3
    have H1 : (some false) = some r := by rw [if_neg (show ¬ (false = true) by decide)] at H; exact H
    clear H
    have H := H1
    clear H1
    obtain rfl := Option.some.inj H
    go_enter Try.func3, Try.ntmps3
    go_wp2_with (first | ((with_reducible refine gate_callee (f := 9) rfl ?_); refine goesL_ (some 3) rfl rfl Try.func9 (by kernel_rfl) rfl #[] rfl (by (try simp only [List.map_toArray, List.map_cons, List.map_nil]); first | done | rfl | (simp only [List.length_drop, List.length_take]; rfl)) ?_; (with_reducible refine (glyphcutterlaw05_known.calls k  false _ A2.out).mono ?_); rintro e w84 ⟨rfl, hb⟩; refine ⟨_, rfl, ?_⟩; have n0_ := Aside0.mk (below_step (by repeat (first | (with_reducible first | exact HB.out | apply below_alloc | apply pw_below_drewN | apply below_drew1) | exact HB.out)) hb); clear HB; have HB := n0_; clear n0_; (try clear hb); (try clear hb2); (try clear hk); (try clear hi)))
    go_ret
    exact ⟨by first | rfl | (simp [errW_none, errW_some] <;> rfl) | (simp [*, errW_none, errW_some] <;> rfl), by repeat (first | (with_reducible first | exact HB.out | apply below_alloc | apply pw_below_drewN | apply below_drew1) | exact HB.out)⟩

end Go.Proofs.Ytpcljaidlihafaa.P
