-- WRITTEN BY A PROGRAM (hybrid.py over the kit's print.py): Lean checks it.
import Derived.Test.YtpcljaidlihafaaPx0
import Derived.Test.YtpcljaidlihafaaPx2
import Derived.Test.YtpcljaidlihafaaPx3
namespace Go.Proofs.Ytpcljaidlihafaa.P
open Go.RowKit Go.Proofs.YtpcljaidlihafaaW.PrintWords Go.Proofs.YtpcljaidlihafaaW.PrintLast Go.Proofs.YtpcljaidlihafaaW.PrintMore
attribute [local go_sem] max2_int min2_int max_two min_two max_three min_three max_four min_four   -- for this text's walks alone
set_option linter.unusedVariables false
set_option linter.unusedSimpArgs false

/-! ### glyphcutterref01_Make: function 28 -/
mutual
def glyphcutterref01_Make.l0 : Nat → List (S39) → List (S39) → Int → List Int → List Int → Int → Option ((List (S39)))
  | 0, _, _, _, _, _, _ => none
  | k + 1, x0, x1, x2, x7, x8, x9 => if x9 < (x8.length : Int) then (if 0 ≤ x9 then ((glyphcutterref01_lay.f k x7 (rd x8 x9)).bind fun t206 => (glyphcutterref01_Make.l0 k x0 x1 x2 t206 x8 (wrap64 (x9 + 1)))) else (none)) else (glyphcutterref01_Make.l1 k x0 x1 x2 x7 ([] : List (S39)) 0)
def glyphcutterref01_Make.l1 : Nat → List (S39) → List (S39) → Int → List Int → List (S39) → Int → Option ((List (S39)))
  | 0, _, _, _, _, _, _ => none
  | k + 1, x0, x1, x2, x7, x10, x11 => if x11 < (x7.length : Int) then (if (wrap64 (x11 + 1)) < (x7.length : Int) then (if 0 ≤ (wrap64 (x11 + 1)) then (glyphcutterref01_Make.j2 k x0 x1 x2 x7 x10 x11 (wrap64 ((rd x7 (wrap64 (x11 + 1))) - 1))) else (none)) else (glyphcutterref01_Make.j2 k x0 x1 x2 x7 x10 x11 1114111)) else (some x10)
def glyphcutterref01_Make.j2 : Nat → List (S39) → List (S39) → Int → List Int → List (S39) → Int → Int → Option ((List (S39)))
  | 0, _, _, _, _, _, _, _ => none
  | k + 1, x0, x1, x2, x7, x10, x11, x12 => if 0 ≤ x11 then (if x11 < (x7.length : Int) then (if (rd x7 x11) < 55296 then (glyphcutterref01_Make.j3 k x0 x1 x2 x7 x10 x11 (mn x12 55295)) else (glyphcutterref01_Make.j3 k x0 x1 x2 x7 x10 x11 x12)) else (none)) else (none)
def glyphcutterref01_Make.j3 : Nat → List (S39) → List (S39) → Int → List Int → List (S39) → Int → Int → Option ((List (S39)))
  | 0, _, _, _, _, _, _, _ => none
  | k + 1, x0, x1, x2, x7, x10, x11, x12 => if 0 ≤ x11 then (if x11 < (x7.length : Int) then ((glyphcutterref01_Has.f k x0 (rd x7 x11)).bind fun t212 => (if t212 = true then (glyphcutterref01_Make.j4 k x0 x1 x2 x7 x10 x11 x12 (0 + 1)) else (glyphcutterref01_Make.j4 k x0 x1 x2 x7 x10 x11 x12 0))) else (none)) else (none)
def glyphcutterref01_Make.j4 : Nat → List (S39) → List (S39) → Int → List Int → List (S39) → Int → Int → Int → Option ((List (S39)))
  | 0, _, _, _, _, _, _, _, _ => none
  | k + 1, x0, x1, x2, x7, x10, x11, x12, x13 => if 0 ≤ x11 then (if x11 < (x7.length : Int) then ((glyphcutterref01_Has.f k x1 (rd x7 x11)).bind fun t214 => (if t214 = true then (glyphcutterref01_Make.j5 k x0 x1 x2 x7 x10 x11 x12 (wrap64 (x13 + 2))) else (glyphcutterref01_Make.j5 k x0 x1 x2 x7 x10 x11 x12 x13))) else (none)) else (none)
def glyphcutterref01_Make.j5 : Nat → List (S39) → List (S39) → Int → List Int → List (S39) → Int → Int → Int → Option ((List (S39)))
  | 0, _, _, _, _, _, _, _, _ => none
  | k + 1, x0, x1, x2, x7, x10, x11, x12, x13 => (some (([Int.tmod x2 2, Int.tmod (wrap64 (Int.tdiv x2 2)) 2, Int.tmod (wrap64 (Int.tdiv x2 4)) 2, Int.tmod (wrap64 (Int.tdiv x2 8)) 2] : List Int) : List Int)).bind fun y215 => (if 0 ≤ x13 then (if x13 < (y215.length : Int) then (if (rd y215 x13) = 0 then (glyphcutterref01_Make.l1 k x0 x1 x2 x7 x10 (wrap64 (x11 + 1))) else (if (x10.length : Int) > 0 then (if 0 ≤ (wrap64 ((x10.length : Int) - 1)) then (if (wrap64 ((x10.length : Int) - 1)) < (x10.length : Int) then (if 0 ≤ x11 then (if x11 < (x7.length : Int) then (if ((rd_T39 x10 (wrap64 ((x10.length : Int) - 1))).f1) = (wrap64 ((rd x7 x11) - 1)) then (glyphcutterref01_Make.l1 k x0 x1 x2 x7 (x10.set ((wrap64 ((x10.length : Int) - 1)) : Int).toNat (⟨(rd_T39 x10 (wrap64 ((x10.length : Int) - 1))).f0, x12⟩ : S39)) (wrap64 (x11 + 1))) else (if x10.length < 8796093022208 then (glyphcutterref01_Make.l1 k x0 x1 x2 x7 (x10 ++ [(⟨rd x7 x11, x12⟩ : S39)]) (wrap64 (x11 + 1))) else (none))) else (none)) else (none)) else (none)) else (none)) else (if 0 ≤ x11 then (if x11 < (x7.length : Int) then (if x10.length < 8796093022208 then (glyphcutterref01_Make.l1 k x0 x1 x2 x7 (x10 ++ [(⟨rd x7 x11, x12⟩ : S39)]) (wrap64 (x11 + 1))) else (none)) else (none)) else (none)))) else (none)) else (none))
end
def glyphcutterref01_Make.f (k : Nat) (l0 : List (S39)) (l1 : List (S39)) (a2 : Int) : Option ((List (S39))) := (glyphcutterref01_edges.f k l0).bind fun t199 => ((glyphcutterref01_edges.f k l1).bind fun t202 => (glyphcutterref01_Make.l0 k l0 l1 a2 t199 t202 0))
theorem glyphcutterref01_Make.mono_l : ∀ k, (∀ y0 y1 y2 y3 y4 y5, LeO (glyphcutterref01_Make.l0 k y0 y1 y2 y3 y4 y5) (glyphcutterref01_Make.l0 (k + 1) y0 y1 y2 y3 y4 y5)) ∧ (∀ y0 y1 y2 y3 y4 y5, LeO (glyphcutterref01_Make.l1 k y0 y1 y2 y3 y4 y5) (glyphcutterref01_Make.l1 (k + 1) y0 y1 y2 y3 y4 y5)) ∧ (∀ y0 y1 y2 y3 y4 y5 y6, LeO (glyphcutterref01_Make.j2 k y0 y1 y2 y3 y4 y5 y6) (glyphcutterref01_Make.j2 (k + 1) y0 y1 y2 y3 y4 y5 y6)) ∧ (∀ y0 y1 y2 y3 y4 y5 y6, LeO (glyphcutterref01_Make.j3 k y0 y1 y2 y3 y4 y5 y6) (glyphcutterref01_Make.j3 (k + 1) y0 y1 y2 y3 y4 y5 y6)) ∧ (∀ y0 y1 y2 y3 y4 y5 y6 y7, LeO (glyphcutterref01_Make.j4 k y0 y1 y2 y3 y4 y5 y6 y7) (glyphcutterref01_Make.j4 (k + 1) y0 y1 y2 y3 y4 y5 y6 y7)) ∧ (∀ y0 y1 y2 y3 y4 y5 y6 y7, LeO (glyphcutterref01_Make.j5 k y0 y1 y2 y3 y4 y5 y6 y7) (glyphcutterref01_Make.j5 (k + 1) y0 y1 y2 y3 y4 y5 y6 y7))
  | 0 => ⟨fun _ _ _ _ _ _ r h => by simp [glyphcutterref01_Make.l0] at h, fun _ _ _ _ _ _ r h => by simp [glyphcutterref01_Make.l1] at h, fun _ _ _ _ _ _ _ r h => by simp [glyphcutterref01_Make.j2] at h, fun _ _ _ _ _ _ _ r h => by simp [glyphcutterref01_Make.j3] at h, fun _ _ _ _ _ _ _ _ r h => by simp [glyphcutterref01_Make.j4] at h, fun _ _ _ _ _ _ _ _ r h => by simp [glyphcutterref01_Make.j5] at h⟩
  | k + 1 => by
    obtain ⟨ih0, ih1, ih2, ih3, ih4, ih5⟩ := glyphcutterref01_Make.mono_l k
    refine ⟨?_, ?_, ?_, ?_, ?_, ?_⟩
    · intro y0 y1 y2 y3 y4 y5
      unfold glyphcutterref01_Make.l0
      repeat' first
      | (with_reducible exact ih0 _ _ _ _ _ _)
      | (with_reducible exact ih1 _ _ _ _ _ _)
      | (with_reducible exact ih2 _ _ _ _ _ _ _)
      | (with_reducible exact ih3 _ _ _ _ _ _ _)
      | (with_reducible exact ih4 _ _ _ _ _ _ _ _)
      | (with_reducible exact ih5 _ _ _ _ _ _ _ _)
      | (with_reducible exact glyphcutterref01_Has.mono _ _ _)
      | (with_reducible exact glyphcutterref01_edges.mono _ _)
      | (with_reducible exact glyphcutterref01_lay.mono _ _ _)
      | (with_reducible exact LeO.refl _)
      | (with_reducible exact LeO.none _)
      | (with_reducible refine LeO.ite ?_ ?_)
      | (with_reducible refine LeO.bind ?_ (fun _ => ?_))
      | exact ih0 _ _ _ _ _ _
      | exact ih1 _ _ _ _ _ _
      | exact ih2 _ _ _ _ _ _ _
      | exact ih3 _ _ _ _ _ _ _
      | exact ih4 _ _ _ _ _ _ _ _
      | exact ih5 _ _ _ _ _ _ _ _
      | exact glyphcutterref01_Has.mono _ _ _
      | exact glyphcutterref01_edges.mono _ _
      | exact glyphcutterref01_lay.mono _ _ _
      | exact LeO.none _
      | refine LeO.ite ?_ ?_
      | refine LeO.bind ?_ (fun _ => ?_)
    · intro y0 y1 y2 y3 y4 y5
      unfold glyphcutterref01_Make.l1
      repeat' first
      | (with_reducible exact ih0 _ _ _ _ _ _)
      | (with_reducible exact ih1 _ _ _ _ _ _)
      | (with_reducible exact ih2 _ _ _ _ _ _ _)
      | (with_reducible exact ih3 _ _ _ _ _ _ _)
      | (with_reducible exact ih4 _ _ _ _ _ _ _ _)
      | (with_reducible exact ih5 _ _ _ _ _ _ _ _)
      | (with_reducible exact glyphcutterref01_Has.mono _ _ _)
      | (with_reducible exact glyphcutterref01_edges.mono _ _)
      | (with_reducible exact glyphcutterref01_lay.mono _ _ _)
      | (with_reducible exact LeO.refl _)
      | (with_reducible exact LeO.none _)
      | (with_reducible refine LeO.ite ?_ ?_)
      | (with_reducible refine LeO.bind ?_ (fun _ => ?_))
      | exact ih0 _ _ _ _ _ _
      | exact ih1 _ _ _ _ _ _
      | exact ih2 _ _ _ _ _ _ _
      | exact ih3 _ _ _ _ _ _ _
      | exact ih4 _ _ _ _ _ _ _ _
      | exact ih5 _ _ _ _ _ _ _ _
      | exact glyphcutterref01_Has.mono _ _ _
      | exact glyphcutterref01_edges.mono _ _
      | exact glyphcutterref01_lay.mono _ _ _
      | exact LeO.none _
      | refine LeO.ite ?_ ?_
      | refine LeO.bind ?_ (fun _ => ?_)
    · intro y0 y1 y2 y3 y4 y5 y6
      unfold glyphcutterref01_Make.j2
      repeat' first
      | (with_reducible exact ih0 _ _ _ _ _ _)
      | (with_reducible exact ih1 _ _ _ _ _ _)
      | (with_reducible exact ih2 _ _ _ _ _ _ _)
      | (with_reducible exact ih3 _ _ _ _ _ _ _)
      | (with_reducible exact ih4 _ _ _ _ _ _ _ _)
      | (with_reducible exact ih5 _ _ _ _ _ _ _ _)
      | (with_reducible exact glyphcutterref01_Has.mono _ _ _)
      | (with_reducible exact glyphcutterref01_edges.mono _ _)
      | (with_reducible exact glyphcutterref01_lay.mono _ _ _)
      | (with_reducible exact LeO.refl _)
      | (with_reducible exact LeO.none _)
      | (with_reducible refine LeO.ite ?_ ?_)
      | (with_reducible refine LeO.bind ?_ (fun _ => ?_))
      | exact ih0 _ _ _ _ _ _
      | exact ih1 _ _ _ _ _ _
      | exact ih2 _ _ _ _ _ _ _
      | exact ih3 _ _ _ _ _ _ _
      | exact ih4 _ _ _ _ _ _ _ _
      | exact ih5 _ _ _ _ _ _ _ _
      | exact glyphcutterref01_Has.mono _ _ _
      | exact glyphcutterref01_edges.mono _ _
      | exact glyphcutterref01_lay.mono _ _ _
      | exact LeO.none _
      | refine LeO.ite ?_ ?_
      | refine LeO.bind ?_ (fun _ => ?_)
    · intro y0 y1 y2 y3 y4 y5 y6
      unfold glyphcutterref01_Make.j3
      repeat' first
      | (with_reducible exact ih0 _ _ _ _ _ _)
      | (with_reducible exact ih1 _ _ _ _ _ _)
      | (with_reducible exact ih2 _ _ _ _ _ _ _)
      | (with_reducible exact ih3 _ _ _ _ _ _ _)
      | (with_reducible exact ih4 _ _ _ _ _ _ _ _)
      | (with_reducible exact ih5 _ _ _ _ _ _ _ _)
      | (with_reducible exact glyphcutterref01_Has.mono _ _ _)
      | (with_reducible exact glyphcutterref01_edges.mono _ _)
      | (with_reducible exact glyphcutterref01_lay.mono _ _ _)
      | (with_reducible exact LeO.refl _)
      | (with_reducible exact LeO.none _)
      | (with_reducible refine LeO.ite ?_ ?_)
      | (with_reducible refine LeO.bind ?_ (fun _ => ?_))
      | exact ih0 _ _ _ _ _ _
      | exact ih1 _ _ _ _ _ _
      | exact ih2 _ _ _ _ _ _ _
      | exact ih3 _ _ _ _ _ _ _
      | exact ih4 _ _ _ _ _ _ _ _
      | exact ih5 _ _ _ _ _ _ _ _
      | exact glyphcutterref01_Has.mono _ _ _
      | exact glyphcutterref01_edges.mono _ _
      | exact glyphcutterref01_lay.mono _ _ _
      | exact LeO.none _
      | refine LeO.ite ?_ ?_
      | refine LeO.bind ?_ (fun _ => ?_)
    · intro y0 y1 y2 y3 y4 y5 y6 y7
      unfold glyphcutterref01_Make.j4
      repeat' first
      | (with_reducible exact ih0 _ _ _ _ _ _)
      | (with_reducible exact ih1 _ _ _ _ _ _)
      | (with_reducible exact ih2 _ _ _ _ _ _ _)
      | (with_reducible exact ih3 _ _ _ _ _ _ _)
      | (with_reducible exact ih4 _ _ _ _ _ _ _ _)
      | (with_reducible exact ih5 _ _ _ _ _ _ _ _)
      | (with_reducible exact glyphcutterref01_Has.mono _ _ _)
      | (with_reducible exact glyphcutterref01_edges.mono _ _)
      | (with_reducible exact glyphcutterref01_lay.mono _ _ _)
      | (with_reducible exact LeO.refl _)
      | (with_reducible exact LeO.none _)
      | (with_reducible refine LeO.ite ?_ ?_)
      | (with_reducible refine LeO.bind ?_ (fun _ => ?_))
      | exact ih0 _ _ _ _ _ _
      | exact ih1 _ _ _ _ _ _
      | exact ih2 _ _ _ _ _ _ _
      | exact ih3 _ _ _ _ _ _ _
      | exact ih4 _ _ _ _ _ _ _ _
      | exact ih5 _ _ _ _ _ _ _ _
      | exact glyphcutterref01_Has.mono _ _ _
      | exact glyphcutterref01_edges.mono _ _
      | exact glyphcutterref01_lay.mono _ _ _
      | exact LeO.none _
      | refine LeO.ite ?_ ?_
      | refine LeO.bind ?_ (fun _ => ?_)
    · intro y0 y1 y2 y3 y4 y5 y6 y7
      unfold glyphcutterref01_Make.j5
      repeat' first
      | (with_reducible exact ih0 _ _ _ _ _ _)
      | (with_reducible exact ih1 _ _ _ _ _ _)
      | (with_reducible exact ih2 _ _ _ _ _ _ _)
      | (with_reducible exact ih3 _ _ _ _ _ _ _)
      | (with_reducible exact ih4 _ _ _ _ _ _ _ _)
      | (with_reducible exact ih5 _ _ _ _ _ _ _ _)
      | (with_reducible exact glyphcutterref01_Has.mono _ _ _)
      | (with_reducible exact glyphcutterref01_edges.mono _ _)
      | (with_reducible exact glyphcutterref01_lay.mono _ _ _)
      | (with_reducible exact LeO.refl _)
      | (with_reducible exact LeO.none _)
      | (with_reducible refine LeO.ite ?_ ?_)
      | (with_reducible refine LeO.bind ?_ (fun _ => ?_))
      | exact ih0 _ _ _ _ _ _
      | exact ih1 _ _ _ _ _ _
      | exact ih2 _ _ _ _ _ _ _
      | exact ih3 _ _ _ _ _ _ _
      | exact ih4 _ _ _ _ _ _ _ _
      | exact ih5 _ _ _ _ _ _ _ _
      | exact glyphcutterref01_Has.mono _ _ _
      | exact glyphcutterref01_edges.mono _ _
      | exact glyphcutterref01_lay.mono _ _ _
      | exact LeO.none _
      | refine LeO.ite ?_ ?_
      | refine LeO.bind ?_ (fun _ => ?_)
theorem glyphcutterref01_Make.mono : ∀ a0 a1 a2 k, LeO (glyphcutterref01_Make.f k a0 a1 a2) (glyphcutterref01_Make.f (k + 1) a0 a1 a2) := by
  intro a0 a1 a2 k
  obtain ⟨ih0, ih1, ih2, ih3, ih4, ih5⟩ := glyphcutterref01_Make.mono_l k
  unfold glyphcutterref01_Make.f
  repeat' first
      | (with_reducible exact ih0 _ _ _ _ _ _)
      | (with_reducible exact ih1 _ _ _ _ _ _)
      | (with_reducible exact ih2 _ _ _ _ _ _ _)
      | (with_reducible exact ih3 _ _ _ _ _ _ _)
      | (with_reducible exact ih4 _ _ _ _ _ _ _ _)
      | (with_reducible exact ih5 _ _ _ _ _ _ _ _)
      | (with_reducible exact glyphcutterref01_Has.mono _ _ _)
      | (with_reducible exact glyphcutterref01_edges.mono _ _)
      | (with_reducible exact glyphcutterref01_lay.mono _ _ _)
      | (with_reducible exact LeO.refl _)
      | (with_reducible exact LeO.none _)
      | (with_reducible refine LeO.ite ?_ ?_)
      | (with_reducible refine LeO.bind ?_ (fun _ => ?_))
      | exact ih0 _ _ _ _ _ _
      | exact ih1 _ _ _ _ _ _
      | exact ih2 _ _ _ _ _ _ _
      | exact ih3 _ _ _ _ _ _ _
      | exact ih4 _ _ _ _ _ _ _ _
      | exact ih5 _ _ _ _ _ _ _ _
      | exact glyphcutterref01_Has.mono _ _ _
      | exact glyphcutterref01_edges.mono _ _
      | exact glyphcutterref01_lay.mono _ _ _
      | exact LeO.none _
      | refine LeO.ite ?_ ?_
      | refine LeO.bind ?_ (fun _ => ?_)
set_option maxHeartbeats 8000000 in
set_option maxRecDepth 100000 in
theorem glyphcutterref01_Make.calls (k : Nat) (A0 : Option Addr) (c0 : Nat) (l0 : List (S39)) (A1 : Option Addr) (c1 : Nat) (l1 : List (S39)) (a2 : Int) (r : List (S39)) (w : World) (hr0 : Kd.C k39 w A0 l0.length l0) (hc0 : l0.length ≤ c0) (hr1 : Kd.C k39 w A1 l1.length l1) (hc1 : l1.length ≤ c1) (h : glyphcutterref01_Make.f k l0 l1 a2 = some r) :
    Calls Try.prog 28 #[.slice A0 l0.length c0, .slice A1 l1.length c1, .int .i64 a2] w fun e w' => ∃ v0_ : Value, e = .returned (v0_) ∧ Kd.R k39 39 w' w.heap.size (fun _ => True) v0_ r ∧ Below w.heap.size w w' := by
  have hu39 := Try.underlying39
  have HR0 := Aside0.mk hr0
  have HC0 := Aside0.mk hc0
  clear hr0 hc0
  have HR1 := Aside0.mk hr1
  have HC1 := Aside0.mk hc1
  clear hr1 hc1
  have HB := Aside0.mk (Below.refl w.heap.size w)
  have H : ((glyphcutterref01_edges.f k l0).bind fun t199 => ((glyphcutterref01_edges.f k l1).bind fun t202 => (glyphcutterref01_Make.l0 k l0 l1 a2 t199 t202 0))) = some r := h
  clear h
  replace H := Option.bind_eq_some_iff.mp H
  obtain ⟨t199, A40, H⟩ := H
  replace H : ((glyphcutterref01_edges.f k l1).bind fun t202 => (glyphcutterref01_Make.l0 k l0 l1 a2 t199 t202 0)) = some r := H
  have A4 := Aside0.mk A40
  clear A40
  replace H := Option.bind_eq_some_iff.mp H
  obtain ⟨t202, A50, H⟩ := H
  replace H : (glyphcutterref01_Make.l0 k l0 l1 a2 t199 t202 0) = some r := H
  have A5 := Aside0.mk A50
  clear A50
  have H' := Aside0.mk H
  clear H
  go_enter Try.func28, Try.ntmps28
  go_wp2_with (first | (go_at_call 45; (with_reducible refine (glyphcutterref01_edges.calls k _ _ l0 t199 _ ?side1 ?side2 A4.out).mono ?_); (case side1 => repeat (first | exact HR0.out | (with_reducible refine Kd.C_alloc ?_ _) | (with_reducible refine Kd.C_drewN ?_ _) | (with_reducible refine Kd.C_drew ?_))); (case side2 => exact HC0.out); rintro e w6 ⟨v200, rfl, ho0, hb⟩; have n0_ := Aside0.mk (Kd.R_lower ho0 (below_size (by repeat (first | (with_reducible first | exact HB.out | apply below_alloc | apply pw_below_drewN | apply below_drew1) | exact HB.out)))); have n1_ := Aside0.mk (below_step (by repeat (first | (with_reducible first | exact HB.out | apply below_alloc | apply pw_below_drewN | apply below_drew1) | exact HB.out)) hb); clear HB; have HO201 := n0_; have HB := n1_; clear n0_ n1_; (try clear hb); (try clear hb2); (try clear hk); (try clear hi); (try clear ho0)) | (go_at_call 45; (with_reducible refine (glyphcutterref01_edges.calls k _ _ l1 t202 _ ?side1 ?side2 A5.out).mono ?_); (case side1 => repeat (first | exact (Kd.C_below HR1.out HB.out) | (with_reducible refine Kd.C_alloc ?_ _) | (with_reducible refine Kd.C_drewN ?_ _) | (with_reducible refine Kd.C_drew ?_))); (case side2 => exact HC1.out); rintro e w7 ⟨v203, rfl, ho0, hb⟩; have n0_ := Aside0.mk (Kd.R_elder' (by (with_reducible repeat (first | apply Kd.R_alloc | apply Kd.R_drewN | apply Kd.R_drew)); exact HO201.out) (Kd.R_base ho0) hb); have n1_ := Aside0.mk (Kd.R_lower (Kd.R_new' ho0 (Kd.R_lt (by (with_reducible repeat (first | apply Kd.R_alloc | apply Kd.R_drewN | apply Kd.R_drew)); exact HO201.out))) (below_size (by repeat (first | (with_reducible first | exact HB.out | apply below_alloc | apply pw_below_drewN | apply below_drew1) | exact HB.out)))); have n2_ := Aside0.mk (below_step (by repeat (first | (with_reducible first | exact HB.out | apply below_alloc | apply pw_below_drewN | apply below_drew1) | exact HB.out)) hb); clear HO201; clear HB; have HO201 := n0_; have HO204 := n1_; have HB := n2_; clear n0_ n1_ n2_; (try clear hb); (try clear hb2); (try clear hk); (try clear hi); (try clear ho0)))
  repeat (go_quiet (first | (go_at_call 45; (with_reducible refine (glyphcutterref01_edges.calls k _ _ l0 t199 _ ?side1 ?side2 A4.out).mono ?_); (case side1 => repeat (first | exact HR0.out | (with_reducible refine Kd.C_alloc ?_ _) | (with_reducible refine Kd.C_drewN ?_ _) | (with_reducible refine Kd.C_drew ?_))); (case side2 => exact HC0.out); rintro e w6 ⟨v200, rfl, ho0, hb⟩; have n0_ := Aside0.mk (Kd.R_lower ho0 (below_size (by repeat (first | (with_reducible first | exact HB.out | apply below_alloc | apply pw_below_drewN | apply below_drew1) | exact HB.out)))); have n1_ := Aside0.mk (below_step (by repeat (first | (with_reducible first | exact HB.out | apply below_alloc | apply pw_below_drewN | apply below_drew1) | exact HB.out)) hb); clear HB; have HO201 := n0_; have HB := n1_; clear n0_ n1_; (try clear hb); (try clear hb2); (try clear hk); (try clear hi); (try clear ho0)) | (go_at_call 45; (with_reducible refine (glyphcutterref01_edges.calls k _ _ l1 t202 _ ?side1 ?side2 A5.out).mono ?_); (case side1 => repeat (first | exact (Kd.C_below HR1.out HB.out) | (with_reducible refine Kd.C_alloc ?_ _) | (with_reducible refine Kd.C_drewN ?_ _) | (with_reducible refine Kd.C_drew ?_))); (case side2 => exact HC1.out); rintro e w7 ⟨v203, rfl, ho0, hb⟩; have n0_ := Aside0.mk (Kd.R_elder' (by (with_reducible repeat (first | apply Kd.R_alloc | apply Kd.R_drewN | apply Kd.R_drew)); exact HO201.out) (Kd.R_base ho0) hb); have n1_ := Aside0.mk (Kd.R_lower (Kd.R_new' ho0 (Kd.R_lt (by (with_reducible repeat (first | apply Kd.R_alloc | apply Kd.R_drewN | apply Kd.R_drew)); exact HO201.out))) (below_size (by repeat (first | (with_reducible first | exact HB.out | apply below_alloc | apply pw_below_drewN | apply below_drew1) | exact HB.out)))); have n2_ := Aside0.mk (below_step (by repeat (first | (with_reducible first | exact HB.out | apply below_alloc | apply pw_below_drewN | apply below_drew1) | exact HB.out)) hb); clear HO201; clear HB; have HO201 := n0_; have HO204 := n1_; have HB := n2_; clear n0_ n1_ n2_; (try clear hb); (try clear hb2); (try clear hk); (try clear hi); (try clear ho0))); try go_wp2_with (first | (go_at_call 45; (with_reducible refine (glyphcutterref01_edges.calls k _ _ l0 t199 _ ?side1 ?side2 A4.out).mono ?_); (case side1 => repeat (first | exact HR0.out | (with_reducible refine Kd.C_alloc ?_ _) | (with_reducible refine Kd.C_drewN ?_ _) | (with_reducible refine Kd.C_drew ?_))); (case side2 => exact HC0.out); rintro e w6 ⟨v200, rfl, ho0, hb⟩; have n0_ := Aside0.mk (Kd.R_lower ho0 (below_size (by repeat (first | (with_reducible first | exact HB.out | apply below_alloc | apply pw_below_drewN | apply below_drew1) | exact HB.out)))); have n1_ := Aside0.mk (below_step (by repeat (first | (with_reducible first | exact HB.out | apply below_alloc | apply pw_below_drewN | apply below_drew1) | exact HB.out)) hb); clear HB; have HO201 := n0_; have HB := n1_; clear n0_ n1_; (try clear hb); (try clear hb2); (try clear hk); (try clear hi); (try clear ho0)) | (go_at_call 45; (with_reducible refine (glyphcutterref01_edges.calls k _ _ l1 t202 _ ?side1 ?side2 A5.out).mono ?_); (case side1 => repeat (first | exact (Kd.C_below HR1.out HB.out) | (with_reducible refine Kd.C_alloc ?_ _) | (with_reducible refine Kd.C_drewN ?_ _) | (with_reducible refine Kd.C_drew ?_))); (case side2 => exact HC1.out); rintro e w7 ⟨v203, rfl, ho0, hb⟩; have n0_ := Aside0.mk (Kd.R_elder' (by (with_reducible repeat (first | apply Kd.R_alloc | apply Kd.R_drewN | apply Kd.R_drew)); exact HO201.out) (Kd.R_base ho0) hb); have n1_ := Aside0.mk (Kd.R_lower (Kd.R_new' ho0 (Kd.R_lt (by (with_reducible repeat (first | apply Kd.R_alloc | apply Kd.R_drewN | apply Kd.R_drew)); exact HO201.out))) (below_size (by repeat (first | (with_reducible first | exact HB.out | apply below_alloc | apply pw_below_drewN | apply below_drew1) | exact HB.out)))); have n2_ := Aside0.mk (below_step (by repeat (first | (with_reducible first | exact HB.out | apply below_alloc | apply pw_below_drewN | apply below_drew1) | exact HB.out)) hb); clear HO201; clear HB; have HO201 := n0_; have HO204 := n1_; have HB := n2_; clear n0_ n1_ n2_; (try clear hb); (try clear hb2); (try clear hk); (try clear hi); (try clear ho0))))
  go_loopg [7, 9] k (fun kq v7 v9 w' => ∃ (x7_1 : List Int) (x9_1 : Int), v9 = .int .i64 x9_1 ∧ Aside0 (glyphcutterref01_Make.l0 kq l0 l1 a2 x7_1 t202 x9_1 = some r) ∧ Aside0 (kq ≤ k) ∧ Aside0 (Kd.R (Kd.int .i64) 3 w' w.heap.size (fun k_ => some k_ ≠ (v203 : Value).ownBlock) v7 x7_1) ∧ Aside0 (Kd.R (Kd.int .i64) 3 w' w.heap.size (fun k_ => some k_ ≠ (v7 : Value).ownBlock) v203 t202) ∧ Aside0 (Below w.heap.size w w'))
  case atStart => exact ⟨(t199), (0), (by first | rfl | (simp; done) | (simp [*]; done)), H', ⟨Nat.le_refl _⟩, ⟨by (with_reducible repeat (first | apply Kd.R_alloc | apply Kd.R_drewN | apply Kd.R_drew)); exact Kd.R_mono HO201.out (fun _ hk => hk.2)⟩, ⟨by (with_reducible repeat (first | apply Kd.R_alloc | apply Kd.R_drewN | apply Kd.R_drew)); exact Kd.R_mono HO204.out (fun _ hk => hk.2)⟩, ⟨by repeat (first | (with_reducible first | exact HB.out | apply below_alloc | apply pw_below_drewN | apply below_drew1) | exact HB.out)⟩⟩
  case round =>
    clear H'
    try clear c1
    try clear c2
    try clear p2
    obtain ⟨x7_1, x9_1, rfl, HA, HK1, HO_7, HO_8, HB⟩ := hrel
    cases gk with
    | zero => exact absurd HA.out (by simp [glyphcutterref01_Make.l0])
    | succ k1 =>
      have H := HA.out
      clear HA
      simp only [glyphcutterref01_Make.l0] at H
      by_cases c8 : x9_1 < (t202.length : Int)
      · rw [if_pos c8] at H
        have c8b0 : decide (x9_1 < (t202.length : Int)) = true := decide_eq_true c8
        clear c8
        by_cases c9 : 0 ≤ x9_1
        · rw [if_pos c9] at H
          have c9b0 : decide (0 ≤ x9_1) = true := decide_eq_true c9
          clear c9
          replace H := Option.bind_eq_some_iff.mp H
          obtain ⟨t206, A100, H⟩ := H
          replace H : (glyphcutterref01_Make.l0 k1 l0 l1 a2 t206 t202 (wrap64 (x9_1 + 1))) = some r := H
          have A10 := Aside0.mk A100
          clear A100
          have H' := Aside0.mk H
          clear H
          obtain ⟨Ao11, co11, eo11⟩ := Kd.R_slice HO_8.out
          subst eo11
          have p205 : 0 ≤ (x9_1 : Int) := of_decide_eq_true (by first | (with_reducible assumption) | assumption)
          have q205 : x9_1 < (t202.length : Int) := of_decide_eq_true (by first | (with_reducible assumption) | assumption)
          obtain ⟨ad205, e205, hx205_0⟩ := Kd.at_int (Kd.R_reads' HO_8.out).2.2 x9_1 p205 q205
          cases e205
          replace p205 := eq_true p205
          replace q205 := eq_true q205
          obtain ⟨Ao12, co12, eo12⟩ := Kd.R_slice HO_7.out
          subst eo12
          go_wp2_with (first | (go_at_call 46; (with_reducible refine (glyphcutterref01_lay.calls k1 _ _ x7_1 (rd t202 x9_1) t206 _ ?side1 ?side2 A10.out).mono ?_); (case side1 => repeat (first | exact (Kd.R_reads' HO_7.out).2.2 | (with_reducible refine Kd.C_alloc ?_ _) | (with_reducible refine Kd.C_drewN ?_ _) | (with_reducible refine Kd.C_drew ?_))); (case side2 => exact (Kd.R_reads' HO_7.out).2.1); rintro e w13 ⟨v207, rfl, ho0, hb⟩; have n0_ := Aside0.mk (Kd.R_elder' (by (with_reducible repeat (first | apply Kd.R_alloc | apply Kd.R_drewN | apply Kd.R_drew)); exact HO_7.out) (Kd.R_base ho0) hb); have n1_ := Aside0.mk (Kd.R_elder' (by (with_reducible repeat (first | apply Kd.R_alloc | apply Kd.R_drewN | apply Kd.R_drew)); exact HO_8.out) (Kd.R_base ho0) hb); have n2_ := Aside0.mk (Kd.R_lower (Kd.R_new' (Kd.R_new' ho0 (Kd.R_lt (by (with_reducible repeat (first | apply Kd.R_alloc | apply Kd.R_drewN | apply Kd.R_drew)); exact HO_7.out))) (Kd.R_lt (by (with_reducible repeat (first | apply Kd.R_alloc | apply Kd.R_drewN | apply Kd.R_drew)); exact HO_8.out))) (below_size (by repeat (first | (with_reducible first | exact HB.out | apply below_alloc | apply pw_below_drewN | apply below_drew1) | exact HB.out)))); have n3_ := Aside0.mk (below_step (by repeat (first | (with_reducible first | exact HB.out | apply below_alloc | apply pw_below_drewN | apply below_drew1) | exact HB.out)) hb); clear HO_7; clear HO_8; clear HB; have HO_7 := n0_; have HO_8 := n1_; have HO208 := n2_; have HB := n3_; clear n0_ n1_ n2_ n3_; (try clear hb); (try clear hb2); (try clear hk); (try clear hi); (try clear ho0)))
          repeat (go_quiet (first | (go_at_call 46; (with_reducible refine (glyphcutterref01_lay.calls k1 _ _ x7_1 (rd t202 x9_1) t206 _ ?side1 ?side2 A10.out).mono ?_); (case side1 => repeat (first | exact (Kd.R_reads' HO_7.out).2.2 | (with_reducible refine Kd.C_alloc ?_ _) | (with_reducible refine Kd.C_drewN ?_ _) | (with_reducible refine Kd.C_drew ?_))); (case side2 => exact (Kd.R_reads' HO_7.out).2.1); rintro e w13 ⟨v207, rfl, ho0, hb⟩; have n0_ := Aside0.mk (Kd.R_elder' (by (with_reducible repeat (first | apply Kd.R_alloc | apply Kd.R_drewN | apply Kd.R_drew)); exact HO_7.out) (Kd.R_base ho0) hb); have n1_ := Aside0.mk (Kd.R_elder' (by (with_reducible repeat (first | apply Kd.R_alloc | apply Kd.R_drewN | apply Kd.R_drew)); exact HO_8.out) (Kd.R_base ho0) hb); have n2_ := Aside0.mk (Kd.R_lower (Kd.R_new' (Kd.R_new' ho0 (Kd.R_lt (by (with_reducible repeat (first | apply Kd.R_alloc | apply Kd.R_drewN | apply Kd.R_drew)); exact HO_7.out))) (Kd.R_lt (by (with_reducible repeat (first | apply Kd.R_alloc | apply Kd.R_drewN | apply Kd.R_drew)); exact HO_8.out))) (below_size (by repeat (first | (with_reducible first | exact HB.out | apply below_alloc | apply pw_below_drewN | apply below_drew1) | exact HB.out)))); have n3_ := Aside0.mk (below_step (by repeat (first | (with_reducible first | exact HB.out | apply below_alloc | apply pw_below_drewN | apply below_drew1) | exact HB.out)) hb); clear HO_7; clear HO_8; clear HB; have HO_7 := n0_; have HO_8 := n1_; have HO208 := n2_; have HB := n3_; clear n0_ n1_ n2_ n3_; (try clear hb); (try clear hb2); (try clear hk); (try clear hi); (try clear ho0))); try go_wp2_with (first | (go_at_call 46; (with_reducible refine (glyphcutterref01_lay.calls k1 _ _ x7_1 (rd t202 x9_1) t206 _ ?side1 ?side2 A10.out).mono ?_); (case side1 => repeat (first | exact (Kd.R_reads' HO_7.out).2.2 | (with_reducible refine Kd.C_alloc ?_ _) | (with_reducible refine Kd.C_drewN ?_ _) | (with_reducible refine Kd.C_drew ?_))); (case side2 => exact (Kd.R_reads' HO_7.out).2.1); rintro e w13 ⟨v207, rfl, ho0, hb⟩; have n0_ := Aside0.mk (Kd.R_elder' (by (with_reducible repeat (first | apply Kd.R_alloc | apply Kd.R_drewN | apply Kd.R_drew)); exact HO_7.out) (Kd.R_base ho0) hb); have n1_ := Aside0.mk (Kd.R_elder' (by (with_reducible repeat (first | apply Kd.R_alloc | apply Kd.R_drewN | apply Kd.R_drew)); exact HO_8.out) (Kd.R_base ho0) hb); have n2_ := Aside0.mk (Kd.R_lower (Kd.R_new' (Kd.R_new' ho0 (Kd.R_lt (by (with_reducible repeat (first | apply Kd.R_alloc | apply Kd.R_drewN | apply Kd.R_drew)); exact HO_7.out))) (Kd.R_lt (by (with_reducible repeat (first | apply Kd.R_alloc | apply Kd.R_drewN | apply Kd.R_drew)); exact HO_8.out))) (below_size (by repeat (first | (with_reducible first | exact HB.out | apply below_alloc | apply pw_below_drewN | apply below_drew1) | exact HB.out)))); have n3_ := Aside0.mk (below_step (by repeat (first | (with_reducible first | exact HB.out | apply below_alloc | apply pw_below_drewN | apply below_drew1) | exact HB.out)) hb); clear HO_7; clear HO_8; clear HB; have HO_7 := n0_; have HO_8 := n1_; have HO208 := n2_; have HB := n3_; clear n0_ n1_ n2_ n3_; (try clear hb); (try clear hb2); (try clear hk); (try clear hi); (try clear ho0))))
          go_roundg k1
          case measure => have := HK1.out; omega
          case rel => exact ⟨(t206), (wrap64 (x9_1 + 1)), (by first | rfl | (simp; done) | (simp [*]; done)), H', ⟨by have := HK1.out; omega⟩, ⟨by (with_reducible repeat (first | apply Kd.R_alloc | apply Kd.R_drewN | apply Kd.R_drew)); exact Kd.R_mono HO208.out (fun _ hk => hk.2)⟩, ⟨by (with_reducible repeat (first | apply Kd.R_alloc | apply Kd.R_drewN | apply Kd.R_drew)); exact Kd.R_mono HO_8.out (fun _ hk => hk.2)⟩, ⟨by repeat (first | (with_reducible first | exact HB.out | apply below_alloc | apply pw_below_drewN | apply below_drew1) | exact HB.out)⟩⟩
        · rw [if_neg c9] at H
          exact absurd H (by simp)
      · rw [if_neg c8] at H
        have c8b0 : decide (x9_1 < (t202.length : Int)) = false := decide_eq_false c8
        clear c8
        have H' := Aside0.mk H
        clear H
        obtain ⟨Ao14, co14, eo14⟩ := Kd.R_slice HO_8.out
        subst eo14
        go_wp2
        repeat (go_quiet (fail); try go_wp2)
        go_loopg [10, 11] k1 (fun kq v10 v11 w' => ∃ (x10_2 : List (S39)) (x11_2 : Int), v11 = .int .i64 x11_2 ∧ Aside0 (glyphcutterref01_Make.l1 kq l0 l1 a2 x7_1 x10_2 x11_2 = some r) ∧ Aside0 (kq ≤ k1) ∧ Aside0 (Kd.R (Kd.int .i64) 3 w' w.heap.size (fun _ => True) u7 x7_1) ∧ Aside0 (Kd.R k39 39 w' w.heap.size (fun _ => True) v10 x10_2) ∧ Aside0 (Below w.heap.size w w'))
        case atStart => exact ⟨(([] : List (S39))), (0), (by first | rfl | (simp; done) | (simp [*]; done)), H', ⟨Nat.le_refl _⟩, ⟨by (with_reducible repeat (first | apply Kd.R_alloc | apply Kd.R_drewN | apply Kd.R_drew)); exact Kd.R_mono HO_7.out (fun _ hk => trivial)⟩, ⟨by first | exact Kd.R_nil _ _ _ _ _ | exact Kd.N_nil _ _ _ _ _ | exact Kd.V_nil _ _ _ _ _ | exact Kd.Q_nil _ _ _ _ _ | exact Kd.S_nil _ _ _ _ _⟩, ⟨by repeat (first | (with_reducible first | exact HB.out | apply below_alloc | apply pw_below_drewN | apply below_drew1) | exact HB.out)⟩⟩
        case round =>
          clear H'
          try clear c1
          try clear c2
          try clear p2
          try clear q2
          try clear hx2
          try clear p6
          try clear c8
          try clear c8b0
          try clear c9
          try clear c9b0
          try clear hx205_0
          try clear p2
          try clear p205
          try clear q205
          obtain ⟨x10_2, x11_2, rfl, HA, HK2, HO_7, HO_10, HB⟩ := hrel
          cases gk with
          | zero => exact absurd HA.out (by simp [glyphcutterref01_Make.l1])
          | succ k2 =>
            have H := HA.out
            clear HA
            simp only [glyphcutterref01_Make.l1] at H
            by_cases c15 : x11_2 < (x7_1.length : Int)
            · rw [if_pos c15] at H
              have c15b0 : decide (x11_2 < (x7_1.length : Int)) = true := decide_eq_true c15
              clear c15
              have HC16 := Aside0.mk H
              clear H
              obtain ⟨Ao17, co17, eo17⟩ := Kd.R_slice HO_7.out
              subst eo17
              go_upto_if 40 with (fail)
              repeat (go_quiet (fail); go_upto_if 40 with (fail))
              go_cut [12] (fun v12 wc => ∃ (kq : Nat) (x12_15 : Int), v12 = .int .i64 x12_15 ∧ Aside0 (glyphcutterref01_Make.j2 kq l0 l1 a2 x7_1 x10_2 x11_2 x12_15 = some r) ∧ Aside0 (kq ≤ k2) ∧ Aside0 (Kd.R (Kd.int .i64) 3 wc w.heap.size (fun _ => True) (.slice Ao17 x7_1.length co17) x7_1) ∧ Aside0 (Kd.R k39 39 wc w.heap.size (fun _ => True) u10 x10_2) ∧ Aside0 (Below w.heap.size w wc))
              case first =>
                have H := HC16.out
                clear HC16
                by_cases c18 : (wrap64 (x11_2 + 1)) < (x7_1.length : Int)
                · rw [if_pos c18] at H
                  have c18b0 : decide ((wrap64 (x11_2 + 1)) < (x7_1.length : Int)) = true := decide_eq_true c18
                  clear c18
                  (first | rw [c18b0] | (simp only [i64_w, i32_w]; rw [c18b0]) | skip)
                  obtain ⟨ji19, hji19⟩ : ∃ j_ : Int, (wrap64 (x11_2 + 1)) = j_ := ⟨_, rfl⟩
                  replace H : (if 0 ≤ (ji19) then (glyphcutterref01_Make.j2 k2 l0 l1 a2 x7_1 x10_2 x11_2 (wrap64 ((rd x7_1 (ji19)) - 1))) else (none)) = some r := by first | (rw [hji19] at H; exact H) | (simp only [hji19] at H ⊢; exact H)
                  (try rw [hji19] at c18b0)
                  have hji19w : (IntKind.i64.wrap (x11_2 + 1)) = ji19 := (i64_w _).trans hji19
                  by_cases c20 : 0 ≤ (ji19)
                  · rw [if_pos c20] at H
                    have c20b0 : decide (0 ≤ (ji19)) = true := decide_eq_true c20
                    clear c20
                    have H' := Aside0.mk H
                    clear H
                    have p209 : 0 ≤ ((ji19) : Int) := of_decide_eq_true (by first | (with_reducible assumption) | assumption)
                    have q209 : (ji19) < (x7_1.length : Int) := of_decide_eq_true (by first | (with_reducible assumption) | assumption)
                    obtain ⟨ad209, e209, hx209_0⟩ := Kd.at_int (Kd.R_reads' HO_7.out).2.2 (ji19) p209 q209
                    cases e209
                    replace p209 := eq_true p209
                    replace q209 := eq_true q209
                    go_wp2
                    repeat (go_quiet (fail); try go_wp2)
                    go_meet
                    case rel => exact ⟨_, (wrap64 ((rd x7_1 (ji19)) - 1)), (by first | rfl | (simp; done) | (simp only [← hji19] <;> (first | rfl | simp)) | (simp [*]; done)), H', ⟨by have := HK1.out; have := HK2.out; first | omega | exact Nat.le_refl _⟩, ⟨by (with_reducible repeat (first | apply Kd.R_alloc | apply Kd.R_drewN | apply Kd.R_drew)); exact HO_7.out⟩, ⟨by (with_reducible repeat (first | apply Kd.R_alloc | apply Kd.R_drewN | apply Kd.R_drew)); exact HO_10.out⟩, ⟨by repeat (first | (with_reducible first | exact HB.out | apply below_alloc | apply pw_below_drewN | apply below_drew1) | exact HB.out)⟩⟩
                  · rw [if_neg c20] at H
                    exact absurd H (by simp)
                · rw [if_neg c18] at H
                  have c18b0 : decide ((wrap64 (x11_2 + 1)) < (x7_1.length : Int)) = false := decide_eq_false c18
                  clear c18
                  (first | rw [c18b0] | (simp only [i64_w, i32_w]; rw [c18b0]) | skip)
                  have H' := Aside0.mk H
                  clear H
                  go_wp2
                  repeat (go_quiet (fail); try go_wp2)
                  go_meet
                  case rel => exact ⟨_, (1114111), (by first | rfl | (simp; done) | (simp [*]; done)), H', ⟨by have := HK1.out; have := HK2.out; first | omega | exact Nat.le_refl _⟩, ⟨by (with_reducible repeat (first | apply Kd.R_alloc | apply Kd.R_drewN | apply Kd.R_drew)); exact HO_7.out⟩, ⟨by (with_reducible repeat (first | apply Kd.R_alloc | apply Kd.R_drewN | apply Kd.R_drew)); exact HO_10.out⟩, ⟨by repeat (first | (with_reducible first | exact HB.out | apply below_alloc | apply pw_below_drewN | apply below_drew1) | exact HB.out)⟩⟩
              case rest =>
                clear HC16
                try clear c1
                try clear c2
                try clear p2
                try clear q2
                try clear hx2
                try clear p6
                try clear c8
                try clear c8b0
                try clear c9
                try clear c9b0
                try clear c15
                try clear c15b0
                try clear c18
                try clear c18b0
                try clear c20
                try clear c20b0
                try clear p20
                try clear q20
                try clear hx20
                try clear hx205_0
                try clear hx209_0
                try clear p2
                try clear p205
                try clear p209
                try clear p6
                try clear q2
                try clear q205
                try clear q209
                obtain ⟨kq, x12_15, rfl, HA, HJ15, HO_7, HO_10, HB⟩ := hcut
                cases kq with
                | zero => exact absurd HA.out (by simp [glyphcutterref01_Make.j2])
                | succ kj15 =>
                  have H := HA.out
                  clear HA
                  simp only [glyphcutterref01_Make.j2] at H
                  by_cases c21 : 0 ≤ x11_2
                  · rw [if_pos c21] at H
                    have c21b0 : decide (0 ≤ x11_2) = true := decide_eq_true c21
                    clear c21
                    by_cases c22 : x11_2 < (x7_1.length : Int)
                    · rw [if_pos c22] at H
                      have c22b0 : decide (x11_2 < (x7_1.length : Int)) = true := decide_eq_true c22
                      clear c22
                      have HC23 := Aside0.mk H
                      clear H
                      have p210 : 0 ≤ (x11_2 : Int) := of_decide_eq_true (by first | (with_reducible assumption) | assumption)
                      have q210 : x11_2 < (x7_1.length : Int) := of_decide_eq_true (by first | (with_reducible assumption) | assumption)
                      obtain ⟨ad210, e210, hx210_0⟩ := Kd.at_int (Kd.R_reads' HO_7.out).2.2 x11_2 p210 q210
                      cases e210
                      replace p210 := eq_true p210
                      replace q210 := eq_true q210
                      go_upto_if 51 with (fail)
                      repeat (go_quiet (fail); go_upto_if 51 with (fail))
                      go_cut [12] (fun v12 wc => ∃ (kq : Nat) (x12_22 : Int), v12 = .int .i64 x12_22 ∧ Aside0 (glyphcutterref01_Make.j3 kq l0 l1 a2 x7_1 x10_2 x11_2 x12_22 = some r) ∧ Aside0 (kq ≤ kj15) ∧ Aside0 (Kd.R (Kd.int .i64) 3 wc w.heap.size (fun _ => True) (.slice (some ad210) x7_1.length co17) x7_1) ∧ Aside0 (Kd.R k39 39 wc w.heap.size (fun _ => True) u10 x10_2) ∧ Aside0 (Below w.heap.size w wc))
                      case first =>
                        have H := HC23.out
                        clear HC23
                        by_cases c24 : (rd x7_1 x11_2) < 55296
                        · rw [if_pos c24] at H
                          have c24b0 : decide ((rd x7_1 x11_2) < 55296) = true := decide_eq_true c24
                          clear c24
                          (first | rw [c24b0] | (simp only [i64_w, i32_w]; rw [c24b0]) | skip)
                          obtain ⟨ji25, hji25⟩ : ∃ j_ : Int, (mn x12_15 55295) = j_ := ⟨_, rfl⟩
                          replace H : (glyphcutterref01_Make.j3 kj15 l0 l1 a2 x7_1 x10_2 x11_2 ji25) = some r := by first | (rw [hji25] at H; exact H) | (simp only [hji25] at H ⊢; exact H)
                          have hji25_ : (if 55295 < x12_15 then 55295 else x12_15) = ji25 := hji25
                          have H' := Aside0.mk H
                          clear H
                          go_wp2
                          repeat (go_quiet (fail); try go_wp2)
                          go_meet
                          case rel => exact ⟨_, (ji25), (by first | rfl | (simp; done) | (simp only [← hji25] <;> (first | rfl | simp)) | (simp [*]; done)), H', ⟨by have := HK1.out; have := HK2.out; have := HJ15.out; first | omega | exact Nat.le_refl _⟩, ⟨by (with_reducible repeat (first | apply Kd.R_alloc | apply Kd.R_drewN | apply Kd.R_drew)); exact HO_7.out⟩, ⟨by (with_reducible repeat (first | apply Kd.R_alloc | apply Kd.R_drewN | apply Kd.R_drew)); exact HO_10.out⟩, ⟨by repeat (first | (with_reducible first | exact HB.out | apply below_alloc | apply pw_below_drewN | apply below_drew1) | exact HB.out)⟩⟩
                        · rw [if_neg c24] at H
                          have c24b0 : decide ((rd x7_1 x11_2) < 55296) = false := decide_eq_false c24
                          clear c24
                          (first | rw [c24b0] | (simp only [i64_w, i32_w]; rw [c24b0]) | skip)
                          have H' := Aside0.mk H
                          clear H
                          go_wp2
                          repeat (go_quiet (fail); try go_wp2)
                          go_meet
                          case rel => exact ⟨_, (x12_15), (by first | rfl | (simp; done) | (simp [*]; done)), H', ⟨by have := HK1.out; have := HK2.out; have := HJ15.out; first | omega | exact Nat.le_refl _⟩, ⟨by (with_reducible repeat (first | apply Kd.R_alloc | apply Kd.R_drewN | apply Kd.R_drew)); exact HO_7.out⟩, ⟨by (with_reducible repeat (first | apply Kd.R_alloc | apply Kd.R_drewN | apply Kd.R_drew)); exact HO_10.out⟩, ⟨by repeat (first | (with_reducible first | exact HB.out | apply below_alloc | apply pw_below_drewN | apply below_drew1) | exact HB.out)⟩⟩
                      case rest =>
                        clear HC23
                        try clear c1
                        try clear c2
                        try clear p2
                        try clear q2
                        try clear hx2
                        try clear p6
                        try clear c8
                        try clear c8b0
                        try clear c9
                        try clear c9b0
                        try clear c15
                        try clear c15b0
                        try clear c18
                        try clear c18b0
                        try clear c20
                        try clear c20b0
                        try clear p20
                        try clear q20
                        try clear hx20
                        try clear c21
                        try clear c21b0
                        try clear p21
                        try clear q21
                        try clear hx21
                        try clear c22
                        try clear c22b0
                        try clear c24
                        try clear c24b0
                        try clear hx205_0
                        try clear hx209_0
                        try clear hx210_0
                        try clear p2
                        try clear p20
                        try clear p205
                        try clear p209
                        try clear p210
                        try clear p6
                        try clear q2
                        try clear q20
                        try clear q205
                        try clear q209
                        try clear q210
                        obtain ⟨kq, x12_22, rfl, HA, HJ22, HO_7, HO_10, HB⟩ := hcut
                        cases kq with
                        | zero => exact absurd HA.out (by simp [glyphcutterref01_Make.j3])
                        | succ kj22 =>
                          have H := HA.out
                          clear HA
                          simp only [glyphcutterref01_Make.j3] at H
                          by_cases c26 : 0 ≤ x11_2
                          · rw [if_pos c26] at H
                            have c26b0 : decide (0 ≤ x11_2) = true := decide_eq_true c26
                            clear c26
                            by_cases c27 : x11_2 < (x7_1.length : Int)
                            · rw [if_pos c27] at H
                              have c27b0 : decide (x11_2 < (x7_1.length : Int)) = true := decide_eq_true c27
                              clear c27
                              replace H := Option.bind_eq_some_iff.mp H
                              obtain ⟨t212, A280, H⟩ := H
                              replace H : (if t212 = true then (glyphcutterref01_Make.j4 kj22 l0 l1 a2 x7_1 x10_2 x11_2 x12_22 (0 + 1)) else (glyphcutterref01_Make.j4 kj22 l0 l1 a2 x7_1 x10_2 x11_2 x12_22 0)) = some r := H
                              have A28 := Aside0.mk A280
                              clear A280
                              have HC29 := Aside0.mk H
                              clear H
                              have p211 : 0 ≤ (x11_2 : Int) := of_decide_eq_true (by first | (with_reducible assumption) | assumption)
                              have q211 : x11_2 < (x7_1.length : Int) := of_decide_eq_true (by first | (with_reducible assumption) | assumption)
                              obtain ⟨ad211, e211, hx211_0⟩ := Kd.at_int (Kd.R_reads' HO_7.out).2.2 x11_2 p211 q211
                              obtain rfl : ad210 = ad211 := (by injection e211)
                              replace p211 := eq_true p211
                              replace q211 := eq_true q211
                              go_upto_if 59 with (first | (go_at_call 23; (with_reducible refine (glyphcutterref01_Has.calls kj22 _ _ l0 (rd x7_1 x11_2) t212 _ ?side1 ?side2 A28.out).mono ?_); (case side1 => repeat (first | exact (Kd.C_below HR0.out HB.out) | (with_reducible refine Kd.C_alloc ?_ _) | (with_reducible refine Kd.C_drewN ?_ _) | (with_reducible refine Kd.C_drew ?_))); (case side2 => exact HC0.out); rintro e w' ⟨rfl, ⟨nd, rfl⟩⟩; (try first | exact ⟨rfl, _, World.drewN_drewN _ _ _⟩ | exact ⟨rfl, _, Eq.trans (World.drewN_drewN _ _ _) (congrArg (World.drewN _) (Nat.add_assoc _ _ _))⟩)))
                              repeat (go_quiet (first | (go_at_call 23; (with_reducible refine (glyphcutterref01_Has.calls kj22 _ _ l0 (rd x7_1 x11_2) t212 _ ?side1 ?side2 A28.out).mono ?_); (case side1 => repeat (first | exact (Kd.C_below HR0.out HB.out) | (with_reducible refine Kd.C_alloc ?_ _) | (with_reducible refine Kd.C_drewN ?_ _) | (with_reducible refine Kd.C_drew ?_))); (case side2 => exact HC0.out); rintro e w' ⟨rfl, ⟨nd, rfl⟩⟩; (try first | exact ⟨rfl, _, World.drewN_drewN _ _ _⟩ | exact ⟨rfl, _, Eq.trans (World.drewN_drewN _ _ _) (congrArg (World.drewN _) (Nat.add_assoc _ _ _))⟩))); go_upto_if 59 with (first | (go_at_call 23; (with_reducible refine (glyphcutterref01_Has.calls kj22 _ _ l0 (rd x7_1 x11_2) t212 _ ?side1 ?side2 A28.out).mono ?_); (case side1 => repeat (first | exact (Kd.C_below HR0.out HB.out) | (with_reducible refine Kd.C_alloc ?_ _) | (with_reducible refine Kd.C_drewN ?_ _) | (with_reducible refine Kd.C_drew ?_))); (case side2 => exact HC0.out); rintro e w' ⟨rfl, ⟨nd, rfl⟩⟩; (try first | exact ⟨rfl, _, World.drewN_drewN _ _ _⟩ | exact ⟨rfl, _, Eq.trans (World.drewN_drewN _ _ _) (congrArg (World.drewN _) (Nat.add_assoc _ _ _))⟩))))
                              (try simp only [Act.put, List.setIfInBounds_toArray, List.set_cons_zero, List.set_cons_succ])
                              go_cut [13] (fun v13 wc => ∃ (kq : Nat) (x13_28 : Int), v13 = .int .i64 x13_28 ∧ Aside0 (glyphcutterref01_Make.j4 kq l0 l1 a2 x7_1 x10_2 x11_2 x12_22 x13_28 = some r) ∧ Aside0 (kq ≤ kj22) ∧ Aside0 (Kd.R (Kd.int .i64) 3 wc w.heap.size (fun _ => True) (.slice (some ad210) x7_1.length co17) x7_1) ∧ Aside0 (Kd.R k39 39 wc w.heap.size (fun _ => True) u10 x10_2) ∧ Aside0 (Below w.heap.size w wc))
                              case first =>
                                have H := HC29.out
                                clear HC29
                                by_cases c30 : t212 = true
                                · subst c30
                                  have H1 : (glyphcutterref01_Make.j4 kj22 l0 l1 a2 x7_1 x10_2 x11_2 x12_22 (0 + 1)) = some r := by rw [if_pos rfl] at H; exact H
                                  clear H
                                  have H := H1
                                  clear H1
                                  have H' := Aside0.mk H
                                  clear H
                                  go_wp2
                                  repeat (go_quiet (fail); try go_wp2)
                                  go_meet
                                  case rel => exact ⟨_, (0 + 1), (by first | rfl | (simp; done) | (simp [*]; done)), H', ⟨by have := HK1.out; have := HK2.out; have := HJ15.out; have := HJ22.out; first | omega | exact Nat.le_refl _⟩, ⟨by (with_reducible repeat (first | apply Kd.R_alloc | apply Kd.R_drewN | apply Kd.R_drew)); exact HO_7.out⟩, ⟨by (with_reducible repeat (first | apply Kd.R_alloc | apply Kd.R_drewN | apply Kd.R_drew)); exact HO_10.out⟩, ⟨by repeat (first | (with_reducible first | exact HB.out | apply below_alloc | apply pw_below_drewN | apply below_drew1) | exact HB.out)⟩⟩
                                · replace c30 := Bool.eq_false_iff.mpr c30
                                  subst c30
                                  have H1 : (glyphcutterref01_Make.j4 kj22 l0 l1 a2 x7_1 x10_2 x11_2 x12_22 0) = some r := by rw [if_neg (show ¬ (false = true) by decide)] at H; exact H
                                  clear H
                                  have H := H1
                                  clear H1
                                  have H' := Aside0.mk H
                                  clear H
                                  go_wp2
                                  repeat (go_quiet (fail); try go_wp2)
                                  go_meet
                                  case rel => exact ⟨_, (0), (by first | rfl | (simp; done) | (simp [*]; done)), H', ⟨by have := HK1.out; have := HK2.out; have := HJ15.out; have := HJ22.out; first | omega | exact Nat.le_refl _⟩, ⟨by (with_reducible repeat (first | apply Kd.R_alloc | apply Kd.R_drewN | apply Kd.R_drew)); exact HO_7.out⟩, ⟨by (with_reducible repeat (first | apply Kd.R_alloc | apply Kd.R_drewN | apply Kd.R_drew)); exact HO_10.out⟩, ⟨by repeat (first | (with_reducible first | exact HB.out | apply below_alloc | apply pw_below_drewN | apply below_drew1) | exact HB.out)⟩⟩
                              case rest =>
                                clear HC29
                                try clear c1
                                try clear c2
                                try clear p2
                                try clear q2
                                try clear hx2
                                try clear c3
                                try clear p6
                                try clear c8
                                try clear c8b0
                                try clear c9
                                try clear c9b0
                                try clear c15
                                try clear c15b0
                                try clear c18
                                try clear c18b0
                                try clear c20
                                try clear c20b0
                                try clear p20
                                try clear q20
                                try clear hx20
                                try clear c21
                                try clear c21b0
                                try clear p21
                                try clear q21
                                try clear hx21
                                try clear c22
                                try clear c22b0
                                try clear c24
                                try clear c24b0
                                try clear c26
                                try clear c26b0
                                try clear c27
                                try clear c27b0
                                try clear c28
                                try clear c30
                                try clear hx205_0
                                try clear hx209_0
                                try clear hx210_0
                                try clear hx211_0
                                try clear p2
                                try clear p20
                                try clear p205
                                try clear p209
                                try clear p21
                                try clear p210
                                try clear p211
                                try clear p6
                                try clear q2
                                try clear q20
                                try clear q205
                                try clear q209
                                try clear q21
                                try clear q210
                                try clear q211
                                obtain ⟨kq, x13_28, rfl, HA, HJ28, HO_7, HO_10, HB⟩ := hcut
                                cases kq with
                                | zero => exact absurd HA.out (by simp [glyphcutterref01_Make.j4])
                                | succ kj28 =>
                                  have H := HA.out
                                  clear HA
                                  simp only [glyphcutterref01_Make.j4] at H
                                  by_cases c31 : 0 ≤ x11_2
                                  · rw [if_pos c31] at H
                                    have c31b0 : decide (0 ≤ x11_2) = true := decide_eq_true c31
                                    clear c31
                                    by_cases c32 : x11_2 < (x7_1.length : Int)
                                    · rw [if_pos c32] at H
                                      have c32b0 : decide (x11_2 < (x7_1.length : Int)) = true := decide_eq_true c32
                                      clear c32
                                      replace H := Option.bind_eq_some_iff.mp H
                                      obtain ⟨t214, A330, H⟩ := H
                                      replace H : (if t214 = true then (glyphcutterref01_Make.j5 kj28 l0 l1 a2 x7_1 x10_2 x11_2 x12_22 (wrap64 (x13_28 + 2))) else (glyphcutterref01_Make.j5 kj28 l0 l1 a2 x7_1 x10_2 x11_2 x12_22 x13_28)) = some r := H
                                      have A33 := Aside0.mk A330
                                      clear A330
                                      have HC34 := Aside0.mk H
                                      clear H
                                      have p213 : 0 ≤ (x11_2 : Int) := of_decide_eq_true (by first | (with_reducible assumption) | assumption)
                                      have q213 : x11_2 < (x7_1.length : Int) := of_decide_eq_true (by first | (with_reducible assumption) | assumption)
                                      obtain ⟨ad213, e213, hx213_0⟩ := Kd.at_int (Kd.R_reads' HO_7.out).2.2 x11_2 p213 q213
                                      obtain rfl : ad210 = ad213 := (by injection e213)
                                      replace p213 := eq_true p213
                                      replace q213 := eq_true q213
                                      go_upto_if 67 with (first | (go_at_call 23; (with_reducible refine (glyphcutterref01_Has.calls kj28 _ _ l1 (rd x7_1 x11_2) t214 _ ?side1 ?side2 A33.out).mono ?_); (case side1 => repeat (first | exact (Kd.C_below HR1.out HB.out) | (with_reducible refine Kd.C_alloc ?_ _) | (with_reducible refine Kd.C_drewN ?_ _) | (with_reducible refine Kd.C_drew ?_))); (case side2 => exact HC1.out); rintro e w' ⟨rfl, ⟨nd, rfl⟩⟩; (try first | exact ⟨rfl, _, World.drewN_drewN _ _ _⟩ | exact ⟨rfl, _, Eq.trans (World.drewN_drewN _ _ _) (congrArg (World.drewN _) (Nat.add_assoc _ _ _))⟩)))
                                      repeat (go_quiet (first | (go_at_call 23; (with_reducible refine (glyphcutterref01_Has.calls kj28 _ _ l1 (rd x7_1 x11_2) t214 _ ?side1 ?side2 A33.out).mono ?_); (case side1 => repeat (first | exact (Kd.C_below HR1.out HB.out) | (with_reducible refine Kd.C_alloc ?_ _) | (with_reducible refine Kd.C_drewN ?_ _) | (with_reducible refine Kd.C_drew ?_))); (case side2 => exact HC1.out); rintro e w' ⟨rfl, ⟨nd, rfl⟩⟩; (try first | exact ⟨rfl, _, World.drewN_drewN _ _ _⟩ | exact ⟨rfl, _, Eq.trans (World.drewN_drewN _ _ _) (congrArg (World.drewN _) (Nat.add_assoc _ _ _))⟩))); go_upto_if 67 with (first | (go_at_call 23; (with_reducible refine (glyphcutterref01_Has.calls kj28 _ _ l1 (rd x7_1 x11_2) t214 _ ?side1 ?side2 A33.out).mono ?_); (case side1 => repeat (first | exact (Kd.C_below HR1.out HB.out) | (with_reducible refine Kd.C_alloc ?_ _) | (with_reducible refine Kd.C_drewN ?_ _) | (with_reducible refine Kd.C_drew ?_))); (case side2 => exact HC1.out); rintro e w' ⟨rfl, ⟨nd, rfl⟩⟩; (try first | exact ⟨rfl, _, World.drewN_drewN _ _ _⟩ | exact ⟨rfl, _, Eq.trans (World.drewN_drewN _ _ _) (congrArg (World.drewN _) (Nat.add_assoc _ _ _))⟩))))
                                      (try simp only [Act.put, List.setIfInBounds_toArray, List.set_cons_zero, List.set_cons_succ])
                                      go_cut [13] (fun v13 wc => ∃ (kq : Nat) (x13_33 : Int), v13 = .int .i64 x13_33 ∧ Aside0 (glyphcutterref01_Make.j5 kq l0 l1 a2 x7_1 x10_2 x11_2 x12_22 x13_33 = some r) ∧ Aside0 (kq ≤ kj28) ∧ Aside0 (Kd.R (Kd.int .i64) 3 wc w.heap.size (fun _ => True) (.slice (some ad210) x7_1.length co17) x7_1) ∧ Aside0 (Kd.R k39 39 wc w.heap.size (fun _ => True) u10 x10_2) ∧ Aside0 (Below w.heap.size w wc))
                                      case first =>
                                        have H := HC34.out
                                        clear HC34
                                        by_cases c35 : t214 = true
                                        · subst c35
                                          have H1 : (glyphcutterref01_Make.j5 kj28 l0 l1 a2 x7_1 x10_2 x11_2 x12_22 (wrap64 (x13_28 + 2))) = some r := by rw [if_pos rfl] at H; exact H
                                          clear H
                                          have H := H1
                                          clear H1
                                          have H' := Aside0.mk H
                                          clear H
                                          go_wp2
                                          repeat (go_quiet (fail); try go_wp2)
                                          go_meet
                                          case rel => exact ⟨_, (wrap64 (x13_28 + 2)), (by first | rfl | (simp; done) | (simp [*]; done)), H', ⟨by have := HK1.out; have := HK2.out; have := HJ15.out; have := HJ22.out; have := HJ28.out; first | omega | exact Nat.le_refl _⟩, ⟨by (with_reducible repeat (first | apply Kd.R_alloc | apply Kd.R_drewN | apply Kd.R_drew)); exact HO_7.out⟩, ⟨by (with_reducible repeat (first | apply Kd.R_alloc | apply Kd.R_drewN | apply Kd.R_drew)); exact HO_10.out⟩, ⟨by repeat (first | (with_reducible first | exact HB.out | apply below_alloc | apply pw_below_drewN | apply below_drew1) | exact HB.out)⟩⟩
                                        · replace c35 := Bool.eq_false_iff.mpr c35
                                          subst c35
                                          have H1 : (glyphcutterref01_Make.j5 kj28 l0 l1 a2 x7_1 x10_2 x11_2 x12_22 x13_28) = some r := by rw [if_neg (show ¬ (false = true) by decide)] at H; exact H
                                          clear H
                                          have H := H1
                                          clear H1
                                          have H' := Aside0.mk H
                                          clear H
                                          go_wp2
                                          repeat (go_quiet (fail); try go_wp2)
                                          go_meet
                                          case rel => exact ⟨_, (x13_28), (by first | rfl | (simp; done) | (simp [*]; done)), H', ⟨by have := HK1.out; have := HK2.out; have := HJ15.out; have := HJ22.out; have := HJ28.out; first | omega | exact Nat.le_refl _⟩, ⟨by (with_reducible repeat (first | apply Kd.R_alloc | apply Kd.R_drewN | apply Kd.R_drew)); exact HO_7.out⟩, ⟨by (with_reducible repeat (first | apply Kd.R_alloc | apply Kd.R_drewN | apply Kd.R_drew)); exact HO_10.out⟩, ⟨by repeat (first | (with_reducible first | exact HB.out | apply below_alloc | apply pw_below_drewN | apply below_drew1) | exact HB.out)⟩⟩
                                      case rest =>
                                        clear HC34
                                        try clear c1
                                        try clear c2
                                        try clear p2
                                        try clear q2
                                        try clear hx2
                                        try clear c3
                                        try clear p6
                                        try clear c8
                                        try clear c8b0
                                        try clear c9
                                        try clear c9b0
                                        try clear c15
                                        try clear c15b0
                                        try clear c18
                                        try clear c18b0
                                        try clear c20
                                        try clear c20b0
                                        try clear p20
                                        try clear q20
                                        try clear hx20
                                        try clear c21
                                        try clear c21b0
                                        try clear p21
                                        try clear q21
                                        try clear hx21
                                        try clear c22
                                        try clear c22b0
                                        try clear c24
                                        try clear c24b0
                                        try clear c26
                                        try clear c26b0
                                        try clear c27
                                        try clear c27b0
                                        try clear c28
                                        try clear c30
                                        try clear c31
                                        try clear c31b0
                                        try clear c32
                                        try clear c32b0
                                        try clear c35
                                        try clear hx205_0
                                        try clear hx209_0
                                        try clear hx210_0
                                        try clear hx211_0
                                        try clear hx213_0
                                        try clear p2
                                        try clear p20
                                        try clear p205
                                        try clear p209
                                        try clear p21
                                        try clear p210
                                        try clear p211
                                        try clear p213
                                        try clear p6
                                        try clear q2
                                        try clear q20
                                        try clear q205
                                        try clear q209
                                        try clear q21
                                        try clear q210
                                        try clear q211
                                        try clear q213
                                        obtain ⟨kq, x13_33, rfl, HA, HJ33, HO_7, HO_10, HB⟩ := hcut
                                        cases kq with
                                        | zero => exact absurd HA.out (by simp [glyphcutterref01_Make.j5])
                                        | succ kj33 =>
                                          have H := HA.out
                                          clear HA
                                          simp only [glyphcutterref01_Make.j5] at H
                                          obtain ⟨y215, hy215⟩ : ∃ y_ : List Int, y_ = (([Int.tmod a2 2, Int.tmod (wrap64 (Int.tdiv a2 2)) 2, Int.tmod (wrap64 (Int.tdiv a2 4)) 2, Int.tmod (wrap64 (Int.tdiv a2 8)) 2] : List Int)) := ⟨_, rfl⟩
                                          replace H : (if 0 ≤ x13_33 then (if x13_33 < (y215.length : Int) then (if (rd y215 x13_33) = 0 then (glyphcutterref01_Make.l1 kj33 l0 l1 a2 x7_1 x10_2 (wrap64 (x11_2 + 1))) else (if (x10_2.length : Int) > 0 then (if 0 ≤ (wrap64 ((x10_2.length : Int) - 1)) then (if (wrap64 ((x10_2.length : Int) - 1)) < (x10_2.length : Int) then (if 0 ≤ x11_2 then (if x11_2 < (x7_1.length : Int) then (if ((rd_T39 x10_2 (wrap64 ((x10_2.length : Int) - 1))).f1) = (wrap64 ((rd x7_1 x11_2) - 1)) then (glyphcutterref01_Make.l1 kj33 l0 l1 a2 x7_1 (x10_2.set ((wrap64 ((x10_2.length : Int) - 1)) : Int).toNat (⟨(rd_T39 x10_2 (wrap64 ((x10_2.length : Int) - 1))).f0, x12_22⟩ : S39)) (wrap64 (x11_2 + 1))) else (if x10_2.length < 8796093022208 then (glyphcutterref01_Make.l1 kj33 l0 l1 a2 x7_1 (x10_2 ++ [(⟨rd x7_1 x11_2, x12_22⟩ : S39)]) (wrap64 (x11_2 + 1))) else (none))) else (none)) else (none)) else (none)) else (none)) else (if 0 ≤ x11_2 then (if x11_2 < (x7_1.length : Int) then (if x10_2.length < 8796093022208 then (glyphcutterref01_Make.l1 kj33 l0 l1 a2 x7_1 (x10_2 ++ [(⟨rd x7_1 x11_2, x12_22⟩ : S39)]) (wrap64 (x11_2 + 1))) else (none)) else (none)) else (none)))) else (none)) else (none)) = some r := by first | (rw [hy215]; with_reducible exact H) | (have H2_ := (Option.bind_some _ _).symm.trans H; rw [hy215]; with_reducible exact H2_) | (have H2_ := (Option.bind_some _ _).symm.trans H; with_reducible exact H2_) | with_reducible exact H | (rw [hy215]; exact H) | exact H
                                          have Ny215 := Aside0.mk hy215
                                          clear hy215
                                          by_cases c36 : 0 ≤ x13_33
                                          · rw [if_pos c36] at H
                                            have c36b0 : decide (0 ≤ x13_33) = true := decide_eq_true c36
                                            clear c36
                                            by_cases c37 : x13_33 < (y215.length : Int)
                                            · rw [if_pos c37] at H
                                              have c37b0 : decide (x13_33 < (y215.length : Int)) = true := decide_eq_true c37
                                              clear c37
                                              by_cases c38 : (rd y215 x13_33) = 0
                                              · rw [if_pos c38] at H
                                                have c38b0 : ((rd y215 x13_33) == 0) = true := beq_iff_eq.mpr c38
                                                have c38b1 : ((rd y215 x13_33) != 0) = false := bne_eq_false_iff_eq.mpr c38
                                                clear c38
                                                have H' := Aside0.mk H
                                                clear H
                                                go_wp2_with (first | ((with_reducible refine gate_dst (N := 81) rfl ?_); (try (refine gate_guard (by rfl) ?_; dsimp only)); refine Kd.R_lit (Kd.int .i64) _ 3 ?hg (N := 81) ?hd (xs := ([Int.tmod a2 2, Int.tmod (wrap64 (Int.tdiv a2 2)) 2, Int.tmod (wrap64 (Int.tdiv a2 4)) 2, Int.tmod (wrap64 (Int.tdiv a2 8)) 2] : List Int)) (inner := [.int .i64 (Int.tmod a2 2), .int .i64 (Int.tmod (wrap64 (Int.tdiv a2 2)) 2), .int .i64 (Int.tmod (wrap64 (Int.tdiv a2 4)) 2), .int .i64 (Int.tmod (wrap64 (Int.tdiv a2 8)) 2)]) (ok := fun _ => True) (okp := fun _ => True) ?hr ?hp (fun _ hk => hk) trivial (Below.refl _ _) (Nat.le_refl _) (by simp) ?_; (case hd => rfl); (case hg => rfl); (case hr => first | (go_simp; done) | (go_simp; rfl)); (case hp => exact (Reps.one (show Kd.M (Kd.int .i64) _ _ _ (Int.tmod a2 2) [.int .i64 (Int.tmod a2 2)] from rfl) (Reps.one (show Kd.M (Kd.int .i64) _ _ _ (Int.tmod (wrap64 (Int.tdiv a2 2)) 2) [.int .i64 (Int.tmod (wrap64 (Int.tdiv a2 2)) 2)] from rfl) (Reps.one (show Kd.M (Kd.int .i64) _ _ _ (Int.tmod (wrap64 (Int.tdiv a2 4)) 2) [.int .i64 (Int.tmod (wrap64 (Int.tdiv a2 4)) 2)] from rfl) (Reps.one (show Kd.M (Kd.int .i64) _ _ _ (Int.tmod (wrap64 (Int.tdiv a2 8)) 2) [.int .i64 (Int.tmod (wrap64 (Int.tdiv a2 8)) 2)] from rfl) (Reps.none _ _)))))); intro v216 w39 ho40 hb hg_ hnew_; clear hg_ hnew_; (first | rw [← Ny215.out] at ho40 | (simp only [Int.reduceToNat] at ho40; rw [← Ny215.out] at ho40)); have n0_ := Aside0.mk (Kd.R_elder' (by (with_reducible repeat (first | apply Kd.R_alloc | apply Kd.R_drewN | apply Kd.R_drew)); exact HO_7.out) (Kd.R_base ho40) hb); have n1_ := Aside0.mk (Kd.R_below (by (with_reducible repeat (first | apply Kd.R_alloc | apply Kd.R_drewN | apply Kd.R_drew)); exact HO_10.out) hb); have n2_ := Aside0.mk (Kd.R_lower (Kd.R_new' ho40 (Kd.R_lt (by (with_reducible repeat (first | apply Kd.R_alloc | apply Kd.R_drewN | apply Kd.R_drew)); exact HO_7.out))) (below_size (by repeat (first | (with_reducible first | exact HB.out | apply below_alloc | apply pw_below_drewN | apply below_drew1) | exact HB.out)))); have n3_ := Aside0.mk (below_step (by repeat (first | (with_reducible first | exact HB.out | apply below_alloc | apply pw_below_drewN | apply below_drew1) | exact HB.out)) hb); clear HO_7; clear HO_10; clear HB; have HO_7 := n0_; have HO_10 := n1_; have HO217 := n2_; have HB := n3_; clear n0_ n1_ n2_ n3_; clear hb ho40; obtain ⟨Ao41, co41, eo41⟩ := Kd.R_slice HO217.out; subst eo41; have p218 : 0 ≤ (x13_33 : Int) := of_decide_eq_true (by first | (with_reducible assumption) | assumption); have q218 : x13_33 < (y215.length : Int) := of_decide_eq_true (by first | (with_reducible assumption) | assumption); obtain ⟨ad218, e218, hx218_0⟩ := Kd.at_int (Kd.R_reads' HO217.out).2.2 x13_33 p218 q218; cases e218; replace p218 := eq_true p218; replace q218 := eq_true q218))
                                                repeat (go_quiet (first | ((with_reducible refine gate_dst (N := 81) rfl ?_); (try (refine gate_guard (by rfl) ?_; dsimp only)); refine Kd.R_lit (Kd.int .i64) _ 3 ?hg (N := 81) ?hd (xs := ([Int.tmod a2 2, Int.tmod (wrap64 (Int.tdiv a2 2)) 2, Int.tmod (wrap64 (Int.tdiv a2 4)) 2, Int.tmod (wrap64 (Int.tdiv a2 8)) 2] : List Int)) (inner := [.int .i64 (Int.tmod a2 2), .int .i64 (Int.tmod (wrap64 (Int.tdiv a2 2)) 2), .int .i64 (Int.tmod (wrap64 (Int.tdiv a2 4)) 2), .int .i64 (Int.tmod (wrap64 (Int.tdiv a2 8)) 2)]) (ok := fun _ => True) (okp := fun _ => True) ?hr ?hp (fun _ hk => hk) trivial (Below.refl _ _) (Nat.le_refl _) (by simp) ?_; (case hd => rfl); (case hg => rfl); (case hr => first | (go_simp; done) | (go_simp; rfl)); (case hp => exact (Reps.one (show Kd.M (Kd.int .i64) _ _ _ (Int.tmod a2 2) [.int .i64 (Int.tmod a2 2)] from rfl) (Reps.one (show Kd.M (Kd.int .i64) _ _ _ (Int.tmod (wrap64 (Int.tdiv a2 2)) 2) [.int .i64 (Int.tmod (wrap64 (Int.tdiv a2 2)) 2)] from rfl) (Reps.one (show Kd.M (Kd.int .i64) _ _ _ (Int.tmod (wrap64 (Int.tdiv a2 4)) 2) [.int .i64 (Int.tmod (wrap64 (Int.tdiv a2 4)) 2)] from rfl) (Reps.one (show Kd.M (Kd.int .i64) _ _ _ (Int.tmod (wrap64 (Int.tdiv a2 8)) 2) [.int .i64 (Int.tmod (wrap64 (Int.tdiv a2 8)) 2)] from rfl) (Reps.none _ _)))))); intro v216 w39 ho40 hb hg_ hnew_; clear hg_ hnew_; (first | rw [← Ny215.out] at ho40 | (simp only [Int.reduceToNat] at ho40; rw [← Ny215.out] at ho40)); have n0_ := Aside0.mk (Kd.R_elder' (by (with_reducible repeat (first | apply Kd.R_alloc | apply Kd.R_drewN | apply Kd.R_drew)); exact HO_7.out) (Kd.R_base ho40) hb); have n1_ := Aside0.mk (Kd.R_below (by (with_reducible repeat (first | apply Kd.R_alloc | apply Kd.R_drewN | apply Kd.R_drew)); exact HO_10.out) hb); have n2_ := Aside0.mk (Kd.R_lower (Kd.R_new' ho40 (Kd.R_lt (by (with_reducible repeat (first | apply Kd.R_alloc | apply Kd.R_drewN | apply Kd.R_drew)); exact HO_7.out))) (below_size (by repeat (first | (with_reducible first | exact HB.out | apply below_alloc | apply pw_below_drewN | apply below_drew1) | exact HB.out)))); have n3_ := Aside0.mk (below_step (by repeat (first | (with_reducible first | exact HB.out | apply below_alloc | apply pw_below_drewN | apply below_drew1) | exact HB.out)) hb); clear HO_7; clear HO_10; clear HB; have HO_7 := n0_; have HO_10 := n1_; have HO217 := n2_; have HB := n3_; clear n0_ n1_ n2_ n3_; clear hb ho40; obtain ⟨Ao41, co41, eo41⟩ := Kd.R_slice HO217.out; subst eo41; have p218 : 0 ≤ (x13_33 : Int) := of_decide_eq_true (by first | (with_reducible assumption) | assumption); have q218 : x13_33 < (y215.length : Int) := of_decide_eq_true (by first | (with_reducible assumption) | assumption); obtain ⟨ad218, e218, hx218_0⟩ := Kd.at_int (Kd.R_reads' HO217.out).2.2 x13_33 p218 q218; cases e218; replace p218 := eq_true p218; replace q218 := eq_true q218)); try go_wp2_with (first | ((with_reducible refine gate_dst (N := 81) rfl ?_); (try (refine gate_guard (by rfl) ?_; dsimp only)); refine Kd.R_lit (Kd.int .i64) _ 3 ?hg (N := 81) ?hd (xs := ([Int.tmod a2 2, Int.tmod (wrap64 (Int.tdiv a2 2)) 2, Int.tmod (wrap64 (Int.tdiv a2 4)) 2, Int.tmod (wrap64 (Int.tdiv a2 8)) 2] : List Int)) (inner := [.int .i64 (Int.tmod a2 2), .int .i64 (Int.tmod (wrap64 (Int.tdiv a2 2)) 2), .int .i64 (Int.tmod (wrap64 (Int.tdiv a2 4)) 2), .int .i64 (Int.tmod (wrap64 (Int.tdiv a2 8)) 2)]) (ok := fun _ => True) (okp := fun _ => True) ?hr ?hp (fun _ hk => hk) trivial (Below.refl _ _) (Nat.le_refl _) (by simp) ?_; (case hd => rfl); (case hg => rfl); (case hr => first | (go_simp; done) | (go_simp; rfl)); (case hp => exact (Reps.one (show Kd.M (Kd.int .i64) _ _ _ (Int.tmod a2 2) [.int .i64 (Int.tmod a2 2)] from rfl) (Reps.one (show Kd.M (Kd.int .i64) _ _ _ (Int.tmod (wrap64 (Int.tdiv a2 2)) 2) [.int .i64 (Int.tmod (wrap64 (Int.tdiv a2 2)) 2)] from rfl) (Reps.one (show Kd.M (Kd.int .i64) _ _ _ (Int.tmod (wrap64 (Int.tdiv a2 4)) 2) [.int .i64 (Int.tmod (wrap64 (Int.tdiv a2 4)) 2)] from rfl) (Reps.one (show Kd.M (Kd.int .i64) _ _ _ (Int.tmod (wrap64 (Int.tdiv a2 8)) 2) [.int .i64 (Int.tmod (wrap64 (Int.tdiv a2 8)) 2)] from rfl) (Reps.none _ _)))))); intro v216 w39 ho40 hb hg_ hnew_; clear hg_ hnew_; (first | rw [← Ny215.out] at ho40 | (simp only [Int.reduceToNat] at ho40; rw [← Ny215.out] at ho40)); have n0_ := Aside0.mk (Kd.R_elder' (by (with_reducible repeat (first | apply Kd.R_alloc | apply Kd.R_drewN | apply Kd.R_drew)); exact HO_7.out) (Kd.R_base ho40) hb); have n1_ := Aside0.mk (Kd.R_below (by (with_reducible repeat (first | apply Kd.R_alloc | apply Kd.R_drewN | apply Kd.R_drew)); exact HO_10.out) hb); have n2_ := Aside0.mk (Kd.R_lower (Kd.R_new' ho40 (Kd.R_lt (by (with_reducible repeat (first | apply Kd.R_alloc | apply Kd.R_drewN | apply Kd.R_drew)); exact HO_7.out))) (below_size (by repeat (first | (with_reducible first | exact HB.out | apply below_alloc | apply pw_below_drewN | apply below_drew1) | exact HB.out)))); have n3_ := Aside0.mk (below_step (by repeat (first | (with_reducible first | exact HB.out | apply below_alloc | apply pw_below_drewN | apply below_drew1) | exact HB.out)) hb); clear HO_7; clear HO_10; clear HB; have HO_7 := n0_; have HO_10 := n1_; have HO217 := n2_; have HB := n3_; clear n0_ n1_ n2_ n3_; clear hb ho40; obtain ⟨Ao41, co41, eo41⟩ := Kd.R_slice HO217.out; subst eo41; have p218 : 0 ≤ (x13_33 : Int) := of_decide_eq_true (by first | (with_reducible assumption) | assumption); have q218 : x13_33 < (y215.length : Int) := of_decide_eq_true (by first | (with_reducible assumption) | assumption); obtain ⟨ad218, e218, hx218_0⟩ := Kd.at_int (Kd.R_reads' HO217.out).2.2 x13_33 p218 q218; cases e218; replace p218 := eq_true p218; replace q218 := eq_true q218)))
                                                go_roundg kj33
                                                case measure => have := HK1.out; have := HK2.out; have := HJ15.out; have := HJ22.out; have := HJ28.out; have := HJ33.out; omega
                                                case rel => exact ⟨(x10_2), (wrap64 (x11_2 + 1)), (by first | rfl | (simp; done) | (simp [*]; done)), H', ⟨by have := HK1.out; have := HK2.out; have := HJ15.out; have := HJ22.out; have := HJ28.out; have := HJ33.out; omega⟩, ⟨by (with_reducible repeat (first | apply Kd.R_alloc | apply Kd.R_drewN | apply Kd.R_drew)); exact Kd.R_mono HO_7.out (fun _ hk => trivial)⟩, ⟨by (with_reducible repeat (first | apply Kd.R_alloc | apply Kd.R_drewN | apply Kd.R_drew)); exact HO_10.out⟩, ⟨by repeat (first | (with_reducible first | exact HB.out | apply below_alloc | apply pw_below_drewN | apply below_drew1) | exact HB.out)⟩⟩
                                              · rw [if_neg c38] at H
                                                have c38b0 : ((rd y215 x13_33) == 0) = false := beq_eq_false_iff_ne.mpr c38
                                                have c38b1 : ((rd y215 x13_33) != 0) = true := bne_iff_ne.mpr c38
                                                by_cases c42 : (x10_2.length : Int) > 0
                                                · rw [if_pos c42] at H
                                                  have c42b0 : decide (0 < (x10_2.length : Int)) = true := decide_eq_true c42
                                                  have c42b1 : decide (0 < x10_2.length) = true := decide_eq_true (by omega)
                                                  clear c42
                                                  obtain ⟨ji43, hji43⟩ : ∃ j_ : Int, (wrap64 ((x10_2.length : Int) - 1)) = j_ := ⟨_, rfl⟩
                                                  replace H : (if 0 ≤ (ji43) then (if (ji43) < (x10_2.length : Int) then (if 0 ≤ x11_2 then (if x11_2 < (x7_1.length : Int) then (if ((rd_T39 x10_2 (ji43)).f1) = (wrap64 ((rd x7_1 x11_2) - 1)) then (glyphcutterref01_Make.l1 kj33 l0 l1 a2 x7_1 (x10_2.set ((ji43) : Int).toNat (⟨(rd_T39 x10_2 (ji43)).f0, x12_22⟩ : S39)) (wrap64 (x11_2 + 1))) else (if x10_2.length < 8796093022208 then (glyphcutterref01_Make.l1 kj33 l0 l1 a2 x7_1 (x10_2 ++ [(⟨rd x7_1 x11_2, x12_22⟩ : S39)]) (wrap64 (x11_2 + 1))) else (none))) else (none)) else (none)) else (none)) else (none)) = some r := by first | (rw [hji43] at H; exact H) | (simp only [hji43] at H ⊢; exact H)
                                                  have hji43w : (IntKind.i64.wrap ((x10_2.length : Int) - 1)) = ji43 := (i64_w _).trans hji43
                                                  by_cases c44 : 0 ≤ (ji43)
                                                  · rw [if_pos c44] at H
                                                    have c44b0 : decide (0 ≤ (ji43)) = true := decide_eq_true c44
                                                    clear c44
                                                    by_cases c45 : (ji43) < (x10_2.length : Int)
                                                    · rw [if_pos c45] at H
                                                      have c45b0 : decide ((ji43) < (x10_2.length : Int)) = true := decide_eq_true c45
                                                      clear c45
                                                      by_cases c46 : 0 ≤ x11_2
                                                      · rw [if_pos c46] at H
                                                        have c46b0 : decide (0 ≤ x11_2) = true := decide_eq_true c46
                                                        clear c46
                                                        by_cases c47 : x11_2 < (x7_1.length : Int)
                                                        · rw [if_pos c47] at H
                                                          have c47b0 : decide (x11_2 < (x7_1.length : Int)) = true := decide_eq_true c47
                                                          clear c47
                                                          by_cases c48 : ((rd_T39 x10_2 (ji43)).f1) = (wrap64 ((rd x7_1 x11_2) - 1))
                                                          · rw [if_pos c48] at H
                                                            have c48b0 : (((rd_T39 x10_2 (ji43)).f1) == (wrap64 ((rd x7_1 x11_2) - 1))) = true := beq_iff_eq.mpr c48
                                                            have c48b1 : (((rd_T39 x10_2 (ji43)).f1) != (wrap64 ((rd x7_1 x11_2) - 1))) = false := bne_eq_false_iff_eq.mpr c48
                                                            clear c48
                                                            obtain ⟨y221, hy221⟩ : ∃ y_ : List (S39), y_ = (x10_2.set ((ji43) : Int).toNat (⟨(rd_T39 x10_2 (ji43)).f0, x12_22⟩ : S39)) := ⟨_, rfl⟩
                                                            replace H : (glyphcutterref01_Make.l1 kj33 l0 l1 a2 x7_1 y221 (wrap64 (x11_2 + 1))) = some r := by first | (rw [hy221]; with_reducible exact H) | (have H2_ := (Option.bind_some _ _).symm.trans H; rw [hy221]; with_reducible exact H2_) | (have H2_ := (Option.bind_some _ _).symm.trans H; with_reducible exact H2_) | with_reducible exact H | (rw [hy221]; exact H) | exact H
                                                            have Ny221 := Aside0.mk hy221
                                                            clear hy221
                                                            have H' := Aside0.mk H
                                                            clear H
                                                            go_wp2_with (first | ((with_reducible refine gate_dst (N := 81) rfl ?_); (try (refine gate_guard (by rfl) ?_; dsimp only)); refine Kd.R_lit (Kd.int .i64) _ 3 ?hg (N := 81) ?hd (xs := ([Int.tmod a2 2, Int.tmod (wrap64 (Int.tdiv a2 2)) 2, Int.tmod (wrap64 (Int.tdiv a2 4)) 2, Int.tmod (wrap64 (Int.tdiv a2 8)) 2] : List Int)) (inner := [.int .i64 (Int.tmod a2 2), .int .i64 (Int.tmod (wrap64 (Int.tdiv a2 2)) 2), .int .i64 (Int.tmod (wrap64 (Int.tdiv a2 4)) 2), .int .i64 (Int.tmod (wrap64 (Int.tdiv a2 8)) 2)]) (ok := fun _ => True) (okp := fun _ => True) ?hr ?hp (fun _ hk => hk) trivial (Below.refl _ _) (Nat.le_refl _) (by simp) ?_; (case hd => rfl); (case hg => rfl); (case hr => first | (go_simp; done) | (go_simp; rfl)); (case hp => exact (Reps.one (show Kd.M (Kd.int .i64) _ _ _ (Int.tmod a2 2) [.int .i64 (Int.tmod a2 2)] from rfl) (Reps.one (show Kd.M (Kd.int .i64) _ _ _ (Int.tmod (wrap64 (Int.tdiv a2 2)) 2) [.int .i64 (Int.tmod (wrap64 (Int.tdiv a2 2)) 2)] from rfl) (Reps.one (show Kd.M (Kd.int .i64) _ _ _ (Int.tmod (wrap64 (Int.tdiv a2 4)) 2) [.int .i64 (Int.tmod (wrap64 (Int.tdiv a2 4)) 2)] from rfl) (Reps.one (show Kd.M (Kd.int .i64) _ _ _ (Int.tmod (wrap64 (Int.tdiv a2 8)) 2) [.int .i64 (Int.tmod (wrap64 (Int.tdiv a2 8)) 2)] from rfl) (Reps.none _ _)))))); intro v216 w50 ho51 hb hg_ hnew_; clear hg_ hnew_; (first | rw [← Ny215.out] at ho51 | (simp only [Int.reduceToNat] at ho51; rw [← Ny215.out] at ho51)); have n0_ := Aside0.mk (Kd.R_elder' (by (with_reducible repeat (first | apply Kd.R_alloc | apply Kd.R_drewN | apply Kd.R_drew)); exact HO_7.out) (Kd.R_base ho51) hb); have n1_ := Aside0.mk (Kd.R_below (by (with_reducible repeat (first | apply Kd.R_alloc | apply Kd.R_drewN | apply Kd.R_drew)); exact HO_10.out) hb); have n2_ := Aside0.mk (Kd.R_lower (Kd.R_new' ho51 (Kd.R_lt (by (with_reducible repeat (first | apply Kd.R_alloc | apply Kd.R_drewN | apply Kd.R_drew)); exact HO_7.out))) (below_size (by repeat (first | (with_reducible first | exact HB.out | apply below_alloc | apply pw_below_drewN | apply below_drew1) | exact HB.out)))); have n3_ := Aside0.mk (below_step (by repeat (first | (with_reducible first | exact HB.out | apply below_alloc | apply pw_below_drewN | apply below_drew1) | exact HB.out)) hb); clear HO_7; clear HO_10; clear HB; have HO_7 := n0_; have HO_10 := n1_; have HO217 := n2_; have HB := n3_; clear n0_ n1_ n2_ n3_; clear hb ho51; obtain ⟨Ao52, co52, eo52⟩ := Kd.R_slice HO217.out; subst eo52; have p218 : 0 ≤ (x13_33 : Int) := of_decide_eq_true (by first | (with_reducible assumption) | assumption); have q218 : x13_33 < (y215.length : Int) := of_decide_eq_true (by first | (with_reducible assumption) | assumption); obtain ⟨ad218, e218, hx218_0⟩ := Kd.at_int (Kd.R_reads' HO217.out).2.2 x13_33 p218 q218; cases e218; replace p218 := eq_true p218; replace q218 := eq_true q218; obtain ⟨Ao53, co53, eo53⟩ := Kd.R_slice HO_10.out; subst eo53; have p219 : 0 ≤ ((ji43) : Int) := of_decide_eq_true (by first | (with_reducible assumption) | assumption); have q219 : (ji43) < (x10_2.length : Int) := of_decide_eq_true (by first | (with_reducible assumption) | assumption); obtain ⟨ad219, e219, hx219_0, hx219_1⟩ := at_T39 (Kd.R_reads' HO_10.out).2.2 (ji43) p219 q219; cases e219; replace p219 := eq_true p219; replace q219 := eq_true q219; have p220 : 0 ≤ (x11_2 : Int) := of_decide_eq_true (by first | (with_reducible assumption) | assumption); have q220 : x11_2 < (x7_1.length : Int) := of_decide_eq_true (by first | (with_reducible assumption) | assumption); obtain ⟨ad220, e220, hx220_0⟩ := Kd.at_int (Kd.R_reads' HO_7.out).2.2 x11_2 p220 q220; obtain rfl : ad210 = ad220 := (by injection e220); replace p220 := eq_true p220; replace q220 := eq_true q220; have p49 : 0 ≤ ((ji43) : Int) := of_decide_eq_true (by first | (with_reducible assumption) | assumption); have q49 : ((ji43) : Int) < ((x10_2.length : Int) : Int) := of_decide_eq_true (by first | (with_reducible assumption) | assumption); obtain ⟨go49, co49, eo49, gb49, gl49, cl49, HG49⟩ := Kd.R_form HO_10.out (by omega); (first | cases eo49 | (injection eo49 with ea_ en_ ec_; (first | subst ea_ | (injection ea_ with ea_; subst ea_)); subst ec_; clear en_)); have GB49 := Aside0.mk gb49; have GG49 := Aside0.mk HG49; clear gb49 gl49 HG49; (first | simp only [add_plain] at hx219_0 | skip); (first | simp only [add_plain] at hx219_1 | skip); obtain ⟨ce49, hcl49, hM49, hcc49, hfr49⟩ := Kd.R_elem HO_10.out z39 ((ji43) : Int) p49 q49; obtain rfl := k39_openM hM49; have hx49_0 : w50.cell? ⟨go49, ((ji43) : Int).toNat * 2, none⟩ = some (.int .i64 ((rd_T39 x10_2 (ji43)).f0)) := hcc49 0 _ rfl; have hx49_1 : w50.cell? ⟨go49, ((ji43) : Int).toNat * 2 + 1, none⟩ = some (.int .i64 ((rd_T39 x10_2 (ji43)).f1)) := hcc49 1 _ rfl; have hf49_0 : w50.frozen? ⟨go49, ((ji43) : Int).toNat * 2, none⟩ = false := hfr49 0; have hf49_1 : w50.frozen? ⟨go49, ((ji43) : Int).toNat * 2 + 1, none⟩ = false := hfr49 1; clear hcl49 hcc49 hfr49 hM49; replace p49 := eq_true p49; replace q49 := eq_true q49; have HX54 := Aside0.mk (show Kd.R k39 39 w50 w.heap.size (fun _ => True) (.slice (some ⟨go49, 0, none⟩) x10_2.length co53) x10_2 from (by (with_reducible repeat (first | apply Kd.R_alloc | apply Kd.R_drewN | apply Kd.R_drew)); exact HO_10.out)); obtain ⟨ce54, hcl54, hM54, hcc54, hfr54⟩ := Kd.R_elem HX54.out z39 ((ji43) : Int) (of_decide_eq_true (by first | (with_reducible assumption) | assumption)) (by have h_ : ((ji43) : Int) < ((x10_2.length : Int) : Int) := of_decide_eq_true (by first | (with_reducible assumption) | assumption); first | exact h_ | (have e_ := (Kd.R_reads' HO_10.out).1; omega) | simpa using h_); obtain rfl := k39_openM hM54; have HP54 := Kd.R_seg HX54.out ((ji43) : Int) (of_decide_eq_true (by first | (with_reducible assumption) | assumption)) (by have h_ : ((ji43) : Int) < ((x10_2.length : Int) : Int) := of_decide_eq_true (by first | (with_reducible assumption) | assumption); first | exact h_ | (have e_ := (Kd.R_reads' HO_10.out).1; omega) | simpa using h_) (seg := [.int .i64 x12_22]) (j := 1) hcl54 hcc54 (show 2 ≤ 2 from by decide) (x' := (⟨(rd_T39 x10_2 (ji43)).f0, x12_22⟩ : S39)) (k39_mkM _ _ _ (⟨(rd_T39 x10_2 (ji43)).f0, x12_22⟩ : S39) ) (fun _ hk => hk); have hx54_1 := hcc54 1 _ rfl; (try simp only [show (k39).sz = 2 from rfl, Nat.mul_one, Nat.add_zero] at hx54_1); have hf54_1 := hfr54 1; (try simp only [show (k39).sz = 2 from rfl, Nat.mul_one, Nat.add_zero] at hf54_1); clear hcl54 hcc54 hfr54 hM54) | ((with_reducible refine gate_store (t := 3) (p := 110) rfl ?_); (try (rw [drewN_self w50]; generalize hq_ : World.drewN w50 _ = w50; have n0_ := Aside0.mk (Kd.R_at hq_ HO_7.out); have n1_ := Aside0.mk (Kd.R_at hq_ HO_10.out); have n2_ := Aside0.mk (Kd.R_at hq_ HO217.out); have n3_ := Aside0.mk (below_at hq_ HB.out); clear hq_ HO_7 HO_10 HO217 HB; have HO_7 := n0_; have HO_10 := n1_; have HO217 := n2_; have HB := n3_; clear n0_ n1_ n2_ n3_; (try (have HX54 := Aside0.mk (show Kd.R k39 39 w50 w.heap.size (fun _ => True) (.slice (some ⟨go49, 0, none⟩) x10_2.length co53) x10_2 from (by (with_reducible repeat (first | apply Kd.R_alloc | apply Kd.R_drewN | apply Kd.R_drew)); exact HO_10.out)))); (try (obtain ⟨ce54, hcl54, hM54, hcc54, hfr54⟩ := Kd.R_elem HX54.out z39 ((ji43) : Int) (of_decide_eq_true (by first | (with_reducible assumption) | assumption)) (by have h_ : ((ji43) : Int) < ((x10_2.length : Int) : Int) := of_decide_eq_true (by first | (with_reducible assumption) | assumption); first | exact h_ | (have e_ := (Kd.R_reads' HO_10.out).1; omega) | simpa using h_))); (try (obtain rfl := k39_openM hM54)); (try (have HP54 := Kd.R_seg HX54.out ((ji43) : Int) (of_decide_eq_true (by first | (with_reducible assumption) | assumption)) (by have h_ : ((ji43) : Int) < ((x10_2.length : Int) : Int) := of_decide_eq_true (by first | (with_reducible assumption) | assumption); first | exact h_ | (have e_ := (Kd.R_reads' HO_10.out).1; omega) | simpa using h_) (seg := [.int .i64 x12_22]) (j := 1) hcl54 hcc54 (show 2 ≤ 2 from by decide) (x' := (⟨(rd_T39 x10_2 (ji43)).f0, x12_22⟩ : S39)) (k39_mkM _ _ _ (⟨(rd_T39 x10_2 (ji43)).f0, x12_22⟩ : S39) ) (fun _ hk => hk))); (try (have hx54_1 := hcc54 1 _ rfl)); (try (try simp only [show (k39).sz = 2 from rfl, Nat.mul_one, Nat.add_zero] at hx54_1)); (try (have hf54_1 := hfr54 1)); (try (try simp only [show (k39).sz = 2 from rfl, Nat.mul_one, Nat.add_zero] at hf54_1)); (try (clear hcl54 hcc54 hfr54 hM54)))); refine store_event (t := 3) (p := 110) (v := ?vo_w55) (w1 := (w50.setCell ⟨go49, ((ji43) : Int).toNat * 2 + 1, none⟩ (.int .i64 x12_22))) ?hg ?ho ?hn ?hr ?_; (case ho => rfl); (case hg => rfl); (case hn => rfl); (case hr => first | (go_simp; done) | (go_simp; rfl)); intro w55 hw; have hg : w50.grownBy w55 (some go49) := (by rw [hw]; exact HP54.2); have hp_ : Kd.R k39 39 w55 w.heap.size (fun _ => True) (.slice (some ⟨go49, 0, none⟩) x10_2.length co53) y221 := (by rw [hw, Ny221.out]; exact HP54.1); clear HP54; have n0_ := Aside0.mk (Kd.R_over' (v := (.slice (some ⟨go49, 0, none⟩) x10_2.length co53)) (by (with_reducible repeat (first | apply Kd.R_alloc | apply Kd.R_drewN | apply Kd.R_drew)); exact HO_7.out) (Kd.R_typed HO_10.out) (by decide) hg); have n1_ := Aside0.mk (hp_); have n2_ := Aside0.mk (Kd.R_over' (v := (.slice (some ⟨go49, 0, none⟩) x10_2.length co53)) (by (with_reducible repeat (first | apply Kd.R_alloc | apply Kd.R_drewN | apply Kd.R_drew)); exact HO217.out) (Kd.R_typed HO_10.out) (by decide) hg); have n3_ := Aside0.mk ((by rw [hw]; exact below_set (HB.out) GB49.out : Below w.heap.size w w55)); clear HO_7; clear HO_10; clear HO217; clear HB; have HO_7 := n0_; have HO_10 := n1_; have HO217 := n2_; have HB := n3_; clear n0_ n1_ n2_ n3_; clear hg hw hp_))
                                                            repeat (go_quiet (first | ((with_reducible refine gate_dst (N := 81) rfl ?_); (try (refine gate_guard (by rfl) ?_; dsimp only)); refine Kd.R_lit (Kd.int .i64) _ 3 ?hg (N := 81) ?hd (xs := ([Int.tmod a2 2, Int.tmod (wrap64 (Int.tdiv a2 2)) 2, Int.tmod (wrap64 (Int.tdiv a2 4)) 2, Int.tmod (wrap64 (Int.tdiv a2 8)) 2] : List Int)) (inner := [.int .i64 (Int.tmod a2 2), .int .i64 (Int.tmod (wrap64 (Int.tdiv a2 2)) 2), .int .i64 (Int.tmod (wrap64 (Int.tdiv a2 4)) 2), .int .i64 (Int.tmod (wrap64 (Int.tdiv a2 8)) 2)]) (ok := fun _ => True) (okp := fun _ => True) ?hr ?hp (fun _ hk => hk) trivial (Below.refl _ _) (Nat.le_refl _) (by simp) ?_; (case hd => rfl); (case hg => rfl); (case hr => first | (go_simp; done) | (go_simp; rfl)); (case hp => exact (Reps.one (show Kd.M (Kd.int .i64) _ _ _ (Int.tmod a2 2) [.int .i64 (Int.tmod a2 2)] from rfl) (Reps.one (show Kd.M (Kd.int .i64) _ _ _ (Int.tmod (wrap64 (Int.tdiv a2 2)) 2) [.int .i64 (Int.tmod (wrap64 (Int.tdiv a2 2)) 2)] from rfl) (Reps.one (show Kd.M (Kd.int .i64) _ _ _ (Int.tmod (wrap64 (Int.tdiv a2 4)) 2) [.int .i64 (Int.tmod (wrap64 (Int.tdiv a2 4)) 2)] from rfl) (Reps.one (show Kd.M (Kd.int .i64) _ _ _ (Int.tmod (wrap64 (Int.tdiv a2 8)) 2) [.int .i64 (Int.tmod (wrap64 (Int.tdiv a2 8)) 2)] from rfl) (Reps.none _ _)))))); intro v216 w50 ho51 hb hg_ hnew_; clear hg_ hnew_; (first | rw [← Ny215.out] at ho51 | (simp only [Int.reduceToNat] at ho51; rw [← Ny215.out] at ho51)); have n0_ := Aside0.mk (Kd.R_elder' (by (with_reducible repeat (first | apply Kd.R_alloc | apply Kd.R_drewN | apply Kd.R_drew)); exact HO_7.out) (Kd.R_base ho51) hb); have n1_ := Aside0.mk (Kd.R_below (by (with_reducible repeat (first | apply Kd.R_alloc | apply Kd.R_drewN | apply Kd.R_drew)); exact HO_10.out) hb); have n2_ := Aside0.mk (Kd.R_lower (Kd.R_new' ho51 (Kd.R_lt (by (with_reducible repeat (first | apply Kd.R_alloc | apply Kd.R_drewN | apply Kd.R_drew)); exact HO_7.out))) (below_size (by repeat (first | (with_reducible first | exact HB.out | apply below_alloc | apply pw_below_drewN | apply below_drew1) | exact HB.out)))); have n3_ := Aside0.mk (below_step (by repeat (first | (with_reducible first | exact HB.out | apply below_alloc | apply pw_below_drewN | apply below_drew1) | exact HB.out)) hb); clear HO_7; clear HO_10; clear HB; have HO_7 := n0_; have HO_10 := n1_; have HO217 := n2_; have HB := n3_; clear n0_ n1_ n2_ n3_; clear hb ho51; obtain ⟨Ao52, co52, eo52⟩ := Kd.R_slice HO217.out; subst eo52; have p218 : 0 ≤ (x13_33 : Int) := of_decide_eq_true (by first | (with_reducible assumption) | assumption); have q218 : x13_33 < (y215.length : Int) := of_decide_eq_true (by first | (with_reducible assumption) | assumption); obtain ⟨ad218, e218, hx218_0⟩ := Kd.at_int (Kd.R_reads' HO217.out).2.2 x13_33 p218 q218; cases e218; replace p218 := eq_true p218; replace q218 := eq_true q218; obtain ⟨Ao53, co53, eo53⟩ := Kd.R_slice HO_10.out; subst eo53; have p219 : 0 ≤ ((ji43) : Int) := of_decide_eq_true (by first | (with_reducible assumption) | assumption); have q219 : (ji43) < (x10_2.length : Int) := of_decide_eq_true (by first | (with_reducible assumption) | assumption); obtain ⟨ad219, e219, hx219_0, hx219_1⟩ := at_T39 (Kd.R_reads' HO_10.out).2.2 (ji43) p219 q219; cases e219; replace p219 := eq_true p219; replace q219 := eq_true q219; have p220 : 0 ≤ (x11_2 : Int) := of_decide_eq_true (by first | (with_reducible assumption) | assumption); have q220 : x11_2 < (x7_1.length : Int) := of_decide_eq_true (by first | (with_reducible assumption) | assumption); obtain ⟨ad220, e220, hx220_0⟩ := Kd.at_int (Kd.R_reads' HO_7.out).2.2 x11_2 p220 q220; obtain rfl : ad210 = ad220 := (by injection e220); replace p220 := eq_true p220; replace q220 := eq_true q220; have p49 : 0 ≤ ((ji43) : Int) := of_decide_eq_true (by first | (with_reducible assumption) | assumption); have q49 : ((ji43) : Int) < ((x10_2.length : Int) : Int) := of_decide_eq_true (by first | (with_reducible assumption) | assumption); obtain ⟨go49, co49, eo49, gb49, gl49, cl49, HG49⟩ := Kd.R_form HO_10.out (by omega); (first | cases eo49 | (injection eo49 with ea_ en_ ec_; (first | subst ea_ | (injection ea_ with ea_; subst ea_)); subst ec_; clear en_)); have GB49 := Aside0.mk gb49; have GG49 := Aside0.mk HG49; clear gb49 gl49 HG49; (first | simp only [add_plain] at hx219_0 | skip); (first | simp only [add_plain] at hx219_1 | skip); obtain ⟨ce49, hcl49, hM49, hcc49, hfr49⟩ := Kd.R_elem HO_10.out z39 ((ji43) : Int) p49 q49; obtain rfl := k39_openM hM49; have hx49_0 : w50.cell? ⟨go49, ((ji43) : Int).toNat * 2, none⟩ = some (.int .i64 ((rd_T39 x10_2 (ji43)).f0)) := hcc49 0 _ rfl; have hx49_1 : w50.cell? ⟨go49, ((ji43) : Int).toNat * 2 + 1, none⟩ = some (.int .i64 ((rd_T39 x10_2 (ji43)).f1)) := hcc49 1 _ rfl; have hf49_0 : w50.frozen? ⟨go49, ((ji43) : Int).toNat * 2, none⟩ = false := hfr49 0; have hf49_1 : w50.frozen? ⟨go49, ((ji43) : Int).toNat * 2 + 1, none⟩ = false := hfr49 1; clear hcl49 hcc49 hfr49 hM49; replace p49 := eq_true p49; replace q49 := eq_true q49; have HX54 := Aside0.mk (show Kd.R k39 39 w50 w.heap.size (fun _ => True) (.slice (some ⟨go49, 0, none⟩) x10_2.length co53) x10_2 from (by (with_reducible repeat (first | apply Kd.R_alloc | apply Kd.R_drewN | apply Kd.R_drew)); exact HO_10.out)); obtain ⟨ce54, hcl54, hM54, hcc54, hfr54⟩ := Kd.R_elem HX54.out z39 ((ji43) : Int) (of_decide_eq_true (by first | (with_reducible assumption) | assumption)) (by have h_ : ((ji43) : Int) < ((x10_2.length : Int) : Int) := of_decide_eq_true (by first | (with_reducible assumption) | assumption); first | exact h_ | (have e_ := (Kd.R_reads' HO_10.out).1; omega) | simpa using h_); obtain rfl := k39_openM hM54; have HP54 := Kd.R_seg HX54.out ((ji43) : Int) (of_decide_eq_true (by first | (with_reducible assumption) | assumption)) (by have h_ : ((ji43) : Int) < ((x10_2.length : Int) : Int) := of_decide_eq_true (by first | (with_reducible assumption) | assumption); first | exact h_ | (have e_ := (Kd.R_reads' HO_10.out).1; omega) | simpa using h_) (seg := [.int .i64 x12_22]) (j := 1) hcl54 hcc54 (show 2 ≤ 2 from by decide) (x' := (⟨(rd_T39 x10_2 (ji43)).f0, x12_22⟩ : S39)) (k39_mkM _ _ _ (⟨(rd_T39 x10_2 (ji43)).f0, x12_22⟩ : S39) ) (fun _ hk => hk); have hx54_1 := hcc54 1 _ rfl; (try simp only [show (k39).sz = 2 from rfl, Nat.mul_one, Nat.add_zero] at hx54_1); have hf54_1 := hfr54 1; (try simp only [show (k39).sz = 2 from rfl, Nat.mul_one, Nat.add_zero] at hf54_1); clear hcl54 hcc54 hfr54 hM54) | ((with_reducible refine gate_store (t := 3) (p := 110) rfl ?_); (try (rw [drewN_self w50]; generalize hq_ : World.drewN w50 _ = w50; have n0_ := Aside0.mk (Kd.R_at hq_ HO_7.out); have n1_ := Aside0.mk (Kd.R_at hq_ HO_10.out); have n2_ := Aside0.mk (Kd.R_at hq_ HO217.out); have n3_ := Aside0.mk (below_at hq_ HB.out); clear hq_ HO_7 HO_10 HO217 HB; have HO_7 := n0_; have HO_10 := n1_; have HO217 := n2_; have HB := n3_; clear n0_ n1_ n2_ n3_; (try (have HX54 := Aside0.mk (show Kd.R k39 39 w50 w.heap.size (fun _ => True) (.slice (some ⟨go49, 0, none⟩) x10_2.length co53) x10_2 from (by (with_reducible repeat (first | apply Kd.R_alloc | apply Kd.R_drewN | apply Kd.R_drew)); exact HO_10.out)))); (try (obtain ⟨ce54, hcl54, hM54, hcc54, hfr54⟩ := Kd.R_elem HX54.out z39 ((ji43) : Int) (of_decide_eq_true (by first | (with_reducible assumption) | assumption)) (by have h_ : ((ji43) : Int) < ((x10_2.length : Int) : Int) := of_decide_eq_true (by first | (with_reducible assumption) | assumption); first | exact h_ | (have e_ := (Kd.R_reads' HO_10.out).1; omega) | simpa using h_))); (try (obtain rfl := k39_openM hM54)); (try (have HP54 := Kd.R_seg HX54.out ((ji43) : Int) (of_decide_eq_true (by first | (with_reducible assumption) | assumption)) (by have h_ : ((ji43) : Int) < ((x10_2.length : Int) : Int) := of_decide_eq_true (by first | (with_reducible assumption) | assumption); first | exact h_ | (have e_ := (Kd.R_reads' HO_10.out).1; omega) | simpa using h_) (seg := [.int .i64 x12_22]) (j := 1) hcl54 hcc54 (show 2 ≤ 2 from by decide) (x' := (⟨(rd_T39 x10_2 (ji43)).f0, x12_22⟩ : S39)) (k39_mkM _ _ _ (⟨(rd_T39 x10_2 (ji43)).f0, x12_22⟩ : S39) ) (fun _ hk => hk))); (try (have hx54_1 := hcc54 1 _ rfl)); (try (try simp only [show (k39).sz = 2 from rfl, Nat.mul_one, Nat.add_zero] at hx54_1)); (try (have hf54_1 := hfr54 1)); (try (try simp only [show (k39).sz = 2 from rfl, Nat.mul_one, Nat.add_zero] at hf54_1)); (try (clear hcl54 hcc54 hfr54 hM54)))); refine store_event (t := 3) (p := 110) (v := ?vo_w55) (w1 := (w50.setCell ⟨go49, ((ji43) : Int).toNat * 2 + 1, none⟩ (.int .i64 x12_22))) ?hg ?ho ?hn ?hr ?_; (case ho => rfl); (case hg => rfl); (case hn => rfl); (case hr => first | (go_simp; done) | (go_simp; rfl)); intro w55 hw; have hg : w50.grownBy w55 (some go49) := (by rw [hw]; exact HP54.2); have hp_ : Kd.R k39 39 w55 w.heap.size (fun _ => True) (.slice (some ⟨go49, 0, none⟩) x10_2.length co53) y221 := (by rw [hw, Ny221.out]; exact HP54.1); clear HP54; have n0_ := Aside0.mk (Kd.R_over' (v := (.slice (some ⟨go49, 0, none⟩) x10_2.length co53)) (by (with_reducible repeat (first | apply Kd.R_alloc | apply Kd.R_drewN | apply Kd.R_drew)); exact HO_7.out) (Kd.R_typed HO_10.out) (by decide) hg); have n1_ := Aside0.mk (hp_); have n2_ := Aside0.mk (Kd.R_over' (v := (.slice (some ⟨go49, 0, none⟩) x10_2.length co53)) (by (with_reducible repeat (first | apply Kd.R_alloc | apply Kd.R_drewN | apply Kd.R_drew)); exact HO217.out) (Kd.R_typed HO_10.out) (by decide) hg); have n3_ := Aside0.mk ((by rw [hw]; exact below_set (HB.out) GB49.out : Below w.heap.size w w55)); clear HO_7; clear HO_10; clear HO217; clear HB; have HO_7 := n0_; have HO_10 := n1_; have HO217 := n2_; have HB := n3_; clear n0_ n1_ n2_ n3_; clear hg hw hp_)); try go_wp2_with (first | ((with_reducible refine gate_dst (N := 81) rfl ?_); (try (refine gate_guard (by rfl) ?_; dsimp only)); refine Kd.R_lit (Kd.int .i64) _ 3 ?hg (N := 81) ?hd (xs := ([Int.tmod a2 2, Int.tmod (wrap64 (Int.tdiv a2 2)) 2, Int.tmod (wrap64 (Int.tdiv a2 4)) 2, Int.tmod (wrap64 (Int.tdiv a2 8)) 2] : List Int)) (inner := [.int .i64 (Int.tmod a2 2), .int .i64 (Int.tmod (wrap64 (Int.tdiv a2 2)) 2), .int .i64 (Int.tmod (wrap64 (Int.tdiv a2 4)) 2), .int .i64 (Int.tmod (wrap64 (Int.tdiv a2 8)) 2)]) (ok := fun _ => True) (okp := fun _ => True) ?hr ?hp (fun _ hk => hk) trivial (Below.refl _ _) (Nat.le_refl _) (by simp) ?_; (case hd => rfl); (case hg => rfl); (case hr => first | (go_simp; done) | (go_simp; rfl)); (case hp => exact (Reps.one (show Kd.M (Kd.int .i64) _ _ _ (Int.tmod a2 2) [.int .i64 (Int.tmod a2 2)] from rfl) (Reps.one (show Kd.M (Kd.int .i64) _ _ _ (Int.tmod (wrap64 (Int.tdiv a2 2)) 2) [.int .i64 (Int.tmod (wrap64 (Int.tdiv a2 2)) 2)] from rfl) (Reps.one (show Kd.M (Kd.int .i64) _ _ _ (Int.tmod (wrap64 (Int.tdiv a2 4)) 2) [.int .i64 (Int.tmod (wrap64 (Int.tdiv a2 4)) 2)] from rfl) (Reps.one (show Kd.M (Kd.int .i64) _ _ _ (Int.tmod (wrap64 (Int.tdiv a2 8)) 2) [.int .i64 (Int.tmod (wrap64 (Int.tdiv a2 8)) 2)] from rfl) (Reps.none _ _)))))); intro v216 w50 ho51 hb hg_ hnew_; clear hg_ hnew_; (first | rw [← Ny215.out] at ho51 | (simp only [Int.reduceToNat] at ho51; rw [← Ny215.out] at ho51)); have n0_ := Aside0.mk (Kd.R_elder' (by (with_reducible repeat (first | apply Kd.R_alloc | apply Kd.R_drewN | apply Kd.R_drew)); exact HO_7.out) (Kd.R_base ho51) hb); have n1_ := Aside0.mk (Kd.R_below (by (with_reducible repeat (first | apply Kd.R_alloc | apply Kd.R_drewN | apply Kd.R_drew)); exact HO_10.out) hb); have n2_ := Aside0.mk (Kd.R_lower (Kd.R_new' ho51 (Kd.R_lt (by (with_reducible repeat (first | apply Kd.R_alloc | apply Kd.R_drewN | apply Kd.R_drew)); exact HO_7.out))) (below_size (by repeat (first | (with_reducible first | exact HB.out | apply below_alloc | apply pw_below_drewN | apply below_drew1) | exact HB.out)))); have n3_ := Aside0.mk (below_step (by repeat (first | (with_reducible first | exact HB.out | apply below_alloc | apply pw_below_drewN | apply below_drew1) | exact HB.out)) hb); clear HO_7; clear HO_10; clear HB; have HO_7 := n0_; have HO_10 := n1_; have HO217 := n2_; have HB := n3_; clear n0_ n1_ n2_ n3_; clear hb ho51; obtain ⟨Ao52, co52, eo52⟩ := Kd.R_slice HO217.out; subst eo52; have p218 : 0 ≤ (x13_33 : Int) := of_decide_eq_true (by first | (with_reducible assumption) | assumption); have q218 : x13_33 < (y215.length : Int) := of_decide_eq_true (by first | (with_reducible assumption) | assumption); obtain ⟨ad218, e218, hx218_0⟩ := Kd.at_int (Kd.R_reads' HO217.out).2.2 x13_33 p218 q218; cases e218; replace p218 := eq_true p218; replace q218 := eq_true q218; obtain ⟨Ao53, co53, eo53⟩ := Kd.R_slice HO_10.out; subst eo53; have p219 : 0 ≤ ((ji43) : Int) := of_decide_eq_true (by first | (with_reducible assumption) | assumption); have q219 : (ji43) < (x10_2.length : Int) := of_decide_eq_true (by first | (with_reducible assumption) | assumption); obtain ⟨ad219, e219, hx219_0, hx219_1⟩ := at_T39 (Kd.R_reads' HO_10.out).2.2 (ji43) p219 q219; cases e219; replace p219 := eq_true p219; replace q219 := eq_true q219; have p220 : 0 ≤ (x11_2 : Int) := of_decide_eq_true (by first | (with_reducible assumption) | assumption); have q220 : x11_2 < (x7_1.length : Int) := of_decide_eq_true (by first | (with_reducible assumption) | assumption); obtain ⟨ad220, e220, hx220_0⟩ := Kd.at_int (Kd.R_reads' HO_7.out).2.2 x11_2 p220 q220; obtain rfl : ad210 = ad220 := (by injection e220); replace p220 := eq_true p220; replace q220 := eq_true q220; have p49 : 0 ≤ ((ji43) : Int) := of_decide_eq_true (by first | (with_reducible assumption) | assumption); have q49 : ((ji43) : Int) < ((x10_2.length : Int) : Int) := of_decide_eq_true (by first | (with_reducible assumption) | assumption); obtain ⟨go49, co49, eo49, gb49, gl49, cl49, HG49⟩ := Kd.R_form HO_10.out (by omega); (first | cases eo49 | (injection eo49 with ea_ en_ ec_; (first | subst ea_ | (injection ea_ with ea_; subst ea_)); subst ec_; clear en_)); have GB49 := Aside0.mk gb49; have GG49 := Aside0.mk HG49; clear gb49 gl49 HG49; (first | simp only [add_plain] at hx219_0 | skip); (first | simp only [add_plain] at hx219_1 | skip); obtain ⟨ce49, hcl49, hM49, hcc49, hfr49⟩ := Kd.R_elem HO_10.out z39 ((ji43) : Int) p49 q49; obtain rfl := k39_openM hM49; have hx49_0 : w50.cell? ⟨go49, ((ji43) : Int).toNat * 2, none⟩ = some (.int .i64 ((rd_T39 x10_2 (ji43)).f0)) := hcc49 0 _ rfl; have hx49_1 : w50.cell? ⟨go49, ((ji43) : Int).toNat * 2 + 1, none⟩ = some (.int .i64 ((rd_T39 x10_2 (ji43)).f1)) := hcc49 1 _ rfl; have hf49_0 : w50.frozen? ⟨go49, ((ji43) : Int).toNat * 2, none⟩ = false := hfr49 0; have hf49_1 : w50.frozen? ⟨go49, ((ji43) : Int).toNat * 2 + 1, none⟩ = false := hfr49 1; clear hcl49 hcc49 hfr49 hM49; replace p49 := eq_true p49; replace q49 := eq_true q49; have HX54 := Aside0.mk (show Kd.R k39 39 w50 w.heap.size (fun _ => True) (.slice (some ⟨go49, 0, none⟩) x10_2.length co53) x10_2 from (by (with_reducible repeat (first | apply Kd.R_alloc | apply Kd.R_drewN | apply Kd.R_drew)); exact HO_10.out)); obtain ⟨ce54, hcl54, hM54, hcc54, hfr54⟩ := Kd.R_elem HX54.out z39 ((ji43) : Int) (of_decide_eq_true (by first | (with_reducible assumption) | assumption)) (by have h_ : ((ji43) : Int) < ((x10_2.length : Int) : Int) := of_decide_eq_true (by first | (with_reducible assumption) | assumption); first | exact h_ | (have e_ := (Kd.R_reads' HO_10.out).1; omega) | simpa using h_); obtain rfl := k39_openM hM54; have HP54 := Kd.R_seg HX54.out ((ji43) : Int) (of_decide_eq_true (by first | (with_reducible assumption) | assumption)) (by have h_ : ((ji43) : Int) < ((x10_2.length : Int) : Int) := of_decide_eq_true (by first | (with_reducible assumption) | assumption); first | exact h_ | (have e_ := (Kd.R_reads' HO_10.out).1; omega) | simpa using h_) (seg := [.int .i64 x12_22]) (j := 1) hcl54 hcc54 (show 2 ≤ 2 from by decide) (x' := (⟨(rd_T39 x10_2 (ji43)).f0, x12_22⟩ : S39)) (k39_mkM _ _ _ (⟨(rd_T39 x10_2 (ji43)).f0, x12_22⟩ : S39) ) (fun _ hk => hk); have hx54_1 := hcc54 1 _ rfl; (try simp only [show (k39).sz = 2 from rfl, Nat.mul_one, Nat.add_zero] at hx54_1); have hf54_1 := hfr54 1; (try simp only [show (k39).sz = 2 from rfl, Nat.mul_one, Nat.add_zero] at hf54_1); clear hcl54 hcc54 hfr54 hM54) | ((with_reducible refine gate_store (t := 3) (p := 110) rfl ?_); (try (rw [drewN_self w50]; generalize hq_ : World.drewN w50 _ = w50; have n0_ := Aside0.mk (Kd.R_at hq_ HO_7.out); have n1_ := Aside0.mk (Kd.R_at hq_ HO_10.out); have n2_ := Aside0.mk (Kd.R_at hq_ HO217.out); have n3_ := Aside0.mk (below_at hq_ HB.out); clear hq_ HO_7 HO_10 HO217 HB; have HO_7 := n0_; have HO_10 := n1_; have HO217 := n2_; have HB := n3_; clear n0_ n1_ n2_ n3_; (try (have HX54 := Aside0.mk (show Kd.R k39 39 w50 w.heap.size (fun _ => True) (.slice (some ⟨go49, 0, none⟩) x10_2.length co53) x10_2 from (by (with_reducible repeat (first | apply Kd.R_alloc | apply Kd.R_drewN | apply Kd.R_drew)); exact HO_10.out)))); (try (obtain ⟨ce54, hcl54, hM54, hcc54, hfr54⟩ := Kd.R_elem HX54.out z39 ((ji43) : Int) (of_decide_eq_true (by first | (with_reducible assumption) | assumption)) (by have h_ : ((ji43) : Int) < ((x10_2.length : Int) : Int) := of_decide_eq_true (by first | (with_reducible assumption) | assumption); first | exact h_ | (have e_ := (Kd.R_reads' HO_10.out).1; omega) | simpa using h_))); (try (obtain rfl := k39_openM hM54)); (try (have HP54 := Kd.R_seg HX54.out ((ji43) : Int) (of_decide_eq_true (by first | (with_reducible assumption) | assumption)) (by have h_ : ((ji43) : Int) < ((x10_2.length : Int) : Int) := of_decide_eq_true (by first | (with_reducible assumption) | assumption); first | exact h_ | (have e_ := (Kd.R_reads' HO_10.out).1; omega) | simpa using h_) (seg := [.int .i64 x12_22]) (j := 1) hcl54 hcc54 (show 2 ≤ 2 from by decide) (x' := (⟨(rd_T39 x10_2 (ji43)).f0, x12_22⟩ : S39)) (k39_mkM _ _ _ (⟨(rd_T39 x10_2 (ji43)).f0, x12_22⟩ : S39) ) (fun _ hk => hk))); (try (have hx54_1 := hcc54 1 _ rfl)); (try (try simp only [show (k39).sz = 2 from rfl, Nat.mul_one, Nat.add_zero] at hx54_1)); (try (have hf54_1 := hfr54 1)); (try (try simp only [show (k39).sz = 2 from rfl, Nat.mul_one, Nat.add_zero] at hf54_1)); (try (clear hcl54 hcc54 hfr54 hM54)))); refine store_event (t := 3) (p := 110) (v := ?vo_w55) (w1 := (w50.setCell ⟨go49, ((ji43) : Int).toNat * 2 + 1, none⟩ (.int .i64 x12_22))) ?hg ?ho ?hn ?hr ?_; (case ho => rfl); (case hg => rfl); (case hn => rfl); (case hr => first | (go_simp; done) | (go_simp; rfl)); intro w55 hw; have hg : w50.grownBy w55 (some go49) := (by rw [hw]; exact HP54.2); have hp_ : Kd.R k39 39 w55 w.heap.size (fun _ => True) (.slice (some ⟨go49, 0, none⟩) x10_2.length co53) y221 := (by rw [hw, Ny221.out]; exact HP54.1); clear HP54; have n0_ := Aside0.mk (Kd.R_over' (v := (.slice (some ⟨go49, 0, none⟩) x10_2.length co53)) (by (with_reducible repeat (first | apply Kd.R_alloc | apply Kd.R_drewN | apply Kd.R_drew)); exact HO_7.out) (Kd.R_typed HO_10.out) (by decide) hg); have n1_ := Aside0.mk (hp_); have n2_ := Aside0.mk (Kd.R_over' (v := (.slice (some ⟨go49, 0, none⟩) x10_2.length co53)) (by (with_reducible repeat (first | apply Kd.R_alloc | apply Kd.R_drewN | apply Kd.R_drew)); exact HO217.out) (Kd.R_typed HO_10.out) (by decide) hg); have n3_ := Aside0.mk ((by rw [hw]; exact below_set (HB.out) GB49.out : Below w.heap.size w w55)); clear HO_7; clear HO_10; clear HO217; clear HB; have HO_7 := n0_; have HO_10 := n1_; have HO217 := n2_; have HB := n3_; clear n0_ n1_ n2_ n3_; clear hg hw hp_)))
                                                            go_roundg kj33
                                                            case measure => have := HK1.out; have := HK2.out; have := HJ15.out; have := HJ22.out; have := HJ28.out; have := HJ33.out; omega
                                                            case rel => exact ⟨(y221), (wrap64 (x11_2 + 1)), (by first | rfl | (simp; done) | (simp [*]; done)), H', ⟨by have := HK1.out; have := HK2.out; have := HJ15.out; have := HJ22.out; have := HJ28.out; have := HJ33.out; omega⟩, ⟨by (with_reducible repeat (first | apply Kd.R_alloc | apply Kd.R_drewN | apply Kd.R_drew)); exact Kd.R_mono HO_7.out (fun _ hk => trivial)⟩, ⟨by (with_reducible repeat (first | apply Kd.R_alloc | apply Kd.R_drewN | apply Kd.R_drew)); exact HO_10.out⟩, ⟨by repeat (first | (with_reducible first | exact HB.out | apply below_alloc | apply pw_below_drewN | apply below_drew1) | exact HB.out)⟩⟩
                                                          · rw [if_neg c48] at H
                                                            have c48b0 : (((rd_T39 x10_2 (ji43)).f1) == (wrap64 ((rd x7_1 x11_2) - 1))) = false := beq_eq_false_iff_ne.mpr c48
                                                            have c48b1 : (((rd_T39 x10_2 (ji43)).f1) != (wrap64 ((rd x7_1 x11_2) - 1))) = true := bne_iff_ne.mpr c48
                                                            by_cases c56 : x10_2.length < 8796093022208
                                                            · rw [if_pos c56] at H
                                                              have LMc56 := Aside0.mk c56
                                                              clear c56
                                                              obtain ⟨y223, hy223⟩ : ∃ y_ : List (S39), y_ = (x10_2 ++ [(⟨rd x7_1 x11_2, x12_22⟩ : S39)]) := ⟨_, rfl⟩
                                                              replace H : (glyphcutterref01_Make.l1 kj33 l0 l1 a2 x7_1 y223 (wrap64 (x11_2 + 1))) = some r := by first | (rw [hy223]; with_reducible exact H) | (have H2_ := (Option.bind_some _ _).symm.trans H; rw [hy223]; with_reducible exact H2_) | (have H2_ := (Option.bind_some _ _).symm.trans H; with_reducible exact H2_) | with_reducible exact H | (rw [hy223]; exact H) | exact H
                                                              have Ny223 := Aside0.mk hy223
                                                              clear hy223
                                                              have H' := Aside0.mk H
                                                              clear H
                                                              go_wp2_with (first | ((with_reducible refine gate_dst (N := 81) rfl ?_); (try (refine gate_guard (by rfl) ?_; dsimp only)); refine Kd.R_lit (Kd.int .i64) _ 3 ?hg (N := 81) ?hd (xs := ([Int.tmod a2 2, Int.tmod (wrap64 (Int.tdiv a2 2)) 2, Int.tmod (wrap64 (Int.tdiv a2 4)) 2, Int.tmod (wrap64 (Int.tdiv a2 8)) 2] : List Int)) (inner := [.int .i64 (Int.tmod a2 2), .int .i64 (Int.tmod (wrap64 (Int.tdiv a2 2)) 2), .int .i64 (Int.tmod (wrap64 (Int.tdiv a2 4)) 2), .int .i64 (Int.tmod (wrap64 (Int.tdiv a2 8)) 2)]) (ok := fun _ => True) (okp := fun _ => True) ?hr ?hp (fun _ hk => hk) trivial (Below.refl _ _) (Nat.le_refl _) (by simp) ?_; (case hd => rfl); (case hg => rfl); (case hr => first | (go_simp; done) | (go_simp; rfl)); (case hp => exact (Reps.one (show Kd.M (Kd.int .i64) _ _ _ (Int.tmod a2 2) [.int .i64 (Int.tmod a2 2)] from rfl) (Reps.one (show Kd.M (Kd.int .i64) _ _ _ (Int.tmod (wrap64 (Int.tdiv a2 2)) 2) [.int .i64 (Int.tmod (wrap64 (Int.tdiv a2 2)) 2)] from rfl) (Reps.one (show Kd.M (Kd.int .i64) _ _ _ (Int.tmod (wrap64 (Int.tdiv a2 4)) 2) [.int .i64 (Int.tmod (wrap64 (Int.tdiv a2 4)) 2)] from rfl) (Reps.one (show Kd.M (Kd.int .i64) _ _ _ (Int.tmod (wrap64 (Int.tdiv a2 8)) 2) [.int .i64 (Int.tmod (wrap64 (Int.tdiv a2 8)) 2)] from rfl) (Reps.none _ _)))))); intro v216 w57 ho58 hb hg_ hnew_; clear hg_ hnew_; (first | rw [← Ny215.out] at ho58 | (simp only [Int.reduceToNat] at ho58; rw [← Ny215.out] at ho58)); have n0_ := Aside0.mk (Kd.R_elder' (by (with_reducible repeat (first | apply Kd.R_alloc | apply Kd.R_drewN | apply Kd.R_drew)); exact HO_7.out) (Kd.R_base ho58) hb); have n1_ := Aside0.mk (Kd.R_below (by (with_reducible repeat (first | apply Kd.R_alloc | apply Kd.R_drewN | apply Kd.R_drew)); exact HO_10.out) hb); have n2_ := Aside0.mk (Kd.R_lower (Kd.R_new' ho58 (Kd.R_lt (by (with_reducible repeat (first | apply Kd.R_alloc | apply Kd.R_drewN | apply Kd.R_drew)); exact HO_7.out))) (below_size (by repeat (first | (with_reducible first | exact HB.out | apply below_alloc | apply pw_below_drewN | apply below_drew1) | exact HB.out)))); have n3_ := Aside0.mk (below_step (by repeat (first | (with_reducible first | exact HB.out | apply below_alloc | apply pw_below_drewN | apply below_drew1) | exact HB.out)) hb); clear HO_7; clear HO_10; clear HB; have HO_7 := n0_; have HO_10 := n1_; have HO217 := n2_; have HB := n3_; clear n0_ n1_ n2_ n3_; clear hb ho58; obtain ⟨Ao59, co59, eo59⟩ := Kd.R_slice HO217.out; subst eo59; have p218 : 0 ≤ (x13_33 : Int) := of_decide_eq_true (by first | (with_reducible assumption) | assumption); have q218 : x13_33 < (y215.length : Int) := of_decide_eq_true (by first | (with_reducible assumption) | assumption); obtain ⟨ad218, e218, hx218_0⟩ := Kd.at_int (Kd.R_reads' HO217.out).2.2 x13_33 p218 q218; cases e218; replace p218 := eq_true p218; replace q218 := eq_true q218; obtain ⟨Ao60, co60, eo60⟩ := Kd.R_slice HO_10.out; subst eo60; have p219 : 0 ≤ ((ji43) : Int) := of_decide_eq_true (by first | (with_reducible assumption) | assumption); have q219 : (ji43) < (x10_2.length : Int) := of_decide_eq_true (by first | (with_reducible assumption) | assumption); obtain ⟨ad219, e219, hx219_0, hx219_1⟩ := at_T39 (Kd.R_reads' HO_10.out).2.2 (ji43) p219 q219; cases e219; replace p219 := eq_true p219; replace q219 := eq_true q219; have p220 : 0 ≤ (x11_2 : Int) := of_decide_eq_true (by first | (with_reducible assumption) | assumption); have q220 : x11_2 < (x7_1.length : Int) := of_decide_eq_true (by first | (with_reducible assumption) | assumption); obtain ⟨ad220, e220, hx220_0⟩ := Kd.at_int (Kd.R_reads' HO_7.out).2.2 x11_2 p220 q220; obtain rfl : ad210 = ad220 := (by injection e220); replace p220 := eq_true p220; replace q220 := eq_true q220; have p222 : 0 ≤ (x11_2 : Int) := of_decide_eq_true (by first | (with_reducible assumption) | assumption); have q222 : x11_2 < (x7_1.length : Int) := of_decide_eq_true (by first | (with_reducible assumption) | assumption); obtain ⟨ad222, e222, hx222_0⟩ := Kd.at_int (Kd.R_reads' HO_7.out).2.2 x11_2 p222 q222; obtain rfl : ad210 = ad222 := (by injection e222); replace p222 := eq_true p222; replace q222 := eq_true q222) | ((with_reducible refine gate_builtin (b := .append) (xs := #[.tmp 111, .tmp 118]) rfl ?_); (try (refine gate_guard (by rfl) ?_; dsimp only)); at_builtin; refine Kd.R_append k39 (w0 := w) w.heap.size rfl (.tmp 111) (.tmp 118) 27 39 (.agg #[(.int .i64 0), (.int .i64 0)]) 16 rfl Try.underlying27 info39 rfl (by decide) (by omega) (.slice (some ad219) x10_2.length co60) x10_2 (⟨rd x7_1 x11_2, x12_22⟩ : S39) [.int .i64 (rd x7_1 x11_2), .int .i64 x12_22] (fun _ => True) (fun _ => False) rfl rfl ?aP (fun _ hk => hk.elim) ?aF ?aO ?aB ?aS ?aL ?_; (case aP => exact k39_mkM _ _ _ (⟨rd x7_1 x11_2, x12_22⟩ : S39)); (case aB => exact (by repeat (first | (with_reducible first | exact HB.out | apply below_alloc | apply pw_below_drewN | apply below_drew1) | exact HB.out))); (case aF => exact (fun _ _ => trivial)); (case aO => exact (by (with_reducible repeat (first | apply Kd.R_alloc | apply Kd.R_drewN | apply Kd.R_drew)); exact HO_10.out)); (case aS => exact (below_size (by repeat (first | (with_reducible first | exact HB.out | apply below_alloc | apply pw_below_drewN | apply below_drew1) | exact HB.out)))); (case aL => have := LMc56.out; omega); intro v224 w61 ho hb hg hat; rw [← Ny223.out] at ho; have n0_ := Aside0.mk (Kd.R_over' (by (with_reducible repeat (first | apply Kd.R_alloc | apply Kd.R_drewN | apply Kd.R_drew)); exact HO_7.out) (Kd.R_typed (by (with_reducible repeat (first | apply Kd.R_alloc | apply Kd.R_drewN | apply Kd.R_drew)); exact HO_10.out)) (by decide) hg); have n1_ := Aside0.mk (Kd.R_over' (by (with_reducible repeat (first | apply Kd.R_alloc | apply Kd.R_drewN | apply Kd.R_drew)); exact HO217.out) (Kd.R_typed (by (with_reducible repeat (first | apply Kd.R_alloc | apply Kd.R_drewN | apply Kd.R_drew)); exact HO_10.out)) (by decide) hg); have n2_ := Aside0.mk (hb); have n3_ := Aside0.mk (ho); clear HO_7; clear HO217; clear HB; clear HO_10; have HO_7 := n0_; have HO217 := n1_; have HB := n2_; have HO225 := n3_; clear n0_ n1_ n2_ n3_; clear ho hb hg hat))
                                                              repeat (go_quiet (first | ((with_reducible refine gate_dst (N := 81) rfl ?_); (try (refine gate_guard (by rfl) ?_; dsimp only)); refine Kd.R_lit (Kd.int .i64) _ 3 ?hg (N := 81) ?hd (xs := ([Int.tmod a2 2, Int.tmod (wrap64 (Int.tdiv a2 2)) 2, Int.tmod (wrap64 (Int.tdiv a2 4)) 2, Int.tmod (wrap64 (Int.tdiv a2 8)) 2] : List Int)) (inner := [.int .i64 (Int.tmod a2 2), .int .i64 (Int.tmod (wrap64 (Int.tdiv a2 2)) 2), .int .i64 (Int.tmod (wrap64 (Int.tdiv a2 4)) 2), .int .i64 (Int.tmod (wrap64 (Int.tdiv a2 8)) 2)]) (ok := fun _ => True) (okp := fun _ => True) ?hr ?hp (fun _ hk => hk) trivial (Below.refl _ _) (Nat.le_refl _) (by simp) ?_; (case hd => rfl); (case hg => rfl); (case hr => first | (go_simp; done) | (go_simp; rfl)); (case hp => exact (Reps.one (show Kd.M (Kd.int .i64) _ _ _ (Int.tmod a2 2) [.int .i64 (Int.tmod a2 2)] from rfl) (Reps.one (show Kd.M (Kd.int .i64) _ _ _ (Int.tmod (wrap64 (Int.tdiv a2 2)) 2) [.int .i64 (Int.tmod (wrap64 (Int.tdiv a2 2)) 2)] from rfl) (Reps.one (show Kd.M (Kd.int .i64) _ _ _ (Int.tmod (wrap64 (Int.tdiv a2 4)) 2) [.int .i64 (Int.tmod (wrap64 (Int.tdiv a2 4)) 2)] from rfl) (Reps.one (show Kd.M (Kd.int .i64) _ _ _ (Int.tmod (wrap64 (Int.tdiv a2 8)) 2) [.int .i64 (Int.tmod (wrap64 (Int.tdiv a2 8)) 2)] from rfl) (Reps.none _ _)))))); intro v216 w57 ho58 hb hg_ hnew_; clear hg_ hnew_; (first | rw [← Ny215.out] at ho58 | (simp only [Int.reduceToNat] at ho58; rw [← Ny215.out] at ho58)); have n0_ := Aside0.mk (Kd.R_elder' (by (with_reducible repeat (first | apply Kd.R_alloc | apply Kd.R_drewN | apply Kd.R_drew)); exact HO_7.out) (Kd.R_base ho58) hb); have n1_ := Aside0.mk (Kd.R_below (by (with_reducible repeat (first | apply Kd.R_alloc | apply Kd.R_drewN | apply Kd.R_drew)); exact HO_10.out) hb); have n2_ := Aside0.mk (Kd.R_lower (Kd.R_new' ho58 (Kd.R_lt (by (with_reducible repeat (first | apply Kd.R_alloc | apply Kd.R_drewN | apply Kd.R_drew)); exact HO_7.out))) (below_size (by repeat (first | (with_reducible first | exact HB.out | apply below_alloc | apply pw_below_drewN | apply below_drew1) | exact HB.out)))); have n3_ := Aside0.mk (below_step (by repeat (first | (with_reducible first | exact HB.out | apply below_alloc | apply pw_below_drewN | apply below_drew1) | exact HB.out)) hb); clear HO_7; clear HO_10; clear HB; have HO_7 := n0_; have HO_10 := n1_; have HO217 := n2_; have HB := n3_; clear n0_ n1_ n2_ n3_; clear hb ho58; obtain ⟨Ao59, co59, eo59⟩ := Kd.R_slice HO217.out; subst eo59; have p218 : 0 ≤ (x13_33 : Int) := of_decide_eq_true (by first | (with_reducible assumption) | assumption); have q218 : x13_33 < (y215.length : Int) := of_decide_eq_true (by first | (with_reducible assumption) | assumption); obtain ⟨ad218, e218, hx218_0⟩ := Kd.at_int (Kd.R_reads' HO217.out).2.2 x13_33 p218 q218; cases e218; replace p218 := eq_true p218; replace q218 := eq_true q218; obtain ⟨Ao60, co60, eo60⟩ := Kd.R_slice HO_10.out; subst eo60; have p219 : 0 ≤ ((ji43) : Int) := of_decide_eq_true (by first | (with_reducible assumption) | assumption); have q219 : (ji43) < (x10_2.length : Int) := of_decide_eq_true (by first | (with_reducible assumption) | assumption); obtain ⟨ad219, e219, hx219_0, hx219_1⟩ := at_T39 (Kd.R_reads' HO_10.out).2.2 (ji43) p219 q219; cases e219; replace p219 := eq_true p219; replace q219 := eq_true q219; have p220 : 0 ≤ (x11_2 : Int) := of_decide_eq_true (by first | (with_reducible assumption) | assumption); have q220 : x11_2 < (x7_1.length : Int) := of_decide_eq_true (by first | (with_reducible assumption) | assumption); obtain ⟨ad220, e220, hx220_0⟩ := Kd.at_int (Kd.R_reads' HO_7.out).2.2 x11_2 p220 q220; obtain rfl : ad210 = ad220 := (by injection e220); replace p220 := eq_true p220; replace q220 := eq_true q220; have p222 : 0 ≤ (x11_2 : Int) := of_decide_eq_true (by first | (with_reducible assumption) | assumption); have q222 : x11_2 < (x7_1.length : Int) := of_decide_eq_true (by first | (with_reducible assumption) | assumption); obtain ⟨ad222, e222, hx222_0⟩ := Kd.at_int (Kd.R_reads' HO_7.out).2.2 x11_2 p222 q222; obtain rfl : ad210 = ad222 := (by injection e222); replace p222 := eq_true p222; replace q222 := eq_true q222) | ((with_reducible refine gate_builtin (b := .append) (xs := #[.tmp 111, .tmp 118]) rfl ?_); (try (refine gate_guard (by rfl) ?_; dsimp only)); at_builtin; refine Kd.R_append k39 (w0 := w) w.heap.size rfl (.tmp 111) (.tmp 118) 27 39 (.agg #[(.int .i64 0), (.int .i64 0)]) 16 rfl Try.underlying27 info39 rfl (by decide) (by omega) (.slice (some ad219) x10_2.length co60) x10_2 (⟨rd x7_1 x11_2, x12_22⟩ : S39) [.int .i64 (rd x7_1 x11_2), .int .i64 x12_22] (fun _ => True) (fun _ => False) rfl rfl ?aP (fun _ hk => hk.elim) ?aF ?aO ?aB ?aS ?aL ?_; (case aP => exact k39_mkM _ _ _ (⟨rd x7_1 x11_2, x12_22⟩ : S39)); (case aB => exact (by repeat (first | (with_reducible first | exact HB.out | apply below_alloc | apply pw_below_drewN | apply below_drew1) | exact HB.out))); (case aF => exact (fun _ _ => trivial)); (case aO => exact (by (with_reducible repeat (first | apply Kd.R_alloc | apply Kd.R_drewN | apply Kd.R_drew)); exact HO_10.out)); (case aS => exact (below_size (by repeat (first | (with_reducible first | exact HB.out | apply below_alloc | apply pw_below_drewN | apply below_drew1) | exact HB.out)))); (case aL => have := LMc56.out; omega); intro v224 w61 ho hb hg hat; rw [← Ny223.out] at ho; have n0_ := Aside0.mk (Kd.R_over' (by (with_reducible repeat (first | apply Kd.R_alloc | apply Kd.R_drewN | apply Kd.R_drew)); exact HO_7.out) (Kd.R_typed (by (with_reducible repeat (first | apply Kd.R_alloc | apply Kd.R_drewN | apply Kd.R_drew)); exact HO_10.out)) (by decide) hg); have n1_ := Aside0.mk (Kd.R_over' (by (with_reducible repeat (first | apply Kd.R_alloc | apply Kd.R_drewN | apply Kd.R_drew)); exact HO217.out) (Kd.R_typed (by (with_reducible repeat (first | apply Kd.R_alloc | apply Kd.R_drewN | apply Kd.R_drew)); exact HO_10.out)) (by decide) hg); have n2_ := Aside0.mk (hb); have n3_ := Aside0.mk (ho); clear HO_7; clear HO217; clear HB; clear HO_10; have HO_7 := n0_; have HO217 := n1_; have HB := n2_; have HO225 := n3_; clear n0_ n1_ n2_ n3_; clear ho hb hg hat)); try go_wp2_with (first | ((with_reducible refine gate_dst (N := 81) rfl ?_); (try (refine gate_guard (by rfl) ?_; dsimp only)); refine Kd.R_lit (Kd.int .i64) _ 3 ?hg (N := 81) ?hd (xs := ([Int.tmod a2 2, Int.tmod (wrap64 (Int.tdiv a2 2)) 2, Int.tmod (wrap64 (Int.tdiv a2 4)) 2, Int.tmod (wrap64 (Int.tdiv a2 8)) 2] : List Int)) (inner := [.int .i64 (Int.tmod a2 2), .int .i64 (Int.tmod (wrap64 (Int.tdiv a2 2)) 2), .int .i64 (Int.tmod (wrap64 (Int.tdiv a2 4)) 2), .int .i64 (Int.tmod (wrap64 (Int.tdiv a2 8)) 2)]) (ok := fun _ => True) (okp := fun _ => True) ?hr ?hp (fun _ hk => hk) trivial (Below.refl _ _) (Nat.le_refl _) (by simp) ?_; (case hd => rfl); (case hg => rfl); (case hr => first | (go_simp; done) | (go_simp; rfl)); (case hp => exact (Reps.one (show Kd.M (Kd.int .i64) _ _ _ (Int.tmod a2 2) [.int .i64 (Int.tmod a2 2)] from rfl) (Reps.one (show Kd.M (Kd.int .i64) _ _ _ (Int.tmod (wrap64 (Int.tdiv a2 2)) 2) [.int .i64 (Int.tmod (wrap64 (Int.tdiv a2 2)) 2)] from rfl) (Reps.one (show Kd.M (Kd.int .i64) _ _ _ (Int.tmod (wrap64 (Int.tdiv a2 4)) 2) [.int .i64 (Int.tmod (wrap64 (Int.tdiv a2 4)) 2)] from rfl) (Reps.one (show Kd.M (Kd.int .i64) _ _ _ (Int.tmod (wrap64 (Int.tdiv a2 8)) 2) [.int .i64 (Int.tmod (wrap64 (Int.tdiv a2 8)) 2)] from rfl) (Reps.none _ _)))))); intro v216 w57 ho58 hb hg_ hnew_; clear hg_ hnew_; (first | rw [← Ny215.out] at ho58 | (simp only [Int.reduceToNat] at ho58; rw [← Ny215.out] at ho58)); have n0_ := Aside0.mk (Kd.R_elder' (by (with_reducible repeat (first | apply Kd.R_alloc | apply Kd.R_drewN | apply Kd.R_drew)); exact HO_7.out) (Kd.R_base ho58) hb); have n1_ := Aside0.mk (Kd.R_below (by (with_reducible repeat (first | apply Kd.R_alloc | apply Kd.R_drewN | apply Kd.R_drew)); exact HO_10.out) hb); have n2_ := Aside0.mk (Kd.R_lower (Kd.R_new' ho58 (Kd.R_lt (by (with_reducible repeat (first | apply Kd.R_alloc | apply Kd.R_drewN | apply Kd.R_drew)); exact HO_7.out))) (below_size (by repeat (first | (with_reducible first | exact HB.out | apply below_alloc | apply pw_below_drewN | apply below_drew1) | exact HB.out)))); have n3_ := Aside0.mk (below_step (by repeat (first | (with_reducible first | exact HB.out | apply below_alloc | apply pw_below_drewN | apply below_drew1) | exact HB.out)) hb); clear HO_7; clear HO_10; clear HB; have HO_7 := n0_; have HO_10 := n1_; have HO217 := n2_; have HB := n3_; clear n0_ n1_ n2_ n3_; clear hb ho58; obtain ⟨Ao59, co59, eo59⟩ := Kd.R_slice HO217.out; subst eo59; have p218 : 0 ≤ (x13_33 : Int) := of_decide_eq_true (by first | (with_reducible assumption) | assumption); have q218 : x13_33 < (y215.length : Int) := of_decide_eq_true (by first | (with_reducible assumption) | assumption); obtain ⟨ad218, e218, hx218_0⟩ := Kd.at_int (Kd.R_reads' HO217.out).2.2 x13_33 p218 q218; cases e218; replace p218 := eq_true p218; replace q218 := eq_true q218; obtain ⟨Ao60, co60, eo60⟩ := Kd.R_slice HO_10.out; subst eo60; have p219 : 0 ≤ ((ji43) : Int) := of_decide_eq_true (by first | (with_reducible assumption) | assumption); have q219 : (ji43) < (x10_2.length : Int) := of_decide_eq_true (by first | (with_reducible assumption) | assumption); obtain ⟨ad219, e219, hx219_0, hx219_1⟩ := at_T39 (Kd.R_reads' HO_10.out).2.2 (ji43) p219 q219; cases e219; replace p219 := eq_true p219; replace q219 := eq_true q219; have p220 : 0 ≤ (x11_2 : Int) := of_decide_eq_true (by first | (with_reducible assumption) | assumption); have q220 : x11_2 < (x7_1.length : Int) := of_decide_eq_true (by first | (with_reducible assumption) | assumption); obtain ⟨ad220, e220, hx220_0⟩ := Kd.at_int (Kd.R_reads' HO_7.out).2.2 x11_2 p220 q220; obtain rfl : ad210 = ad220 := (by injection e220); replace p220 := eq_true p220; replace q220 := eq_true q220; have p222 : 0 ≤ (x11_2 : Int) := of_decide_eq_true (by first | (with_reducible assumption) | assumption); have q222 : x11_2 < (x7_1.length : Int) := of_decide_eq_true (by first | (with_reducible assumption) | assumption); obtain ⟨ad222, e222, hx222_0⟩ := Kd.at_int (Kd.R_reads' HO_7.out).2.2 x11_2 p222 q222; obtain rfl : ad210 = ad222 := (by injection e222); replace p222 := eq_true p222; replace q222 := eq_true q222) | ((with_reducible refine gate_builtin (b := .append) (xs := #[.tmp 111, .tmp 118]) rfl ?_); (try (refine gate_guard (by rfl) ?_; dsimp only)); at_builtin; refine Kd.R_append k39 (w0 := w) w.heap.size rfl (.tmp 111) (.tmp 118) 27 39 (.agg #[(.int .i64 0), (.int .i64 0)]) 16 rfl Try.underlying27 info39 rfl (by decide) (by omega) (.slice (some ad219) x10_2.length co60) x10_2 (⟨rd x7_1 x11_2, x12_22⟩ : S39) [.int .i64 (rd x7_1 x11_2), .int .i64 x12_22] (fun _ => True) (fun _ => False) rfl rfl ?aP (fun _ hk => hk.elim) ?aF ?aO ?aB ?aS ?aL ?_; (case aP => exact k39_mkM _ _ _ (⟨rd x7_1 x11_2, x12_22⟩ : S39)); (case aB => exact (by repeat (first | (with_reducible first | exact HB.out | apply below_alloc | apply pw_below_drewN | apply below_drew1) | exact HB.out))); (case aF => exact (fun _ _ => trivial)); (case aO => exact (by (with_reducible repeat (first | apply Kd.R_alloc | apply Kd.R_drewN | apply Kd.R_drew)); exact HO_10.out)); (case aS => exact (below_size (by repeat (first | (with_reducible first | exact HB.out | apply below_alloc | apply pw_below_drewN | apply below_drew1) | exact HB.out)))); (case aL => have := LMc56.out; omega); intro v224 w61 ho hb hg hat; rw [← Ny223.out] at ho; have n0_ := Aside0.mk (Kd.R_over' (by (with_reducible repeat (first | apply Kd.R_alloc | apply Kd.R_drewN | apply Kd.R_drew)); exact HO_7.out) (Kd.R_typed (by (with_reducible repeat (first | apply Kd.R_alloc | apply Kd.R_drewN | apply Kd.R_drew)); exact HO_10.out)) (by decide) hg); have n1_ := Aside0.mk (Kd.R_over' (by (with_reducible repeat (first | apply Kd.R_alloc | apply Kd.R_drewN | apply Kd.R_drew)); exact HO217.out) (Kd.R_typed (by (with_reducible repeat (first | apply Kd.R_alloc | apply Kd.R_drewN | apply Kd.R_drew)); exact HO_10.out)) (by decide) hg); have n2_ := Aside0.mk (hb); have n3_ := Aside0.mk (ho); clear HO_7; clear HO217; clear HB; clear HO_10; have HO_7 := n0_; have HO217 := n1_; have HB := n2_; have HO225 := n3_; clear n0_ n1_ n2_ n3_; clear ho hb hg hat)))
                                                              go_roundg kj33
                                                              case measure => have := HK1.out; have := HK2.out; have := HJ15.out; have := HJ22.out; have := HJ28.out; have := HJ33.out; omega
                                                              case rel => exact ⟨(y223), (wrap64 (x11_2 + 1)), (by first | rfl | (simp; done) | (simp [*]; done)), H', ⟨by have := HK1.out; have := HK2.out; have := HJ15.out; have := HJ22.out; have := HJ28.out; have := HJ33.out; omega⟩, ⟨by (with_reducible repeat (first | apply Kd.R_alloc | apply Kd.R_drewN | apply Kd.R_drew)); exact Kd.R_mono HO_7.out (fun _ hk => trivial)⟩, ⟨by (with_reducible repeat (first | apply Kd.R_alloc | apply Kd.R_drewN | apply Kd.R_drew)); exact HO225.out⟩, ⟨by repeat (first | (with_reducible first | exact HB.out | apply below_alloc | apply pw_below_drewN | apply below_drew1) | exact HB.out)⟩⟩
                                                            · rw [if_neg c56] at H
                                                              exact absurd H (by simp)
                                                        · rw [if_neg c47] at H
                                                          exact absurd H (by simp)
                                                      · rw [if_neg c46] at H
                                                        exact absurd H (by simp)
                                                    · rw [if_neg c45] at H
                                                      exact absurd H (by simp)
                                                  · rw [if_neg c44] at H
                                                    exact absurd H (by simp)
                                                · rw [if_neg c42] at H
                                                  have c42b0 : decide (0 < (x10_2.length : Int)) = false := decide_eq_false c42
                                                  have c42b1 : decide (0 < x10_2.length) = false := decide_eq_false (by omega)
                                                  clear c42
                                                  by_cases c62 : 0 ≤ x11_2
                                                  · rw [if_pos c62] at H
                                                    have c62b0 : decide (0 ≤ x11_2) = true := decide_eq_true c62
                                                    clear c62
                                                    by_cases c63 : x11_2 < (x7_1.length : Int)
                                                    · rw [if_pos c63] at H
                                                      have c63b0 : decide (x11_2 < (x7_1.length : Int)) = true := decide_eq_true c63
                                                      clear c63
                                                      by_cases c64 : x10_2.length < 8796093022208
                                                      · rw [if_pos c64] at H
                                                        have LMc64 := Aside0.mk c64
                                                        clear c64
                                                        obtain ⟨y227, hy227⟩ : ∃ y_ : List (S39), y_ = (x10_2 ++ [(⟨rd x7_1 x11_2, x12_22⟩ : S39)]) := ⟨_, rfl⟩
                                                        replace H : (glyphcutterref01_Make.l1 kj33 l0 l1 a2 x7_1 y227 (wrap64 (x11_2 + 1))) = some r := by first | (rw [hy227]; with_reducible exact H) | (have H2_ := (Option.bind_some _ _).symm.trans H; rw [hy227]; with_reducible exact H2_) | (have H2_ := (Option.bind_some _ _).symm.trans H; with_reducible exact H2_) | with_reducible exact H | (rw [hy227]; exact H) | exact H
                                                        have Ny227 := Aside0.mk hy227
                                                        clear hy227
                                                        have H' := Aside0.mk H
                                                        clear H
                                                        go_wp2_with (first | ((with_reducible refine gate_dst (N := 81) rfl ?_); (try (refine gate_guard (by rfl) ?_; dsimp only)); refine Kd.R_lit (Kd.int .i64) _ 3 ?hg (N := 81) ?hd (xs := ([Int.tmod a2 2, Int.tmod (wrap64 (Int.tdiv a2 2)) 2, Int.tmod (wrap64 (Int.tdiv a2 4)) 2, Int.tmod (wrap64 (Int.tdiv a2 8)) 2] : List Int)) (inner := [.int .i64 (Int.tmod a2 2), .int .i64 (Int.tmod (wrap64 (Int.tdiv a2 2)) 2), .int .i64 (Int.tmod (wrap64 (Int.tdiv a2 4)) 2), .int .i64 (Int.tmod (wrap64 (Int.tdiv a2 8)) 2)]) (ok := fun _ => True) (okp := fun _ => True) ?hr ?hp (fun _ hk => hk) trivial (Below.refl _ _) (Nat.le_refl _) (by simp) ?_; (case hd => rfl); (case hg => rfl); (case hr => first | (go_simp; done) | (go_simp; rfl)); (case hp => exact (Reps.one (show Kd.M (Kd.int .i64) _ _ _ (Int.tmod a2 2) [.int .i64 (Int.tmod a2 2)] from rfl) (Reps.one (show Kd.M (Kd.int .i64) _ _ _ (Int.tmod (wrap64 (Int.tdiv a2 2)) 2) [.int .i64 (Int.tmod (wrap64 (Int.tdiv a2 2)) 2)] from rfl) (Reps.one (show Kd.M (Kd.int .i64) _ _ _ (Int.tmod (wrap64 (Int.tdiv a2 4)) 2) [.int .i64 (Int.tmod (wrap64 (Int.tdiv a2 4)) 2)] from rfl) (Reps.one (show Kd.M (Kd.int .i64) _ _ _ (Int.tmod (wrap64 (Int.tdiv a2 8)) 2) [.int .i64 (Int.tmod (wrap64 (Int.tdiv a2 8)) 2)] from rfl) (Reps.none _ _)))))); intro v216 w65 ho66 hb hg_ hnew_; clear hg_ hnew_; (first | rw [← Ny215.out] at ho66 | (simp only [Int.reduceToNat] at ho66; rw [← Ny215.out] at ho66)); have n0_ := Aside0.mk (Kd.R_elder' (by (with_reducible repeat (first | apply Kd.R_alloc | apply Kd.R_drewN | apply Kd.R_drew)); exact HO_7.out) (Kd.R_base ho66) hb); have n1_ := Aside0.mk (Kd.R_below (by (with_reducible repeat (first | apply Kd.R_alloc | apply Kd.R_drewN | apply Kd.R_drew)); exact HO_10.out) hb); have n2_ := Aside0.mk (Kd.R_lower (Kd.R_new' ho66 (Kd.R_lt (by (with_reducible repeat (first | apply Kd.R_alloc | apply Kd.R_drewN | apply Kd.R_drew)); exact HO_7.out))) (below_size (by repeat (first | (with_reducible first | exact HB.out | apply below_alloc | apply pw_below_drewN | apply below_drew1) | exact HB.out)))); have n3_ := Aside0.mk (below_step (by repeat (first | (with_reducible first | exact HB.out | apply below_alloc | apply pw_below_drewN | apply below_drew1) | exact HB.out)) hb); clear HO_7; clear HO_10; clear HB; have HO_7 := n0_; have HO_10 := n1_; have HO217 := n2_; have HB := n3_; clear n0_ n1_ n2_ n3_; clear hb ho66; obtain ⟨Ao67, co67, eo67⟩ := Kd.R_slice HO217.out; subst eo67; have p218 : 0 ≤ (x13_33 : Int) := of_decide_eq_true (by first | (with_reducible assumption) | assumption); have q218 : x13_33 < (y215.length : Int) := of_decide_eq_true (by first | (with_reducible assumption) | assumption); obtain ⟨ad218, e218, hx218_0⟩ := Kd.at_int (Kd.R_reads' HO217.out).2.2 x13_33 p218 q218; cases e218; replace p218 := eq_true p218; replace q218 := eq_true q218; obtain ⟨Ao68, co68, eo68⟩ := Kd.R_slice HO_10.out; subst eo68; have p226 : 0 ≤ (x11_2 : Int) := of_decide_eq_true (by first | (with_reducible assumption) | assumption); have q226 : x11_2 < (x7_1.length : Int) := of_decide_eq_true (by first | (with_reducible assumption) | assumption); obtain ⟨ad226, e226, hx226_0⟩ := Kd.at_int (Kd.R_reads' HO_7.out).2.2 x11_2 p226 q226; obtain rfl : ad210 = ad226 := (by injection e226); replace p226 := eq_true p226; replace q226 := eq_true q226) | ((with_reducible refine gate_builtin (b := .append) (xs := #[.tmp 111, .tmp 118]) rfl ?_); (try (refine gate_guard (by rfl) ?_; dsimp only)); at_builtin; refine Kd.R_append k39 (w0 := w) w.heap.size rfl (.tmp 111) (.tmp 118) 27 39 (.agg #[(.int .i64 0), (.int .i64 0)]) 16 rfl Try.underlying27 info39 rfl (by decide) (by omega) (.slice Ao68 x10_2.length co68) x10_2 (⟨rd x7_1 x11_2, x12_22⟩ : S39) [.int .i64 (rd x7_1 x11_2), .int .i64 x12_22] (fun _ => True) (fun _ => False) rfl rfl ?aP (fun _ hk => hk.elim) ?aF ?aO ?aB ?aS ?aL ?_; (case aP => exact k39_mkM _ _ _ (⟨rd x7_1 x11_2, x12_22⟩ : S39)); (case aB => exact (by repeat (first | (with_reducible first | exact HB.out | apply below_alloc | apply pw_below_drewN | apply below_drew1) | exact HB.out))); (case aF => exact (fun _ _ => trivial)); (case aO => exact (by (with_reducible repeat (first | apply Kd.R_alloc | apply Kd.R_drewN | apply Kd.R_drew)); exact HO_10.out)); (case aS => exact (below_size (by repeat (first | (with_reducible first | exact HB.out | apply below_alloc | apply pw_below_drewN | apply below_drew1) | exact HB.out)))); (case aL => have := LMc64.out; omega); intro v228 w69 ho hb hg hat; rw [← Ny227.out] at ho; have n0_ := Aside0.mk (Kd.R_over' (by (with_reducible repeat (first | apply Kd.R_alloc | apply Kd.R_drewN | apply Kd.R_drew)); exact HO_7.out) (Kd.R_typed (by (with_reducible repeat (first | apply Kd.R_alloc | apply Kd.R_drewN | apply Kd.R_drew)); exact HO_10.out)) (by decide) hg); have n1_ := Aside0.mk (Kd.R_over' (by (with_reducible repeat (first | apply Kd.R_alloc | apply Kd.R_drewN | apply Kd.R_drew)); exact HO217.out) (Kd.R_typed (by (with_reducible repeat (first | apply Kd.R_alloc | apply Kd.R_drewN | apply Kd.R_drew)); exact HO_10.out)) (by decide) hg); have n2_ := Aside0.mk (hb); have n3_ := Aside0.mk (ho); clear HO_7; clear HO217; clear HB; clear HO_10; have HO_7 := n0_; have HO217 := n1_; have HB := n2_; have HO229 := n3_; clear n0_ n1_ n2_ n3_; clear ho hb hg hat))
                                                        repeat (go_quiet (first | ((with_reducible refine gate_dst (N := 81) rfl ?_); (try (refine gate_guard (by rfl) ?_; dsimp only)); refine Kd.R_lit (Kd.int .i64) _ 3 ?hg (N := 81) ?hd (xs := ([Int.tmod a2 2, Int.tmod (wrap64 (Int.tdiv a2 2)) 2, Int.tmod (wrap64 (Int.tdiv a2 4)) 2, Int.tmod (wrap64 (Int.tdiv a2 8)) 2] : List Int)) (inner := [.int .i64 (Int.tmod a2 2), .int .i64 (Int.tmod (wrap64 (Int.tdiv a2 2)) 2), .int .i64 (Int.tmod (wrap64 (Int.tdiv a2 4)) 2), .int .i64 (Int.tmod (wrap64 (Int.tdiv a2 8)) 2)]) (ok := fun _ => True) (okp := fun _ => True) ?hr ?hp (fun _ hk => hk) trivial (Below.refl _ _) (Nat.le_refl _) (by simp) ?_; (case hd => rfl); (case hg => rfl); (case hr => first | (go_simp; done) | (go_simp; rfl)); (case hp => exact (Reps.one (show Kd.M (Kd.int .i64) _ _ _ (Int.tmod a2 2) [.int .i64 (Int.tmod a2 2)] from rfl) (Reps.one (show Kd.M (Kd.int .i64) _ _ _ (Int.tmod (wrap64 (Int.tdiv a2 2)) 2) [.int .i64 (Int.tmod (wrap64 (Int.tdiv a2 2)) 2)] from rfl) (Reps.one (show Kd.M (Kd.int .i64) _ _ _ (Int.tmod (wrap64 (Int.tdiv a2 4)) 2) [.int .i64 (Int.tmod (wrap64 (Int.tdiv a2 4)) 2)] from rfl) (Reps.one (show Kd.M (Kd.int .i64) _ _ _ (Int.tmod (wrap64 (Int.tdiv a2 8)) 2) [.int .i64 (Int.tmod (wrap64 (Int.tdiv a2 8)) 2)] from rfl) (Reps.none _ _)))))); intro v216 w65 ho66 hb hg_ hnew_; clear hg_ hnew_; (first | rw [← Ny215.out] at ho66 | (simp only [Int.reduceToNat] at ho66; rw [← Ny215.out] at ho66)); have n0_ := Aside0.mk (Kd.R_elder' (by (with_reducible repeat (first | apply Kd.R_alloc | apply Kd.R_drewN | apply Kd.R_drew)); exact HO_7.out) (Kd.R_base ho66) hb); have n1_ := Aside0.mk (Kd.R_below (by (with_reducible repeat (first | apply Kd.R_alloc | apply Kd.R_drewN | apply Kd.R_drew)); exact HO_10.out) hb); have n2_ := Aside0.mk (Kd.R_lower (Kd.R_new' ho66 (Kd.R_lt (by (with_reducible repeat (first | apply Kd.R_alloc | apply Kd.R_drewN | apply Kd.R_drew)); exact HO_7.out))) (below_size (by repeat (first | (with_reducible first | exact HB.out | apply below_alloc | apply pw_below_drewN | apply below_drew1) | exact HB.out)))); have n3_ := Aside0.mk (below_step (by repeat (first | (with_reducible first | exact HB.out | apply below_alloc | apply pw_below_drewN | apply below_drew1) | exact HB.out)) hb); clear HO_7; clear HO_10; clear HB; have HO_7 := n0_; have HO_10 := n1_; have HO217 := n2_; have HB := n3_; clear n0_ n1_ n2_ n3_; clear hb ho66; obtain ⟨Ao67, co67, eo67⟩ := Kd.R_slice HO217.out; subst eo67; have p218 : 0 ≤ (x13_33 : Int) := of_decide_eq_true (by first | (with_reducible assumption) | assumption); have q218 : x13_33 < (y215.length : Int) := of_decide_eq_true (by first | (with_reducible assumption) | assumption); obtain ⟨ad218, e218, hx218_0⟩ := Kd.at_int (Kd.R_reads' HO217.out).2.2 x13_33 p218 q218; cases e218; replace p218 := eq_true p218; replace q218 := eq_true q218; obtain ⟨Ao68, co68, eo68⟩ := Kd.R_slice HO_10.out; subst eo68; have p226 : 0 ≤ (x11_2 : Int) := of_decide_eq_true (by first | (with_reducible assumption) | assumption); have q226 : x11_2 < (x7_1.length : Int) := of_decide_eq_true (by first | (with_reducible assumption) | assumption); obtain ⟨ad226, e226, hx226_0⟩ := Kd.at_int (Kd.R_reads' HO_7.out).2.2 x11_2 p226 q226; obtain rfl : ad210 = ad226 := (by injection e226); replace p226 := eq_true p226; replace q226 := eq_true q226) | ((with_reducible refine gate_builtin (b := .append) (xs := #[.tmp 111, .tmp 118]) rfl ?_); (try (refine gate_guard (by rfl) ?_; dsimp only)); at_builtin; refine Kd.R_append k39 (w0 := w) w.heap.size rfl (.tmp 111) (.tmp 118) 27 39 (.agg #[(.int .i64 0), (.int .i64 0)]) 16 rfl Try.underlying27 info39 rfl (by decide) (by omega) (.slice Ao68 x10_2.length co68) x10_2 (⟨rd x7_1 x11_2, x12_22⟩ : S39) [.int .i64 (rd x7_1 x11_2), .int .i64 x12_22] (fun _ => True) (fun _ => False) rfl rfl ?aP (fun _ hk => hk.elim) ?aF ?aO ?aB ?aS ?aL ?_; (case aP => exact k39_mkM _ _ _ (⟨rd x7_1 x11_2, x12_22⟩ : S39)); (case aB => exact (by repeat (first | (with_reducible first | exact HB.out | apply below_alloc | apply pw_below_drewN | apply below_drew1) | exact HB.out))); (case aF => exact (fun _ _ => trivial)); (case aO => exact (by (with_reducible repeat (first | apply Kd.R_alloc | apply Kd.R_drewN | apply Kd.R_drew)); exact HO_10.out)); (case aS => exact (below_size (by repeat (first | (with_reducible first | exact HB.out | apply below_alloc | apply pw_below_drewN | apply below_drew1) | exact HB.out)))); (case aL => have := LMc64.out; omega); intro v228 w69 ho hb hg hat; rw [← Ny227.out] at ho; have n0_ := Aside0.mk (Kd.R_over' (by (with_reducible repeat (first | apply Kd.R_alloc | apply Kd.R_drewN | apply Kd.R_drew)); exact HO_7.out) (Kd.R_typed (by (with_reducible repeat (first | apply Kd.R_alloc | apply Kd.R_drewN | apply Kd.R_drew)); exact HO_10.out)) (by decide) hg); have n1_ := Aside0.mk (Kd.R_over' (by (with_reducible repeat (first | apply Kd.R_alloc | apply Kd.R_drewN | apply Kd.R_drew)); exact HO217.out) (Kd.R_typed (by (with_reducible repeat (first | apply Kd.R_alloc | apply Kd.R_drewN | apply Kd.R_drew)); exact HO_10.out)) (by decide) hg); have n2_ := Aside0.mk (hb); have n3_ := Aside0.mk (ho); clear HO_7; clear HO217; clear HB; clear HO_10; have HO_7 := n0_; have HO217 := n1_; have HB := n2_; have HO229 := n3_; clear n0_ n1_ n2_ n3_; clear ho hb hg hat)); try go_wp2_with (first | ((with_reducible refine gate_dst (N := 81) rfl ?_); (try (refine gate_guard (by rfl) ?_; dsimp only)); refine Kd.R_lit (Kd.int .i64) _ 3 ?hg (N := 81) ?hd (xs := ([Int.tmod a2 2, Int.tmod (wrap64 (Int.tdiv a2 2)) 2, Int.tmod (wrap64 (Int.tdiv a2 4)) 2, Int.tmod (wrap64 (Int.tdiv a2 8)) 2] : List Int)) (inner := [.int .i64 (Int.tmod a2 2), .int .i64 (Int.tmod (wrap64 (Int.tdiv a2 2)) 2), .int .i64 (Int.tmod (wrap64 (Int.tdiv a2 4)) 2), .int .i64 (Int.tmod (wrap64 (Int.tdiv a2 8)) 2)]) (ok := fun _ => True) (okp := fun _ => True) ?hr ?hp (fun _ hk => hk) trivial (Below.refl _ _) (Nat.le_refl _) (by simp) ?_; (case hd => rfl); (case hg => rfl); (case hr => first | (go_simp; done) | (go_simp; rfl)); (case hp => exact (Reps.one (show Kd.M (Kd.int .i64) _ _ _ (Int.tmod a2 2) [.int .i64 (Int.tmod a2 2)] from rfl) (Reps.one (show Kd.M (Kd.int .i64) _ _ _ (Int.tmod (wrap64 (Int.tdiv a2 2)) 2) [.int .i64 (Int.tmod (wrap64 (Int.tdiv a2 2)) 2)] from rfl) (Reps.one (show Kd.M (Kd.int .i64) _ _ _ (Int.tmod (wrap64 (Int.tdiv a2 4)) 2) [.int .i64 (Int.tmod (wrap64 (Int.tdiv a2 4)) 2)] from rfl) (Reps.one (show Kd.M (Kd.int .i64) _ _ _ (Int.tmod (wrap64 (Int.tdiv a2 8)) 2) [.int .i64 (Int.tmod (wrap64 (Int.tdiv a2 8)) 2)] from rfl) (Reps.none _ _)))))); intro v216 w65 ho66 hb hg_ hnew_; clear hg_ hnew_; (first | rw [← Ny215.out] at ho66 | (simp only [Int.reduceToNat] at ho66; rw [← Ny215.out] at ho66)); have n0_ := Aside0.mk (Kd.R_elder' (by (with_reducible repeat (first | apply Kd.R_alloc | apply Kd.R_drewN | apply Kd.R_drew)); exact HO_7.out) (Kd.R_base ho66) hb); have n1_ := Aside0.mk (Kd.R_below (by (with_reducible repeat (first | apply Kd.R_alloc | apply Kd.R_drewN | apply Kd.R_drew)); exact HO_10.out) hb); have n2_ := Aside0.mk (Kd.R_lower (Kd.R_new' ho66 (Kd.R_lt (by (with_reducible repeat (first | apply Kd.R_alloc | apply Kd.R_drewN | apply Kd.R_drew)); exact HO_7.out))) (below_size (by repeat (first | (with_reducible first | exact HB.out | apply below_alloc | apply pw_below_drewN | apply below_drew1) | exact HB.out)))); have n3_ := Aside0.mk (below_step (by repeat (first | (with_reducible first | exact HB.out | apply below_alloc | apply pw_below_drewN | apply below_drew1) | exact HB.out)) hb); clear HO_7; clear HO_10; clear HB; have HO_7 := n0_; have HO_10 := n1_; have HO217 := n2_; have HB := n3_; clear n0_ n1_ n2_ n3_; clear hb ho66; obtain ⟨Ao67, co67, eo67⟩ := Kd.R_slice HO217.out; subst eo67; have p218 : 0 ≤ (x13_33 : Int) := of_decide_eq_true (by first | (with_reducible assumption) | assumption); have q218 : x13_33 < (y215.length : Int) := of_decide_eq_true (by first | (with_reducible assumption) | assumption); obtain ⟨ad218, e218, hx218_0⟩ := Kd.at_int (Kd.R_reads' HO217.out).2.2 x13_33 p218 q218; cases e218; replace p218 := eq_true p218; replace q218 := eq_true q218; obtain ⟨Ao68, co68, eo68⟩ := Kd.R_slice HO_10.out; subst eo68; have p226 : 0 ≤ (x11_2 : Int) := of_decide_eq_true (by first | (with_reducible assumption) | assumption); have q226 : x11_2 < (x7_1.length : Int) := of_decide_eq_true (by first | (with_reducible assumption) | assumption); obtain ⟨ad226, e226, hx226_0⟩ := Kd.at_int (Kd.R_reads' HO_7.out).2.2 x11_2 p226 q226; obtain rfl : ad210 = ad226 := (by injection e226); replace p226 := eq_true p226; replace q226 := eq_true q226) | ((with_reducible refine gate_builtin (b := .append) (xs := #[.tmp 111, .tmp 118]) rfl ?_); (try (refine gate_guard (by rfl) ?_; dsimp only)); at_builtin; refine Kd.R_append k39 (w0 := w) w.heap.size rfl (.tmp 111) (.tmp 118) 27 39 (.agg #[(.int .i64 0), (.int .i64 0)]) 16 rfl Try.underlying27 info39 rfl (by decide) (by omega) (.slice Ao68 x10_2.length co68) x10_2 (⟨rd x7_1 x11_2, x12_22⟩ : S39) [.int .i64 (rd x7_1 x11_2), .int .i64 x12_22] (fun _ => True) (fun _ => False) rfl rfl ?aP (fun _ hk => hk.elim) ?aF ?aO ?aB ?aS ?aL ?_; (case aP => exact k39_mkM _ _ _ (⟨rd x7_1 x11_2, x12_22⟩ : S39)); (case aB => exact (by repeat (first | (with_reducible first | exact HB.out | apply below_alloc | apply pw_below_drewN | apply below_drew1) | exact HB.out))); (case aF => exact (fun _ _ => trivial)); (case aO => exact (by (with_reducible repeat (first | apply Kd.R_alloc | apply Kd.R_drewN | apply Kd.R_drew)); exact HO_10.out)); (case aS => exact (below_size (by repeat (first | (with_reducible first | exact HB.out | apply below_alloc | apply pw_below_drewN | apply below_drew1) | exact HB.out)))); (case aL => have := LMc64.out; omega); intro v228 w69 ho hb hg hat; rw [← Ny227.out] at ho; have n0_ := Aside0.mk (Kd.R_over' (by (with_reducible repeat (first | apply Kd.R_alloc | apply Kd.R_drewN | apply Kd.R_drew)); exact HO_7.out) (Kd.R_typed (by (with_reducible repeat (first | apply Kd.R_alloc | apply Kd.R_drewN | apply Kd.R_drew)); exact HO_10.out)) (by decide) hg); have n1_ := Aside0.mk (Kd.R_over' (by (with_reducible repeat (first | apply Kd.R_alloc | apply Kd.R_drewN | apply Kd.R_drew)); exact HO217.out) (Kd.R_typed (by (with_reducible repeat (first | apply Kd.R_alloc | apply Kd.R_drewN | apply Kd.R_drew)); exact HO_10.out)) (by decide) hg); have n2_ := Aside0.mk (hb); have n3_ := Aside0.mk (ho); clear HO_7; clear HO217; clear HB; clear HO_10; have HO_7 := n0_; have HO217 := n1_; have HB := n2_; have HO229 := n3_; clear n0_ n1_ n2_ n3_; clear ho hb hg hat)))
                                                        go_roundg kj33
                                                        case measure => have := HK1.out; have := HK2.out; have := HJ15.out; have := HJ22.out; have := HJ28.out; have := HJ33.out; omega
                                                        case rel => exact ⟨(y227), (wrap64 (x11_2 + 1)), (by first | rfl | (simp; done) | (simp [*]; done)), H', ⟨by have := HK1.out; have := HK2.out; have := HJ15.out; have := HJ22.out; have := HJ28.out; have := HJ33.out; omega⟩, ⟨by (with_reducible repeat (first | apply Kd.R_alloc | apply Kd.R_drewN | apply Kd.R_drew)); exact Kd.R_mono HO_7.out (fun _ hk => trivial)⟩, ⟨by (with_reducible repeat (first | apply Kd.R_alloc | apply Kd.R_drewN | apply Kd.R_drew)); exact HO229.out⟩, ⟨by repeat (first | (with_reducible first | exact HB.out | apply below_alloc | apply pw_below_drewN | apply below_drew1) | exact HB.out)⟩⟩
                                                      · rw [if_neg c64] at H
                                                        exact absurd H (by simp)
                                                    · rw [if_neg c63] at H
                                                      exact absurd H (by simp)
                                                  · rw [if_neg c62] at H
                                                    exact absurd H (by simp)
                                            · rw [if_neg c37] at H
                                              exact absurd H (by simp)
                                          · rw [if_neg c36] at H
                                            exact absurd H (by simp)
                                    · rw [if_neg c32] at H
                                      exact absurd H (by simp)
                                  · rw [if_neg c31] at H
                                    exact absurd H (by simp)
                            · rw [if_neg c27] at H
                              exact absurd H (by simp)
                          · rw [if_neg c26] at H
                            exact absurd H (by simp)
                    · rw [if_neg c22] at H
                      exact absurd H (by simp)
                  · rw [if_neg c21] at H
                    exact absurd H (by simp)
            · rw [if_neg c15] at H
              have c15b0 : decide (x11_2 < (x7_1.length : Int)) = false := decide_eq_false c15
              clear c15
              obtain rfl := Option.some.inj H
              obtain ⟨Ao70, co70, eo70⟩ := Kd.R_slice HO_7.out
              subst eo70
              go_wp2
              repeat (go_quiet (fail); try go_wp2)
              go_ret
              exact ⟨_, by first | rfl | (simp [errW_none, errW_some] <;> rfl) | (simp [*, errW_none, errW_some] <;> rfl), by (with_reducible repeat (first | apply Kd.R_alloc | apply Kd.R_drewN | apply Kd.R_drew)); exact HO_10.out, by repeat (first | (with_reducible first | exact HB.out | apply below_alloc | apply pw_below_drewN | apply below_drew1) | exact HB.out)⟩

end Go.Proofs.Ytpcljaidlihafaa.P
