-- WRITTEN BY A PROGRAM (hybrid.py over the kit's print.py): Lean checks it.
import Derived.Test.YtbhfaeliklaffaaPx0
import Derived.Test.YtbhfaeliklaffaaPx2
import Derived.Test.YtbhfaeliklaffaaPx5
import Derived.Test.YtbhfaeliklaffaaPx10
import Derived.Test.YtbhfaeliklaffaaGDec
import Derived.Test.YtbhfaeliklaffaaGMatch
import Derived.Test.YtbhfaeliklaffaaGOf
namespace Go.Proofs.Ytbhfaeliklaffaa.P
open Go.RowKit Go.Proofs.YtbhfaeliklaffaaW.PrintWords Go.Proofs.YtbhfaeliklaffaaW.PrintLast Go.Proofs.YtbhfaeliklaffaaW.PrintMore
attribute [local go_sem] max2_int min2_int max_two min_two max_three min_three max_four min_four   -- for this text's walks alone
set_option linter.unusedVariables false
set_option linter.unusedSimpArgs false

noncomputable section
/-! ### glyphcutterlaw03_SeqsHas: function 7 -/
mutual
def glyphcutterlaw03_SeqsHas.j0 : Nat → List Int → Int → List Int → Bool → Option (Bool)
 | 0,_,_,_,_ => none
 | k + 1,x0,x1,x2,x24 => if x24 = true then ((glyphcutterlaw03_known.f k).bind fun t351 => (some t351)) else ((glyphcutterlaw01_Make.f k x0).bind fun t352 => ((seqs_Of.f t352).bind fun t355 => (if (x0.length : Int) > 1 then (glyphcutterlaw03_SeqsHas.j1 k x1 x2 t352 t355 (wrap64 (Int.tmod x1 1114112)) ((Int.tmod x1 3) == 0)) else (glyphcutterlaw03_SeqsHas.j1 k x1 x2 t352 t355 (wrap64 (Int.tmod x1 1114112)) false))))
def glyphcutterlaw03_SeqsHas.j1 : Nat → Int → List Int → List (S43) → List (List (S57)) → Int → Bool → Option (Bool)
 | 0,_,_,_,_,_,_ => none
 | k + 1,x1,x2,x7,x8,x9,x40 => if x40 = true then (if 0 < (x7.length : Int) then (glyphcutterlaw03_SeqsHas.j2 k x2 x7 x8 (wrap64 ((wrap64 (((rd_T43 x7 0).f0) + (((Int.tdiv x1 3) % 4294967296) % 50))) - 5))) else (none)) else (glyphcutterlaw03_SeqsHas.j2 k x2 x7 x8 x9)
def glyphcutterlaw03_SeqsHas.j2 : Nat → List Int → List (S43) → List (List (S57)) → Int → Option (Bool)
 | 0,_,_,_,_ => none
 | k + 1,x2,x7,x8,x9 => (glyphcutterref02_Encode.f k x9).bind fun t359 => (if (t359.length : Int) > 0 then ((seqs_Match.f x8 t359).bind fun t362 => ((glyphcutterref01_Has.f k x7 x9).bind fun t363 => (glyphcutterlaw03_SeqsHas.j3 k x2 x7 x8 (t362 != t363)))) else (glyphcutterlaw03_SeqsHas.j3 k x2 x7 x8 false))
def glyphcutterlaw03_SeqsHas.j3 : Nat → List Int → List (S43) → List (List (S57)) → Bool → Option (Bool)
 | 0,_,_,_,_ => none
 | k + 1,x2,x7,x8,x64 => if x64 = true then (some false) else ((glyphcutterref02_Decode.f x2).bind fun bt364 => (if bt364.1 < 0 then (glyphcutterlaw03_SeqsHas.j4 k x2 x7 x8 bt364.1 true) else (glyphcutterlaw03_SeqsHas.j4 k x2 x7 x8 bt364.1 (bt364.2 != (x2.length : Int)))))
def glyphcutterlaw03_SeqsHas.j4 : Nat → List Int → List (S43) → List (List (S57)) → Int → Bool → Option (Bool)
 | 0,_,_,_,_,_ => none
 | k + 1,x2,x7,x8,x11,x77 => if x77 = true then ((seqs_Match.f x8 x2).bind fun t366 => (some (!t366))) else ((seqs_Match.f x8 x2).bind fun t367 => ((glyphcutterref01_Has.f k x7 x11).bind fun t368 => (some (t367 == t368))))
end
def glyphcutterlaw03_SeqsHas.f (k : Nat) (l0 : List Int) (a1 : Int) (l2 : List Int) : Option (Bool) := if (l0.length : Int) > 60 then (glyphcutterlaw03_SeqsHas.j0 k l0 a1 l2 true) else (if (l2.length : Int) > 20 then (glyphcutterlaw03_SeqsHas.j0 k l0 a1 l2 true) else ((glyphcutterlaw03_known.f k).bind fun t350 => (glyphcutterlaw03_SeqsHas.j0 k l0 a1 l2 (!t350))))
theorem glyphcutterlaw03_SeqsHas.mono_l : ∀ k,(∀ y0 y1 y2 y3,LeO (glyphcutterlaw03_SeqsHas.j0 k y0 y1 y2 y3) (glyphcutterlaw03_SeqsHas.j0 (k + 1) y0 y1 y2 y3)) ∧ (∀ y0 y1 y2 y3 y4 y5,LeO (glyphcutterlaw03_SeqsHas.j1 k y0 y1 y2 y3 y4 y5) (glyphcutterlaw03_SeqsHas.j1 (k + 1) y0 y1 y2 y3 y4 y5)) ∧ (∀ y0 y1 y2 y3,LeO (glyphcutterlaw03_SeqsHas.j2 k y0 y1 y2 y3) (glyphcutterlaw03_SeqsHas.j2 (k + 1) y0 y1 y2 y3)) ∧ (∀ y0 y1 y2 y3,LeO (glyphcutterlaw03_SeqsHas.j3 k y0 y1 y2 y3) (glyphcutterlaw03_SeqsHas.j3 (k + 1) y0 y1 y2 y3)) ∧ (∀ y0 y1 y2 y3 y4,LeO (glyphcutterlaw03_SeqsHas.j4 k y0 y1 y2 y3 y4) (glyphcutterlaw03_SeqsHas.j4 (k + 1) y0 y1 y2 y3 y4))
 | 0 => ⟨fun _ _ _ _ r h => by simp [glyphcutterlaw03_SeqsHas.j0] at h,fun _ _ _ _ _ _ r h => by simp [glyphcutterlaw03_SeqsHas.j1] at h,fun _ _ _ _ r h => by simp [glyphcutterlaw03_SeqsHas.j2] at h,fun _ _ _ _ r h => by simp [glyphcutterlaw03_SeqsHas.j3] at h,fun _ _ _ _ _ r h => by simp [glyphcutterlaw03_SeqsHas.j4] at h⟩
 | k + 1 => by
  obtain ⟨ih0,ih1,ih2,ih3,ih4⟩ := glyphcutterlaw03_SeqsHas.mono_l k
  refine ⟨?_,?_,?_,?_,?_⟩
  ·intro y0 y1 y2 y3
   unfold glyphcutterlaw03_SeqsHas.j0
   repeat' first
   | (with_reducible exact ih0 _ _ _ _)
   | (with_reducible exact ih1 _ _ _ _ _ _)
   | (with_reducible exact ih2 _ _ _ _)
   | (with_reducible exact ih3 _ _ _ _)
   | (with_reducible exact ih4 _ _ _ _ _)
   | (with_reducible exact glyphcutterlaw01_Make.mono _ _)
   | (with_reducible exact glyphcutterlaw03_known.mono _)
   | (with_reducible exact glyphcutterref01_Has.mono _ _ _)
   | (with_reducible exact glyphcutterref02_Encode.mono _ _)
   | (with_reducible exact LeO.refl _)
   | (with_reducible exact LeO.none _)
   | (with_reducible refine LeO.ite ?_ ?_)
   | (with_reducible refine LeO.bind ?_ (fun _ => ?_))
   | exact ih0 _ _ _ _
   | exact ih1 _ _ _ _ _ _
   | exact ih2 _ _ _ _
   | exact ih3 _ _ _ _
   | exact ih4 _ _ _ _ _
   | exact glyphcutterlaw01_Make.mono _ _
   | exact glyphcutterlaw03_known.mono _
   | exact glyphcutterref01_Has.mono _ _ _
   | exact glyphcutterref02_Encode.mono _ _
   | exact LeO.none _
   | refine LeO.ite ?_ ?_
   | refine LeO.bind ?_ (fun _ => ?_)
  ·intro y0 y1 y2 y3 y4 y5
   unfold glyphcutterlaw03_SeqsHas.j1
   repeat' first
   | (with_reducible exact ih0 _ _ _ _)
   | (with_reducible exact ih1 _ _ _ _ _ _)
   | (with_reducible exact ih2 _ _ _ _)
   | (with_reducible exact ih3 _ _ _ _)
   | (with_reducible exact ih4 _ _ _ _ _)
   | (with_reducible exact glyphcutterlaw01_Make.mono _ _)
   | (with_reducible exact glyphcutterlaw03_known.mono _)
   | (with_reducible exact glyphcutterref01_Has.mono _ _ _)
   | (with_reducible exact glyphcutterref02_Encode.mono _ _)
   | (with_reducible exact LeO.refl _)
   | (with_reducible exact LeO.none _)
   | (with_reducible refine LeO.ite ?_ ?_)
   | (with_reducible refine LeO.bind ?_ (fun _ => ?_))
   | exact ih0 _ _ _ _
   | exact ih1 _ _ _ _ _ _
   | exact ih2 _ _ _ _
   | exact ih3 _ _ _ _
   | exact ih4 _ _ _ _ _
   | exact glyphcutterlaw01_Make.mono _ _
   | exact glyphcutterlaw03_known.mono _
   | exact glyphcutterref01_Has.mono _ _ _
   | exact glyphcutterref02_Encode.mono _ _
   | exact LeO.none _
   | refine LeO.ite ?_ ?_
   | refine LeO.bind ?_ (fun _ => ?_)
  ·intro y0 y1 y2 y3
   unfold glyphcutterlaw03_SeqsHas.j2
   repeat' first
   | (with_reducible exact ih0 _ _ _ _)
   | (with_reducible exact ih1 _ _ _ _ _ _)
   | (with_reducible exact ih2 _ _ _ _)
   | (with_reducible exact ih3 _ _ _ _)
   | (with_reducible exact ih4 _ _ _ _ _)
   | (with_reducible exact glyphcutterlaw01_Make.mono _ _)
   | (with_reducible exact glyphcutterlaw03_known.mono _)
   | (with_reducible exact glyphcutterref01_Has.mono _ _ _)
   | (with_reducible exact glyphcutterref02_Encode.mono _ _)
   | (with_reducible exact LeO.refl _)
   | (with_reducible exact LeO.none _)
   | (with_reducible refine LeO.ite ?_ ?_)
   | (with_reducible refine LeO.bind ?_ (fun _ => ?_))
   | exact ih0 _ _ _ _
   | exact ih1 _ _ _ _ _ _
   | exact ih2 _ _ _ _
   | exact ih3 _ _ _ _
   | exact ih4 _ _ _ _ _
   | exact glyphcutterlaw01_Make.mono _ _
   | exact glyphcutterlaw03_known.mono _
   | exact glyphcutterref01_Has.mono _ _ _
   | exact glyphcutterref02_Encode.mono _ _
   | exact LeO.none _
   | refine LeO.ite ?_ ?_
   | refine LeO.bind ?_ (fun _ => ?_)
  ·intro y0 y1 y2 y3
   unfold glyphcutterlaw03_SeqsHas.j3
   repeat' first
   | (with_reducible exact ih0 _ _ _ _)
   | (with_reducible exact ih1 _ _ _ _ _ _)
   | (with_reducible exact ih2 _ _ _ _)
   | (with_reducible exact ih3 _ _ _ _)
   | (with_reducible exact ih4 _ _ _ _ _)
   | (with_reducible exact glyphcutterlaw01_Make.mono _ _)
   | (with_reducible exact glyphcutterlaw03_known.mono _)
   | (with_reducible exact glyphcutterref01_Has.mono _ _ _)
   | (with_reducible exact glyphcutterref02_Encode.mono _ _)
   | (with_reducible exact LeO.refl _)
   | (with_reducible exact LeO.none _)
   | (with_reducible refine LeO.ite ?_ ?_)
   | (with_reducible refine LeO.bind ?_ (fun _ => ?_))
   | exact ih0 _ _ _ _
   | exact ih1 _ _ _ _ _ _
   | exact ih2 _ _ _ _
   | exact ih3 _ _ _ _
   | exact ih4 _ _ _ _ _
   | exact glyphcutterlaw01_Make.mono _ _
   | exact glyphcutterlaw03_known.mono _
   | exact glyphcutterref01_Has.mono _ _ _
   | exact glyphcutterref02_Encode.mono _ _
   | exact LeO.none _
   | refine LeO.ite ?_ ?_
   | refine LeO.bind ?_ (fun _ => ?_)
  ·intro y0 y1 y2 y3 y4
   unfold glyphcutterlaw03_SeqsHas.j4
   repeat' first
   | (with_reducible exact ih0 _ _ _ _)
   | (with_reducible exact ih1 _ _ _ _ _ _)
   | (with_reducible exact ih2 _ _ _ _)
   | (with_reducible exact ih3 _ _ _ _)
   | (with_reducible exact ih4 _ _ _ _ _)
   | (with_reducible exact glyphcutterlaw01_Make.mono _ _)
   | (with_reducible exact glyphcutterlaw03_known.mono _)
   | (with_reducible exact glyphcutterref01_Has.mono _ _ _)
   | (with_reducible exact glyphcutterref02_Encode.mono _ _)
   | (with_reducible exact LeO.refl _)
   | (with_reducible exact LeO.none _)
   | (with_reducible refine LeO.ite ?_ ?_)
   | (with_reducible refine LeO.bind ?_ (fun _ => ?_))
   | exact ih0 _ _ _ _
   | exact ih1 _ _ _ _ _ _
   | exact ih2 _ _ _ _
   | exact ih3 _ _ _ _
   | exact ih4 _ _ _ _ _
   | exact glyphcutterlaw01_Make.mono _ _
   | exact glyphcutterlaw03_known.mono _
   | exact glyphcutterref01_Has.mono _ _ _
   | exact glyphcutterref02_Encode.mono _ _
   | exact LeO.none _
   | refine LeO.ite ?_ ?_
   | refine LeO.bind ?_ (fun _ => ?_)
theorem glyphcutterlaw03_SeqsHas.mono : ∀ a0 a1 a2 k,LeO (glyphcutterlaw03_SeqsHas.f k a0 a1 a2) (glyphcutterlaw03_SeqsHas.f (k + 1) a0 a1 a2) := by
 intro a0 a1 a2 k
 obtain ⟨ih0,ih1,ih2,ih3,ih4⟩ := glyphcutterlaw03_SeqsHas.mono_l k
 unfold glyphcutterlaw03_SeqsHas.f
 repeat' first
   | (with_reducible exact ih0 _ _ _ _)
   | (with_reducible exact ih1 _ _ _ _ _ _)
   | (with_reducible exact ih2 _ _ _ _)
   | (with_reducible exact ih3 _ _ _ _)
   | (with_reducible exact ih4 _ _ _ _ _)
   | (with_reducible exact glyphcutterlaw01_Make.mono _ _)
   | (with_reducible exact glyphcutterlaw03_known.mono _)
   | (with_reducible exact glyphcutterref01_Has.mono _ _ _)
   | (with_reducible exact glyphcutterref02_Encode.mono _ _)
   | (with_reducible exact LeO.refl _)
   | (with_reducible exact LeO.none _)
   | (with_reducible refine LeO.ite ?_ ?_)
   | (with_reducible refine LeO.bind ?_ (fun _ => ?_))
   | exact ih0 _ _ _ _
   | exact ih1 _ _ _ _ _ _
   | exact ih2 _ _ _ _
   | exact ih3 _ _ _ _
   | exact ih4 _ _ _ _ _
   | exact glyphcutterlaw01_Make.mono _ _
   | exact glyphcutterlaw03_known.mono _
   | exact glyphcutterref01_Has.mono _ _ _
   | exact glyphcutterref02_Encode.mono _ _
   | exact LeO.none _
   | refine LeO.ite ?_ ?_
   | refine LeO.bind ?_ (fun _ => ?_)
set_option maxHeartbeats 8000000 in
set_option maxRecDepth 100000 in
theorem glyphcutterlaw03_SeqsHas.calls (k : Nat) (A0 : Option Addr) (c0 : Nat) (l0 : List Int) (a1 : Int) (A2 : Option Addr) (c2 : Nat) (l2 : List Int) (r : Bool) (w : World) (hr0 : Kd.C (Kd.int .u16) w A0 l0.length l0) (hc0 : l0.length ≤ c0) (hr2 : Kd.C (Kd.int .u8) w A2 l2.length l2) (hc2 : l2.length ≤ c2) (h : glyphcutterlaw03_SeqsHas.f k l0 a1 l2 = some r) :
  Calls Try.prog 7 #[.slice A0 l0.length c0,.int .u32 a1,.slice A2 l2.length c2] w fun e w' => e = .returned (.bool r) ∧ Below w.heap.size w w' := by
 have HR0 := Aside0.mk hr0
 have HC0 := Aside0.mk hc0
 clear hr0 hc0
 have HR2 := Aside0.mk hr2
 have HC2 := Aside0.mk hc2
 clear hr2 hc2
 have HB := Aside0.mk (Below.refl w.heap.size w)
 have H : (if (l0.length : Int) > 60 then (glyphcutterlaw03_SeqsHas.j0 k l0 a1 l2 true) else (if (l2.length : Int) > 20 then (glyphcutterlaw03_SeqsHas.j0 k l0 a1 l2 true) else ((glyphcutterlaw03_known.f k).bind fun t350 => (glyphcutterlaw03_SeqsHas.j0 k l0 a1 l2 (!t350))))) = some r := h
 clear h
 have HC4 := Aside0.mk H
 clear H
 go_enter Try.func7,Try.ntmps7
 go_upto_region 1 with (fail)
 go_cut [24] (fun v24 wc => ∃ (kq : Nat) (x24_3 : Bool),v24 = .bool x24_3 ∧ Aside0 (glyphcutterlaw03_SeqsHas.j0 kq l0 a1 l2 x24_3 = some r) ∧ Aside0 (kq ≤ k) ∧ Aside0 (Below w.heap.size w wc))
 case first =>
  have H := HC4.out
  clear HC4
  by_cases c5 : (l0.length : Int) > 60
  ·rw [if_pos c5] at H
   have c5b0 : decide (60 < (l0.length : Int)) = true := decide_eq_true c5
   have c5b1 : decide (60 < l0.length) = true := decide_eq_true (by omega)
   clear c5
   (first | rw [c5b0] | (simp only [i64_w,i32_w];rw [c5b0]) | skip)
   have H' := Aside0.mk H
   clear H
   go_wp2
   go_meet
   case rel => exact ⟨_,(true),(by first | rfl | (simp;done) | (simp [*];done)),H',⟨by first | omega | exact Nat.le_refl _⟩,⟨by repeat (first | (with_reducible first | exact HB.out | apply below_alloc | apply pw_below_drewN | apply below_drew1) | exact HB.out)⟩⟩
  ·rw [if_neg c5] at H
   have c5b0 : decide (60 < (l0.length : Int)) = false := decide_eq_false c5
   have c5b1 : decide (60 < l0.length) = false := decide_eq_false (by omega)
   clear c5
   (first | rw [c5b0] | (simp only [i64_w,i32_w];rw [c5b0]) | skip)
   by_cases c6 : (l2.length : Int) > 20
   ·rw [if_pos c6] at H
    have c6b0 : decide (20 < (l2.length : Int)) = true := decide_eq_true c6
    have c6b1 : decide (20 < l2.length) = true := decide_eq_true (by omega)
    clear c6
    have H' := Aside0.mk H
    clear H
    go_wp2
    go_meet
    case rel => exact ⟨_,(true),(by first | rfl | (simp;done) | (simp [*];done)),H',⟨by first | omega | exact Nat.le_refl _⟩,⟨by repeat (first | (with_reducible first | exact HB.out | apply below_alloc | apply pw_below_drewN | apply below_drew1) | exact HB.out)⟩⟩
   ·rw [if_neg c6] at H
    have c6b0 : decide (20 < (l2.length : Int)) = false := decide_eq_false c6
    have c6b1 : decide (20 < l2.length) = false := decide_eq_false (by omega)
    clear c6
    replace H := Option.bind_eq_some_iff.mp H
    obtain ⟨t350,A70,H⟩ := H
    skip
    have A7 := Aside0.mk A70
    clear A70
    have H' := Aside0.mk H
    clear H
    go_wp2_with (first | (go_at_call 10;(with_reducible refine (glyphcutterlaw03_known.calls k  t350 _ A7.out).mono ?_);rintro e w8 ⟨rfl,hb⟩;have n0_ := Aside0.mk (below_step (by repeat (first | (with_reducible first | exact HB.out | apply below_alloc | apply pw_below_drewN | apply below_drew1) | exact HB.out)) hb);clear HB;have HB := n0_;clear n0_;(try clear hb);(try clear hb2);(try clear hk);(try clear hi)))
    go_meet
    case rel => exact ⟨_,(!t350),(by first | rfl | (simp;done) | (simp [*];done)),H',⟨by first | omega | exact Nat.le_refl _⟩,⟨by repeat (first | (with_reducible first | exact HB.out | apply below_alloc | apply pw_below_drewN | apply below_drew1) | exact HB.out)⟩⟩
 case rest =>
  clear HC4
  try clear c2
  try clear p2
  try clear c5
  try clear c5b0
  try clear c5b1
  try clear c6
  try clear c6b0
  try clear c6b1
  try clear c7
  obtain ⟨kq,x24_3,rfl,HA,HJ3,HB⟩ := hcut
  cases kq with
  | zero => exact absurd HA.out (by simp [glyphcutterlaw03_SeqsHas.j0])
  | succ kj3 =>
   have H := HA.out
   clear HA
   simp only [glyphcutterlaw03_SeqsHas.j0] at H
   by_cases c9 : x24_3 = true
   ·subst c9
    rw [if_pos rfl] at H
    replace H := Option.bind_eq_some_iff.mp H
    obtain ⟨t351,A100,H⟩ := H
    skip
    have A10 := Aside0.mk A100
    clear A100
    obtain rfl := Option.some.inj H
    go_wp2_with (first | ((with_reducible refine gate_callee (f := 10) rfl ?_);refine goesL_ (some 25) rfl rfl Try.func10 (by kernel_rfl) rfl #[] rfl (by (try simp only [List.map_toArray,List.map_cons,List.map_nil]);first | done | rfl | (simp only [List.length_drop,List.length_take];rfl)) ?_;(with_reducible refine (glyphcutterlaw03_known.calls kj3  t351 _ A10.out).mono ?_);rintro e w11 ⟨rfl,hb⟩;refine ⟨_,rfl,?_⟩;have n0_ := Aside0.mk (below_step (by repeat (first | (with_reducible first | exact HB.out | apply below_alloc | apply pw_below_drewN | apply below_drew1) | exact HB.out)) hb);clear HB;have HB := n0_;clear n0_;(try clear hb);(try clear hb2);(try clear hk);(try clear hi)))
    go_ret
    exact ⟨by first | rfl | (simp [errW_none,errW_some] <;> rfl) | (simp [*,errW_none,errW_some] <;> rfl),by repeat (first | (with_reducible first | exact HB.out | apply below_alloc | apply pw_below_drewN | apply below_drew1) | exact HB.out)⟩
   ·replace c9 := Bool.eq_false_iff.mpr c9
    subst c9
    rw [if_neg (show ¬ (false = true) by decide)] at H
    replace H := Option.bind_eq_some_iff.mp H
    obtain ⟨t352,A120,H⟩ := H
    skip
    have A12 := Aside0.mk A120
    clear A120
    replace H := Option.bind_eq_some_iff.mp H
    obtain ⟨t355,A130,H⟩ := H
    skip
    have A13 := Aside0.mk A130
    clear A130
    have HC14 := Aside0.mk H
    clear H
    go_upto_region 6 with (first | ((with_reducible refine gate_callee (f := 11) rfl ?_);refine goesL_ (some 27) rfl rfl Try.func11 (by kernel_rfl) rfl #[.slice A0 l0.length c0] rfl (by (try simp only [List.map_toArray,List.map_cons,List.map_nil]);first | done | rfl | (simp only [List.length_drop,List.length_take];rfl)) ?_;(with_reducible refine (glyphcutterlaw01_Make.calls kj3 _ _ l0 t352 _ ?side1 ?side2 A12.out).mono ?_);(case side1 => repeat (first | exact (Kd.C_below HR0.out HB.out) | (with_reducible refine Kd.C_alloc ?_ _) | (with_reducible refine Kd.C_drewN ?_ _) | (with_reducible refine Kd.C_drew ?_)));(case side2 => exact HC0.out);rintro e w15 ⟨v353,rfl,ho0,hb⟩;refine ⟨_,rfl,?_⟩;have n0_ := Aside0.mk (Kd.R_lower ho0 (below_size (by repeat (first | (with_reducible first | exact HB.out | apply below_alloc | apply pw_below_drewN | apply below_drew1) | exact HB.out))));have n1_ := Aside0.mk (below_step (by repeat (first | (with_reducible first | exact HB.out | apply below_alloc | apply pw_below_drewN | apply below_drew1) | exact HB.out)) hb);clear HB;have HO354 := n0_;have HB := n1_;clear n0_ n1_;(try clear hb);(try clear hb2);(try clear hk);(try clear hi);(try clear ho0);obtain ⟨Ao16,co16,eo16⟩ := Kd.R_slice HO354.out;subst eo16) | ((with_reducible refine gate_callee (f := 12) rfl ?_);refine goesL_ (some 29) rfl rfl Try.func12 (by kernel_rfl) rfl #[.slice Ao16 t352.length co16] rfl (by (try simp only [List.map_toArray,List.map_cons,List.map_nil]);first | done | rfl | (simp only [List.length_drop,List.length_take];rfl)) ?_;(with_reducible refine (seqs_Of.calls _ _ t352 t355 _ ?side1 ?side2 A13.out).mono ?_);(case side1 => repeat (first | exact (Kd.R_reads' HO354.out).2.2 | (with_reducible refine Kd.C_alloc ?_ _) | (with_reducible refine Kd.C_drewN ?_ _) | (with_reducible refine Kd.C_drew ?_)));(case side2 => exact (Kd.R_reads' HO354.out).2.1);rintro e w17 ⟨v356,rfl,ho0,hb⟩;refine ⟨_,rfl,?_⟩;have n0_ := Aside0.mk (Kd.R_below (by (with_reducible repeat (first | apply Kd.R_alloc | apply Kd.R_drewN | apply Kd.R_drew));exact HO354.out) hb);have n1_ := Aside0.mk (Kd.N_lower (Kd.N_mono (ok' := fun k_ => some k_ ≠ (.slice Ao16 t352.length co16 : Value).ownBlock) ho0 (fun k_ hk_ => (Kd.fresh' (Kd.R_lt (by (with_reducible repeat (first | apply Kd.R_alloc | apply Kd.R_drewN | apply Kd.R_drew));exact HO354.out)) k_ hk_))) (below_size (by repeat (first | (with_reducible first | exact HB.out | apply below_alloc | apply pw_below_drewN | apply below_drew1) | exact HB.out))));have n2_ := Aside0.mk (below_step (by repeat (first | (with_reducible first | exact HB.out | apply below_alloc | apply pw_below_drewN | apply below_drew1) | exact HB.out)) hb);clear HO354;clear HB;have HO354 := n0_;have HO357 := n1_;have HB := n2_;clear n0_ n1_ n2_;(try clear hb);(try clear hb2);(try clear hk);(try clear hi);(try clear ho0)))
    (try simp only [Act.put,List.setIfInBounds_toArray,List.set_cons_zero,List.set_cons_succ])
    go_cut [40] (fun v40 wc => ∃ (kq : Nat) (x40_13 : Bool),v40 = .bool x40_13 ∧ Aside0 (glyphcutterlaw03_SeqsHas.j1 kq a1 l2 t352 t355 (wrap64 (Int.tmod a1 1114112)) x40_13 = some r) ∧ Aside0 (kq ≤ kj3) ∧ Aside0 (Kd.R k43 43 wc w.heap.size (fun _ => True) (.slice Ao16 t352.length co16) t352) ∧ Aside0 (Kd.N (Kd.slice 57 k57) 37 wc w.heap.size (fun k_ => some k_ ≠ ((.slice Ao16 t352.length co16) : Value).ownBlock) v356 t355) ∧ Aside0 (Below w.heap.size w wc))
    case first =>
     have H := HC14.out
     clear HC14
     by_cases c18 : (l0.length : Int) > 1
     ·rw [if_pos c18] at H
      have c18b0 : decide (1 < (l0.length : Int)) = true := decide_eq_true c18
      have c18b1 : decide (1 < l0.length) = true := decide_eq_true (by omega)
      clear c18
      (first | rw [c18b0] | (simp only [i64_w,i32_w];rw [c18b0]) | skip)
      have H' := Aside0.mk H
      clear H
      go_wp2
      go_meet
      case rel => exact ⟨_,(((Int.tmod a1 3) == 0)),(by first | rfl | (simp;done) | (simp [*];done)),H',⟨by have := HJ3.out;first | omega | exact Nat.le_refl _⟩,⟨by (with_reducible repeat (first | apply Kd.R_alloc | apply Kd.R_drewN | apply Kd.R_drew));exact HO354.out⟩,⟨by (with_reducible repeat (first | apply Kd.N_alloc | apply Kd.N_drewN | apply Kd.N_drew));exact HO357.out⟩,⟨by repeat (first | (with_reducible first | exact HB.out | apply below_alloc | apply pw_below_drewN | apply below_drew1) | exact HB.out)⟩⟩
     ·rw [if_neg c18] at H
      have c18b0 : decide (1 < (l0.length : Int)) = false := decide_eq_false c18
      have c18b1 : decide (1 < l0.length) = false := decide_eq_false (by omega)
      clear c18
      (first | rw [c18b0] | (simp only [i64_w,i32_w];rw [c18b0]) | skip)
      have H' := Aside0.mk H
      clear H
      go_wp2
      go_meet
      case rel => exact ⟨_,(false),(by first | rfl | (simp;done) | (simp [*];done)),H',⟨by have := HJ3.out;first | omega | exact Nat.le_refl _⟩,⟨by (with_reducible repeat (first | apply Kd.R_alloc | apply Kd.R_drewN | apply Kd.R_drew));exact HO354.out⟩,⟨by (with_reducible repeat (first | apply Kd.N_alloc | apply Kd.N_drewN | apply Kd.N_drew));exact HO357.out⟩,⟨by repeat (first | (with_reducible first | exact HB.out | apply below_alloc | apply pw_below_drewN | apply below_drew1) | exact HB.out)⟩⟩
    case rest =>
     clear HC14
     try clear c1
     try clear c2
     try clear p2
     try clear c5
     try clear c5b0
     try clear c5b1
     try clear c6
     try clear c6b0
     try clear c6b1
     try clear p6
     try clear c7
     try clear c9
     try clear c10
     try clear c11
     try clear c12
     try clear c18
     try clear c18b0
     try clear c18b1
     try clear p2
     obtain ⟨kq,x40_13,rfl,HA,HJ13,HO_7,HO_8,HB⟩ := hcut
     cases kq with
     | zero => exact absurd HA.out (by simp [glyphcutterlaw03_SeqsHas.j1])
     | succ kj13 =>
      have H := HA.out
      clear HA
      simp only [glyphcutterlaw03_SeqsHas.j1] at H
      have HC19 := Aside0.mk H
      clear H
      go_upto_if 40 with (fail)
      go_cut [9] (fun v9 wc => ∃ (kq : Nat) (x9_18 : Int),v9 = .int .i64 x9_18 ∧ Aside0 (glyphcutterlaw03_SeqsHas.j2 kq l2 t352 t355 x9_18 = some r) ∧ Aside0 (kq ≤ kj13) ∧ Aside0 (Kd.R k43 43 wc w.heap.size (fun _ => True) (.slice Ao16 t352.length co16) t352) ∧ Aside0 (Kd.N (Kd.slice 57 k57) 37 wc w.heap.size (fun k_ => some k_ ≠ ((.slice Ao16 t352.length co16) : Value).ownBlock) v356 t355) ∧ Aside0 (Below w.heap.size w wc))
      case first =>
       have H := HC19.out
       clear HC19
       by_cases c20 : x40_13 = true
       ·subst c20
        rw [if_pos rfl] at H
        by_cases c21 : 0 < (t352.length : Int)
        ·rw [if_pos c21] at H
         have c21b0 : decide (0 < (t352.length : Int)) = true := decide_eq_true c21
         have c21b1 : decide (0 < t352.length) = true := decide_eq_true (by omega)
         clear c21
         (first | rw [c21b0] | (simp only [i64_w,i32_w];rw [c21b0]) | skip)
         have H' := Aside0.mk H
         clear H
         have p358 : 0 ≤ (0 : Int) := (by omega)
         have q358 : 0 < (t352.length : Int) := of_decide_eq_true (by first | (with_reducible assumption) | assumption)
         obtain ⟨ad358,e358,hx358_0,hx358_1⟩ := at_T43 (Kd.R_reads' HO_7.out).2.2 0 p358 q358
         cases e358
         have qi358 : (0 < t352.length) = True := eq_true (by omega)
         (try rw [show ((0 : Int)).toNat = 0 from rfl] at hx358_0)
         (try rw [show 0 * 2 = 0 from rfl] at hx358_0)
         (try rw [Addr.add_zero'] at hx358_0)
         (try rw [show ((0 : Int)).toNat = 0 from rfl] at hx358_1)
         (try rw [show 0 * 2 = 0 from rfl] at hx358_1)
         (try rw [Addr.add_zero'] at hx358_1)
         replace p358 := eq_true p358
         replace q358 := eq_true q358
         go_wp2
         go_meet
         case rel => exact ⟨_,(wrap64 ((wrap64 (((rd_T43 t352 0).f0) + (((Int.tdiv a1 3) % 4294967296) % 50))) - 5)),(by first | rfl | (simp;done) | (simp [*];done)),H',⟨by have := HJ3.out;have := HJ13.out;first | omega | exact Nat.le_refl _⟩,⟨by (with_reducible repeat (first | apply Kd.R_alloc | apply Kd.R_drewN | apply Kd.R_drew));exact HO_7.out⟩,⟨by (with_reducible repeat (first | apply Kd.N_alloc | apply Kd.N_drewN | apply Kd.N_drew));exact HO_8.out⟩,⟨by repeat (first | (with_reducible first | exact HB.out | apply below_alloc | apply pw_below_drewN | apply below_drew1) | exact HB.out)⟩⟩
        ·rw [if_neg c21] at H
         exact absurd H (by simp)
       ·replace c20 := Bool.eq_false_iff.mpr c20
        subst c20
        rw [if_neg (show ¬ (false = true) by decide)] at H
        have H' := Aside0.mk H
        clear H
        go_wp2
        go_meet
        case rel => exact ⟨_,((wrap64 (Int.tmod a1 1114112))),(by first | rfl | (simp;done) | (simp [*];done)),H',⟨by have := HJ3.out;have := HJ13.out;first | omega | exact Nat.le_refl _⟩,⟨by (with_reducible repeat (first | apply Kd.R_alloc | apply Kd.R_drewN | apply Kd.R_drew));exact HO_7.out⟩,⟨by (with_reducible repeat (first | apply Kd.N_alloc | apply Kd.N_drewN | apply Kd.N_drew));exact HO_8.out⟩,⟨by repeat (first | (with_reducible first | exact HB.out | apply below_alloc | apply pw_below_drewN | apply below_drew1) | exact HB.out)⟩⟩
      case rest =>
       clear HC19
       try clear c1
       try clear c2
       try clear p2
       try clear p3
       try clear q3
       try clear hx3
       try clear qi3
       try clear c5
       try clear c5b0
       try clear c5b1
       try clear c6
       try clear c6b0
       try clear c6b1
       try clear p6
       try clear c7
       try clear c9
       try clear c10
       try clear c11
       try clear c12
       try clear c18
       try clear c18b0
       try clear c18b1
       try clear c20
       try clear c21
       try clear c21b0
       try clear c21b1
       try clear hx358_0
       try clear hx358_1
       try clear p2
       try clear p358
       try clear p6
       try clear q358
       obtain ⟨kq,x9_18,rfl,HA,HJ18,HO_7,HO_8,HB⟩ := hcut
       cases kq with
       | zero => exact absurd HA.out (by simp [glyphcutterlaw03_SeqsHas.j2])
       | succ kj18 =>
        have H := HA.out
        clear HA
        simp only [glyphcutterlaw03_SeqsHas.j2] at H
        replace H := Option.bind_eq_some_iff.mp H
        obtain ⟨t359,A220,H⟩ := H
        skip
        have A22 := Aside0.mk A220
        clear A220
        have HC23 := Aside0.mk H
        clear H
        go_upto_region 9 with (first | ((with_reducible refine gate_callee (f := 14) rfl ?_);refine goesL_ (some 52) rfl rfl Try.func14 (by kernel_rfl) rfl #[.int .i64 x9_18] rfl (by (try simp only [List.map_toArray,List.map_cons,List.map_nil]);first | done | rfl | (simp only [List.length_drop,List.length_take];rfl)) ?_;(with_reducible refine (glyphcutterref02_Encode.calls kj18 x9_18 t359 _ A22.out).mono ?_);rintro e w24 ⟨v360,rfl,ho0,hb⟩;refine ⟨_,rfl,?_⟩;have n0_ := Aside0.mk (Kd.R_below (by (with_reducible repeat (first | apply Kd.R_alloc | apply Kd.R_drewN | apply Kd.R_drew));exact HO_7.out) hb);have n1_ := Aside0.mk (Kd.N_elder' (by (with_reducible repeat (first | apply Kd.N_alloc | apply Kd.N_drewN | apply Kd.N_drew));exact HO_8.out) (Kd.R_base ho0) hb);have n2_ := Aside0.mk (Kd.R_lower ho0 (below_size (by repeat (first | (with_reducible first | exact HB.out | apply below_alloc | apply pw_below_drewN | apply below_drew1) | exact HB.out))));have n3_ := Aside0.mk (below_step (by repeat (first | (with_reducible first | exact HB.out | apply below_alloc | apply pw_below_drewN | apply below_drew1) | exact HB.out)) hb);clear HO_7;clear HO_8;clear HB;have HO_7 := n0_;have HO_8 := n1_;have HO361 := n2_;have HB := n3_;clear n0_ n1_ n2_ n3_;(try clear hb);(try clear hb2);(try clear hk);(try clear hi);(try clear ho0)))
        (try simp only [Act.put,List.setIfInBounds_toArray,List.set_cons_zero,List.set_cons_succ])
        go_cut [64] (fun v64 wc => ∃ (kq : Nat) (x64_22 : Bool),v64 = .bool x64_22 ∧ Aside0 (glyphcutterlaw03_SeqsHas.j3 kq l2 t352 t355 x64_22 = some r) ∧ Aside0 (kq ≤ kj18) ∧ Aside0 (Kd.R k43 43 wc w.heap.size (fun _ => True) (.slice Ao16 t352.length co16) t352) ∧ Aside0 (Kd.N (Kd.slice 57 k57) 37 wc w.heap.size (fun k_ => some k_ ≠ ((.slice Ao16 t352.length co16) : Value).ownBlock) v356 t355) ∧ Aside0 (Below w.heap.size w wc))
        case first =>
         have H := HC23.out
         clear HC23
         by_cases c25 : (t359.length : Int) > 0
         ·rw [if_pos c25] at H
          have c25b0 : decide (0 < (t359.length : Int)) = true := decide_eq_true c25
          have c25b1 : decide (0 < t359.length) = true := decide_eq_true (by omega)
          clear c25
          (first | rw [c25b0] | (simp only [i64_w,i32_w];rw [c25b0]) | skip)
          replace H := Option.bind_eq_some_iff.mp H
          obtain ⟨t362,A260,H⟩ := H
          skip
          have A26 := Aside0.mk A260
          clear A260
          replace H := Option.bind_eq_some_iff.mp H
          obtain ⟨t363,A270,H⟩ := H
          skip
          have A27 := Aside0.mk A270
          clear A270
          have H' := Aside0.mk H
          clear H
          obtain ⟨Ao28,co28,eo28⟩ := Kd.R_slice HO361.out
          subst eo28
          obtain ⟨Ao29,co29,eo29⟩ := Kd.N_slice HO_8.out
          subst eo29
          go_wp2_with (first | (go_at_call 16;(with_reducible refine (seqs_Match.calls _ _ t355 _ _ t359 t362 _ ?side1 ?side2 ?side3 ?side4 A26.out).mono ?_);(case side1 => repeat (first | exact (Kd.N_reads' HO_8.out).2.2 | (with_reducible refine Kd.C_alloc ?_ _) | (with_reducible refine Kd.C_drewN ?_ _) | (with_reducible refine Kd.C_drew ?_)));(case side2 => exact (Kd.N_reads' HO_8.out).2.1);(case side3 => repeat (first | exact (Kd.R_reads' HO361.out).2.2 | (with_reducible refine Kd.C_alloc ?_ _) | (with_reducible refine Kd.C_drewN ?_ _) | (with_reducible refine Kd.C_drew ?_)));(case side4 => exact (Kd.R_reads' HO361.out).2.1);rintro e w30 ⟨rfl,hb⟩;have n0_ := Aside0.mk (Kd.R_below (by (with_reducible repeat (first | apply Kd.R_alloc | apply Kd.R_drewN | apply Kd.R_drew));exact HO_7.out) hb);have n1_ := Aside0.mk (Kd.N_below (by (with_reducible repeat (first | apply Kd.N_alloc | apply Kd.N_drewN | apply Kd.N_drew));exact HO_8.out) hb);have n2_ := Aside0.mk (Kd.R_below (by (with_reducible repeat (first | apply Kd.R_alloc | apply Kd.R_drewN | apply Kd.R_drew));exact HO361.out) hb);have n3_ := Aside0.mk (below_step (by repeat (first | (with_reducible first | exact HB.out | apply below_alloc | apply pw_below_drewN | apply below_drew1) | exact HB.out)) hb);clear HO_7;clear HO_8;clear HO361;clear HB;have HO_7 := n0_;have HO_8 := n1_;have HO361 := n2_;have HB := n3_;clear n0_ n1_ n2_ n3_;(try clear hb);(try clear hb2);(try clear hk);(try clear hi)) | (go_at_call 24;(with_reducible refine (glyphcutterref01_Has.calls kj18 _ _ t352 x9_18 t363 _ ?side1 ?side2 A27.out).mono ?_);(case side1 => repeat (first | exact (Kd.R_reads' HO_7.out).2.2 | (with_reducible refine Kd.C_alloc ?_ _) | (with_reducible refine Kd.C_drewN ?_ _) | (with_reducible refine Kd.C_drew ?_)));(case side2 => exact (Kd.R_reads' HO_7.out).2.1);rintro e w' ⟨rfl,⟨nd,rfl⟩⟩))
          go_meet
          case rel => exact ⟨_,((t362 != t363)),(by first | rfl | (simp;done) | (simp [*];done)),H',⟨by have := HJ3.out;have := HJ13.out;have := HJ18.out;first | omega | exact Nat.le_refl _⟩,⟨by (with_reducible repeat (first | apply Kd.R_alloc | apply Kd.R_drewN | apply Kd.R_drew));exact HO_7.out⟩,⟨by (with_reducible repeat (first | apply Kd.N_alloc | apply Kd.N_drewN | apply Kd.N_drew));exact Kd.N_mono HO_8.out (fun _ hk => hk.1)⟩,⟨by repeat (first | (with_reducible first | exact HB.out | apply below_alloc | apply pw_below_drewN | apply below_drew1) | exact HB.out)⟩⟩
         ·rw [if_neg c25] at H
          have c25b0 : decide (0 < (t359.length : Int)) = false := decide_eq_false c25
          have c25b1 : decide (0 < t359.length) = false := decide_eq_false (by omega)
          clear c25
          (first | rw [c25b0] | (simp only [i64_w,i32_w];rw [c25b0]) | skip)
          have H' := Aside0.mk H
          clear H
          obtain ⟨Ao31,co31,eo31⟩ := Kd.R_slice HO361.out
          subst eo31
          go_wp2
          go_meet
          case rel => exact ⟨_,(false),(by first | rfl | (simp;done) | (simp [*];done)),H',⟨by have := HJ3.out;have := HJ13.out;have := HJ18.out;first | omega | exact Nat.le_refl _⟩,⟨by (with_reducible repeat (first | apply Kd.R_alloc | apply Kd.R_drewN | apply Kd.R_drew));exact HO_7.out⟩,⟨by (with_reducible repeat (first | apply Kd.N_alloc | apply Kd.N_drewN | apply Kd.N_drew));exact Kd.N_mono HO_8.out (fun _ hk => hk.1)⟩,⟨by repeat (first | (with_reducible first | exact HB.out | apply below_alloc | apply pw_below_drewN | apply below_drew1) | exact HB.out)⟩⟩
        case rest =>
         clear HC23
         try clear c1
         try clear c2
         try clear p2
         try clear p3
         try clear q3
         try clear hx3
         try clear qi3
         try clear c5
         try clear c5b0
         try clear c5b1
         try clear c6
         try clear c6b0
         try clear c6b1
         try clear p6
         try clear c7
         try clear c9
         try clear c10
         try clear c11
         try clear c12
         try clear c14
         try clear c18
         try clear c18b0
         try clear c18b1
         try clear c20
         try clear c21
         try clear c21b0
         try clear c21b1
         try clear c25
         try clear c25b0
         try clear c25b1
         try clear hx358_0
         try clear hx358_1
         try clear p2
         try clear p3
         try clear p358
         try clear p6
         try clear q3
         try clear q358
         obtain ⟨kq,x64_22,rfl,HA,HJ22,HO_7,HO_8,HB⟩ := hcut
         cases kq with
         | zero => exact absurd HA.out (by simp [glyphcutterlaw03_SeqsHas.j3])
         | succ kj22 =>
          have H := HA.out
          clear HA
          simp only [glyphcutterlaw03_SeqsHas.j3] at H
          by_cases c32 : x64_22 = true
          ·subst c32
           rw [if_pos rfl] at H
           obtain rfl := Option.some.inj H
           go_wp2
           go_ret
           exact ⟨by first | rfl | (simp [errW_none,errW_some] <;> rfl) | (simp [*,errW_none,errW_some] <;> rfl),by repeat (first | (with_reducible first | exact HB.out | apply below_alloc | apply pw_below_drewN | apply below_drew1) | exact HB.out)⟩
          ·replace c32 := Bool.eq_false_iff.mpr c32
           subst c32
           rw [if_neg (show ¬ (false = true) by decide)] at H
           replace H := Option.bind_eq_some_iff.mp H
           obtain ⟨⟨t364,t365⟩,A330,H⟩ := H
           replace H : (if t364 < 0 then (glyphcutterlaw03_SeqsHas.j4 kj22 l2 t352 t355 t364 true) else (glyphcutterlaw03_SeqsHas.j4 kj22 l2 t352 t355 t364 (t365 != (l2.length : Int)))) = some r := H
           have A33 := Aside0.mk A330
           clear A330
           have HC34 := Aside0.mk H
           clear H
           go_upto_region 12 with (first | ((with_reducible refine gate_callee (f := 25) rfl ?_);refine goesL_ (some 67) rfl rfl Try.func25 (by kernel_rfl) rfl #[.slice A2 l2.length c2] rfl (by (try simp only [List.map_toArray,List.map_cons,List.map_nil]);first | done | rfl | (simp only [List.length_drop,List.length_take];rfl)) ?_;(with_reducible refine (glyphcutterref02_Decode.calls _ _ l2 t364 t365 _ ?side1 ?side2 A33.out).mono ?_);(case side1 => repeat (first | exact (Kd.C_below HR2.out HB.out) | (with_reducible refine Kd.C_alloc ?_ _) | (with_reducible refine Kd.C_drewN ?_ _) | (with_reducible refine Kd.C_drew ?_)));(case side2 => exact HC2.out);rintro e w35 ⟨rfl,hb⟩;refine ⟨_,rfl,?_⟩;have n0_ := Aside0.mk (Kd.R_below (by (with_reducible repeat (first | apply Kd.R_alloc | apply Kd.R_drewN | apply Kd.R_drew));exact HO_7.out) hb);have n1_ := Aside0.mk (Kd.N_below (by (with_reducible repeat (first | apply Kd.N_alloc | apply Kd.N_drewN | apply Kd.N_drew));exact HO_8.out) hb);have n2_ := Aside0.mk (below_step (by repeat (first | (with_reducible first | exact HB.out | apply below_alloc | apply pw_below_drewN | apply below_drew1) | exact HB.out)) hb);clear HO_7;clear HO_8;clear HB;have HO_7 := n0_;have HO_8 := n1_;have HB := n2_;clear n0_ n1_ n2_;(try clear hb);(try clear hb2);(try clear hk);(try clear hi)))
           (try simp only [Act.put,List.setIfInBounds_toArray,List.set_cons_zero,List.set_cons_succ])
           go_cut [77] (fun v77 wc => ∃ (kq : Nat) (x77_33 : Bool),v77 = .bool x77_33 ∧ Aside0 (glyphcutterlaw03_SeqsHas.j4 kq l2 t352 t355 t364 x77_33 = some r) ∧ Aside0 (kq ≤ kj22) ∧ Aside0 (Kd.R k43 43 wc w.heap.size (fun _ => True) (.slice Ao16 t352.length co16) t352) ∧ Aside0 (Kd.N (Kd.slice 57 k57) 37 wc w.heap.size (fun k_ => some k_ ≠ ((.slice Ao16 t352.length co16) : Value).ownBlock) v356 t355) ∧ Aside0 (Below w.heap.size w wc))
           case first =>
            have H := HC34.out
            clear HC34
            by_cases c36 : t364 < 0
            ·rw [if_pos c36] at H
             have c36b0 : decide (t364 < 0) = true := decide_eq_true c36
             clear c36
             (first | rw [c36b0] | (simp only [i64_w,i32_w];rw [c36b0]) | skip)
             have H' := Aside0.mk H
             clear H
             go_wp2
             go_meet
             case rel => exact ⟨_,(true),(by first | rfl | (simp;done) | (simp [*];done)),H',⟨by have := HJ3.out;have := HJ13.out;have := HJ18.out;have := HJ22.out;first | omega | exact Nat.le_refl _⟩,⟨by (with_reducible repeat (first | apply Kd.R_alloc | apply Kd.R_drewN | apply Kd.R_drew));exact HO_7.out⟩,⟨by (with_reducible repeat (first | apply Kd.N_alloc | apply Kd.N_drewN | apply Kd.N_drew));exact HO_8.out⟩,⟨by repeat (first | (with_reducible first | exact HB.out | apply below_alloc | apply pw_below_drewN | apply below_drew1) | exact HB.out)⟩⟩
            ·rw [if_neg c36] at H
             have c36b0 : decide (t364 < 0) = false := decide_eq_false c36
             clear c36
             (first | rw [c36b0] | (simp only [i64_w,i32_w];rw [c36b0]) | skip)
             have H' := Aside0.mk H
             clear H
             go_wp2
             go_meet
             case rel => exact ⟨_,((t365 != (l2.length : Int))),(by first | rfl | (simp;done) | (simp [*];done)),H',⟨by have := HJ3.out;have := HJ13.out;have := HJ18.out;have := HJ22.out;first | omega | exact Nat.le_refl _⟩,⟨by (with_reducible repeat (first | apply Kd.R_alloc | apply Kd.R_drewN | apply Kd.R_drew));exact HO_7.out⟩,⟨by (with_reducible repeat (first | apply Kd.N_alloc | apply Kd.N_drewN | apply Kd.N_drew));exact HO_8.out⟩,⟨by repeat (first | (with_reducible first | exact HB.out | apply below_alloc | apply pw_below_drewN | apply below_drew1) | exact HB.out)⟩⟩
           case rest =>
            clear HC34
            try clear c1
            try clear c2
            try clear p2
            try clear c3
            try clear p3
            try clear q3
            try clear hx3
            try clear qi3
            try clear c5
            try clear c5b0
            try clear c5b1
            try clear c6
            try clear c6b0
            try clear c6b1
            try clear p6
            try clear c7
            try clear c9
            try clear c10
            try clear c11
            try clear c12
            try clear c14
            try clear c18
            try clear c18b0
            try clear c18b1
            try clear c20
            try clear c21
            try clear c21b0
            try clear c21b1
            try clear c25
            try clear c25b0
            try clear c25b1
            try clear c32
            try clear p35
            try clear q35
            try clear hx35
            try clear qi35
            try clear c36
            try clear c36b0
            try clear hx358_0
            try clear hx358_1
            try clear p2
            try clear p3
            try clear p358
            try clear p6
            try clear q3
            try clear q358
            obtain ⟨kq,x77_33,rfl,HA,HJ33,HO_7,HO_8,HB⟩ := hcut
            cases kq with
            | zero => exact absurd HA.out (by simp [glyphcutterlaw03_SeqsHas.j4])
            | succ kj33 =>
             have H := HA.out
             clear HA
             simp only [glyphcutterlaw03_SeqsHas.j4] at H
             by_cases c37 : x77_33 = true
             ·subst c37
              rw [if_pos rfl] at H
              replace H := Option.bind_eq_some_iff.mp H
              obtain ⟨t366,A380,H⟩ := H
              skip
              have A38 := Aside0.mk A380
              clear A380
              obtain rfl := Option.some.inj H
              obtain ⟨Ao39,co39,eo39⟩ := Kd.N_slice HO_8.out
              subst eo39
              go_wp2_with (first | ((with_reducible refine gate_callee (f := 16) rfl ?_);refine goesL_ (some 80) rfl rfl Try.func16 (by kernel_rfl) rfl #[.slice Ao39 t355.length co39,.slice A2 l2.length c2] rfl (by (try simp only [List.map_toArray,List.map_cons,List.map_nil]);first | done | rfl | (simp only [List.length_drop,List.length_take];rfl)) ?_;(with_reducible refine (seqs_Match.calls _ _ t355 _ _ l2 t366 _ ?side1 ?side2 ?side3 ?side4 A38.out).mono ?_);(case side1 => repeat (first | exact (Kd.N_reads' HO_8.out).2.2 | (with_reducible refine Kd.C_alloc ?_ _) | (with_reducible refine Kd.C_drewN ?_ _) | (with_reducible refine Kd.C_drew ?_)));(case side2 => exact (Kd.N_reads' HO_8.out).2.1);(case side3 => repeat (first | exact (Kd.C_below HR2.out HB.out) | (with_reducible refine Kd.C_alloc ?_ _) | (with_reducible refine Kd.C_drewN ?_ _) | (with_reducible refine Kd.C_drew ?_)));(case side4 => exact HC2.out);rintro e w40 ⟨rfl,hb⟩;refine ⟨_,rfl,?_⟩;have n0_ := Aside0.mk (Kd.R_below (by (with_reducible repeat (first | apply Kd.R_alloc | apply Kd.R_drewN | apply Kd.R_drew));exact HO_7.out) hb);have n1_ := Aside0.mk (Kd.N_below (by (with_reducible repeat (first | apply Kd.N_alloc | apply Kd.N_drewN | apply Kd.N_drew));exact HO_8.out) hb);have n2_ := Aside0.mk (below_step (by repeat (first | (with_reducible first | exact HB.out | apply below_alloc | apply pw_below_drewN | apply below_drew1) | exact HB.out)) hb);clear HO_7;clear HO_8;clear HB;have HO_7 := n0_;have HO_8 := n1_;have HB := n2_;clear n0_ n1_ n2_;(try clear hb);(try clear hb2);(try clear hk);(try clear hi)))
              go_ret
              exact ⟨by first | rfl | (simp [errW_none,errW_some] <;> rfl) | (simp [*,errW_none,errW_some] <;> rfl),by repeat (first | (with_reducible first | exact HB.out | apply below_alloc | apply pw_below_drewN | apply below_drew1) | exact HB.out)⟩
             ·replace c37 := Bool.eq_false_iff.mpr c37
              subst c37
              rw [if_neg (show ¬ (false = true) by decide)] at H
              replace H := Option.bind_eq_some_iff.mp H
              obtain ⟨t367,A410,H⟩ := H
              skip
              have A41 := Aside0.mk A410
              clear A410
              replace H := Option.bind_eq_some_iff.mp H
              obtain ⟨t368,A420,H⟩ := H
              skip
              have A42 := Aside0.mk A420
              clear A420
              obtain rfl := Option.some.inj H
              obtain ⟨Ao43,co43,eo43⟩ := Kd.N_slice HO_8.out
              subst eo43
              go_wp2_with (first | ((with_reducible refine gate_callee (f := 16) rfl ?_);refine goesL_ (some 84) rfl rfl Try.func16 (by kernel_rfl) rfl #[.slice Ao43 t355.length co43,.slice A2 l2.length c2] rfl (by (try simp only [List.map_toArray,List.map_cons,List.map_nil]);first | done | rfl | (simp only [List.length_drop,List.length_take];rfl)) ?_;(with_reducible refine (seqs_Match.calls _ _ t355 _ _ l2 t367 _ ?side1 ?side2 ?side3 ?side4 A41.out).mono ?_);(case side1 => repeat (first | exact (Kd.N_reads' HO_8.out).2.2 | (with_reducible refine Kd.C_alloc ?_ _) | (with_reducible refine Kd.C_drewN ?_ _) | (with_reducible refine Kd.C_drew ?_)));(case side2 => exact (Kd.N_reads' HO_8.out).2.1);(case side3 => repeat (first | exact (Kd.C_below HR2.out HB.out) | (with_reducible refine Kd.C_alloc ?_ _) | (with_reducible refine Kd.C_drewN ?_ _) | (with_reducible refine Kd.C_drew ?_)));(case side4 => exact HC2.out);rintro e w44 ⟨rfl,hb⟩;refine ⟨_,rfl,?_⟩;have n0_ := Aside0.mk (Kd.R_below (by (with_reducible repeat (first | apply Kd.R_alloc | apply Kd.R_drewN | apply Kd.R_drew));exact HO_7.out) hb);have n1_ := Aside0.mk (Kd.N_below (by (with_reducible repeat (first | apply Kd.N_alloc | apply Kd.N_drewN | apply Kd.N_drew));exact HO_8.out) hb);have n2_ := Aside0.mk (below_step (by repeat (first | (with_reducible first | exact HB.out | apply below_alloc | apply pw_below_drewN | apply below_drew1) | exact HB.out)) hb);clear HO_7;clear HO_8;clear HB;have HO_7 := n0_;have HO_8 := n1_;have HB := n2_;clear n0_ n1_ n2_;(try clear hb);(try clear hb2);(try clear hk);(try clear hi)) | ((with_reducible refine gate_callee (f := 24) rfl ?_);refine goesL_ (some 87) rfl rfl Try.func24 (by kernel_rfl) rfl #[.slice Ao16 t352.length co16,.int .i64 t364] rfl (by (try simp only [List.map_toArray,List.map_cons,List.map_nil]);first | done | rfl | (simp only [List.length_drop,List.length_take];rfl)) ?_;(with_reducible refine (glyphcutterref01_Has.calls kj33 _ _ t352 t364 t368 _ ?side1 ?side2 A42.out).mono ?_);(case side1 => repeat (first | exact (Kd.R_reads' HO_7.out).2.2 | (with_reducible refine Kd.C_alloc ?_ _) | (with_reducible refine Kd.C_drewN ?_ _) | (with_reducible refine Kd.C_drew ?_)));(case side2 => exact (Kd.R_reads' HO_7.out).2.1);rintro e w' ⟨rfl,⟨nd,rfl⟩⟩;refine ⟨_,rfl,?_⟩))
              go_ret
              exact ⟨by first | rfl | (simp [errW_none,errW_some] <;> rfl) | (simp [*,errW_none,errW_some] <;> rfl),by repeat (first | (with_reducible first | exact HB.out | apply below_alloc | apply pw_below_drewN | apply below_drew1) | exact HB.out)⟩

end
end Go.Proofs.Ytbhfaeliklaffaa.P
