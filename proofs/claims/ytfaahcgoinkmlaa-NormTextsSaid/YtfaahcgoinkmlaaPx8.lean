-- WRITTEN BY A PROGRAM (hybrid.py over the kit's print.py): Lean checks it.
import Derived.Test.YtfaahcgoinkmlaaPx0
import Derived.Test.YtfaahcgoinkmlaaPx5
namespace Go.Proofs.Ytfaahcgoinkmlaa.P
open Go.RowKit Go.Proofs.YtfaahcgoinkmlaaW.PrintWords Go.Proofs.YtfaahcgoinkmlaaW.PrintLast Go.Proofs.YtfaahcgoinkmlaaW.PrintMore
attribute [local go_sem] max2_int min2_int max_two min_two max_three min_three max_four min_four   -- for this text's walks alone
set_option linter.unusedVariables false
set_option linter.unusedSimpArgs false

/-! ### glyphcutterref04_Fold: function 44 -/
mutual
def glyphcutterref04_Fold.j0 : Nat → Int → Bool → Option (Int)
 | 0,_,_ => none
 | k + 1,x0,x3 => if x3 = true then (glyphcutterref04_Fold.j2 k x0 x3) else (if x0 ≥ 192 then (if x0 ≤ 222 then (glyphcutterref04_Fold.j1 k x0 (x0 != 215)) else (glyphcutterref04_Fold.j1 k x0 false)) else (glyphcutterref04_Fold.j1 k x0 false))
def glyphcutterref04_Fold.j2 : Nat → Int → Bool → Option (Int)
 | 0,_,_ => none
 | k + 1,x0,x3 => if x3 = true then (some (wrap64 (x0 + 32))) else (if x0 ≥ 1024 then (glyphcutterref04_Fold.j3 k x0 (decide (x0 ≤ 1039))) else (glyphcutterref04_Fold.j3 k x0 false))
def glyphcutterref04_Fold.j3 : Nat → Int → Bool → Option (Int)
 | 0,_,_ => none
 | k + 1,x0,x38 => if x38 = true then (some (wrap64 (x0 + 80))) else (if x0 = 181 then (some 956) else (if x0 = 962 then (some 963) else (if x0 = 7838 then (some 223) else (if x0 = 8486 then (some 969) else (if x0 = 8490 then (some 107) else (if x0 = 8491 then (some 229) else (some x0)))))))
def glyphcutterref04_Fold.j1 : Nat → Int → Bool → Option (Int)
 | 0,_,_ => none
 | k + 1,x0,x3 => if x3 = true then (glyphcutterref04_Fold.j2 k x0 x3) else (if x0 ≥ 913 then (if x0 ≤ 937 then (if x0 = 930 then (if x0 ≥ 1040 then (glyphcutterref04_Fold.j2 k x0 (decide (x0 ≤ 1071))) else (glyphcutterref04_Fold.j2 k x0 false)) else (glyphcutterref04_Fold.j2 k x0 (x0 != 930))) else (if x0 ≥ 1040 then (glyphcutterref04_Fold.j2 k x0 (decide (x0 ≤ 1071))) else (glyphcutterref04_Fold.j2 k x0 false))) else (if x0 ≥ 1040 then (glyphcutterref04_Fold.j2 k x0 (decide (x0 ≤ 1071))) else (glyphcutterref04_Fold.j2 k x0 false)))
end
def glyphcutterref04_Fold.f (k : Nat) (a0 : Int) : Option (Int) := if a0 ≥ 65 then (glyphcutterref04_Fold.j0 k a0 (decide (a0 ≤ 90))) else (glyphcutterref04_Fold.j0 k a0 false)
theorem glyphcutterref04_Fold.mono_l : ∀ k,(∀ y0 y1,LeO (glyphcutterref04_Fold.j0 k y0 y1) (glyphcutterref04_Fold.j0 (k + 1) y0 y1)) ∧ (∀ y0 y1,LeO (glyphcutterref04_Fold.j2 k y0 y1) (glyphcutterref04_Fold.j2 (k + 1) y0 y1)) ∧ (∀ y0 y1,LeO (glyphcutterref04_Fold.j3 k y0 y1) (glyphcutterref04_Fold.j3 (k + 1) y0 y1)) ∧ (∀ y0 y1,LeO (glyphcutterref04_Fold.j1 k y0 y1) (glyphcutterref04_Fold.j1 (k + 1) y0 y1))
 | 0 => ⟨fun _ _ r h => by simp [glyphcutterref04_Fold.j0] at h,fun _ _ r h => by simp [glyphcutterref04_Fold.j2] at h,fun _ _ r h => by simp [glyphcutterref04_Fold.j3] at h,fun _ _ r h => by simp [glyphcutterref04_Fold.j1] at h⟩
 | k + 1 => by
  obtain ⟨ih0,ih1,ih2,ih3⟩ := glyphcutterref04_Fold.mono_l k
  refine ⟨?_,?_,?_,?_⟩
  ·intro y0 y1
   unfold glyphcutterref04_Fold.j0
   repeat' first
   | (with_reducible exact ih0 _ _)
   | (with_reducible exact ih1 _ _)
   | (with_reducible exact ih2 _ _)
   | (with_reducible exact ih3 _ _)
   | (with_reducible exact LeO.refl _)
   | (with_reducible exact LeO.none _)
   | (with_reducible refine LeO.ite ?_ ?_)
   | (with_reducible refine LeO.bind ?_ (fun _ => ?_))
   | exact ih0 _ _
   | exact ih1 _ _
   | exact ih2 _ _
   | exact ih3 _ _
   | exact LeO.none _
   | refine LeO.ite ?_ ?_
   | refine LeO.bind ?_ (fun _ => ?_)
  ·intro y0 y1
   unfold glyphcutterref04_Fold.j2
   repeat' first
   | (with_reducible exact ih0 _ _)
   | (with_reducible exact ih1 _ _)
   | (with_reducible exact ih2 _ _)
   | (with_reducible exact ih3 _ _)
   | (with_reducible exact LeO.refl _)
   | (with_reducible exact LeO.none _)
   | (with_reducible refine LeO.ite ?_ ?_)
   | (with_reducible refine LeO.bind ?_ (fun _ => ?_))
   | exact ih0 _ _
   | exact ih1 _ _
   | exact ih2 _ _
   | exact ih3 _ _
   | exact LeO.none _
   | refine LeO.ite ?_ ?_
   | refine LeO.bind ?_ (fun _ => ?_)
  ·intro y0 y1
   unfold glyphcutterref04_Fold.j3
   repeat' first
   | (with_reducible exact ih0 _ _)
   | (with_reducible exact ih1 _ _)
   | (with_reducible exact ih2 _ _)
   | (with_reducible exact ih3 _ _)
   | (with_reducible exact LeO.refl _)
   | (with_reducible exact LeO.none _)
   | (with_reducible refine LeO.ite ?_ ?_)
   | (with_reducible refine LeO.bind ?_ (fun _ => ?_))
   | exact ih0 _ _
   | exact ih1 _ _
   | exact ih2 _ _
   | exact ih3 _ _
   | exact LeO.none _
   | refine LeO.ite ?_ ?_
   | refine LeO.bind ?_ (fun _ => ?_)
  ·intro y0 y1
   unfold glyphcutterref04_Fold.j1
   repeat' first
   | (with_reducible exact ih0 _ _)
   | (with_reducible exact ih1 _ _)
   | (with_reducible exact ih2 _ _)
   | (with_reducible exact ih3 _ _)
   | (with_reducible exact LeO.refl _)
   | (with_reducible exact LeO.none _)
   | (with_reducible refine LeO.ite ?_ ?_)
   | (with_reducible refine LeO.bind ?_ (fun _ => ?_))
   | exact ih0 _ _
   | exact ih1 _ _
   | exact ih2 _ _
   | exact ih3 _ _
   | exact LeO.none _
   | refine LeO.ite ?_ ?_
   | refine LeO.bind ?_ (fun _ => ?_)
theorem glyphcutterref04_Fold.mono : ∀ a0 k,LeO (glyphcutterref04_Fold.f k a0) (glyphcutterref04_Fold.f (k + 1) a0) := by
 intro a0 k
 obtain ⟨ih0,ih1,ih2,ih3⟩ := glyphcutterref04_Fold.mono_l k
 unfold glyphcutterref04_Fold.f
 repeat' first
   | (with_reducible exact ih0 _ _)
   | (with_reducible exact ih1 _ _)
   | (with_reducible exact ih2 _ _)
   | (with_reducible exact ih3 _ _)
   | (with_reducible exact LeO.refl _)
   | (with_reducible exact LeO.none _)
   | (with_reducible refine LeO.ite ?_ ?_)
   | (with_reducible refine LeO.bind ?_ (fun _ => ?_))
   | exact ih0 _ _
   | exact ih1 _ _
   | exact ih2 _ _
   | exact ih3 _ _
   | exact LeO.none _
   | refine LeO.ite ?_ ?_
   | refine LeO.bind ?_ (fun _ => ?_)
set_option maxHeartbeats 8000000 in
set_option maxRecDepth 100000 in
theorem glyphcutterref04_Fold.calls (k : Nat) (a0 : Int) (r : Int) (w : World) (h : glyphcutterref04_Fold.f k a0 = some r) :
  Calls Try.prog 44 #[.int .i64 a0] w fun e w' => e = .returned (.int .i64 r) ∧ Drawn0 w w' := by
 have H : (if a0 ≥ 65 then (glyphcutterref04_Fold.j0 k a0 (decide (a0 ≤ 90))) else (glyphcutterref04_Fold.j0 k a0 false)) = some r := h
 clear h
 have HC2 := Aside0.mk H
 clear H
 go_enter Try.func44,Try.ntmps44
 go_upto_region 1 with (fail)
 go_cut [3] (fun v3 wc => ∃ (kq : Nat) (x3_1 : Bool),v3 = .bool x3_1 ∧ Aside0 (glyphcutterref04_Fold.j0 kq a0 x3_1 = some r) ∧ Aside0 (kq ≤ k) ∧ Drawn0 w wc)
 case first =>
  have H := HC2.out
  clear HC2
  by_cases c3 : a0 ≥ 65
  ·rw [if_pos c3] at H
   have c3b0 : decide (65 ≤ a0) = true := decide_eq_true c3
   clear c3
   (first | rw [c3b0] | (simp only [i64_w,i32_w];rw [c3b0]) | skip)
   have H' := Aside0.mk H
   clear H
   go_wp2
   go_meet
   case rel => exact ⟨_,(decide (a0 ≤ 90)),(by first | rfl | (simp;done) | (simp [*];done)),H',⟨by first | omega | exact Nat.le_refl _⟩,by repeat (first | exact Drawn0.refl _ | apply Drawn0.step)⟩
  ·rw [if_neg c3] at H
   have c3b0 : decide (65 ≤ a0) = false := decide_eq_false c3
   clear c3
   (first | rw [c3b0] | (simp only [i64_w,i32_w];rw [c3b0]) | skip)
   have H' := Aside0.mk H
   clear H
   go_wp2
   go_meet
   case rel => exact ⟨_,(false),(by first | rfl | (simp;done) | (simp [*];done)),H',⟨by first | omega | exact Nat.le_refl _⟩,by repeat (first | exact Drawn0.refl _ | apply Drawn0.step)⟩
 case rest =>
  clear HC2
  try clear p2
  try clear c3
  try clear c3b0
  obtain ⟨kq,x3_1,rfl,HA,HJ1,⟨mc1,rfl⟩⟩ := hcut
  cases kq with
  | zero => exact absurd HA.out (by simp [glyphcutterref04_Fold.j0])
  | succ kj1 =>
   have H := HA.out
   clear HA
   simp only [glyphcutterref04_Fold.j0] at H
   have HC4 := Aside0.mk H
   clear H
   go_upto_if 3 with (fail)
   go_cut [3] (fun v3 wc => ∃ (kq : Nat) (x3_3 : Bool),v3 = .bool x3_3 ∧ Aside0 (glyphcutterref04_Fold.j2 kq a0 x3_3 = some r) ∧ Aside0 (kq ≤ kj1) ∧ Drawn0 w wc)
   case first =>
    have H := HC4.out
    clear HC4
    by_cases c5 : x3_1 = true
    ·subst c5
     rw [if_pos rfl] at H
     have H' := Aside0.mk H
     clear H
     go_wp2
     go_meet
     case rel => exact ⟨_,(true),(by first | rfl | (simp;done) | (simp [*];done)),H',⟨by have := HJ1.out;first | omega | exact Nat.le_refl _⟩,by repeat (first | exact Drawn0.refl _ | apply Drawn0.step)⟩
    ·replace c5 := Bool.eq_false_iff.mpr c5
     subst c5
     rw [if_neg (show ¬ (false = true) by decide)] at H
     have HC6 := Aside0.mk H
     clear H
     go_upto_region 2 with (fail)
     go_cut [3] (fun v3 wc => ∃ (kq : Nat) (x3_5 : Bool),v3 = .bool x3_5 ∧ Aside0 (glyphcutterref04_Fold.j1 kq a0 x3_5 = some r) ∧ Aside0 (kq ≤ kj1) ∧ Drawn0 w wc)
     case first =>
      have H := HC6.out
      clear HC6
      by_cases c7 : a0 ≥ 192
      ·rw [if_pos c7] at H
       have c7b0 : decide (192 ≤ a0) = true := decide_eq_true c7
       clear c7
       (first | rw [c7b0] | (simp only [i64_w,i32_w];rw [c7b0]) | skip)
       by_cases c8 : a0 ≤ 222
       ·rw [if_pos c8] at H
        have c8b0 : decide (a0 ≤ 222) = true := decide_eq_true c8
        clear c8
        have H' := Aside0.mk H
        clear H
        go_wp2
        go_meet
        case rel => exact ⟨_,((a0 != 215)),(by first | rfl | (simp;done) | (simp [*];done)),H',⟨by have := HJ1.out;first | omega | exact Nat.le_refl _⟩,by repeat (first | exact Drawn0.refl _ | apply Drawn0.step)⟩
       ·rw [if_neg c8] at H
        have c8b0 : decide (a0 ≤ 222) = false := decide_eq_false c8
        clear c8
        have H' := Aside0.mk H
        clear H
        go_wp2
        go_meet
        case rel => exact ⟨_,(false),(by first | rfl | (simp;done) | (simp [*];done)),H',⟨by have := HJ1.out;first | omega | exact Nat.le_refl _⟩,by repeat (first | exact Drawn0.refl _ | apply Drawn0.step)⟩
      ·rw [if_neg c7] at H
       have c7b0 : decide (192 ≤ a0) = false := decide_eq_false c7
       clear c7
       (first | rw [c7b0] | (simp only [i64_w,i32_w];rw [c7b0]) | skip)
       have H' := Aside0.mk H
       clear H
       go_wp2
       go_meet
       case rel => exact ⟨_,(false),(by first | rfl | (simp;done) | (simp [*];done)),H',⟨by have := HJ1.out;first | omega | exact Nat.le_refl _⟩,by repeat (first | exact Drawn0.refl _ | apply Drawn0.step)⟩
     case rest =>
      clear HC6
      try clear c1
      try clear p2
      try clear c3
      try clear c3b0
      try clear c4
      try clear c5
      try clear c7
      try clear c7b0
      try clear c8
      try clear c8b0
      try clear p2
      obtain ⟨kq,x3_5,rfl,HA,HJ5,⟨mc5,rfl⟩⟩ := hcut
      cases kq with
      | zero => exact absurd HA.out (by simp [glyphcutterref04_Fold.j1])
      | succ kj5 =>
       have H := HA.out
       clear HA
       simp only [glyphcutterref04_Fold.j1] at H
       by_cases c9 : x3_5 = true
       ·subst c9
        rw [if_pos rfl] at H
        have H' := Aside0.mk H
        clear H
        go_wp2
        go_meet
        case rel => exact ⟨_,(true),(by first | rfl | (simp;done) | (simp [*];done)),H',⟨by have := HJ1.out;have := HJ5.out;first | omega | exact Nat.le_refl _⟩,by repeat (first | exact Drawn0.refl _ | apply Drawn0.step)⟩
       ·replace c9 := Bool.eq_false_iff.mpr c9
        subst c9
        rw [if_neg (show ¬ (false = true) by decide)] at H
        by_cases c10 : a0 ≥ 913
        ·rw [if_pos c10] at H
         have c10b0 : decide (913 ≤ a0) = true := decide_eq_true c10
         clear c10
         by_cases c11 : a0 ≤ 937
         ·rw [if_pos c11] at H
          have c11b0 : decide (a0 ≤ 937) = true := decide_eq_true c11
          clear c11
          by_cases c12 : a0 = 930
          ·rw [if_pos c12] at H
           have c12b0 : (a0 == 930) = true := beq_iff_eq.mpr c12
           have c12b1 : (a0 != 930) = false := bne_eq_false_iff_eq.mpr c12
           clear c12
           by_cases c13 : a0 ≥ 1040
           ·rw [if_pos c13] at H
            have c13b0 : decide (1040 ≤ a0) = true := decide_eq_true c13
            clear c13
            have H' := Aside0.mk H
            clear H
            go_wp2
            go_meet
            case rel => exact ⟨_,(decide (a0 ≤ 1071)),(by first | rfl | (simp;done) | (simp [*];done)),H',⟨by have := HJ1.out;have := HJ5.out;first | omega | exact Nat.le_refl _⟩,by repeat (first | exact Drawn0.refl _ | apply Drawn0.step)⟩
           ·rw [if_neg c13] at H
            have c13b0 : decide (1040 ≤ a0) = false := decide_eq_false c13
            clear c13
            have H' := Aside0.mk H
            clear H
            go_wp2
            go_meet
            case rel => exact ⟨_,(false),(by first | rfl | (simp;done) | (simp [*];done)),H',⟨by have := HJ1.out;have := HJ5.out;first | omega | exact Nat.le_refl _⟩,by repeat (first | exact Drawn0.refl _ | apply Drawn0.step)⟩
          ·rw [if_neg c12] at H
           have c12b0 : (a0 == 930) = false := beq_eq_false_iff_ne.mpr c12
           have c12b1 : (a0 != 930) = true := bne_iff_ne.mpr c12
           have H' := Aside0.mk H
           clear H
           go_wp2
           go_meet
           case rel => exact ⟨_,((a0 != 930)),(by first | rfl | (simp;done) | (simp [*];done)),H',⟨by have := HJ1.out;have := HJ5.out;first | omega | exact Nat.le_refl _⟩,by repeat (first | exact Drawn0.refl _ | apply Drawn0.step)⟩
         ·rw [if_neg c11] at H
          have c11b0 : decide (a0 ≤ 937) = false := decide_eq_false c11
          clear c11
          by_cases c14 : a0 ≥ 1040
          ·rw [if_pos c14] at H
           have c14b0 : decide (1040 ≤ a0) = true := decide_eq_true c14
           clear c14
           have H' := Aside0.mk H
           clear H
           go_wp2
           go_meet
           case rel => exact ⟨_,(decide (a0 ≤ 1071)),(by first | rfl | (simp;done) | (simp [*];done)),H',⟨by have := HJ1.out;have := HJ5.out;first | omega | exact Nat.le_refl _⟩,by repeat (first | exact Drawn0.refl _ | apply Drawn0.step)⟩
          ·rw [if_neg c14] at H
           have c14b0 : decide (1040 ≤ a0) = false := decide_eq_false c14
           clear c14
           have H' := Aside0.mk H
           clear H
           go_wp2
           go_meet
           case rel => exact ⟨_,(false),(by first | rfl | (simp;done) | (simp [*];done)),H',⟨by have := HJ1.out;have := HJ5.out;first | omega | exact Nat.le_refl _⟩,by repeat (first | exact Drawn0.refl _ | apply Drawn0.step)⟩
        ·rw [if_neg c10] at H
         have c10b0 : decide (913 ≤ a0) = false := decide_eq_false c10
         clear c10
         by_cases c15 : a0 ≥ 1040
         ·rw [if_pos c15] at H
          have c15b0 : decide (1040 ≤ a0) = true := decide_eq_true c15
          clear c15
          have H' := Aside0.mk H
          clear H
          go_wp2
          go_meet
          case rel => exact ⟨_,(decide (a0 ≤ 1071)),(by first | rfl | (simp;done) | (simp [*];done)),H',⟨by have := HJ1.out;have := HJ5.out;first | omega | exact Nat.le_refl _⟩,by repeat (first | exact Drawn0.refl _ | apply Drawn0.step)⟩
         ·rw [if_neg c15] at H
          have c15b0 : decide (1040 ≤ a0) = false := decide_eq_false c15
          clear c15
          have H' := Aside0.mk H
          clear H
          go_wp2
          go_meet
          case rel => exact ⟨_,(false),(by first | rfl | (simp;done) | (simp [*];done)),H',⟨by have := HJ1.out;have := HJ5.out;first | omega | exact Nat.le_refl _⟩,by repeat (first | exact Drawn0.refl _ | apply Drawn0.step)⟩
   case rest =>
    clear HC4
    try clear c1
    try clear p2
    try clear c3
    try clear c3b0
    try clear c4
    try clear c5
    try clear c7
    try clear c7b0
    try clear c8
    try clear c8b0
    try clear c9
    try clear c10
    try clear c10b0
    try clear c11
    try clear c11b0
    try clear c12
    try clear c12b0
    try clear c12b1
    try clear c13
    try clear c13b0
    try clear c14
    try clear c14b0
    try clear c15
    try clear c15b0
    try clear p2
    obtain ⟨kq,x3_3,rfl,HA,HJ3,⟨mc3,rfl⟩⟩ := hcut
    cases kq with
    | zero => exact absurd HA.out (by simp [glyphcutterref04_Fold.j2])
    | succ kj3 =>
     have H := HA.out
     clear HA
     simp only [glyphcutterref04_Fold.j2] at H
     by_cases c16 : x3_3 = true
     ·subst c16
      rw [if_pos rfl] at H
      obtain rfl := Option.some.inj H
      go_wp2
      go_ret
      exact ⟨by first | rfl | (simp;done) | (simp [*];done),by repeat (first | exact Drawn0.refl _ | apply Drawn0.step)⟩
     ·replace c16 := Bool.eq_false_iff.mpr c16
      subst c16
      rw [if_neg (show ¬ (false = true) by decide)] at H
      have HC17 := Aside0.mk H
      clear H
      go_upto_region 6 with (fail)
      go_cut [38] (fun v38 wc => ∃ (kq : Nat) (x38_16 : Bool),v38 = .bool x38_16 ∧ Aside0 (glyphcutterref04_Fold.j3 kq a0 x38_16 = some r) ∧ Aside0 (kq ≤ kj3) ∧ Drawn0 w wc)
      case first =>
       have H := HC17.out
       clear HC17
       by_cases c18 : a0 ≥ 1024
       ·rw [if_pos c18] at H
        have c18b0 : decide (1024 ≤ a0) = true := decide_eq_true c18
        clear c18
        (first | rw [c18b0] | (simp only [i64_w,i32_w];rw [c18b0]) | skip)
        have H' := Aside0.mk H
        clear H
        go_wp2
        go_meet
        case rel => exact ⟨_,(decide (a0 ≤ 1039)),(by first | rfl | (simp;done) | (simp [*];done)),H',⟨by have := HJ1.out;have := HJ3.out;first | omega | exact Nat.le_refl _⟩,by repeat (first | exact Drawn0.refl _ | apply Drawn0.step)⟩
       ·rw [if_neg c18] at H
        have c18b0 : decide (1024 ≤ a0) = false := decide_eq_false c18
        clear c18
        (first | rw [c18b0] | (simp only [i64_w,i32_w];rw [c18b0]) | skip)
        have H' := Aside0.mk H
        clear H
        go_wp2
        go_meet
        case rel => exact ⟨_,(false),(by first | rfl | (simp;done) | (simp [*];done)),H',⟨by have := HJ1.out;have := HJ3.out;first | omega | exact Nat.le_refl _⟩,by repeat (first | exact Drawn0.refl _ | apply Drawn0.step)⟩
      case rest =>
       clear HC17
       try clear c1
       try clear p2
       try clear c3
       try clear c3b0
       try clear c4
       try clear c5
       try clear p6
       try clear c7
       try clear c7b0
       try clear c8
       try clear c8b0
       try clear c9
       try clear c10
       try clear c10b0
       try clear c11
       try clear c11b0
       try clear c12
       try clear c12b0
       try clear c12b1
       try clear c13
       try clear c13b0
       try clear c14
       try clear c14b0
       try clear c15
       try clear c15b0
       try clear c16
       try clear c18
       try clear c18b0
       try clear p2
       obtain ⟨kq,x38_16,rfl,HA,HJ16,⟨mc16,rfl⟩⟩ := hcut
       cases kq with
       | zero => exact absurd HA.out (by simp [glyphcutterref04_Fold.j3])
       | succ kj16 =>
        have H := HA.out
        clear HA
        simp only [glyphcutterref04_Fold.j3] at H
        by_cases c19 : x38_16 = true
        ·subst c19
         rw [if_pos rfl] at H
         obtain rfl := Option.some.inj H
         go_wp2
         go_ret
         exact ⟨by first | rfl | (simp;done) | (simp [*];done),by repeat (first | exact Drawn0.refl _ | apply Drawn0.step)⟩
        ·replace c19 := Bool.eq_false_iff.mpr c19
         subst c19
         rw [if_neg (show ¬ (false = true) by decide)] at H
         by_cases c20 : a0 = 181
         ·rw [if_pos c20] at H
          have c20b0 : (a0 == 181) = true := beq_iff_eq.mpr c20
          have c20b1 : (a0 != 181) = false := bne_eq_false_iff_eq.mpr c20
          clear c20
          obtain rfl := Option.some.inj H
          go_wp2
          go_ret
          exact ⟨by first | rfl | (simp;done) | (simp [*];done),by repeat (first | exact Drawn0.refl _ | apply Drawn0.step)⟩
         ·rw [if_neg c20] at H
          have c20b0 : (a0 == 181) = false := beq_eq_false_iff_ne.mpr c20
          have c20b1 : (a0 != 181) = true := bne_iff_ne.mpr c20
          by_cases c21 : a0 = 962
          ·rw [if_pos c21] at H
           have c21b0 : (a0 == 962) = true := beq_iff_eq.mpr c21
           have c21b1 : (a0 != 962) = false := bne_eq_false_iff_eq.mpr c21
           clear c21
           obtain rfl := Option.some.inj H
           go_wp2
           go_ret
           exact ⟨by first | rfl | (simp;done) | (simp [*];done),by repeat (first | exact Drawn0.refl _ | apply Drawn0.step)⟩
          ·rw [if_neg c21] at H
           have c21b0 : (a0 == 962) = false := beq_eq_false_iff_ne.mpr c21
           have c21b1 : (a0 != 962) = true := bne_iff_ne.mpr c21
           by_cases c22 : a0 = 7838
           ·rw [if_pos c22] at H
            have c22b0 : (a0 == 7838) = true := beq_iff_eq.mpr c22
            have c22b1 : (a0 != 7838) = false := bne_eq_false_iff_eq.mpr c22
            clear c22
            obtain rfl := Option.some.inj H
            go_wp2
            go_ret
            exact ⟨by first | rfl | (simp;done) | (simp [*];done),by repeat (first | exact Drawn0.refl _ | apply Drawn0.step)⟩
           ·rw [if_neg c22] at H
            have c22b0 : (a0 == 7838) = false := beq_eq_false_iff_ne.mpr c22
            have c22b1 : (a0 != 7838) = true := bne_iff_ne.mpr c22
            by_cases c23 : a0 = 8486
            ·rw [if_pos c23] at H
             have c23b0 : (a0 == 8486) = true := beq_iff_eq.mpr c23
             have c23b1 : (a0 != 8486) = false := bne_eq_false_iff_eq.mpr c23
             clear c23
             obtain rfl := Option.some.inj H
             go_wp2
             go_ret
             exact ⟨by first | rfl | (simp;done) | (simp [*];done),by repeat (first | exact Drawn0.refl _ | apply Drawn0.step)⟩
            ·rw [if_neg c23] at H
             have c23b0 : (a0 == 8486) = false := beq_eq_false_iff_ne.mpr c23
             have c23b1 : (a0 != 8486) = true := bne_iff_ne.mpr c23
             by_cases c24 : a0 = 8490
             ·rw [if_pos c24] at H
              have c24b0 : (a0 == 8490) = true := beq_iff_eq.mpr c24
              have c24b1 : (a0 != 8490) = false := bne_eq_false_iff_eq.mpr c24
              clear c24
              obtain rfl := Option.some.inj H
              go_wp2
              go_ret
              exact ⟨by first | rfl | (simp;done) | (simp [*];done),by repeat (first | exact Drawn0.refl _ | apply Drawn0.step)⟩
             ·rw [if_neg c24] at H
              have c24b0 : (a0 == 8490) = false := beq_eq_false_iff_ne.mpr c24
              have c24b1 : (a0 != 8490) = true := bne_iff_ne.mpr c24
              by_cases c25 : a0 = 8491
              ·rw [if_pos c25] at H
               have c25b0 : (a0 == 8491) = true := beq_iff_eq.mpr c25
               have c25b1 : (a0 != 8491) = false := bne_eq_false_iff_eq.mpr c25
               clear c25
               obtain rfl := Option.some.inj H
               go_wp2
               go_ret
               exact ⟨by first | rfl | (simp;done) | (simp [*];done),by repeat (first | exact Drawn0.refl _ | apply Drawn0.step)⟩
              ·rw [if_neg c25] at H
               have c25b0 : (a0 == 8491) = false := beq_eq_false_iff_ne.mpr c25
               have c25b1 : (a0 != 8491) = true := bne_iff_ne.mpr c25
               obtain rfl := Option.some.inj H
               go_wp2
               go_ret
               exact ⟨by first | rfl | (simp;done) | (simp [*];done),by repeat (first | exact Drawn0.refl _ | apply Drawn0.step)⟩

/-! ### glyphcutterref16_Apply: function 25 -/
def glyphcutterref16_Apply.l0 : Nat → List (S33) → Int → Int → Option (Int)
 | 0,_,_,_ => none
 | k + 1,x0,x1,x5 => if x5 < (x0.length : Int) then (if 0 ≤ x5 then (if ((rd_T33 x0 x5).f0) = 1 then ((glyphcutterref04_Fold.f k x1).bind fun t292 => (glyphcutterref16_Apply.l0 k x0 t292 (wrap64 (x5 + 1)))) else (if ((rd_T33 x0 x5).f0) = 2 then (if x1 = 13 then (glyphcutterref16_Apply.l0 k x0 10 (wrap64 (x5 + 1))) else (glyphcutterref16_Apply.l0 k x0 x1 (wrap64 (x5 + 1)))) else (if ((rd_T33 x0 x5).f0) = 3 then ((glyphcutterref16_Map.f k ((rd_T33 x0 x5).f1) x1).bind fun t294 => (glyphcutterref16_Apply.l0 k x0 t294 (wrap64 (x5 + 1)))) else (glyphcutterref16_Apply.l0 k x0 x1 (wrap64 (x5 + 1)))))) else (none)) else (some x1)
def glyphcutterref16_Apply.f (k : Nat) (l0 : List (S33)) (a1 : Int) : Option (Int) := glyphcutterref16_Apply.l0 k l0 a1 0
theorem glyphcutterref16_Apply.mono_l : ∀ k,(∀ y0 y1 y2,LeO (glyphcutterref16_Apply.l0 k y0 y1 y2) (glyphcutterref16_Apply.l0 (k + 1) y0 y1 y2))
 | 0 => fun _ _ _ r h => by simp [glyphcutterref16_Apply.l0] at h
 | k + 1 => by
  have ih0 := glyphcutterref16_Apply.mono_l k
  ·intro y0 y1 y2
   unfold glyphcutterref16_Apply.l0
   repeat' first
   | (with_reducible exact ih0 _ _ _)
   | (with_reducible exact glyphcutterref04_Fold.mono _ _)
   | (with_reducible exact glyphcutterref16_Map.mono _ _ _)
   | (with_reducible exact LeO.refl _)
   | (with_reducible exact LeO.none _)
   | (with_reducible refine LeO.ite ?_ ?_)
   | (with_reducible refine LeO.bind ?_ (fun _ => ?_))
   | exact ih0 _ _ _
   | exact glyphcutterref04_Fold.mono _ _
   | exact glyphcutterref16_Map.mono _ _ _
   | exact LeO.none _
   | refine LeO.ite ?_ ?_
   | refine LeO.bind ?_ (fun _ => ?_)
theorem glyphcutterref16_Apply.mono : ∀ a0 a1 k,LeO (glyphcutterref16_Apply.f k a0 a1) (glyphcutterref16_Apply.f (k + 1) a0 a1) := by
 intro a0 a1 k
 have ih0 := glyphcutterref16_Apply.mono_l k
 unfold glyphcutterref16_Apply.f
 repeat' first
   | (with_reducible exact ih0 _ _ _)
   | (with_reducible exact glyphcutterref04_Fold.mono _ _)
   | (with_reducible exact glyphcutterref16_Map.mono _ _ _)
   | (with_reducible exact LeO.refl _)
   | (with_reducible exact LeO.none _)
   | (with_reducible refine LeO.ite ?_ ?_)
   | (with_reducible refine LeO.bind ?_ (fun _ => ?_))
   | exact ih0 _ _ _
   | exact glyphcutterref04_Fold.mono _ _
   | exact glyphcutterref16_Map.mono _ _ _
   | exact LeO.none _
   | refine LeO.ite ?_ ?_
   | refine LeO.bind ?_ (fun _ => ?_)
set_option maxHeartbeats 8000000 in
set_option maxRecDepth 100000 in
theorem glyphcutterref16_Apply.calls (k : Nat) (A0 : Option Addr) (c0 : Nat) (l0 : List (S33)) (a1 : Int) (r : Int) (w : World) (hr0 : Kd.C k33 w A0 l0.length l0) (hc0 : l0.length ≤ c0) (h : glyphcutterref16_Apply.f k l0 a1 = some r) :
  Calls Try.prog 25 #[.slice A0 l0.length c0,.int .i64 a1] w fun e w' => e = .returned (.int .i64 r) ∧ Drawn0 w w' := by
 have HR0 := Aside0.mk hr0
 have HC0 := Aside0.mk hc0
 clear hr0 hc0
 have H : (glyphcutterref16_Apply.l0 k l0 a1 0) = some r := h
 clear h
 have H' := Aside0.mk H
 clear H
 go_enter Try.func25,Try.ntmps25
 go_wp2
 go_loopg [1,5] k (fun kq v1 v5 w' => ∃ (x1_1 : Int) (x5_1 : Int),v1 = .int .i64 x1_1 ∧ v5 = .int .i64 x5_1 ∧ Aside0 (glyphcutterref16_Apply.l0 kq l0 x1_1 x5_1 = some r) ∧ Aside0 (kq ≤ k) ∧ Drawn0 w w')
 case atStart => exact ⟨(a1),(0),(by first | rfl | (simp;done) | (simp [*];done)),(by first | rfl | (simp;done) | (simp [*];done)),H',⟨Nat.le_refl _⟩,by repeat (first | exact Drawn0.refl _ | apply Drawn0.step)⟩
 case round =>
  clear H'
  try clear c2
  try clear p2
  obtain ⟨x1_1,x5_1,rfl,rfl,HA,HK1,⟨m1,rfl⟩⟩ := hrel
  cases gk with
  | zero => exact absurd HA.out (by simp [glyphcutterref16_Apply.l0])
  | succ k1 =>
   have H := HA.out
   clear HA
   simp only [glyphcutterref16_Apply.l0] at H
   by_cases c3 : x5_1 < (l0.length : Int)
   ·rw [if_pos c3] at H
    have c3b0 : decide (x5_1 < (l0.length : Int)) = true := decide_eq_true c3
    clear c3
    by_cases c4 : 0 ≤ x5_1
    ·rw [if_pos c4] at H
     have c4b0 : decide (0 ≤ x5_1) = true := decide_eq_true c4
     clear c4
     by_cases c5 : ((rd_T33 l0 x5_1).f0) = 1
     ·rw [if_pos c5] at H
      have c5b0 : (((rd_T33 l0 x5_1).f0) == 1) = true := beq_iff_eq.mpr c5
      have c5b1 : (((rd_T33 l0 x5_1).f0) != 1) = false := bne_eq_false_iff_eq.mpr c5
      clear c5
      replace H := Option.bind_eq_some_iff.mp H
      obtain ⟨t292,A60,H⟩ := H
      skip
      have A6 := Aside0.mk A60
      clear A60
      have H' := Aside0.mk H
      clear H
      have p291 : 0 ≤ (x5_1 : Int) := of_decide_eq_true (by first | (with_reducible assumption) | assumption)
      have q291 : x5_1 < (l0.length : Int) := of_decide_eq_true (by first | (with_reducible assumption) | assumption)
      obtain ⟨ad291,A291_1,c291_1,e291,hx291_0,hx291_1,hl291_1,hi291_1⟩ := at_T33 HR0.out x5_1 p291 q291
      cases e291
      have HR291_1 := Aside0.mk hi291_1
      have HC291_1 := Aside0.mk hl291_1
      clear hi291_1 hl291_1
      replace p291 := eq_true p291
      replace q291 := eq_true q291
      go_wp2_with (first | ((with_reducible refine gate_callee (f := 44) rfl ?_);refine goesL_ (some 20) rfl rfl Try.func44 (by kernel_rfl) rfl #[.int .i64 x1_1] rfl (by (try simp only [List.map_toArray,List.map_cons,List.map_nil]);first | done | rfl | (simp only [List.length_drop,List.length_take];rfl)) ?_;(with_reducible refine (glyphcutterref04_Fold.calls k1 x1_1 t292 _ A6.out).mono ?_);rintro e w' ⟨rfl,⟨nd,rfl⟩⟩;refine ⟨_,rfl,?_⟩))
      go_roundg k1
      case measure => have := HK1.out;omega
      case rel => exact ⟨(t292),(wrap64 (x5_1 + 1)),(by first | rfl | (simp;done) | (simp [*];done)),(by first | rfl | (simp;done) | (simp [*];done)),H',⟨by have := HK1.out;omega⟩,by repeat (first | exact Drawn0.refl _ | apply Drawn0.step)⟩
     ·rw [if_neg c5] at H
      have c5b0 : (((rd_T33 l0 x5_1).f0) == 1) = false := beq_eq_false_iff_ne.mpr c5
      have c5b1 : (((rd_T33 l0 x5_1).f0) != 1) = true := bne_iff_ne.mpr c5
      by_cases c7 : ((rd_T33 l0 x5_1).f0) = 2
      ·rw [if_pos c7] at H
       have c7b0 : (((rd_T33 l0 x5_1).f0) == 2) = true := beq_iff_eq.mpr c7
       have c7b1 : (((rd_T33 l0 x5_1).f0) != 2) = false := bne_eq_false_iff_eq.mpr c7
       clear c7
       by_cases c8 : x1_1 = 13
       ·rw [if_pos c8] at H
        have c8b0 : (x1_1 == 13) = true := beq_iff_eq.mpr c8
        have c8b1 : (x1_1 != 13) = false := bne_eq_false_iff_eq.mpr c8
        clear c8
        have H' := Aside0.mk H
        clear H
        have p291 : 0 ≤ (x5_1 : Int) := of_decide_eq_true (by first | (with_reducible assumption) | assumption)
        have q291 : x5_1 < (l0.length : Int) := of_decide_eq_true (by first | (with_reducible assumption) | assumption)
        obtain ⟨ad291,A291_1,c291_1,e291,hx291_0,hx291_1,hl291_1,hi291_1⟩ := at_T33 HR0.out x5_1 p291 q291
        cases e291
        have HR291_1 := Aside0.mk hi291_1
        have HC291_1 := Aside0.mk hl291_1
        clear hi291_1 hl291_1
        replace p291 := eq_true p291
        replace q291 := eq_true q291
        go_wp2
        go_roundg k1
        case measure => have := HK1.out;omega
        case rel => exact ⟨(10),(wrap64 (x5_1 + 1)),(by first | rfl | (simp;done) | (simp [*];done)),(by first | rfl | (simp;done) | (simp [*];done)),H',⟨by have := HK1.out;omega⟩,by repeat (first | exact Drawn0.refl _ | apply Drawn0.step)⟩
       ·rw [if_neg c8] at H
        have c8b0 : (x1_1 == 13) = false := beq_eq_false_iff_ne.mpr c8
        have c8b1 : (x1_1 != 13) = true := bne_iff_ne.mpr c8
        have H' := Aside0.mk H
        clear H
        have p291 : 0 ≤ (x5_1 : Int) := of_decide_eq_true (by first | (with_reducible assumption) | assumption)
        have q291 : x5_1 < (l0.length : Int) := of_decide_eq_true (by first | (with_reducible assumption) | assumption)
        obtain ⟨ad291,A291_1,c291_1,e291,hx291_0,hx291_1,hl291_1,hi291_1⟩ := at_T33 HR0.out x5_1 p291 q291
        cases e291
        have HR291_1 := Aside0.mk hi291_1
        have HC291_1 := Aside0.mk hl291_1
        clear hi291_1 hl291_1
        replace p291 := eq_true p291
        replace q291 := eq_true q291
        go_wp2
        go_roundg k1
        case measure => have := HK1.out;omega
        case rel => exact ⟨(x1_1),(wrap64 (x5_1 + 1)),(by first | rfl | (simp;done) | (simp [*];done)),(by first | rfl | (simp;done) | (simp [*];done)),H',⟨by have := HK1.out;omega⟩,by repeat (first | exact Drawn0.refl _ | apply Drawn0.step)⟩
      ·rw [if_neg c7] at H
       have c7b0 : (((rd_T33 l0 x5_1).f0) == 2) = false := beq_eq_false_iff_ne.mpr c7
       have c7b1 : (((rd_T33 l0 x5_1).f0) != 2) = true := bne_iff_ne.mpr c7
       by_cases c9 : ((rd_T33 l0 x5_1).f0) = 3
       ·rw [if_pos c9] at H
        have c9b0 : (((rd_T33 l0 x5_1).f0) == 3) = true := beq_iff_eq.mpr c9
        have c9b1 : (((rd_T33 l0 x5_1).f0) != 3) = false := bne_eq_false_iff_eq.mpr c9
        clear c9
        replace H := Option.bind_eq_some_iff.mp H
        obtain ⟨t294,A100,H⟩ := H
        skip
        have A10 := Aside0.mk A100
        clear A100
        have H' := Aside0.mk H
        clear H
        have p291 : 0 ≤ (x5_1 : Int) := of_decide_eq_true (by first | (with_reducible assumption) | assumption)
        have q291 : x5_1 < (l0.length : Int) := of_decide_eq_true (by first | (with_reducible assumption) | assumption)
        obtain ⟨ad291,A291_1,c291_1,e291,hx291_0,hx291_1,hl291_1,hi291_1⟩ := at_T33 HR0.out x5_1 p291 q291
        cases e291
        have HR291_1 := Aside0.mk hi291_1
        have HC291_1 := Aside0.mk hl291_1
        clear hi291_1 hl291_1
        replace p291 := eq_true p291
        replace q291 := eq_true q291
        have p293 : 0 ≤ (x5_1 : Int) := of_decide_eq_true (by first | (with_reducible assumption) | assumption)
        have q293 : x5_1 < (l0.length : Int) := of_decide_eq_true (by first | (with_reducible assumption) | assumption)
        obtain ⟨ad293,A293_1,c293_1,e293,hx293_0,hx293_1,hl293_1,hi293_1⟩ := at_T33 HR0.out x5_1 p293 q293
        obtain rfl : ad291 = ad293 := (by injection e293)
        have HR293_1 := Aside0.mk hi293_1
        have HC293_1 := Aside0.mk hl293_1
        clear hi293_1 hl293_1
        replace p293 := eq_true p293
        replace q293 := eq_true q293
        have ea_ := Option.some.inj (hx291_1.symm.trans hx293_1)
        injection ea_ with ea_ en_ ec_
        subst ea_
        subst ec_
        clear en_
        go_wp2_with (first | ((with_reducible refine gate_callee (f := 19) rfl ?_);refine goesL_ (some 33) rfl rfl Try.func19 (by kernel_rfl) rfl #[.slice A291_1 ((rd_T33 l0 x5_1).f1).length c291_1,.int .i64 x1_1] rfl (by (try simp only [List.map_toArray,List.map_cons,List.map_nil]);first | done | rfl | (simp only [List.length_drop,List.length_take];rfl)) ?_;(with_reducible refine (glyphcutterref16_Map.calls k1 _ _ ((rd_T33 l0 x5_1).f1) x1_1 t294 _ ?side1 ?side2 A10.out).mono ?_);(case side1 => repeat (first | exact HR293_1.out | (with_reducible refine Kd.C_alloc ?_ _) | (with_reducible refine Kd.C_drewN ?_ _) | (with_reducible refine Kd.C_drew ?_)));(case side2 => exact HC293_1.out);rintro e w' ⟨rfl,⟨nd,rfl⟩⟩;refine ⟨_,rfl,?_⟩))
        go_roundg k1
        case measure => have := HK1.out;omega
        case rel => exact ⟨(t294),(wrap64 (x5_1 + 1)),(by first | rfl | (simp;done) | (simp [*];done)),(by first | rfl | (simp;done) | (simp [*];done)),H',⟨by have := HK1.out;omega⟩,by repeat (first | exact Drawn0.refl _ | apply Drawn0.step)⟩
       ·rw [if_neg c9] at H
        have c9b0 : (((rd_T33 l0 x5_1).f0) == 3) = false := beq_eq_false_iff_ne.mpr c9
        have c9b1 : (((rd_T33 l0 x5_1).f0) != 3) = true := bne_iff_ne.mpr c9
        have H' := Aside0.mk H
        clear H
        have p291 : 0 ≤ (x5_1 : Int) := of_decide_eq_true (by first | (with_reducible assumption) | assumption)
        have q291 : x5_1 < (l0.length : Int) := of_decide_eq_true (by first | (with_reducible assumption) | assumption)
        obtain ⟨ad291,A291_1,c291_1,e291,hx291_0,hx291_1,hl291_1,hi291_1⟩ := at_T33 HR0.out x5_1 p291 q291
        cases e291
        have HR291_1 := Aside0.mk hi291_1
        have HC291_1 := Aside0.mk hl291_1
        clear hi291_1 hl291_1
        replace p291 := eq_true p291
        replace q291 := eq_true q291
        go_wp2
        go_roundg k1
        case measure => have := HK1.out;omega
        case rel => exact ⟨(x1_1),(wrap64 (x5_1 + 1)),(by first | rfl | (simp;done) | (simp [*];done)),(by first | rfl | (simp;done) | (simp [*];done)),H',⟨by have := HK1.out;omega⟩,by repeat (first | exact Drawn0.refl _ | apply Drawn0.step)⟩
    ·rw [if_neg c4] at H
     exact absurd H (by simp)
   ·rw [if_neg c3] at H
    have c3b0 : decide (x5_1 < (l0.length : Int)) = false := decide_eq_false c3
    clear c3
    obtain rfl := Option.some.inj H
    go_wp2
    go_ret
    exact ⟨by first | rfl | (simp;done) | (simp [*];done),by repeat (first | exact Drawn0.refl _ | apply Drawn0.step)⟩

/-! ### glyphcutterref02_long: function 61 -/
mutual
def glyphcutterref02_long.j0 : Nat → Int → Bool → Option (Int)
 | 0,_,_ => none
 | k + 1,x0,x6 => if x6 = true then (some 2) else (if x0 ≥ 224 then (glyphcutterref02_long.j1 k x0 (decide (x0 ≤ 239))) else (glyphcutterref02_long.j1 k x0 false))
def glyphcutterref02_long.j1 : Nat → Int → Bool → Option (Int)
 | 0,_,_ => none
 | k + 1,x0,x13 => if x13 = true then (some 3) else (if x0 ≥ 240 then (if x0 ≤ 244 then (some 4) else (some 0)) else (some 0))
end
def glyphcutterref02_long.f (k : Nat) (a0 : Int) : Option (Int) := if a0 < 128 then (some 1) else (if a0 ≥ 194 then (glyphcutterref02_long.j0 k a0 (decide (a0 ≤ 223))) else (glyphcutterref02_long.j0 k a0 false))
theorem glyphcutterref02_long.mono_l : ∀ k,(∀ y0 y1,LeO (glyphcutterref02_long.j0 k y0 y1) (glyphcutterref02_long.j0 (k + 1) y0 y1)) ∧ (∀ y0 y1,LeO (glyphcutterref02_long.j1 k y0 y1) (glyphcutterref02_long.j1 (k + 1) y0 y1))
 | 0 => ⟨fun _ _ r h => by simp [glyphcutterref02_long.j0] at h,fun _ _ r h => by simp [glyphcutterref02_long.j1] at h⟩
 | k + 1 => by
  obtain ⟨ih0,ih1⟩ := glyphcutterref02_long.mono_l k
  refine ⟨?_,?_⟩
  ·intro y0 y1
   unfold glyphcutterref02_long.j0
   repeat' first
   | (with_reducible exact ih0 _ _)
   | (with_reducible exact ih1 _ _)
   | (with_reducible exact LeO.refl _)
   | (with_reducible exact LeO.none _)
   | (with_reducible refine LeO.ite ?_ ?_)
   | (with_reducible refine LeO.bind ?_ (fun _ => ?_))
   | exact ih0 _ _
   | exact ih1 _ _
   | exact LeO.none _
   | refine LeO.ite ?_ ?_
   | refine LeO.bind ?_ (fun _ => ?_)
  ·intro y0 y1
   unfold glyphcutterref02_long.j1
   repeat' first
   | (with_reducible exact ih0 _ _)
   | (with_reducible exact ih1 _ _)
   | (with_reducible exact LeO.refl _)
   | (with_reducible exact LeO.none _)
   | (with_reducible refine LeO.ite ?_ ?_)
   | (with_reducible refine LeO.bind ?_ (fun _ => ?_))
   | exact ih0 _ _
   | exact ih1 _ _
   | exact LeO.none _
   | refine LeO.ite ?_ ?_
   | refine LeO.bind ?_ (fun _ => ?_)
theorem glyphcutterref02_long.mono : ∀ a0 k,LeO (glyphcutterref02_long.f k a0) (glyphcutterref02_long.f (k + 1) a0) := by
 intro a0 k
 obtain ⟨ih0,ih1⟩ := glyphcutterref02_long.mono_l k
 unfold glyphcutterref02_long.f
 repeat' first
   | (with_reducible exact ih0 _ _)
   | (with_reducible exact ih1 _ _)
   | (with_reducible exact LeO.refl _)
   | (with_reducible exact LeO.none _)
   | (with_reducible refine LeO.ite ?_ ?_)
   | (with_reducible refine LeO.bind ?_ (fun _ => ?_))
   | exact ih0 _ _
   | exact ih1 _ _
   | exact LeO.none _
   | refine LeO.ite ?_ ?_
   | refine LeO.bind ?_ (fun _ => ?_)
set_option maxHeartbeats 8000000 in
set_option maxRecDepth 100000 in
theorem glyphcutterref02_long.calls (k : Nat) (a0 : Int) (r : Int) (w : World) (h : glyphcutterref02_long.f k a0 = some r) :
  Calls Try.prog 61 #[.int .u8 a0] w fun e w' => e = .returned (.int .i64 r) ∧ Drawn0 w w' := by
 have H : (if a0 < 128 then (some 1) else (if a0 ≥ 194 then (glyphcutterref02_long.j0 k a0 (decide (a0 ≤ 223))) else (glyphcutterref02_long.j0 k a0 false))) = some r := h
 clear h
 by_cases c2 : a0 < 128
 ·rw [if_pos c2] at H
  have c2b0 : decide (a0 < 128) = true := decide_eq_true c2
  clear c2
  obtain rfl := Option.some.inj H
  go_enter Try.func61,Try.ntmps61
  go_wp2
  go_ret
  exact ⟨by first | rfl | (simp;done) | (simp [*];done),by repeat (first | exact Drawn0.refl _ | apply Drawn0.step)⟩
 ·rw [if_neg c2] at H
  have c2b0 : decide (a0 < 128) = false := decide_eq_false c2
  clear c2
  have HC3 := Aside0.mk H
  clear H
  go_enter Try.func61,Try.ntmps61
  go_upto_region 3 with (fail)
  go_cut [6] (fun v6 wc => ∃ (kq : Nat) (x6_2 : Bool),v6 = .bool x6_2 ∧ Aside0 (glyphcutterref02_long.j0 kq a0 x6_2 = some r) ∧ Aside0 (kq ≤ k) ∧ Drawn0 w wc)
  case first =>
   have H := HC3.out
   clear HC3
   by_cases c4 : a0 ≥ 194
   ·rw [if_pos c4] at H
    have c4b0 : decide (194 ≤ a0) = true := decide_eq_true c4
    clear c4
    (first | rw [c4b0] | (simp only [i64_w,i32_w];rw [c4b0]) | skip)
    have H' := Aside0.mk H
    clear H
    go_wp2
    go_meet
    case rel => exact ⟨_,(decide (a0 ≤ 223)),(by first | rfl | (simp;done) | (simp [*];done)),H',⟨by first | omega | exact Nat.le_refl _⟩,by repeat (first | exact Drawn0.refl _ | apply Drawn0.step)⟩
   ·rw [if_neg c4] at H
    have c4b0 : decide (194 ≤ a0) = false := decide_eq_false c4
    clear c4
    (first | rw [c4b0] | (simp only [i64_w,i32_w];rw [c4b0]) | skip)
    have H' := Aside0.mk H
    clear H
    go_wp2
    go_meet
    case rel => exact ⟨_,(false),(by first | rfl | (simp;done) | (simp [*];done)),H',⟨by first | omega | exact Nat.le_refl _⟩,by repeat (first | exact Drawn0.refl _ | apply Drawn0.step)⟩
  case rest =>
   clear HC3
   try clear c2
   try clear c2b0
   try clear p2
   try clear c4
   try clear c4b0
   obtain ⟨kq,x6_2,rfl,HA,HJ2,⟨mc2,rfl⟩⟩ := hcut
   cases kq with
   | zero => exact absurd HA.out (by simp [glyphcutterref02_long.j0])
   | succ kj2 =>
    have H := HA.out
    clear HA
    simp only [glyphcutterref02_long.j0] at H
    by_cases c5 : x6_2 = true
    ·subst c5
     rw [if_pos rfl] at H
     obtain rfl := Option.some.inj H
     go_wp2
     go_ret
     exact ⟨by first | rfl | (simp;done) | (simp [*];done),by repeat (first | exact Drawn0.refl _ | apply Drawn0.step)⟩
    ·replace c5 := Bool.eq_false_iff.mpr c5
     subst c5
     rw [if_neg (show ¬ (false = true) by decide)] at H
     have HC6 := Aside0.mk H
     clear H
     go_upto_region 5 with (fail)
     go_cut [13] (fun v13 wc => ∃ (kq : Nat) (x13_5 : Bool),v13 = .bool x13_5 ∧ Aside0 (glyphcutterref02_long.j1 kq a0 x13_5 = some r) ∧ Aside0 (kq ≤ kj2) ∧ Drawn0 w wc)
     case first =>
      have H := HC6.out
      clear HC6
      by_cases c7 : a0 ≥ 224
      ·rw [if_pos c7] at H
       have c7b0 : decide (224 ≤ a0) = true := decide_eq_true c7
       clear c7
       (first | rw [c7b0] | (simp only [i64_w,i32_w];rw [c7b0]) | skip)
       have H' := Aside0.mk H
       clear H
       go_wp2
       go_meet
       case rel => exact ⟨_,(decide (a0 ≤ 239)),(by first | rfl | (simp;done) | (simp [*];done)),H',⟨by have := HJ2.out;first | omega | exact Nat.le_refl _⟩,by repeat (first | exact Drawn0.refl _ | apply Drawn0.step)⟩
      ·rw [if_neg c7] at H
       have c7b0 : decide (224 ≤ a0) = false := decide_eq_false c7
       clear c7
       (first | rw [c7b0] | (simp only [i64_w,i32_w];rw [c7b0]) | skip)
       have H' := Aside0.mk H
       clear H
       go_wp2
       go_meet
       case rel => exact ⟨_,(false),(by first | rfl | (simp;done) | (simp [*];done)),H',⟨by have := HJ2.out;first | omega | exact Nat.le_refl _⟩,by repeat (first | exact Drawn0.refl _ | apply Drawn0.step)⟩
     case rest =>
      clear HC6
      try clear c2
      try clear c2b0
      try clear p2
      try clear c4
      try clear c4b0
      try clear c5
      try clear c6
      try clear c7
      try clear c7b0
      try clear p2
      obtain ⟨kq,x13_5,rfl,HA,HJ5,⟨mc5,rfl⟩⟩ := hcut
      cases kq with
      | zero => exact absurd HA.out (by simp [glyphcutterref02_long.j1])
      | succ kj5 =>
       have H := HA.out
       clear HA
       simp only [glyphcutterref02_long.j1] at H
       by_cases c8 : x13_5 = true
       ·subst c8
        rw [if_pos rfl] at H
        obtain rfl := Option.some.inj H
        go_wp2
        go_ret
        exact ⟨by first | rfl | (simp;done) | (simp [*];done),by repeat (first | exact Drawn0.refl _ | apply Drawn0.step)⟩
       ·replace c8 := Bool.eq_false_iff.mpr c8
        subst c8
        rw [if_neg (show ¬ (false = true) by decide)] at H
        by_cases c9 : a0 ≥ 240
        ·rw [if_pos c9] at H
         have c9b0 : decide (240 ≤ a0) = true := decide_eq_true c9
         clear c9
         by_cases c10 : a0 ≤ 244
         ·rw [if_pos c10] at H
          have c10b0 : decide (a0 ≤ 244) = true := decide_eq_true c10
          clear c10
          obtain rfl := Option.some.inj H
          go_wp2
          go_ret
          exact ⟨by first | rfl | (simp;done) | (simp [*];done),by repeat (first | exact Drawn0.refl _ | apply Drawn0.step)⟩
         ·rw [if_neg c10] at H
          have c10b0 : decide (a0 ≤ 244) = false := decide_eq_false c10
          clear c10
          obtain rfl := Option.some.inj H
          go_wp2
          go_ret
          exact ⟨by first | rfl | (simp;done) | (simp [*];done),by repeat (first | exact Drawn0.refl _ | apply Drawn0.step)⟩
        ·rw [if_neg c9] at H
         have c9b0 : decide (240 ≤ a0) = false := decide_eq_false c9
         clear c9
         obtain rfl := Option.some.inj H
         go_wp2
         go_ret
         exact ⟨by first | rfl | (simp;done) | (simp [*];done),by repeat (first | exact Drawn0.refl _ | apply Drawn0.step)⟩

/-! ### glyphcutterref02_second: function 62 -/
def glyphcutterref02_second.f (a0 : Int) (a1 : Int) : Option (Bool) := if a0 = 224 then (if a1 ≥ 160 then (some (decide (a1 ≤ 191))) else (some false)) else (if a0 = 237 then (if a1 ≥ 128 then (some (decide (a1 ≤ 159))) else (some false)) else (if a0 = 240 then (if a1 ≥ 144 then (some (decide (a1 ≤ 191))) else (some false)) else (if a0 = 244 then (if a1 ≥ 128 then (some (decide (a1 ≤ 143))) else (some false)) else (if a1 ≥ 128 then (some (decide (a1 ≤ 191))) else (some false)))))
set_option maxHeartbeats 8000000 in
set_option maxRecDepth 100000 in
theorem glyphcutterref02_second.calls (a0 : Int) (a1 : Int) (r : Bool) (w : World) (h : glyphcutterref02_second.f a0 a1 = some r) :
  Calls Try.prog 62 #[.int .u8 a0,.int .u8 a1] w fun e w' => e = .returned (.bool r) ∧ Drawn0 w w' := by
 have H : (if a0 = 224 then (if a1 ≥ 160 then (some (decide (a1 ≤ 191))) else (some false)) else (if a0 = 237 then (if a1 ≥ 128 then (some (decide (a1 ≤ 159))) else (some false)) else (if a0 = 240 then (if a1 ≥ 144 then (some (decide (a1 ≤ 191))) else (some false)) else (if a0 = 244 then (if a1 ≥ 128 then (some (decide (a1 ≤ 143))) else (some false)) else (if a1 ≥ 128 then (some (decide (a1 ≤ 191))) else (some false)))))) = some r := h
 clear h
 by_cases c3 : a0 = 224
 ·rw [if_pos c3] at H
  have c3b0 : (a0 == 224) = true := beq_iff_eq.mpr c3
  have c3b1 : (a0 != 224) = false := bne_eq_false_iff_eq.mpr c3
  clear c3
  by_cases c4 : a1 ≥ 160
  ·rw [if_pos c4] at H
   have c4b0 : decide (160 ≤ a1) = true := decide_eq_true c4
   clear c4
   obtain rfl := Option.some.inj H
   go_enter Try.func62,Try.ntmps62
   go_wp2
   go_ret
   exact ⟨by first | rfl | (simp;done) | (simp [*];done),by repeat (first | exact Drawn0.refl _ | apply Drawn0.step)⟩
  ·rw [if_neg c4] at H
   have c4b0 : decide (160 ≤ a1) = false := decide_eq_false c4
   clear c4
   obtain rfl := Option.some.inj H
   go_enter Try.func62,Try.ntmps62
   go_wp2
   go_ret
   exact ⟨by first | rfl | (simp;done) | (simp [*];done),by repeat (first | exact Drawn0.refl _ | apply Drawn0.step)⟩
 ·rw [if_neg c3] at H
  have c3b0 : (a0 == 224) = false := beq_eq_false_iff_ne.mpr c3
  have c3b1 : (a0 != 224) = true := bne_iff_ne.mpr c3
  by_cases c5 : a0 = 237
  ·rw [if_pos c5] at H
   have c5b0 : (a0 == 237) = true := beq_iff_eq.mpr c5
   have c5b1 : (a0 != 237) = false := bne_eq_false_iff_eq.mpr c5
   clear c5
   by_cases c6 : a1 ≥ 128
   ·rw [if_pos c6] at H
    have c6b0 : decide (128 ≤ a1) = true := decide_eq_true c6
    clear c6
    obtain rfl := Option.some.inj H
    go_enter Try.func62,Try.ntmps62
    go_wp2
    go_ret
    exact ⟨by first | rfl | (simp;done) | (simp [*];done),by repeat (first | exact Drawn0.refl _ | apply Drawn0.step)⟩
   ·rw [if_neg c6] at H
    have c6b0 : decide (128 ≤ a1) = false := decide_eq_false c6
    clear c6
    obtain rfl := Option.some.inj H
    go_enter Try.func62,Try.ntmps62
    go_wp2
    go_ret
    exact ⟨by first | rfl | (simp;done) | (simp [*];done),by repeat (first | exact Drawn0.refl _ | apply Drawn0.step)⟩
  ·rw [if_neg c5] at H
   have c5b0 : (a0 == 237) = false := beq_eq_false_iff_ne.mpr c5
   have c5b1 : (a0 != 237) = true := bne_iff_ne.mpr c5
   by_cases c7 : a0 = 240
   ·rw [if_pos c7] at H
    have c7b0 : (a0 == 240) = true := beq_iff_eq.mpr c7
    have c7b1 : (a0 != 240) = false := bne_eq_false_iff_eq.mpr c7
    clear c7
    by_cases c8 : a1 ≥ 144
    ·rw [if_pos c8] at H
     have c8b0 : decide (144 ≤ a1) = true := decide_eq_true c8
     clear c8
     obtain rfl := Option.some.inj H
     go_enter Try.func62,Try.ntmps62
     go_wp2
     go_ret
     exact ⟨by first | rfl | (simp;done) | (simp [*];done),by repeat (first | exact Drawn0.refl _ | apply Drawn0.step)⟩
    ·rw [if_neg c8] at H
     have c8b0 : decide (144 ≤ a1) = false := decide_eq_false c8
     clear c8
     obtain rfl := Option.some.inj H
     go_enter Try.func62,Try.ntmps62
     go_wp2
     go_ret
     exact ⟨by first | rfl | (simp;done) | (simp [*];done),by repeat (first | exact Drawn0.refl _ | apply Drawn0.step)⟩
   ·rw [if_neg c7] at H
    have c7b0 : (a0 == 240) = false := beq_eq_false_iff_ne.mpr c7
    have c7b1 : (a0 != 240) = true := bne_iff_ne.mpr c7
    by_cases c9 : a0 = 244
    ·rw [if_pos c9] at H
     have c9b0 : (a0 == 244) = true := beq_iff_eq.mpr c9
     have c9b1 : (a0 != 244) = false := bne_eq_false_iff_eq.mpr c9
     clear c9
     by_cases c10 : a1 ≥ 128
     ·rw [if_pos c10] at H
      have c10b0 : decide (128 ≤ a1) = true := decide_eq_true c10
      clear c10
      obtain rfl := Option.some.inj H
      go_enter Try.func62,Try.ntmps62
      go_wp2
      go_ret
      exact ⟨by first | rfl | (simp;done) | (simp [*];done),by repeat (first | exact Drawn0.refl _ | apply Drawn0.step)⟩
     ·rw [if_neg c10] at H
      have c10b0 : decide (128 ≤ a1) = false := decide_eq_false c10
      clear c10
      obtain rfl := Option.some.inj H
      go_enter Try.func62,Try.ntmps62
      go_wp2
      go_ret
      exact ⟨by first | rfl | (simp;done) | (simp [*];done),by repeat (first | exact Drawn0.refl _ | apply Drawn0.step)⟩
    ·rw [if_neg c9] at H
     have c9b0 : (a0 == 244) = false := beq_eq_false_iff_ne.mpr c9
     have c9b1 : (a0 != 244) = true := bne_iff_ne.mpr c9
     by_cases c11 : a1 ≥ 128
     ·rw [if_pos c11] at H
      have c11b0 : decide (128 ≤ a1) = true := decide_eq_true c11
      clear c11
      obtain rfl := Option.some.inj H
      go_enter Try.func62,Try.ntmps62
      go_wp2
      go_ret
      exact ⟨by first | rfl | (simp;done) | (simp [*];done),by repeat (first | exact Drawn0.refl _ | apply Drawn0.step)⟩
     ·rw [if_neg c11] at H
      have c11b0 : decide (128 ≤ a1) = false := decide_eq_false c11
      clear c11
      obtain rfl := Option.some.inj H
      go_enter Try.func62,Try.ntmps62
      go_wp2
      go_ret
      exact ⟨by first | rfl | (simp;done) | (simp [*];done),by repeat (first | exact Drawn0.refl _ | apply Drawn0.step)⟩

end Go.Proofs.Ytfaahcgoinkmlaa.P
