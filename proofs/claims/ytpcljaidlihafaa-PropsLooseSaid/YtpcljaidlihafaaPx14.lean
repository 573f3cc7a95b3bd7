-- WRITTEN BY A PROGRAM (hybrid.py over the kit's print.py): Lean checks it.
import Derived.Test.YtpcljaidlihafaaPx0
import Derived.Test.YtpcljaidlihafaaPx2
import Derived.Test.YtpcljaidlihafaaPx5
import Derived.Test.YtpcljaidlihafaaPx9
import Derived.Test.YtpcljaidlihafaaGPropsOf
namespace Go.Proofs.Ytpcljaidlihafaa.P
open List (setIfInBounds_toArray set_cons_zero set_cons_succ)
open Go.RowKit Go.Proofs.YtpcljaidlihafaaW.PrintWords Go.Proofs.YtpcljaidlihafaaW.PrintLast Go.Proofs.YtpcljaidlihafaaW.PrintMore
attribute [local go_sem] max2_int min2_int max_two min_two max_three min_three max_four min_four   -- for this text's walks alone
set_option linter.unusedVariables false
set_option linter.unusedSimpArgs false

/-! ### glyphcutterlaw05_PropsLoose: function 7 -/
mutual
def glyphcutterlaw05_PropsLoose.j0 : Nat → List Int → ByteArray → ByteArray → Option (Bool)
 | 0,_,_,_ => none
 | k + 1,x1,x8,x9 => glyphcutterlaw05_PropsLoose.l0 k x1 x8 x9 0
def glyphcutterlaw05_PropsLoose.l0 : Nat → List Int → ByteArray → ByteArray → Int → Option (Bool)
 | 0,_,_,_,_ => none
 | k + 1,x1,x8,x9,x10 => if x10 < (x8.size : Int) then (if 0 ≤ x10 then (if (x1.length : Int) > 0 then (if (x1.length : Int) = 0 then (none) else (if 0 ≤ (Int.tmod x10 (x1.length : Int)) then (if (Int.tmod x10 (x1.length : Int)) < (x1.length : Int) then (if (Int.tmod (rd x1 (Int.tmod x10 (x1.length : Int))) 2) = 1 then ((some (([(⟨#[]⟩ : ByteArray),(⟨#[45]⟩ : ByteArray),(⟨#[95]⟩ : ByteArray),(⟨#[32]⟩ : ByteArray)] : List ByteArray) : List ByteArray)).bind fun y444 => (if 0 ≤ (((Int.tdiv (rd x1 (Int.tmod x10 (x1.length : Int))) 2) % 256) % 4) then (if (((Int.tdiv (rd x1 (Int.tmod x10 (x1.length : Int))) 2) % 256) % 4) < (y444.length : Int) then (if x9.size + (rdOf ByteArray.empty y444 (((Int.tdiv (rd x1 (Int.tmod x10 (x1.length : Int))) 2) % 256) % 4)).size ≤ 9223372036854775807 then ((some (([((bt x8 x10) - 32) % 256] : List Int) : List Int)).bind fun y448 => (if (x9 ++ (rdOf ByteArray.empty y444 (((Int.tdiv (rd x1 (Int.tmod x10 (x1.length : Int))) 2) % 256) % 4))).size + (strOfNums y448).size ≤ 9223372036854775807 then (glyphcutterlaw05_PropsLoose.l0 k x1 x8 ((x9 ++ (rdOf ByteArray.empty y444 (((Int.tdiv (rd x1 (Int.tmod x10 (x1.length : Int))) 2) % 256) % 4))) ++ (strOfNums y448)) (wrap64 (x10 + 1))) else (none))) else (none)) else (none)) else (none))) else ((some (([(⟨#[]⟩ : ByteArray),(⟨#[45]⟩ : ByteArray),(⟨#[95]⟩ : ByteArray),(⟨#[32]⟩ : ByteArray)] : List ByteArray) : List ByteArray)).bind fun y451 => (if 0 ≤ (((Int.tdiv (rd x1 (Int.tmod x10 (x1.length : Int))) 2) % 256) % 4) then (if (((Int.tdiv (rd x1 (Int.tmod x10 (x1.length : Int))) 2) % 256) % 4) < (y451.length : Int) then (if x9.size + (rdOf ByteArray.empty y451 (((Int.tdiv (rd x1 (Int.tmod x10 (x1.length : Int))) 2) % 256) % 4)).size ≤ 9223372036854775807 then ((some (([bt x8 x10] : List Int) : List Int)).bind fun y455 => (if (x9 ++ (rdOf ByteArray.empty y451 (((Int.tdiv (rd x1 (Int.tmod x10 (x1.length : Int))) 2) % 256) % 4))).size + (strOfNums y455).size ≤ 9223372036854775807 then (glyphcutterlaw05_PropsLoose.l0 k x1 x8 ((x9 ++ (rdOf ByteArray.empty y451 (((Int.tdiv (rd x1 (Int.tmod x10 (x1.length : Int))) 2) % 256) % 4))) ++ (strOfNums y455)) (wrap64 (x10 + 1))) else (none))) else (none)) else (none)) else (none)))) else (none)) else (none))) else (if ((0 : Int) % 2) = 1 then ((some (([(⟨#[]⟩ : ByteArray),(⟨#[45]⟩ : ByteArray),(⟨#[95]⟩ : ByteArray),(⟨#[32]⟩ : ByteArray)] : List ByteArray) : List ByteArray)).bind fun y458 => (if 0 ≤ (((0 : Int) / 2) % 4) then (if (((0 : Int) / 2) % 4) < (y458.length : Int) then (if x9.size + (rdOf ByteArray.empty y458 (((0 : Int) / 2) % 4)).size ≤ 9223372036854775807 then ((some (([((bt x8 x10) - 32) % 256] : List Int) : List Int)).bind fun y462 => (if (x9 ++ (rdOf ByteArray.empty y458 (((0 : Int) / 2) % 4))).size + (strOfNums y462).size ≤ 9223372036854775807 then (glyphcutterlaw05_PropsLoose.l0 k x1 x8 ((x9 ++ (rdOf ByteArray.empty y458 (((0 : Int) / 2) % 4))) ++ (strOfNums y462)) (wrap64 (x10 + 1))) else (none))) else (none)) else (none)) else (none))) else ((some (([(⟨#[]⟩ : ByteArray),(⟨#[45]⟩ : ByteArray),(⟨#[95]⟩ : ByteArray),(⟨#[32]⟩ : ByteArray)] : List ByteArray) : List ByteArray)).bind fun y465 => (if 0 ≤ (((0 : Int) / 2) % 4) then (if (((0 : Int) / 2) % 4) < (y465.length : Int) then (if x9.size + (rdOf ByteArray.empty y465 (((0 : Int) / 2) % 4)).size ≤ 9223372036854775807 then ((some (([bt x8 x10] : List Int) : List Int)).bind fun y469 => (if (x9 ++ (rdOf ByteArray.empty y465 (((0 : Int) / 2) % 4))).size + (strOfNums y469).size ≤ 9223372036854775807 then (glyphcutterlaw05_PropsLoose.l0 k x1 x8 ((x9 ++ (rdOf ByteArray.empty y465 (((0 : Int) / 2) % 4))) ++ (strOfNums y469)) (wrap64 (x10 + 1))) else (none))) else (none)) else (none)) else (none))))) else (none)) else ((props_Of.f x9).bind fun bt472 => ((props_Of.f x8).bind fun bt476 => ((glyphcutterlaw05_known.f k).bind fun t480 => (if t480 = true then (if bt472.2 = true then (if bt476.2 = true then ((glyphcutterref01_Alike.f k bt472.1 bt476.1).bind fun t481 => (some t481)) else (some false)) else (some false)) else (some false)))))
end
def glyphcutterlaw05_PropsLoose.f (k : Nat) (a0 : Int) (l1 : List Int) (a2 : Bool) : Option (Bool) := (glyphcutterref05_Names.f).bind fun t439 => (if (t439.length : Int) = 0 then (none) else (if 0 ≤ (Int.tmod (wrap64 (a0)) (t439.length : Int)) then (if (Int.tmod (wrap64 (a0)) (t439.length : Int)) < (t439.length : Int) then (if a2 = true then (glyphcutterlaw05_PropsLoose.j0 k l1 (rdOf ByteArray.empty t439 (Int.tmod (wrap64 (a0)) (t439.length : Int))) (⟨#[105,83]⟩ : ByteArray)) else (glyphcutterlaw05_PropsLoose.j0 k l1 (rdOf ByteArray.empty t439 (Int.tmod (wrap64 (a0)) (t439.length : Int))) (⟨#[]⟩ : ByteArray))) else (none)) else (none)))
theorem glyphcutterlaw05_PropsLoose.mono_l : ∀ k,(∀ y0 y1 y2,LeO (glyphcutterlaw05_PropsLoose.j0 k y0 y1 y2) (glyphcutterlaw05_PropsLoose.j0 (k + 1) y0 y1 y2)) ∧ (∀ y0 y1 y2 y3,LeO (glyphcutterlaw05_PropsLoose.l0 k y0 y1 y2 y3) (glyphcutterlaw05_PropsLoose.l0 (k + 1) y0 y1 y2 y3))
 | 0 => ⟨fun _ _ _ r h => by simp [glyphcutterlaw05_PropsLoose.j0] at h,fun _ _ _ _ r h => by simp [glyphcutterlaw05_PropsLoose.l0] at h⟩
 | k + 1 => by
  obtain ⟨ih0,ih1⟩ := glyphcutterlaw05_PropsLoose.mono_l k
  refine ⟨?_,?_⟩
  ·intro y0 y1 y2
   unfold glyphcutterlaw05_PropsLoose.j0
   repeat' first
   | (with_reducible exact ih0 _ _ _)
   | (with_reducible exact ih1 _ _ _ _)
   | (with_reducible exact glyphcutterlaw05_known.mono _)
   | (with_reducible exact glyphcutterref01_Alike.mono _ _ _)
   | (with_reducible exact LeO.refl _)
   | (with_reducible exact LeO.none _)
   | (with_reducible refine LeO.ite ?_ ?_)
   | (with_reducible refine LeO.bind ?_ (fun _ => ?_))
   | exact ih0 _ _ _
   | exact ih1 _ _ _ _
   | exact glyphcutterlaw05_known.mono _
   | exact glyphcutterref01_Alike.mono _ _ _
   | exact LeO.none _
   | refine LeO.ite ?_ ?_
   | refine LeO.bind ?_ (fun _ => ?_)
  ·intro y0 y1 y2 y3
   unfold glyphcutterlaw05_PropsLoose.l0
   repeat' first
   | (with_reducible exact ih0 _ _ _)
   | (with_reducible exact ih1 _ _ _ _)
   | (with_reducible exact glyphcutterlaw05_known.mono _)
   | (with_reducible exact glyphcutterref01_Alike.mono _ _ _)
   | (with_reducible exact LeO.refl _)
   | (with_reducible exact LeO.none _)
   | (with_reducible refine LeO.ite ?_ ?_)
   | (with_reducible refine LeO.bind ?_ (fun _ => ?_))
   | exact ih0 _ _ _
   | exact ih1 _ _ _ _
   | exact glyphcutterlaw05_known.mono _
   | exact glyphcutterref01_Alike.mono _ _ _
   | exact LeO.none _
   | refine LeO.ite ?_ ?_
   | refine LeO.bind ?_ (fun _ => ?_)
theorem glyphcutterlaw05_PropsLoose.mono : ∀ a0 a1 a2 k,LeO (glyphcutterlaw05_PropsLoose.f k a0 a1 a2) (glyphcutterlaw05_PropsLoose.f (k + 1) a0 a1 a2) := by
 intro a0 a1 a2 k
 obtain ⟨ih0,ih1⟩ := glyphcutterlaw05_PropsLoose.mono_l k
 unfold glyphcutterlaw05_PropsLoose.f
 repeat' first
   | (with_reducible exact ih0 _ _ _)
   | (with_reducible exact ih1 _ _ _ _)
   | (with_reducible exact glyphcutterlaw05_known.mono _)
   | (with_reducible exact glyphcutterref01_Alike.mono _ _ _)
   | (with_reducible exact LeO.refl _)
   | (with_reducible exact LeO.none _)
   | (with_reducible refine LeO.ite ?_ ?_)
   | (with_reducible refine LeO.bind ?_ (fun _ => ?_))
   | exact ih0 _ _ _
   | exact ih1 _ _ _ _
   | exact glyphcutterlaw05_known.mono _
   | exact glyphcutterref01_Alike.mono _ _ _
   | exact LeO.none _
   | refine LeO.ite ?_ ?_
   | refine LeO.bind ?_ (fun _ => ?_)
def glyphcutterlaw05_PropsLoose.T15 : Bool × List (List Nat × List Nat) := (true,[([],[]),([],[]),([],[]),([2],[2]),([3],[3]),([1,4],[1,4]),([5],[5]),([0,6],[0,6]),([],[]),([8],[8]),([9],[9]),([7,10],[7,10]),([11,0,1,2,3,4,5,6,7,8,9,10,11],[0,11])])
def glyphcutterlaw05_PropsLoose.B15 : List Nat := [0,0,0,4,12,30,62,127,0,256,768,2047,4095]
theorem glyphcutterlaw05_PropsLoose.tab15 : rtab .any (opsOf Try.f7 15) = glyphcutterlaw05_PropsLoose.T15 := by kernel_rfl
theorem glyphcutterlaw05_PropsLoose.bits15 : waitsOk glyphcutterlaw05_PropsLoose.T15.2 glyphcutterlaw05_PropsLoose.B15 = true := by kernel_rfl
theorem u8tm (x : Int) : (IntKind.u8.wrap x).tmod 4 = x % 256 % 4 := by
 have h : IntKind.u8.wrap x = x % 256 := by simp [IntKind.wrap,IntKind.bits,IntKind.signed]
 rw [h,Int.tmod_eq_emod_of_nonneg (by omega)]
set_option maxHeartbeats 100000000 in
set_option maxRecDepth 100000 in
theorem glyphcutterlaw05_PropsLoose.calls (k : Nat) (a0 : Int) (A1 : Option Addr) (c1 : Nat) (l1 : List Int) (a2 : Bool) (r : Bool) (w : World) (hrt : r = true) (hr1 : Kd.C (Kd.int .u8) w A1 l1.length l1) (hc1 : l1.length ≤ c1) (h : glyphcutterlaw05_PropsLoose.f k a0 l1 a2 = some r) :
  Calls Try.prog 7 #[.int .u8 a0,.slice A1 l1.length c1,.bool a2] w fun e w' => e = .returned (.bool r) ∧ Below w.heap.size w w' := by
 have HRT := Aside0.mk hrt
 clear hrt
 have HR1 := Aside0.mk hr1
 have HC1 := Aside0.mk hc1
 clear hr1 hc1
 have HB := Aside0.mk (Below.refl w.heap.size w)
 have H : ((glyphcutterref05_Names.f).bind fun t439 => (if (t439.length : Int) = 0 then (none) else (if 0 ≤ (Int.tmod (wrap64 (a0)) (t439.length : Int)) then (if (Int.tmod (wrap64 (a0)) (t439.length : Int)) < (t439.length : Int) then (if a2 = true then (glyphcutterlaw05_PropsLoose.j0 k l1 (rdOf ByteArray.empty t439 (Int.tmod (wrap64 (a0)) (t439.length : Int))) (⟨#[105,83]⟩ : ByteArray)) else (glyphcutterlaw05_PropsLoose.j0 k l1 (rdOf ByteArray.empty t439 (Int.tmod (wrap64 (a0)) (t439.length : Int))) (⟨#[]⟩ : ByteArray))) else (none)) else (none)))) = some r := h
 clear h
 replace H := Option.bind_eq_some_iff.mp H
 obtain ⟨t439,A40,H⟩ := H
 skip
 have A4 := Aside0.mk A40
 clear A40
 by_cases c5 : (t439.length : Int) = 0
 ·rw [if_pos c5] at H
  exact absurd H (by simp)
 ·rw [if_neg c5] at H
  have c5b0 : ((t439.length : Int) == 0) = false := beq_eq_false_iff_ne.mpr c5
  have c5b1 : ((t439.length : Int) != 0) = true := bne_iff_ne.mpr c5
  have c5b2 : ¬ (t439 = []) := fun h_ => c5 (by rw [h_];rfl)
  obtain ⟨ji6,hji6⟩ : ∃ j_ : Int,(Int.tmod (wrap64 (a0)) (t439.length : Int)) = j_ := ⟨_,rfl⟩
  replace H : (if 0 ≤ (ji6) then (if (ji6) < (t439.length : Int) then (if a2 = true then (glyphcutterlaw05_PropsLoose.j0 k l1 (rdOf ByteArray.empty t439 (ji6)) (⟨#[105,83]⟩ : ByteArray)) else (glyphcutterlaw05_PropsLoose.j0 k l1 (rdOf ByteArray.empty t439 (ji6)) (⟨#[]⟩ : ByteArray))) else (none)) else (none)) = some r := by first | (rw [hji6] at H;exact H) | (simp only [hji6] at H ⊢;exact H)
  (try rw [hji6] at A4)
  by_cases c7 : 0 ≤ (ji6)
  ·rw [if_pos c7] at H
   have c7b0 : decide (0 ≤ (ji6)) = true := decide_eq_true c7
   clear c7
   by_cases c8 : (ji6) < (t439.length : Int)
   ·rw [if_pos c8] at H
    have c8b0 : decide ((ji6) < (t439.length : Int)) = true := decide_eq_true c8
    clear c8
    have HC9 := Aside0.mk H
    clear H
    go_enter Try.func7,Try.ntmps7
    go_upto_if 26 with (first | ((with_reducible refine gate_callee (f := 19) rfl ?_);refine goesL_ (some 17) rfl rfl Try.func19 (by kernel_rfl) rfl #[] rfl (by (try simp only [List.map_toArray,List.map_cons,List.map_nil]);first | done | rfl | (simp only [List.length_drop,List.length_take];rfl)) ?_;(with_reducible refine (glyphcutterref05_Names.calls  t439 _ A4.out).mono ?_);rintro e w10 ⟨v440,rfl,ho0,hb⟩;refine ⟨_,rfl,?_⟩;have n0_ := Aside0.mk (Kd.R_lower ho0 (below_size (by repeat (first | (with_reducible first | exact HB.out | apply below_alloc | apply pw_below_drewN | apply below_drew1) | exact HB.out))));have n1_ := Aside0.mk (below_step (by repeat (first | (with_reducible first | exact HB.out | apply below_alloc | apply pw_below_drewN | apply below_drew1) | exact HB.out)) hb);clear HB;have HO441 := n0_;have HB := n1_;clear n0_ n1_;(try clear hb);(try clear hb2);(try clear hk);(try clear hi);(try clear ho0);obtain ⟨Ao11,co11,eo11⟩ := Kd.R_slice HO441.out;subst eo11;have p442 : 0 ≤ ((ji6) : Int) := of_decide_eq_true (by first | (with_reducible assumption) | assumption);have q442 : (ji6) < (t439.length : Int) := of_decide_eq_true (by first | (with_reducible assumption) | assumption);obtain ⟨ad442,e442,hx442_0⟩ := Kd.at_string (Kd.R_reads' HO441.out).2.2 (ji6) p442 q442;cases e442;replace p442 := eq_true p442;replace q442 := eq_true q442))
    (try simp only [Act.put,setIfInBounds_toArray,set_cons_zero,set_cons_succ])
    go_cut [9] (fun v9 wc => ∃ (kq : Nat) (x9_8 : ByteArray),v9 = .string x9_8 ∧ Aside0 (glyphcutterlaw05_PropsLoose.j0 kq l1 (rdOf ByteArray.empty t439 (ji6)) x9_8 = some r) ∧ Aside0 (kq ≤ k) ∧ Aside0 (Below w.heap.size w wc))
    case first =>
     have H := HC9.out
     clear HC9
     by_cases c12 : a2 = true
     ·subst c12
      rw [if_pos rfl] at H
      have H' := Aside0.mk H
      clear H
      go_wp2
      go_meet
      case rel => exact ⟨_,((⟨#[105,83]⟩ : ByteArray)),(by first | rfl | (simp;done) | (simp [*];done)),H',⟨by first | omega | exact Nat.le_refl _⟩,⟨by repeat (first | (with_reducible first | exact HB.out | apply below_alloc | apply pw_below_drewN | apply below_drew1) | exact HB.out)⟩⟩
     ·replace c12 := Bool.eq_false_iff.mpr c12
      subst c12
      rw [if_neg (show ¬ (false = true) by decide)] at H
      have H' := Aside0.mk H
      clear H
      go_wp2
      go_meet
      case rel => exact ⟨_,((⟨#[]⟩ : ByteArray)),(by first | rfl | (simp;done) | (simp [*];done)),H',⟨by first | omega | exact Nat.le_refl _⟩,⟨by repeat (first | (with_reducible first | exact HB.out | apply below_alloc | apply pw_below_drewN | apply below_drew1) | exact HB.out)⟩⟩
    case rest =>
     clear HC9
     try clear c1
     try clear p2
     try clear p4
     try clear q4
     try clear hx4
     try clear c5
     try clear c5b0
     try clear c5b1
     try clear c5b2
     try clear p6
     try clear c7
     try clear c7b0
     try clear c8
     try clear c8b0
     try clear c12
     try clear hx442_0
     try clear p442
     try clear q442
     obtain ⟨kq,x9_8,rfl,HA,HJ8,HB⟩ := hcut
     cases kq with
     | zero => exact absurd HA.out (by simp [glyphcutterlaw05_PropsLoose.j0])
     | succ kj8 =>
      have H := HA.out
      clear HA
      simp only [glyphcutterlaw05_PropsLoose.j0] at H
      have H' := Aside0.mk H
      clear H
      go_wp2
      go_loopg [9,10] kj8 (fun kq v9 v10 w' => ∃ (x9_2 : ByteArray) (x10_2 : Int),v9 = .string x9_2 ∧ v10 = .int .i64 x10_2 ∧ Aside0 (glyphcutterlaw05_PropsLoose.l0 kq l1 (rdOf ByteArray.empty t439 (ji6)) x9_2 x10_2 = some r) ∧ Aside0 (kq ≤ kj8) ∧ Aside0 (Below w.heap.size w w'))
      case atStart => exact ⟨(x9_8),(0),(by first | rfl | (simp;done) | (simp [*];done)),(by first | rfl | (simp;done) | (simp [*];done)),H',⟨Nat.le_refl _⟩,⟨by repeat (first | (with_reducible first | exact HB.out | apply below_alloc | apply pw_below_drewN | apply below_drew1) | exact HB.out)⟩⟩
      case round =>
       clear H'
       try clear c1
       try clear p2
       try clear p4
       try clear q4
       try clear hx4
       try clear c5
       try clear c5b0
       try clear c5b1
       try clear c5b2
       try clear p6
       try clear c7
       try clear c7b0
       try clear c8
       try clear c8b0
       try clear c12
       try clear hx442_0
       try clear p2
       try clear p4
       try clear p442
       try clear p6
       try clear q4
       try clear q442
       obtain ⟨x9_2,x10_2,rfl,rfl,HA,HK2,HB⟩ := hrel
       cases gk with
       | zero => exact absurd HA.out (by simp [glyphcutterlaw05_PropsLoose.l0])
       | succ k2 =>
        have H := HA.out
        clear HA
        simp only [glyphcutterlaw05_PropsLoose.l0] at H
        by_cases c13 : x10_2 < ((rdOf ByteArray.empty t439 (ji6)).size : Int)
        ·rw [if_pos c13] at H
         have c13b0 : decide (x10_2 < ((rdOf ByteArray.empty t439 (ji6)).size : Int)) = true := decide_eq_true c13
         clear c13
         by_cases c14 : 0 ≤ x10_2
         ·rw [if_pos c14] at H
          have c14b0 : decide (0 ≤ x10_2) = true := decide_eq_true c14
          clear c14
          by_cases c16 : (l1.length : Int) > 0
          ·rw [if_pos c16] at H
           have c16b0 : decide (0 < (l1.length : Int)) = true := decide_eq_true c16
           have c16b1 : decide (0 < l1.length) = true := decide_eq_true (by omega)
           clear c16
           by_cases c17 : (l1.length : Int) = 0
           ·rw [if_pos c17] at H
            exact absurd H (by simp)
           ·rw [if_neg c17] at H
            have c17b0 : ((l1.length : Int) == 0) = false := beq_eq_false_iff_ne.mpr c17
            have c17b1 : ((l1.length : Int) != 0) = true := bne_iff_ne.mpr c17
            have c17b2 : ¬ (l1 = []) := fun h_ => c17 (by rw [h_];rfl)
            obtain ⟨ji18,hji18⟩ : ∃ j_ : Int,(Int.tmod x10_2 (l1.length : Int)) = j_ := ⟨_,rfl⟩
            replace H : (if 0 ≤ (ji18) then (if (ji18) < (l1.length : Int) then (if (Int.tmod (rd l1 (ji18)) 2) = 1 then ((some (([(⟨#[]⟩ : ByteArray),(⟨#[45]⟩ : ByteArray),(⟨#[95]⟩ : ByteArray),(⟨#[32]⟩ : ByteArray)] : List ByteArray) : List ByteArray)).bind fun y444 => (if 0 ≤ (((Int.tdiv (rd l1 (ji18)) 2) % 256) % 4) then (if (((Int.tdiv (rd l1 (ji18)) 2) % 256) % 4) < (y444.length : Int) then (if x9_2.size + (rdOf ByteArray.empty y444 (((Int.tdiv (rd l1 (ji18)) 2) % 256) % 4)).size ≤ 9223372036854775807 then ((some (([((bt (rdOf ByteArray.empty t439 (ji6)) x10_2) - 32) % 256] : List Int) : List Int)).bind fun y448 => (if (x9_2 ++ (rdOf ByteArray.empty y444 (((Int.tdiv (rd l1 (ji18)) 2) % 256) % 4))).size + (strOfNums y448).size ≤ 9223372036854775807 then (glyphcutterlaw05_PropsLoose.l0 k2 l1 (rdOf ByteArray.empty t439 (ji6)) ((x9_2 ++ (rdOf ByteArray.empty y444 (((Int.tdiv (rd l1 (ji18)) 2) % 256) % 4))) ++ (strOfNums y448)) (wrap64 (x10_2 + 1))) else (none))) else (none)) else (none)) else (none))) else ((some (([(⟨#[]⟩ : ByteArray),(⟨#[45]⟩ : ByteArray),(⟨#[95]⟩ : ByteArray),(⟨#[32]⟩ : ByteArray)] : List ByteArray) : List ByteArray)).bind fun y451 => (if 0 ≤ (((Int.tdiv (rd l1 (ji18)) 2) % 256) % 4) then (if (((Int.tdiv (rd l1 (ji18)) 2) % 256) % 4) < (y451.length : Int) then (if x9_2.size + (rdOf ByteArray.empty y451 (((Int.tdiv (rd l1 (ji18)) 2) % 256) % 4)).size ≤ 9223372036854775807 then ((some (([bt (rdOf ByteArray.empty t439 (ji6)) x10_2] : List Int) : List Int)).bind fun y455 => (if (x9_2 ++ (rdOf ByteArray.empty y451 (((Int.tdiv (rd l1 (ji18)) 2) % 256) % 4))).size + (strOfNums y455).size ≤ 9223372036854775807 then (glyphcutterlaw05_PropsLoose.l0 k2 l1 (rdOf ByteArray.empty t439 (ji6)) ((x9_2 ++ (rdOf ByteArray.empty y451 (((Int.tdiv (rd l1 (ji18)) 2) % 256) % 4))) ++ (strOfNums y455)) (wrap64 (x10_2 + 1))) else (none))) else (none)) else (none)) else (none)))) else (none)) else (none)) = some r := by first | (rw [hji18] at H;exact H) | (simp only [hji18] at H ⊢;exact H)
            by_cases c19 : 0 ≤ (ji18)
            ·rw [if_pos c19] at H
             have c19b0 : decide (0 ≤ (ji18)) = true := decide_eq_true c19
             clear c19
             by_cases c20 : (ji18) < (l1.length : Int)
             ·rw [if_pos c20] at H
              have c20b0 : decide ((ji18) < (l1.length : Int)) = true := decide_eq_true c20
              clear c20
              by_cases c21 : (Int.tmod (rd l1 (ji18)) 2) = 1
              ·rw [if_pos c21] at H
               have c21b0 : ((Int.tmod (rd l1 (ji18)) 2) == 1) = true := beq_iff_eq.mpr c21
               have c21b1 : ((Int.tmod (rd l1 (ji18)) 2) != 1) = false := bne_eq_false_iff_eq.mpr c21
               clear c21
               obtain ⟨y444,hy444⟩ : ∃ y_ : List ByteArray,y_ = (([(⟨#[]⟩ : ByteArray),(⟨#[45]⟩ : ByteArray),(⟨#[95]⟩ : ByteArray),(⟨#[32]⟩ : ByteArray)] : List ByteArray)) := ⟨_,rfl⟩
               replace H : (if 0 ≤ (((Int.tdiv (rd l1 (ji18)) 2) % 256) % 4) then (if (((Int.tdiv (rd l1 (ji18)) 2) % 256) % 4) < (y444.length : Int) then (if x9_2.size + (rdOf ByteArray.empty y444 (((Int.tdiv (rd l1 (ji18)) 2) % 256) % 4)).size ≤ 9223372036854775807 then ((some (([((bt (rdOf ByteArray.empty t439 (ji6)) x10_2) - 32) % 256] : List Int) : List Int)).bind fun y448 => (if (x9_2 ++ (rdOf ByteArray.empty y444 (((Int.tdiv (rd l1 (ji18)) 2) % 256) % 4))).size + (strOfNums y448).size ≤ 9223372036854775807 then (glyphcutterlaw05_PropsLoose.l0 k2 l1 (rdOf ByteArray.empty t439 (ji6)) ((x9_2 ++ (rdOf ByteArray.empty y444 (((Int.tdiv (rd l1 (ji18)) 2) % 256) % 4))) ++ (strOfNums y448)) (wrap64 (x10_2 + 1))) else (none))) else (none)) else (none)) else (none)) = some r := by first | (rw [hy444];with_reducible exact H) | (have H2_ := (Option.bind_some _ _).symm.trans H;rw [hy444];with_reducible exact H2_) | (have H2_ := (Option.bind_some _ _).symm.trans H;with_reducible exact H2_) | with_reducible exact H | (rw [hy444];exact H) | exact H
               have Ny444 := Aside0.mk hy444
               clear hy444
               obtain ⟨ji22,hji22⟩ : ∃ j_ : Int,(((Int.tdiv (rd l1 (ji18)) 2) % 256) % 4) = j_ := ⟨_,rfl⟩
               replace H : (if 0 ≤ (ji22) then (if (ji22) < (y444.length : Int) then (if x9_2.size + (rdOf ByteArray.empty y444 (ji22)).size ≤ 9223372036854775807 then ((some (([((bt (rdOf ByteArray.empty t439 (ji6)) x10_2) - 32) % 256] : List Int) : List Int)).bind fun y448 => (if (x9_2 ++ (rdOf ByteArray.empty y444 (ji22))).size + (strOfNums y448).size ≤ 9223372036854775807 then (glyphcutterlaw05_PropsLoose.l0 k2 l1 (rdOf ByteArray.empty t439 (ji6)) ((x9_2 ++ (rdOf ByteArray.empty y444 (ji22))) ++ (strOfNums y448)) (wrap64 (x10_2 + 1))) else (none))) else (none)) else (none)) else (none)) = some r := by first | (rw [hji22] at H;exact H) | (simp only [hji22] at H ⊢;exact H)
               by_cases c23 : 0 ≤ (ji22)
               ·rw [if_pos c23] at H
                have c23b0 : decide (0 ≤ (ji22)) = true := decide_eq_true c23
                clear c23
                by_cases c24 : (ji22) < (y444.length : Int)
                ·rw [if_pos c24] at H
                 have c24b0 : decide ((ji22) < (y444.length : Int)) = true := decide_eq_true c24
                 clear c24
                 by_cases c25 : x9_2.size + (rdOf ByteArray.empty y444 (ji22)).size ≤ 9223372036854775807
                 ·rw [if_pos c25] at H
                  have c25b0 := eq_true c25
                  have c25b1 : decide (x9_2.size + (rdOf ByteArray.empty y444 (ji22)).size ≤ 9223372036854775807) = true := decide_eq_true c25
                  try have c25b2 : (9223372036854775807 < x9_2.size + (rdOf ByteArray.empty y444 (ji22)).size) = False := eq_false (Nat.not_lt.2 c25)
                  obtain ⟨y448,hy448⟩ : ∃ y_ : List Int,y_ = (([((bt (rdOf ByteArray.empty t439 (ji6)) x10_2) - 32) % 256] : List Int)) := ⟨_,rfl⟩
                  replace H : (if (x9_2 ++ (rdOf ByteArray.empty y444 (ji22))).size + (strOfNums y448).size ≤ 9223372036854775807 then (glyphcutterlaw05_PropsLoose.l0 k2 l1 (rdOf ByteArray.empty t439 (ji6)) ((x9_2 ++ (rdOf ByteArray.empty y444 (ji22))) ++ (strOfNums y448)) (wrap64 (x10_2 + 1))) else (none)) = some r := by first | (rw [hy448];with_reducible exact H) | (have H2_ := (Option.bind_some _ _).symm.trans H;rw [hy448];with_reducible exact H2_) | (have H2_ := (Option.bind_some _ _).symm.trans H;with_reducible exact H2_) | with_reducible exact H | (rw [hy448];exact H) | exact H
                  have Ny448 := Aside0.mk hy448
                  clear hy448
                  by_cases c26 : (x9_2 ++ (rdOf ByteArray.empty y444 (ji22))).size + (strOfNums y448).size ≤ 9223372036854775807
                  ·rw [if_pos c26] at H
                   have c26b0 := eq_true c26
                   have c26b1 : decide ((x9_2 ++ (rdOf ByteArray.empty y444 (ji22))).size + (strOfNums y448).size ≤ 9223372036854775807) = true := decide_eq_true c26
                   try have c26b2 : (9223372036854775807 < (x9_2 ++ (rdOf ByteArray.empty y444 (ji22))).size + (strOfNums y448).size) = False := eq_false (Nat.not_lt.2 c26)
                   have H' := Aside0.mk H
                   clear H
                   have p15 : 0 ≤ (x10_2 : Int) := of_decide_eq_true (by first | (with_reducible assumption) | assumption)
                   have q15 : x10_2 < ((rdOf ByteArray.empty t439 (ji6)).size : Int) := of_decide_eq_true (by first | (with_reducible assumption) | assumption)
                   have hx15 := bt_at (rdOf ByteArray.empty t439 (ji6)) x10_2
                   replace p15 := eq_true p15
                   replace q15 := eq_true q15
                   have p443 : 0 ≤ ((ji18) : Int) := of_decide_eq_true (by first | (with_reducible assumption) | assumption)
                   have q443 : (ji18) < (l1.length : Int) := of_decide_eq_true (by first | (with_reducible assumption) | assumption)
                   obtain ⟨ad443,e443,hx443_0⟩ := Kd.at_int HR1.out (ji18) p443 q443
                   cases e443
                   replace hx443_0 := (HB.out.cell (World.block_lt_of_cell? w _ hx443_0)).trans hx443_0
                   replace p443 := eq_true p443
                   replace q443 := eq_true q443
                   try go_wp2
                   have pi447 : (0 ≤ ((ji22) : Int)) = True := eq_true (of_decide_eq_true (by first | (with_reducible assumption) | assumption))
                   have qi447 : ((ji22) < (y444.length : Int)) = True := eq_true (of_decide_eq_true (by first | (with_reducible assumption) | assumption))
                   have n0_ := Aside0.mk (below_drew1 HB.out)
                   clear HB
                   have HB := n0_
                   clear n0_
                   refine start_ (n := 13) (S := fun w' => True) (ds := []) #[false,false,false,false,false,false,false,false,false,false,false,false,false] (by kernel_rfl) rfl rfl trivial (fun hHeld => ?_);refine with_tabW glyphcutterlaw05_PropsLoose.tab15 glyphcutterlaw05_PropsLoose.bits15 (fun HT_ HW_ => ?_)
                   generalize wr.drew = w27 at HB hHeld ⊢
                   refine pure_ (i := 0) (N := some 51) (v := ?_) (a' := ?_) #[true,false,false,false,false,false,false,false,false,false,false,false,false] rfl rfl (any_of HT_.out (by kernel_rfl)) (fun _ _ _ h => h) (Or.inl ⟨by rfl,?_⟩) ?_ ?_
                   rotate_left;·intro w';go_simp;skip;with_reducible rfl
                   rotate_left;·simp only [Act.put,setIfInBounds_toArray,set_cons_zero,set_cons_succ,i64_w,i32_w];rfl
                   refine pure_ (i := 2) (N := some 53) (v := ?_) (a' := ?_) #[true,false,true,false,false,false,false,false,false,false,false,false,false] rfl rfl (any_of HT_.out (by kernel_rfl)) (fun _ _ _ h => h) (Or.inl ⟨by rfl,?_⟩) ?_ ?_
                   rotate_left;·intro w';go_simp;skip;with_reducible rfl
                   rotate_left;·simp only [Act.put,setIfInBounds_toArray,set_cons_zero,set_cons_succ,i64_w,i32_w];rfl
                   refine pure_ (i := 3) (N := some 54) (v := ?_) (a' := ?_) #[true,false,true,true,false,false,false,false,false,false,false,false,false] rfl rfl (any_of HT_.out (by kernel_rfl)) (fun _ _ _ h => h) (Or.inl ⟨by rfl,?_⟩) ?_ ?_
                   rotate_left;·intro w';go_simp;skip;with_reducible rfl
                   rotate_left;·simp only [Act.put,setIfInBounds_toArray,set_cons_zero,set_cons_succ,i64_w,i32_w];rfl
                   refine pure_ (i := 4) (N := some 55) (v := ?_) (a' := ?_) #[true,false,true,true,true,false,false,false,false,false,false,false,false] rfl rfl (any_of HT_.out (by kernel_rfl)) (fun _ _ _ h => h) (Or.inl ⟨by rfl,?_⟩) ?_ ?_
                   rotate_left;·intro w';go_simp;skip;with_reducible rfl
                   rotate_left;·simp only [Act.put,setIfInBounds_toArray,set_cons_zero,set_cons_succ,i64_w,i32_w];rfl
                   refine pure_ (i := 8) (N := some 59) (v := ?_) (a' := ?_) #[true,false,true,true,true,false,false,false,true,false,false,false,false] rfl rfl (any_of HT_.out (by kernel_rfl)) (fun _ _ _ h => h) (Or.inl ⟨by rfl,?_⟩) ?_ ?_
                   rotate_left;·intro w';go_simp;skip;with_reducible rfl
                   rotate_left;·simp only [Act.put,setIfInBounds_toArray,set_cons_zero,set_cons_succ,i64_w,i32_w];rfl
                   refine join_ (σ := Value × Addr × Value) 2 #[true,true,true,true,true,true,true,true,true,true,true,false,false] (fun s_ => [(52,s_.1),(57,.string (rdOf ByteArray.empty y444 (ji22))),(60,s_.2.2),(61,.string (strOfNums y448)),(56,.pointer (some (s_.2.1.add ((ji22)).toNat))),(58,.string (x9_2 ++ (rdOf ByteArray.empty y444 (ji22))))]) (fun s_ w' => (Kd.R Kd.string 9 w' w.heap.size (fun _ => True) s_.1 y444) ∧ (Kd.R (Kd.int .u8) 5 w' w.heap.size (fun _ => True) s_.2.2 y448) ∧ (∃ c_,(s_.1 : Value) = .slice (some s_.2.1) y444.length c_) ∧ (Below w.heap.size w w')) ?_ ?_
                   rotate_left
                   ·intro hJ1_6_9_10
                    refine join_ (σ := Value × Addr × Value) 3 #[true,true,true,true,true,true,true,true,true,true,false,false,false] (fun s_ => [(52,s_.1),(57,.string (rdOf ByteArray.empty y444 (ji22))),(60,s_.2.2),(56,.pointer (some (s_.2.1.add ((ji22)).toNat))),(58,.string (x9_2 ++ (rdOf ByteArray.empty y444 (ji22))))]) (fun s_ w' => (Kd.R Kd.string 9 w' w.heap.size (fun _ => True) s_.1 y444) ∧ (Kd.R (Kd.int .u8) 5 w' w.heap.size (fun _ => True) s_.2.2 y448) ∧ (∃ c_,(s_.1 : Value) = .slice (some s_.2.1) y444.length c_) ∧ (Below w.heap.size w w')) ?_ ?_
                    rotate_left
                    ·intro hJ1_6_9
                     refine join_ (σ := Value × Addr × Value) 4 #[true,true,true,true,true,true,false,false,true,true,true,false,false] (fun s_ => [(52,s_.1),(60,s_.2.2),(61,.string (strOfNums y448)),(56,.pointer (some (s_.2.1.add ((ji22)).toNat)))]) (fun s_ w' => (Kd.R Kd.string 9 w' w.heap.size (fun _ => True) s_.1 y444) ∧ (Kd.R (Kd.int .u8) 5 w' w.heap.size (fun _ => True) s_.2.2 y448) ∧ (∃ c_,(s_.1 : Value) = .slice (some s_.2.1) y444.length c_) ∧ (Below w.heap.size w w')) ?_ ?_
                     rotate_left
                     ·intro hJ1_9_10
                      refine join_ (σ := Value × Addr) 4 #[true,true,true,true,true,true,true,true,true,false,false,false,false] (fun s_ => [(52,s_.1),(57,.string (rdOf ByteArray.empty y444 (ji22))),(56,.pointer (some (s_.2.add ((ji22)).toNat))),(58,.string (x9_2 ++ (rdOf ByteArray.empty y444 (ji22))))]) (fun s_ w' => (Kd.R Kd.string 9 w' w.heap.size (fun _ => True) s_.1 y444) ∧ (∃ c_,(s_.1 : Value) = .slice (some s_.2) y444.length c_) ∧ (Below w.heap.size w w')) ?_ ?_
                      rotate_left
                      ·intro hJ1_6
                       refine join_ (σ := Value × Addr × Value) 5 #[true,true,true,true,true,true,false,false,true,true,false,false,false] (fun s_ => [(52,s_.1),(60,s_.2.2),(56,.pointer (some (s_.2.1.add ((ji22)).toNat)))]) (fun s_ w' => (Kd.R Kd.string 9 w' w.heap.size (fun _ => True) s_.1 y444) ∧ (Kd.R (Kd.int .u8) 5 w' w.heap.size (fun _ => True) s_.2.2 y448) ∧ (∃ c_,(s_.1 : Value) = .slice (some s_.2.1) y444.length c_) ∧ (Below w.heap.size w w')) ?_ ?_
                       rotate_left
                       ·intro hJ1_9
                        refine join_ (σ := Value) 6 #[true,false,true,true,true,false,false,false,true,true,true,false,false] (fun s_ => [(60,s_),(61,.string (strOfNums y448))]) (fun s_ w' => (Kd.R (Kd.int .u8) 5 w' w.heap.size (fun _ => True) s_ y448) ∧ (Below w.heap.size w w')) ?_ ?_
                        rotate_left
                        ·intro hJ9_10
                         refine join_ (σ := Value × Addr) 6 #[true,true,true,true,true,true,false,false,true,false,false,false,false] (fun s_ => [(52,s_.1),(56,.pointer (some (s_.2.add ((ji22)).toNat)))]) (fun s_ w' => (Kd.R Kd.string 9 w' w.heap.size (fun _ => True) s_.1 y444) ∧ (∃ c_,(s_.1 : Value) = .slice (some s_.2) y444.length c_) ∧ (Below w.heap.size w w')) ?_ ?_
                         rotate_left
                         ·intro hJ1
                          refine join_ (σ := Value) 7 #[true,false,true,true,true,false,false,false,true,true,false,false,false] (fun s_ => [(60,s_)]) (fun s_ w' => (Kd.R (Kd.int .u8) 5 w' w.heap.size (fun _ => True) s_ y448) ∧ (Below w.heap.size w w')) ?_ ?_
                          rotate_left
                          ·intro hJ9
                           refine two_ (i := 1) (j := 9) (Ni := some 52) (Nj := some 60) #[true,true,true,true,true,false,false,false,true,false,false,false,false] #[true,false,true,true,true,false,false,false,true,true,false,false,false] rfl rfl rfl rfl (two_of HT_.out (by kernel_rfl)) (by decide) (by decide) (fun K hK => ?_) (fun K hK => ?_)
                           ·skip
                            refine Kd.R_lit_step Kd.string _ 9 ?hg (N := 52) ?hd (xs := ([(⟨#[]⟩ : ByteArray),(⟨#[45]⟩ : ByteArray),(⟨#[95]⟩ : ByteArray),(⟨#[32]⟩ : ByteArray)] : List ByteArray)) (inner := [.string (⟨#[]⟩ : ByteArray),.string (⟨#[45]⟩ : ByteArray),.string (⟨#[95]⟩ : ByteArray),.string (⟨#[32]⟩ : ByteArray)]) (ok := fun _ => True) (okp := fun _ => True) ?hr ?hp (fun _ hk => hk) trivial (Below.refl _ _) (Nat.le_refl _) (by simp) ?_;(case hd => rfl);(case hg => rfl);(case hr => first | (go_simp;done) | (go_simp;rfl));(case hp => exact (Reps.one (show Kd.M Kd.string _ _ _ (⟨#[]⟩ : ByteArray) [.string (⟨#[]⟩ : ByteArray)] from rfl) (Reps.one (show Kd.M Kd.string _ _ _ (⟨#[45]⟩ : ByteArray) [.string (⟨#[45]⟩ : ByteArray)] from rfl) (Reps.one (show Kd.M Kd.string _ _ _ (⟨#[95]⟩ : ByteArray) [.string (⟨#[95]⟩ : ByteArray)] from rfl) (Reps.one (show Kd.M Kd.string _ _ _ (⟨#[32]⟩ : ByteArray) [.string (⟨#[32]⟩ : ByteArray)] from rfl) (Reps.none _ _))))))
                            intro v445 w28 ho29 hb hg_ hnew_
                            clear hg_ hnew_
                            (first | rw [← Ny444.out] at ho29 | (simp only [Int.reduceToNat] at ho29;rw [← Ny444.out] at ho29))
                            have n0_ := Aside0.mk (Kd.R_lower ho29 (below_size (by repeat (first | (with_reducible first | exact HB.out | apply below_alloc | apply pw_below_drewN | apply below_drew1) | exact HB.out))))
                            have n1_ := Aside0.mk (below_step (by repeat (first | (with_reducible first | exact HB.out | apply below_alloc | apply pw_below_drewN | apply below_drew1) | exact HB.out)) hb)
                            clear HB
                            have HO446 := n0_
                            have HB := n1_
                            clear n0_ n1_
                            clear hb ho29
                            obtain ⟨Ao30,co30,eo30⟩ := Kd.R_slice HO446.out
                            subst eo30
                            obtain ⟨ado30,fo30,_⟩ := Kd.at_string (Kd.R_reads' HO446.out).2.2 0 (by decide) (by rw [Ny444.out];simp)
                            cases fo30
                            refine hK.out _ _ trivial (fun hHeld => ?_)
                            clear hK K
                            refine norm_ (a' := ?_) ?_ ?_
                            rotate_left;·show Act.put _ (some 52) _ = _;simp only [Act.put,setIfInBounds_toArray,set_cons_zero,set_cons_succ,i64_w,i32_w];rfl
                            refine pure_ (i := 5) (N := some 56) (v := ?_) (a' := ?_) #[true,true,true,true,true,true,false,false,true,false,false,false,false] rfl rfl (any_of HT_.out (by kernel_rfl)) (fun _ _ _ h => h) (Or.inl ⟨by rfl,?_⟩) ?_ ?_
                            rotate_left;·intro w';go_simp;rw [u8tm,hji22,if_pos ⟨of_eq_true pi447,of_eq_true qi447⟩]
                            rotate_left;·simp only [Act.put,setIfInBounds_toArray,set_cons_zero,set_cons_succ,i64_w,i32_w];rfl
                            exact norm_ (by first | (simp only [Go.Proofs.YtpcljaidlihafaaW.PrintLast.putAll,Act.put,setIfInBounds_toArray,set_cons_zero,set_cons_succ];done) | (simp only [Go.Proofs.YtpcljaidlihafaaW.PrintLast.putAll,Act.put,setIfInBounds_toArray,set_cons_zero,set_cons_succ];rfl)) (hJ1 (.slice (some ado30) y444.length co30,ado30) _ ⟨(by (with_reducible repeat (first | apply Kd.R_alloc | apply Kd.R_drewN | apply Kd.R_drew));exact HO446.out),⟨_,rfl⟩,(by repeat (first | (with_reducible first | exact HB.out | apply below_alloc | apply pw_below_drewN | apply below_drew1) | exact HB.out))⟩)
                           ·skip
                            refine Kd.R_lit_step (Kd.int .u8) _ 5 ?hg (N := 60) ?hd (xs := ([((bt (rdOf ByteArray.empty t439 (ji6)) x10_2) - 32) % 256] : List Int)) (inner := [.int .u8 (((bt (rdOf ByteArray.empty t439 (ji6)) x10_2) - 32) % 256)]) (ok := fun _ => True) (okp := fun _ => True) ?hr ?hp (fun _ hk => hk) trivial (Below.refl _ _) (Nat.le_refl _) (by simp) ?_;(case hd => rfl);(case hg => rfl);(case hr => first | (go_simp;done) | (go_simp;rfl));(case hp => exact (Reps.one (show Kd.M (Kd.int .u8) _ _ _ (((bt (rdOf ByteArray.empty t439 (ji6)) x10_2) - 32) % 256) [.int .u8 (((bt (rdOf ByteArray.empty t439 (ji6)) x10_2) - 32) % 256)] from rfl) (Reps.none _ _)))
                            intro v449 w28 ho29 hb hg_ hnew_
                            clear hg_ hnew_
                            (first | rw [← Ny448.out] at ho29 | (simp only [Int.reduceToNat] at ho29;rw [← Ny448.out] at ho29))
                            have n0_ := Aside0.mk (Kd.R_lower ho29 (below_size (by repeat (first | (with_reducible first | exact HB.out | apply below_alloc | apply pw_below_drewN | apply below_drew1) | exact HB.out))))
                            have n1_ := Aside0.mk (below_step (by repeat (first | (with_reducible first | exact HB.out | apply below_alloc | apply pw_below_drewN | apply below_drew1) | exact HB.out)) hb)
                            clear HB
                            have HO450 := n0_
                            have HB := n1_
                            clear n0_ n1_
                            clear hb ho29
                            refine hK.out _ _ trivial (fun hHeld => ?_)
                            clear hK K
                            refine norm_ (a' := ?_) ?_ ?_
                            rotate_left;·show Act.put _ (some 60) _ = _;simp only [Act.put,setIfInBounds_toArray,set_cons_zero,set_cons_succ,i64_w,i32_w];rfl
                            exact norm_ (by first | (simp only [Go.Proofs.YtpcljaidlihafaaW.PrintLast.putAll,Act.put,setIfInBounds_toArray,set_cons_zero,set_cons_succ];done) | (simp only [Go.Proofs.YtpcljaidlihafaaW.PrintLast.putAll,Act.put,setIfInBounds_toArray,set_cons_zero,set_cons_succ];rfl)) (hJ9 (v449) _ ⟨(by (with_reducible repeat (first | apply Kd.R_alloc | apply Kd.R_drewN | apply Kd.R_drew));exact HO450.out),(by repeat (first | (with_reducible first | exact HB.out | apply below_alloc | apply pw_below_drewN | apply below_drew1) | exact HB.out))⟩)
                          ·skip
                           rintro v449 w30 ⟨h0_,h1_⟩
                           have n0_ : Aside0 (Kd.R (Kd.int .u8) 5 w30 w.heap.size (fun _ => True) v449 y448) := ⟨h0_⟩
                           have n1_ : Aside0 (Below w.heap.size w w30) := ⟨h1_⟩
                           clear HB
                           clear h0_ h1_
                           have HO450 := n0_
                           have HB := n1_
                           clear n0_ n1_
                           have hHeld := trivial
                           refine norm_ (a' := ?_) ?_ ?_
                           rotate_left;·simp only [Go.Proofs.YtpcljaidlihafaaW.PrintLast.putAll,Act.put,setIfInBounds_toArray,set_cons_zero,set_cons_succ];rfl
                           refine two_ (i := 1) (j := 10) (Ni := some 52) (Nj := some 61) #[true,true,true,true,true,false,false,false,true,true,false,false,false] #[true,false,true,true,true,false,false,false,true,true,true,false,false] rfl rfl rfl rfl (two_of HT_.out (by kernel_rfl)) (by decide) (by decide) (fun K hK => ?_) (fun K hK => ?_)
                           ·skip
                            refine Kd.R_lit_step Kd.string _ 9 ?hg (N := 52) ?hd (xs := ([(⟨#[]⟩ : ByteArray),(⟨#[45]⟩ : ByteArray),(⟨#[95]⟩ : ByteArray),(⟨#[32]⟩ : ByteArray)] : List ByteArray)) (inner := [.string (⟨#[]⟩ : ByteArray),.string (⟨#[45]⟩ : ByteArray),.string (⟨#[95]⟩ : ByteArray),.string (⟨#[32]⟩ : ByteArray)]) (ok := fun _ => True) (okp := fun _ => True) ?hr ?hp (fun _ hk => hk) trivial (Below.refl _ _) (Nat.le_refl _) (by simp) ?_;(case hd => rfl);(case hg => rfl);(case hr => first | (go_simp;done) | (go_simp;rfl));(case hp => exact (Reps.one (show Kd.M Kd.string _ _ _ (⟨#[]⟩ : ByteArray) [.string (⟨#[]⟩ : ByteArray)] from rfl) (Reps.one (show Kd.M Kd.string _ _ _ (⟨#[45]⟩ : ByteArray) [.string (⟨#[45]⟩ : ByteArray)] from rfl) (Reps.one (show Kd.M Kd.string _ _ _ (⟨#[95]⟩ : ByteArray) [.string (⟨#[95]⟩ : ByteArray)] from rfl) (Reps.one (show Kd.M Kd.string _ _ _ (⟨#[32]⟩ : ByteArray) [.string (⟨#[32]⟩ : ByteArray)] from rfl) (Reps.none _ _))))))
                            intro v445 w31 ho32 hb hg_ hnew_
                            clear hg_ hnew_
                            (first | rw [← Ny444.out] at ho32 | (simp only [Int.reduceToNat] at ho32;rw [← Ny444.out] at ho32))
                            have n0_ := Aside0.mk (Kd.R_below (by (with_reducible repeat (first | apply Kd.R_alloc | apply Kd.R_drewN | apply Kd.R_drew));exact HO450.out) hb)
                            have n1_ := Aside0.mk (Kd.R_lower ho32 (below_size (by repeat (first | (with_reducible first | exact HB.out | apply below_alloc | apply pw_below_drewN | apply below_drew1) | exact HB.out))))
                            have n2_ := Aside0.mk (below_step (by repeat (first | (with_reducible first | exact HB.out | apply below_alloc | apply pw_below_drewN | apply below_drew1) | exact HB.out)) hb)
                            clear HO450
                            clear HB
                            have HO450 := n0_
                            have HO446 := n1_
                            have HB := n2_
                            clear n0_ n1_ n2_
                            clear hb ho32
                            obtain ⟨Ao33,co33,eo33⟩ := Kd.R_slice HO446.out
                            subst eo33
                            obtain ⟨ado33,fo33,_⟩ := Kd.at_string (Kd.R_reads' HO446.out).2.2 0 (by decide) (by rw [Ny444.out];simp)
                            cases fo33
                            refine hK.out _ _ trivial (fun hHeld => ?_)
                            clear hK K
                            refine norm_ (a' := ?_) ?_ ?_
                            rotate_left;·show Act.put _ (some 52) _ = _;simp only [Act.put,setIfInBounds_toArray,set_cons_zero,set_cons_succ,i64_w,i32_w];rfl
                            refine pure_ (i := 5) (N := some 56) (v := ?_) (a' := ?_) #[true,true,true,true,true,true,false,false,true,true,false,false,false] rfl rfl (any_of HT_.out (by kernel_rfl)) (fun _ _ _ h => h) (Or.inl ⟨by rfl,?_⟩) ?_ ?_
                            rotate_left;·intro w';go_simp;rw [u8tm,hji22,if_pos ⟨of_eq_true pi447,of_eq_true qi447⟩]
                            rotate_left;·simp only [Act.put,setIfInBounds_toArray,set_cons_zero,set_cons_succ,i64_w,i32_w];rfl
                            exact norm_ (by first | (simp only [Go.Proofs.YtpcljaidlihafaaW.PrintLast.putAll,Act.put,setIfInBounds_toArray,set_cons_zero,set_cons_succ];done) | (simp only [Go.Proofs.YtpcljaidlihafaaW.PrintLast.putAll,Act.put,setIfInBounds_toArray,set_cons_zero,set_cons_succ];rfl)) (hJ1_9 (.slice (some ado33) y444.length co33,ado33,v449) _ ⟨(by (with_reducible repeat (first | apply Kd.R_alloc | apply Kd.R_drewN | apply Kd.R_drew));exact HO446.out),(by (with_reducible repeat (first | apply Kd.R_alloc | apply Kd.R_drewN | apply Kd.R_drew));exact HO450.out),⟨_,rfl⟩,(by repeat (first | (with_reducible first | exact HB.out | apply below_alloc | apply pw_below_drewN | apply below_drew1) | exact HB.out))⟩)
                           ·skip
                            have hcv31 := own_string (P := Try.prog) Try.underlying36 Try.underlying5 Try.underlying9 (Kd.own_of_R HO450.out)
                            refine value_ (w1 := ?_) (v := ?_) (by rfl) rfl ?_ ?_
                            rotate_left 2
                            ·go_simp
                             constructor
                             ·rfl
                             ·rfl
                            clear hcv31
                            refine hK.out _ _ trivial (fun hHeld => ?_)
                            clear hK K
                            refine norm_ (a' := ?_) ?_ ?_
                            rotate_left;·show Act.put _ (some 61) _ = _;simp only [Act.put,setIfInBounds_toArray,set_cons_zero,set_cons_succ,i64_w,i32_w];rfl
                            exact norm_ (by first | (simp only [Go.Proofs.YtpcljaidlihafaaW.PrintLast.putAll,Act.put,setIfInBounds_toArray,set_cons_zero,set_cons_succ];done) | (simp only [Go.Proofs.YtpcljaidlihafaaW.PrintLast.putAll,Act.put,setIfInBounds_toArray,set_cons_zero,set_cons_succ];rfl)) (hJ9_10 (v449) _ ⟨(by (with_reducible repeat (first | apply Kd.R_alloc | apply Kd.R_drewN | apply Kd.R_drew));exact HO450.out),(by repeat (first | (with_reducible first | exact HB.out | apply below_alloc | apply pw_below_drewN | apply below_drew1) | exact HB.out))⟩)
                         ·skip
                          rintro ⟨v445,adz_v445⟩ w31 ⟨h0_,h1_,h2_⟩
                          have n0_ : Aside0 (Kd.R Kd.string 9 w31 w.heap.size (fun _ => True) v445 y444) := ⟨h0_⟩
                          have n1_ : Aside0 (∃ c_,(v445 : Value) = .slice (some adz_v445) y444.length c_) := ⟨h1_⟩
                          have n2_ : Aside0 (Below w.heap.size w w31) := ⟨h2_⟩
                          clear HB
                          clear h0_ h1_ h2_
                          have HO446 := n0_
                          have HA_HO446 := n1_
                          have HB := n2_
                          clear n0_ n1_ n2_
                          have hHeld := trivial
                          obtain ⟨co32,eo32⟩ := HA_HO446.out
                          clear HA_HO446
                          subst eo32
                          refine norm_ (a' := ?_) ?_ ?_
                          rotate_left;·simp only [Go.Proofs.YtpcljaidlihafaaW.PrintLast.putAll,Act.put,setIfInBounds_toArray,set_cons_zero,set_cons_succ];rfl
                          refine two_ (i := 6) (j := 9) (Ni := some 57) (Nj := some 60) #[true,true,true,true,true,true,true,false,true,false,false,false,false] #[true,true,true,true,true,true,false,false,true,true,false,false,false] rfl rfl rfl rfl (two_of HT_.out (by kernel_rfl)) (by decide) (by decide) (fun K hK => ?_) (fun K hK => ?_)
                          ·skip
                           (have p447 : 0 ≤ ((ji22) : Int) := of_decide_eq_true (by first | (with_reducible assumption) | assumption);have q447 : (ji22) < (y444.length : Int) := of_decide_eq_true (by first | (with_reducible assumption) | assumption);obtain ⟨ad447,e447,hx447_0⟩ := Kd.at_string (Kd.R_reads' HO446.out).2.2 (ji22) p447 q447;obtain rfl : adz_v445 = ad447 := (by injection e447))
                           refine value_ (w1 := ?_) (v := ?_) (by rfl) rfl ?_ ?_
                           rotate_left 2
                           ·go_simp
                            constructor
                            ·rfl
                            ·rfl
                           clear hx447_0
                           refine hK.out _ _ trivial (fun hHeld => ?_)
                           clear hK K
                           refine norm_ (a' := ?_) ?_ ?_
                           rotate_left;·show Act.put _ (some 57) _ = _;simp only [Act.put,setIfInBounds_toArray,set_cons_zero,set_cons_succ,i64_w,i32_w];rfl
                           refine pure_ (i := 7) (N := some 58) (v := ?_) (a' := ?_) #[true,true,true,true,true,true,true,true,true,false,false,false,false] rfl rfl (any_of HT_.out (by kernel_rfl)) (fun _ _ _ h => h) (Or.inl ⟨by rfl,?_⟩) ?_ ?_
                           rotate_left;·intro w';go_simp;skip;with_reducible rfl
                           rotate_left;·simp only [Act.put,setIfInBounds_toArray,set_cons_zero,set_cons_succ,i64_w,i32_w];rfl
                           exact norm_ (by first | (simp only [Go.Proofs.YtpcljaidlihafaaW.PrintLast.putAll,Act.put,setIfInBounds_toArray,set_cons_zero,set_cons_succ];done) | (simp only [Go.Proofs.YtpcljaidlihafaaW.PrintLast.putAll,Act.put,setIfInBounds_toArray,set_cons_zero,set_cons_succ];rfl)) (hJ1_6 (.slice (some adz_v445) y444.length co32,adz_v445) _ ⟨(by (with_reducible repeat (first | apply Kd.R_alloc | apply Kd.R_drewN | apply Kd.R_drew));exact HO446.out),⟨_,rfl⟩,(by repeat (first | (with_reducible first | exact HB.out | apply below_alloc | apply pw_below_drewN | apply below_drew1) | exact HB.out))⟩)
                          ·skip
                           refine Kd.R_lit_step (Kd.int .u8) _ 5 ?hg (N := 60) ?hd (xs := ([((bt (rdOf ByteArray.empty t439 (ji6)) x10_2) - 32) % 256] : List Int)) (inner := [.int .u8 (((bt (rdOf ByteArray.empty t439 (ji6)) x10_2) - 32) % 256)]) (ok := fun _ => True) (okp := fun _ => True) ?hr ?hp (fun _ hk => hk) trivial (Below.refl _ _) (Nat.le_refl _) (by simp) ?_;(case hd => rfl);(case hg => rfl);(case hr => first | (go_simp;done) | (go_simp;rfl));(case hp => exact (Reps.one (show Kd.M (Kd.int .u8) _ _ _ (((bt (rdOf ByteArray.empty t439 (ji6)) x10_2) - 32) % 256) [.int .u8 (((bt (rdOf ByteArray.empty t439 (ji6)) x10_2) - 32) % 256)] from rfl) (Reps.none _ _)))
                           intro v449 w33 ho34 hb hg_ hnew_
                           clear hg_ hnew_
                           (first | rw [← Ny448.out] at ho34 | (simp only [Int.reduceToNat] at ho34;rw [← Ny448.out] at ho34))
                           have n0_ := Aside0.mk (Kd.R_below (by (with_reducible repeat (first | apply Kd.R_alloc | apply Kd.R_drewN | apply Kd.R_drew));exact HO446.out) hb)
                           have n1_ := Aside0.mk (Kd.R_lower ho34 (below_size (by repeat (first | (with_reducible first | exact HB.out | apply below_alloc | apply pw_below_drewN | apply below_drew1) | exact HB.out))))
                           have n2_ := Aside0.mk (below_step (by repeat (first | (with_reducible first | exact HB.out | apply below_alloc | apply pw_below_drewN | apply below_drew1) | exact HB.out)) hb)
                           clear HO446
                           clear HB
                           have HO446 := n0_
                           have HO450 := n1_
                           have HB := n2_
                           clear n0_ n1_ n2_
                           clear hb ho34
                           refine hK.out _ _ trivial (fun hHeld => ?_)
                           clear hK K
                           refine norm_ (a' := ?_) ?_ ?_
                           rotate_left;·show Act.put _ (some 60) _ = _;simp only [Act.put,setIfInBounds_toArray,set_cons_zero,set_cons_succ,i64_w,i32_w];rfl
                           exact norm_ (by first | (simp only [Go.Proofs.YtpcljaidlihafaaW.PrintLast.putAll,Act.put,setIfInBounds_toArray,set_cons_zero,set_cons_succ];done) | (simp only [Go.Proofs.YtpcljaidlihafaaW.PrintLast.putAll,Act.put,setIfInBounds_toArray,set_cons_zero,set_cons_succ];rfl)) (hJ1_9 (.slice (some adz_v445) y444.length co32,adz_v445,v449) _ ⟨(by (with_reducible repeat (first | apply Kd.R_alloc | apply Kd.R_drewN | apply Kd.R_drew));exact HO446.out),(by (with_reducible repeat (first | apply Kd.R_alloc | apply Kd.R_drewN | apply Kd.R_drew));exact HO450.out),⟨_,rfl⟩,(by repeat (first | (with_reducible first | exact HB.out | apply below_alloc | apply pw_below_drewN | apply below_drew1) | exact HB.out))⟩)
                        ·skip
                         rintro v449 w31 ⟨h0_,h1_⟩
                         have n0_ : Aside0 (Kd.R (Kd.int .u8) 5 w31 w.heap.size (fun _ => True) v449 y448) := ⟨h0_⟩
                         have n1_ : Aside0 (Below w.heap.size w w31) := ⟨h1_⟩
                         clear HB
                         clear h0_ h1_
                         have HO450 := n0_
                         have HB := n1_
                         clear n0_ n1_
                         have hHeld := trivial
                         refine norm_ (a' := ?_) ?_ ?_
                         rotate_left;·simp only [Go.Proofs.YtpcljaidlihafaaW.PrintLast.putAll,Act.put,setIfInBounds_toArray,set_cons_zero,set_cons_succ];rfl
                         refine one_ (i := 1) (N := some 52) #[true,true,true,true,true,false,false,false,true,true,true,false,false] rfl rfl (one_of HT_.out (by kernel_rfl)) (by decide) (fun K hK => ?_)
                         refine Kd.R_lit_step Kd.string _ 9 ?hg (N := 52) ?hd (xs := ([(⟨#[]⟩ : ByteArray),(⟨#[45]⟩ : ByteArray),(⟨#[95]⟩ : ByteArray),(⟨#[32]⟩ : ByteArray)] : List ByteArray)) (inner := [.string (⟨#[]⟩ : ByteArray),.string (⟨#[45]⟩ : ByteArray),.string (⟨#[95]⟩ : ByteArray),.string (⟨#[32]⟩ : ByteArray)]) (ok := fun _ => True) (okp := fun _ => True) ?hr ?hp (fun _ hk => hk) trivial (Below.refl _ _) (Nat.le_refl _) (by simp) ?_;(case hd => rfl);(case hg => rfl);(case hr => first | (go_simp;done) | (go_simp;rfl));(case hp => exact (Reps.one (show Kd.M Kd.string _ _ _ (⟨#[]⟩ : ByteArray) [.string (⟨#[]⟩ : ByteArray)] from rfl) (Reps.one (show Kd.M Kd.string _ _ _ (⟨#[45]⟩ : ByteArray) [.string (⟨#[45]⟩ : ByteArray)] from rfl) (Reps.one (show Kd.M Kd.string _ _ _ (⟨#[95]⟩ : ByteArray) [.string (⟨#[95]⟩ : ByteArray)] from rfl) (Reps.one (show Kd.M Kd.string _ _ _ (⟨#[32]⟩ : ByteArray) [.string (⟨#[32]⟩ : ByteArray)] from rfl) (Reps.none _ _))))))
                         intro v445 w32 ho33 hb hg_ hnew_
                         clear hg_ hnew_
                         (first | rw [← Ny444.out] at ho33 | (simp only [Int.reduceToNat] at ho33;rw [← Ny444.out] at ho33))
                         have n0_ := Aside0.mk (Kd.R_below (by (with_reducible repeat (first | apply Kd.R_alloc | apply Kd.R_drewN | apply Kd.R_drew));exact HO450.out) hb)
                         have n1_ := Aside0.mk (Kd.R_lower ho33 (below_size (by repeat (first | (with_reducible first | exact HB.out | apply below_alloc | apply pw_below_drewN | apply below_drew1) | exact HB.out))))
                         have n2_ := Aside0.mk (below_step (by repeat (first | (with_reducible first | exact HB.out | apply below_alloc | apply pw_below_drewN | apply below_drew1) | exact HB.out)) hb)
                         clear HO450
                         clear HB
                         have HO450 := n0_
                         have HO446 := n1_
                         have HB := n2_
                         clear n0_ n1_ n2_
                         clear hb ho33
                         obtain ⟨Ao34,co34,eo34⟩ := Kd.R_slice HO446.out
                         subst eo34
                         obtain ⟨ado34,fo34,_⟩ := Kd.at_string (Kd.R_reads' HO446.out).2.2 0 (by decide) (by rw [Ny444.out];simp)
                         cases fo34
                         refine hK.out _ _ trivial (fun hHeld => ?_)
                         clear hK K
                         refine norm_ (a' := ?_) ?_ ?_
                         rotate_left;·show Act.put _ (some 52) _ = _;simp only [Act.put,setIfInBounds_toArray,set_cons_zero,set_cons_succ,i64_w,i32_w];rfl
                         refine pure_ (i := 5) (N := some 56) (v := ?_) (a' := ?_) #[true,true,true,true,true,true,false,false,true,true,true,false,false] rfl rfl (any_of HT_.out (by kernel_rfl)) (fun _ _ _ h => h) (Or.inl ⟨by rfl,?_⟩) ?_ ?_
                         rotate_left;·intro w';go_simp;rw [u8tm,hji22,if_pos ⟨of_eq_true pi447,of_eq_true qi447⟩]
                         rotate_left;·simp only [Act.put,setIfInBounds_toArray,set_cons_zero,set_cons_succ,i64_w,i32_w];rfl
                         exact norm_ (by first | (simp only [Go.Proofs.YtpcljaidlihafaaW.PrintLast.putAll,Act.put,setIfInBounds_toArray,set_cons_zero,set_cons_succ];done) | (simp only [Go.Proofs.YtpcljaidlihafaaW.PrintLast.putAll,Act.put,setIfInBounds_toArray,set_cons_zero,set_cons_succ];rfl)) (hJ1_9_10 (.slice (some ado34) y444.length co34,ado34,v449) _ ⟨(by (with_reducible repeat (first | apply Kd.R_alloc | apply Kd.R_drewN | apply Kd.R_drew));exact HO446.out),(by (with_reducible repeat (first | apply Kd.R_alloc | apply Kd.R_drewN | apply Kd.R_drew));exact HO450.out),⟨_,rfl⟩,(by repeat (first | (with_reducible first | exact HB.out | apply below_alloc | apply pw_below_drewN | apply below_drew1) | exact HB.out))⟩)
                       ·skip
                        rintro ⟨v445,adz_v445,v449⟩ w33 ⟨h0_,h1_,h2_,h3_⟩
                        have n0_ : Aside0 (Kd.R Kd.string 9 w33 w.heap.size (fun _ => True) v445 y444) := ⟨h0_⟩
                        have n1_ : Aside0 (Kd.R (Kd.int .u8) 5 w33 w.heap.size (fun _ => True) v449 y448) := ⟨h1_⟩
                        have n2_ : Aside0 (∃ c_,(v445 : Value) = .slice (some adz_v445) y444.length c_) := ⟨h2_⟩
                        have n3_ : Aside0 (Below w.heap.size w w33) := ⟨h3_⟩
                        clear HB
                        clear h0_ h1_ h2_ h3_
                        have HO446 := n0_
                        have HO450 := n1_
                        have HA_HO446 := n2_
                        have HB := n3_
                        clear n0_ n1_ n2_ n3_
                        have hHeld := trivial
                        obtain ⟨co34,eo34⟩ := HA_HO446.out
                        clear HA_HO446
                        subst eo34
                        refine norm_ (a' := ?_) ?_ ?_
                        rotate_left;·simp only [Go.Proofs.YtpcljaidlihafaaW.PrintLast.putAll,Act.put,setIfInBounds_toArray,set_cons_zero,set_cons_succ];rfl
                        refine two_ (i := 6) (j := 10) (Ni := some 57) (Nj := some 61) #[true,true,true,true,true,true,true,false,true,true,false,false,false] #[true,true,true,true,true,true,false,false,true,true,true,false,false] rfl rfl rfl rfl (two_of HT_.out (by kernel_rfl)) (by decide) (by decide) (fun K hK => ?_) (fun K hK => ?_)
                        ·skip
                         (have p447 : 0 ≤ ((ji22) : Int) := of_decide_eq_true (by first | (with_reducible assumption) | assumption);have q447 : (ji22) < (y444.length : Int) := of_decide_eq_true (by first | (with_reducible assumption) | assumption);obtain ⟨ad447,e447,hx447_0⟩ := Kd.at_string (Kd.R_reads' HO446.out).2.2 (ji22) p447 q447;obtain rfl : adz_v445 = ad447 := (by injection e447))
                         refine value_ (w1 := ?_) (v := ?_) (by rfl) rfl ?_ ?_
                         rotate_left 2
                         ·go_simp
                          constructor
                          ·rfl
                          ·rfl
                         clear hx447_0
                         refine hK.out _ _ trivial (fun hHeld => ?_)
                         clear hK K
                         refine norm_ (a' := ?_) ?_ ?_
                         rotate_left;·show Act.put _ (some 57) _ = _;simp only [Act.put,setIfInBounds_toArray,set_cons_zero,set_cons_succ,i64_w,i32_w];rfl
                         refine pure_ (i := 7) (N := some 58) (v := ?_) (a' := ?_) #[true,true,true,true,true,true,true,true,true,true,false,false,false] rfl rfl (any_of HT_.out (by kernel_rfl)) (fun _ _ _ h => h) (Or.inl ⟨by rfl,?_⟩) ?_ ?_
                         rotate_left;·intro w';go_simp;skip;with_reducible rfl
                         rotate_left;·simp only [Act.put,setIfInBounds_toArray,set_cons_zero,set_cons_succ,i64_w,i32_w];rfl
                         exact norm_ (by first | (simp only [Go.Proofs.YtpcljaidlihafaaW.PrintLast.putAll,Act.put,setIfInBounds_toArray,set_cons_zero,set_cons_succ];done) | (simp only [Go.Proofs.YtpcljaidlihafaaW.PrintLast.putAll,Act.put,setIfInBounds_toArray,set_cons_zero,set_cons_succ];rfl)) (hJ1_6_9 (.slice (some adz_v445) y444.length co34,adz_v445,v449) _ ⟨(by (with_reducible repeat (first | apply Kd.R_alloc | apply Kd.R_drewN | apply Kd.R_drew));exact HO446.out),(by (with_reducible repeat (first | apply Kd.R_alloc | apply Kd.R_drewN | apply Kd.R_drew));exact HO450.out),⟨_,rfl⟩,(by repeat (first | (with_reducible first | exact HB.out | apply below_alloc | apply pw_below_drewN | apply below_drew1) | exact HB.out))⟩)
                        ·skip
                         have hcv35 := own_string (P := Try.prog) Try.underlying36 Try.underlying5 Try.underlying9 (Kd.own_of_R HO450.out)
                         refine value_ (w1 := ?_) (v := ?_) (by rfl) rfl ?_ ?_
                         rotate_left 2
                         ·go_simp
                          constructor
                          ·rfl
                          ·rfl
                         clear hcv35
                         refine hK.out _ _ trivial (fun hHeld => ?_)
                         clear hK K
                         refine norm_ (a' := ?_) ?_ ?_
                         rotate_left;·show Act.put _ (some 61) _ = _;simp only [Act.put,setIfInBounds_toArray,set_cons_zero,set_cons_succ,i64_w,i32_w];rfl
                         exact norm_ (by first | (simp only [Go.Proofs.YtpcljaidlihafaaW.PrintLast.putAll,Act.put,setIfInBounds_toArray,set_cons_zero,set_cons_succ];done) | (simp only [Go.Proofs.YtpcljaidlihafaaW.PrintLast.putAll,Act.put,setIfInBounds_toArray,set_cons_zero,set_cons_succ];rfl)) (hJ1_9_10 (.slice (some adz_v445) y444.length co34,adz_v445,v449) _ ⟨(by (with_reducible repeat (first | apply Kd.R_alloc | apply Kd.R_drewN | apply Kd.R_drew));exact HO446.out),(by (with_reducible repeat (first | apply Kd.R_alloc | apply Kd.R_drewN | apply Kd.R_drew));exact HO450.out),⟨_,rfl⟩,(by repeat (first | (with_reducible first | exact HB.out | apply below_alloc | apply pw_below_drewN | apply below_drew1) | exact HB.out))⟩)
                      ·skip
                       rintro ⟨v445,adz_v445⟩ w31 ⟨h0_,h1_,h2_⟩
                       have n0_ : Aside0 (Kd.R Kd.string 9 w31 w.heap.size (fun _ => True) v445 y444) := ⟨h0_⟩
                       have n1_ : Aside0 (∃ c_,(v445 : Value) = .slice (some adz_v445) y444.length c_) := ⟨h1_⟩
                       have n2_ : Aside0 (Below w.heap.size w w31) := ⟨h2_⟩
                       clear HB
                       clear h0_ h1_ h2_
                       have HO446 := n0_
                       have HA_HO446 := n1_
                       have HB := n2_
                       clear n0_ n1_ n2_
                       have hHeld := trivial
                       obtain ⟨co32,eo32⟩ := HA_HO446.out
                       clear HA_HO446
                       subst eo32
                       refine norm_ (a' := ?_) ?_ ?_
                       rotate_left;·simp only [Go.Proofs.YtpcljaidlihafaaW.PrintLast.putAll,Act.put,setIfInBounds_toArray,set_cons_zero,set_cons_succ];rfl
                       refine one_ (i := 9) (N := some 60) #[true,true,true,true,true,true,true,true,true,true,false,false,false] rfl rfl (one_of HT_.out (by kernel_rfl)) (by decide) (fun K hK => ?_)
                       refine Kd.R_lit_step (Kd.int .u8) _ 5 ?hg (N := 60) ?hd (xs := ([((bt (rdOf ByteArray.empty t439 (ji6)) x10_2) - 32) % 256] : List Int)) (inner := [.int .u8 (((bt (rdOf ByteArray.empty t439 (ji6)) x10_2) - 32) % 256)]) (ok := fun _ => True) (okp := fun _ => True) ?hr ?hp (fun _ hk => hk) trivial (Below.refl _ _) (Nat.le_refl _) (by simp) ?_;(case hd => rfl);(case hg => rfl);(case hr => first | (go_simp;done) | (go_simp;rfl));(case hp => exact (Reps.one (show Kd.M (Kd.int .u8) _ _ _ (((bt (rdOf ByteArray.empty t439 (ji6)) x10_2) - 32) % 256) [.int .u8 (((bt (rdOf ByteArray.empty t439 (ji6)) x10_2) - 32) % 256)] from rfl) (Reps.none _ _)))
                       intro v449 w33 ho34 hb hg_ hnew_
                       clear hg_ hnew_
                       (first | rw [← Ny448.out] at ho34 | (simp only [Int.reduceToNat] at ho34;rw [← Ny448.out] at ho34))
                       have n0_ := Aside0.mk (Kd.R_below (by (with_reducible repeat (first | apply Kd.R_alloc | apply Kd.R_drewN | apply Kd.R_drew));exact HO446.out) hb)
                       have n1_ := Aside0.mk (Kd.R_lower ho34 (below_size (by repeat (first | (with_reducible first | exact HB.out | apply below_alloc | apply pw_below_drewN | apply below_drew1) | exact HB.out))))
                       have n2_ := Aside0.mk (below_step (by repeat (first | (with_reducible first | exact HB.out | apply below_alloc | apply pw_below_drewN | apply below_drew1) | exact HB.out)) hb)
                       clear HO446
                       clear HB
                       have HO446 := n0_
                       have HO450 := n1_
                       have HB := n2_
                       clear n0_ n1_ n2_
                       clear hb ho34
                       refine hK.out _ _ trivial (fun hHeld => ?_)
                       clear hK K
                       refine norm_ (a' := ?_) ?_ ?_
                       rotate_left;·show Act.put _ (some 60) _ = _;simp only [Act.put,setIfInBounds_toArray,set_cons_zero,set_cons_succ,i64_w,i32_w];rfl
                       exact norm_ (by first | (simp only [Go.Proofs.YtpcljaidlihafaaW.PrintLast.putAll,Act.put,setIfInBounds_toArray,set_cons_zero,set_cons_succ];done) | (simp only [Go.Proofs.YtpcljaidlihafaaW.PrintLast.putAll,Act.put,setIfInBounds_toArray,set_cons_zero,set_cons_succ];rfl)) (hJ1_6_9 (.slice (some adz_v445) y444.length co32,adz_v445,v449) _ ⟨(by (with_reducible repeat (first | apply Kd.R_alloc | apply Kd.R_drewN | apply Kd.R_drew));exact HO446.out),(by (with_reducible repeat (first | apply Kd.R_alloc | apply Kd.R_drewN | apply Kd.R_drew));exact HO450.out),⟨_,rfl⟩,(by repeat (first | (with_reducible first | exact HB.out | apply below_alloc | apply pw_below_drewN | apply below_drew1) | exact HB.out))⟩)
                     ·skip
                      rintro ⟨v445,adz_v445,v449⟩ w34 ⟨h0_,h1_,h2_,h3_⟩
                      have n0_ : Aside0 (Kd.R Kd.string 9 w34 w.heap.size (fun _ => True) v445 y444) := ⟨h0_⟩
                      have n1_ : Aside0 (Kd.R (Kd.int .u8) 5 w34 w.heap.size (fun _ => True) v449 y448) := ⟨h1_⟩
                      have n2_ : Aside0 (∃ c_,(v445 : Value) = .slice (some adz_v445) y444.length c_) := ⟨h2_⟩
                      have n3_ : Aside0 (Below w.heap.size w w34) := ⟨h3_⟩
                      clear HB
                      clear h0_ h1_ h2_ h3_
                      have HO446 := n0_
                      have HO450 := n1_
                      have HA_HO446 := n2_
                      have HB := n3_
                      clear n0_ n1_ n2_ n3_
                      have hHeld := trivial
                      obtain ⟨co35,eo35⟩ := HA_HO446.out
                      clear HA_HO446
                      subst eo35
                      refine norm_ (a' := ?_) ?_ ?_
                      rotate_left;·simp only [Go.Proofs.YtpcljaidlihafaaW.PrintLast.putAll,Act.put,setIfInBounds_toArray,set_cons_zero,set_cons_succ];rfl
                      refine one_ (i := 6) (N := some 57) #[true,true,true,true,true,true,true,false,true,true,true,false,false] rfl rfl (one_of HT_.out (by kernel_rfl)) (by decide) (fun K hK => ?_)
                      (have p447 : 0 ≤ ((ji22) : Int) := of_decide_eq_true (by first | (with_reducible assumption) | assumption);have q447 : (ji22) < (y444.length : Int) := of_decide_eq_true (by first | (with_reducible assumption) | assumption);obtain ⟨ad447,e447,hx447_0⟩ := Kd.at_string (Kd.R_reads' HO446.out).2.2 (ji22) p447 q447;obtain rfl : adz_v445 = ad447 := (by injection e447))
                      refine value_ (w1 := ?_) (v := ?_) (by rfl) rfl ?_ ?_
                      rotate_left 2
                      ·go_simp
                       constructor
                       ·rfl
                       ·rfl
                      clear hx447_0
                      refine hK.out _ _ trivial (fun hHeld => ?_)
                      clear hK K
                      refine norm_ (a' := ?_) ?_ ?_
                      rotate_left;·show Act.put _ (some 57) _ = _;simp only [Act.put,setIfInBounds_toArray,set_cons_zero,set_cons_succ,i64_w,i32_w];rfl
                      refine pure_ (i := 7) (N := some 58) (v := ?_) (a' := ?_) #[true,true,true,true,true,true,true,true,true,true,true,false,false] rfl rfl (any_of HT_.out (by kernel_rfl)) (fun _ _ _ h => h) (Or.inl ⟨by rfl,?_⟩) ?_ ?_
                      rotate_left;·intro w';go_simp;skip;with_reducible rfl
                      rotate_left;·simp only [Act.put,setIfInBounds_toArray,set_cons_zero,set_cons_succ,i64_w,i32_w];rfl
                      exact norm_ (by first | (simp only [Go.Proofs.YtpcljaidlihafaaW.PrintLast.putAll,Act.put,setIfInBounds_toArray,set_cons_zero,set_cons_succ];done) | (simp only [Go.Proofs.YtpcljaidlihafaaW.PrintLast.putAll,Act.put,setIfInBounds_toArray,set_cons_zero,set_cons_succ];rfl)) (hJ1_6_9_10 (.slice (some adz_v445) y444.length co35,adz_v445,v449) _ ⟨(by (with_reducible repeat (first | apply Kd.R_alloc | apply Kd.R_drewN | apply Kd.R_drew));exact HO446.out),(by (with_reducible repeat (first | apply Kd.R_alloc | apply Kd.R_drewN | apply Kd.R_drew));exact HO450.out),⟨_,rfl⟩,(by repeat (first | (with_reducible first | exact HB.out | apply below_alloc | apply pw_below_drewN | apply below_drew1) | exact HB.out))⟩)
                    ·skip
                     rintro ⟨v445,adz_v445,v449⟩ w33 ⟨h0_,h1_,h2_,h3_⟩
                     have n0_ : Aside0 (Kd.R Kd.string 9 w33 w.heap.size (fun _ => True) v445 y444) := ⟨h0_⟩
                     have n1_ : Aside0 (Kd.R (Kd.int .u8) 5 w33 w.heap.size (fun _ => True) v449 y448) := ⟨h1_⟩
                     have n2_ : Aside0 (∃ c_,(v445 : Value) = .slice (some adz_v445) y444.length c_) := ⟨h2_⟩
                     have n3_ : Aside0 (Below w.heap.size w w33) := ⟨h3_⟩
                     clear HB
                     clear h0_ h1_ h2_ h3_
                     have HO446 := n0_
                     have HO450 := n1_
                     have HA_HO446 := n2_
                     have HB := n3_
                     clear n0_ n1_ n2_ n3_
                     have hHeld := trivial
                     obtain ⟨co34,eo34⟩ := HA_HO446.out
                     clear HA_HO446
                     subst eo34
                     refine norm_ (a' := ?_) ?_ ?_
                     rotate_left;·simp only [Go.Proofs.YtpcljaidlihafaaW.PrintLast.putAll,Act.put,setIfInBounds_toArray,set_cons_zero,set_cons_succ];rfl
                     refine one_ (i := 10) (N := some 61) #[true,true,true,true,true,true,true,true,true,true,true,false,false] rfl rfl (one_of HT_.out (by kernel_rfl)) (by decide) (fun K hK => ?_)
                     have hcv35 := own_string (P := Try.prog) Try.underlying36 Try.underlying5 Try.underlying9 (Kd.own_of_R HO450.out)
                     refine value_ (w1 := ?_) (v := ?_) (by rfl) rfl ?_ ?_
                     rotate_left 2
                     ·go_simp
                      constructor
                      ·rfl
                      ·rfl
                     clear hcv35
                     refine hK.out _ _ trivial (fun hHeld => ?_)
                     clear hK K
                     refine norm_ (a' := ?_) ?_ ?_
                     rotate_left;·show Act.put _ (some 61) _ = _;simp only [Act.put,setIfInBounds_toArray,set_cons_zero,set_cons_succ,i64_w,i32_w];rfl
                     exact norm_ (by first | (simp only [Go.Proofs.YtpcljaidlihafaaW.PrintLast.putAll,Act.put,setIfInBounds_toArray,set_cons_zero,set_cons_succ];done) | (simp only [Go.Proofs.YtpcljaidlihafaaW.PrintLast.putAll,Act.put,setIfInBounds_toArray,set_cons_zero,set_cons_succ];rfl)) (hJ1_6_9_10 (.slice (some adz_v445) y444.length co34,adz_v445,v449) _ ⟨(by (with_reducible repeat (first | apply Kd.R_alloc | apply Kd.R_drewN | apply Kd.R_drew));exact HO446.out),(by (with_reducible repeat (first | apply Kd.R_alloc | apply Kd.R_drewN | apply Kd.R_drew));exact HO450.out),⟨_,rfl⟩,(by repeat (first | (with_reducible first | exact HB.out | apply below_alloc | apply pw_below_drewN | apply below_drew1) | exact HB.out))⟩)
                   rintro ⟨v445,adz_v445,v449⟩ w34 ⟨h0_,h1_,h2_,h3_⟩
                   have n0_ : Aside0 (Kd.R Kd.string 9 w34 w.heap.size (fun _ => True) v445 y444) := ⟨h0_⟩
                   have n1_ : Aside0 (Kd.R (Kd.int .u8) 5 w34 w.heap.size (fun _ => True) v449 y448) := ⟨h1_⟩
                   have n2_ : Aside0 (∃ c_,(v445 : Value) = .slice (some adz_v445) y444.length c_) := ⟨h2_⟩
                   have n3_ : Aside0 (Below w.heap.size w w34) := ⟨h3_⟩
                   clear HB
                   clear h0_ h1_ h2_ h3_
                   have HO446 := n0_
                   have HO450 := n1_
                   have HA_HO446 := n2_
                   have HB := n3_
                   clear n0_ n1_ n2_ n3_
                   have hHeld := trivial
                   obtain ⟨co35,eo35⟩ := HA_HO446.out
                   clear HA_HO446
                   subst eo35
                   refine norm_ (a' := ?_) ?_ ?_
                   rotate_left;·simp only [Go.Proofs.YtpcljaidlihafaaW.PrintLast.putAll,Act.put,setIfInBounds_toArray,set_cons_zero,set_cons_succ];rfl
                   refine pure_ (i := 11) (N := some 62) (v := ?_) (a' := ?_) #[true,true,true,true,true,true,true,true,true,true,true,true,false] rfl rfl (any_of HT_.out (by kernel_rfl)) (fun _ _ _ h => h) (Or.inl ⟨by rfl,?_⟩) ?_ ?_
                   rotate_left;·intro w';go_simp;rw [if_neg (by have h_ := c26;rw [ByteArray.size_append] at h_;omega)]
                   rotate_left;·simp only [Act.put,setIfInBounds_toArray,set_cons_zero,set_cons_succ,i64_w,i32_w];rfl
                   refine pure_ (i := 12) (N := some 9) (v := ?_) (a' := ?_) #[true,true,true,true,true,true,true,true,true,true,true,true,true] rfl rfl (any_of HT_.out (by kernel_rfl)) (fun _ _ _ h => h) (Or.inl ⟨by rfl,?_⟩) ?_ ?_
                   rotate_left;·intro w';go_simp;skip;with_reducible rfl
                   rotate_left;·simp only [Act.put,setIfInBounds_toArray,set_cons_zero,set_cons_succ,i64_w,i32_w];rfl
                   refine done_ (done_of HT_.out (by kernel_rfl)) ?_
                   try go_wp2
                   go_roundg k2
                   case measure => have := HJ8.out;have := HK2.out;omega
                   case rel => exact ⟨((x9_2 ++ (rdOf ByteArray.empty y444 (ji22))) ++ (strOfNums y448)),(wrap64 (x10_2 + 1)),(by first | rfl | (simp;done) | (simp only [← hji22] <;> (first | rfl | simp)) | (simp [*];done)),(by first | rfl | (simp;done) | (simp [*];done)),H',⟨by have := HJ8.out;have := HK2.out;omega⟩,⟨by repeat (first | (with_reducible first | exact HB.out | apply below_alloc | apply pw_below_drewN | apply below_drew1) | exact HB.out)⟩⟩
                  ·rw [if_neg c26] at H
                   exact absurd H (by simp)
                 ·rw [if_neg c25] at H
                  exact absurd H (by simp)
                ·rw [if_neg c24] at H
                 exact absurd H (by simp)
               ·rw [if_neg c23] at H
                exact absurd H (by simp)
              ·rw [if_neg c21] at H
               have c21b0 : ((Int.tmod (rd l1 (ji18)) 2) == 1) = false := beq_eq_false_iff_ne.mpr c21
               have c21b1 : ((Int.tmod (rd l1 (ji18)) 2) != 1) = true := bne_iff_ne.mpr c21
               obtain ⟨y451,hy451⟩ : ∃ y_ : List ByteArray,y_ = (([(⟨#[]⟩ : ByteArray),(⟨#[45]⟩ : ByteArray),(⟨#[95]⟩ : ByteArray),(⟨#[32]⟩ : ByteArray)] : List ByteArray)) := ⟨_,rfl⟩
               replace H : (if 0 ≤ (((Int.tdiv (rd l1 (ji18)) 2) % 256) % 4) then (if (((Int.tdiv (rd l1 (ji18)) 2) % 256) % 4) < (y451.length : Int) then (if x9_2.size + (rdOf ByteArray.empty y451 (((Int.tdiv (rd l1 (ji18)) 2) % 256) % 4)).size ≤ 9223372036854775807 then ((some (([bt (rdOf ByteArray.empty t439 (ji6)) x10_2] : List Int) : List Int)).bind fun y455 => (if (x9_2 ++ (rdOf ByteArray.empty y451 (((Int.tdiv (rd l1 (ji18)) 2) % 256) % 4))).size + (strOfNums y455).size ≤ 9223372036854775807 then (glyphcutterlaw05_PropsLoose.l0 k2 l1 (rdOf ByteArray.empty t439 (ji6)) ((x9_2 ++ (rdOf ByteArray.empty y451 (((Int.tdiv (rd l1 (ji18)) 2) % 256) % 4))) ++ (strOfNums y455)) (wrap64 (x10_2 + 1))) else (none))) else (none)) else (none)) else (none)) = some r := by first | (rw [hy451];with_reducible exact H) | (have H2_ := (Option.bind_some _ _).symm.trans H;rw [hy451];with_reducible exact H2_) | (have H2_ := (Option.bind_some _ _).symm.trans H;with_reducible exact H2_) | with_reducible exact H | (rw [hy451];exact H) | exact H
               have Ny451 := Aside0.mk hy451
               clear hy451
               obtain ⟨ji36,hji36⟩ : ∃ j_ : Int,(((Int.tdiv (rd l1 (ji18)) 2) % 256) % 4) = j_ := ⟨_,rfl⟩
               replace H : (if 0 ≤ (ji36) then (if (ji36) < (y451.length : Int) then (if x9_2.size + (rdOf ByteArray.empty y451 (ji36)).size ≤ 9223372036854775807 then ((some (([bt (rdOf ByteArray.empty t439 (ji6)) x10_2] : List Int) : List Int)).bind fun y455 => (if (x9_2 ++ (rdOf ByteArray.empty y451 (ji36))).size + (strOfNums y455).size ≤ 9223372036854775807 then (glyphcutterlaw05_PropsLoose.l0 k2 l1 (rdOf ByteArray.empty t439 (ji6)) ((x9_2 ++ (rdOf ByteArray.empty y451 (ji36))) ++ (strOfNums y455)) (wrap64 (x10_2 + 1))) else (none))) else (none)) else (none)) else (none)) = some r := by first | (rw [hji36] at H;exact H) | (simp only [hji36] at H ⊢;exact H)
               by_cases c37 : 0 ≤ (ji36)
               ·rw [if_pos c37] at H
                have c37b0 : decide (0 ≤ (ji36)) = true := decide_eq_true c37
                clear c37
                by_cases c38 : (ji36) < (y451.length : Int)
                ·rw [if_pos c38] at H
                 have c38b0 : decide ((ji36) < (y451.length : Int)) = true := decide_eq_true c38
                 clear c38
                 by_cases c39 : x9_2.size + (rdOf ByteArray.empty y451 (ji36)).size ≤ 9223372036854775807
                 ·rw [if_pos c39] at H
                  have c39b0 := eq_true c39
                  have c39b1 : decide (x9_2.size + (rdOf ByteArray.empty y451 (ji36)).size ≤ 9223372036854775807) = true := decide_eq_true c39
                  try have c39b2 : (9223372036854775807 < x9_2.size + (rdOf ByteArray.empty y451 (ji36)).size) = False := eq_false (Nat.not_lt.2 c39)
                  obtain ⟨y455,hy455⟩ : ∃ y_ : List Int,y_ = (([bt (rdOf ByteArray.empty t439 (ji6)) x10_2] : List Int)) := ⟨_,rfl⟩
                  replace H : (if (x9_2 ++ (rdOf ByteArray.empty y451 (ji36))).size + (strOfNums y455).size ≤ 9223372036854775807 then (glyphcutterlaw05_PropsLoose.l0 k2 l1 (rdOf ByteArray.empty t439 (ji6)) ((x9_2 ++ (rdOf ByteArray.empty y451 (ji36))) ++ (strOfNums y455)) (wrap64 (x10_2 + 1))) else (none)) = some r := by first | (rw [hy455];with_reducible exact H) | (have H2_ := (Option.bind_some _ _).symm.trans H;rw [hy455];with_reducible exact H2_) | (have H2_ := (Option.bind_some _ _).symm.trans H;with_reducible exact H2_) | with_reducible exact H | (rw [hy455];exact H) | exact H
                  have Ny455 := Aside0.mk hy455
                  clear hy455
                  by_cases c40 : (x9_2 ++ (rdOf ByteArray.empty y451 (ji36))).size + (strOfNums y455).size ≤ 9223372036854775807
                  ·rw [if_pos c40] at H
                   have c40b0 := eq_true c40
                   have c40b1 : decide ((x9_2 ++ (rdOf ByteArray.empty y451 (ji36))).size + (strOfNums y455).size ≤ 9223372036854775807) = true := decide_eq_true c40
                   try have c40b2 : (9223372036854775807 < (x9_2 ++ (rdOf ByteArray.empty y451 (ji36))).size + (strOfNums y455).size) = False := eq_false (Nat.not_lt.2 c40)
                   have H' := Aside0.mk H
                   clear H
                   have p15 : 0 ≤ (x10_2 : Int) := of_decide_eq_true (by first | (with_reducible assumption) | assumption)
                   have q15 : x10_2 < ((rdOf ByteArray.empty t439 (ji6)).size : Int) := of_decide_eq_true (by first | (with_reducible assumption) | assumption)
                   have hx15 := bt_at (rdOf ByteArray.empty t439 (ji6)) x10_2
                   replace p15 := eq_true p15
                   replace q15 := eq_true q15
                   have p443 : 0 ≤ ((ji18) : Int) := of_decide_eq_true (by first | (with_reducible assumption) | assumption)
                   have q443 : (ji18) < (l1.length : Int) := of_decide_eq_true (by first | (with_reducible assumption) | assumption)
                   obtain ⟨ad443,e443,hx443_0⟩ := Kd.at_int HR1.out (ji18) p443 q443
                   cases e443
                   replace hx443_0 := (HB.out.cell (World.block_lt_of_cell? w _ hx443_0)).trans hx443_0
                   replace p443 := eq_true p443
                   replace q443 := eq_true q443
                   try go_wp2
                   have pi454 : (0 ≤ ((ji36) : Int)) = True := eq_true (of_decide_eq_true (by first | (with_reducible assumption) | assumption))
                   have qi454 : ((ji36) < (y451.length : Int)) = True := eq_true (of_decide_eq_true (by first | (with_reducible assumption) | assumption))
                   have n0_ := Aside0.mk (below_drew1 HB.out)
                   clear HB
                   have HB := n0_
                   clear n0_
                   refine start_ (n := 13) (S := fun w' => True) (ds := []) #[false,false,false,false,false,false,false,false,false,false,false,false,false] (by kernel_rfl) rfl rfl trivial (fun hHeld => ?_);refine with_tabW glyphcutterlaw05_PropsLoose.tab15 glyphcutterlaw05_PropsLoose.bits15 (fun HT_ HW_ => ?_)
                   generalize wr.drew = w41 at HB hHeld ⊢
                   refine pure_ (i := 0) (N := some 51) (v := ?_) (a' := ?_) #[true,false,false,false,false,false,false,false,false,false,false,false,false] rfl rfl (any_of HT_.out (by kernel_rfl)) (fun _ _ _ h => h) (Or.inl ⟨by rfl,?_⟩) ?_ ?_
                   rotate_left;·intro w';go_simp;skip;with_reducible rfl
                   rotate_left;·simp only [Act.put,setIfInBounds_toArray,set_cons_zero,set_cons_succ,i64_w,i32_w];rfl
                   refine pure_ (i := 2) (N := some 53) (v := ?_) (a' := ?_) #[true,false,true,false,false,false,false,false,false,false,false,false,false] rfl rfl (any_of HT_.out (by kernel_rfl)) (fun _ _ _ h => h) (Or.inl ⟨by rfl,?_⟩) ?_ ?_
                   rotate_left;·intro w';go_simp;skip;with_reducible rfl
                   rotate_left;·simp only [Act.put,setIfInBounds_toArray,set_cons_zero,set_cons_succ,i64_w,i32_w];rfl
                   refine pure_ (i := 3) (N := some 54) (v := ?_) (a' := ?_) #[true,false,true,true,false,false,false,false,false,false,false,false,false] rfl rfl (any_of HT_.out (by kernel_rfl)) (fun _ _ _ h => h) (Or.inl ⟨by rfl,?_⟩) ?_ ?_
                   rotate_left;·intro w';go_simp;skip;with_reducible rfl
                   rotate_left;·simp only [Act.put,setIfInBounds_toArray,set_cons_zero,set_cons_succ,i64_w,i32_w];rfl
                   refine pure_ (i := 4) (N := some 55) (v := ?_) (a' := ?_) #[true,false,true,true,true,false,false,false,false,false,false,false,false] rfl rfl (any_of HT_.out (by kernel_rfl)) (fun _ _ _ h => h) (Or.inl ⟨by rfl,?_⟩) ?_ ?_
                   rotate_left;·intro w';go_simp;skip;with_reducible rfl
                   rotate_left;·simp only [Act.put,setIfInBounds_toArray,set_cons_zero,set_cons_succ,i64_w,i32_w];rfl
                   refine pure_ (i := 8) (N := some 59) (v := ?_) (a' := ?_) #[true,false,true,true,true,false,false,false,true,false,false,false,false] rfl rfl (any_of HT_.out (by kernel_rfl)) (fun _ _ _ h => h) (Or.inl ⟨by rfl,?_⟩) ?_ ?_
                   rotate_left;·intro w';go_simp;skip;with_reducible rfl
                   rotate_left;·simp only [Act.put,setIfInBounds_toArray,set_cons_zero,set_cons_succ,i64_w,i32_w];rfl
                   refine join_ (σ := Value × Addr × Value) 2 #[true,true,true,true,true,true,true,true,true,true,true,false,false] (fun s_ => [(52,s_.1),(57,.string (rdOf ByteArray.empty y451 (ji36))),(60,s_.2.2),(61,.string (strOfNums y455)),(56,.pointer (some (s_.2.1.add ((ji36)).toNat))),(58,.string (x9_2 ++ (rdOf ByteArray.empty y451 (ji36))))]) (fun s_ w' => (Kd.R Kd.string 9 w' w.heap.size (fun _ => True) s_.1 y451) ∧ (Kd.R (Kd.int .u8) 5 w' w.heap.size (fun _ => True) s_.2.2 y455) ∧ (∃ c_,(s_.1 : Value) = .slice (some s_.2.1) y451.length c_) ∧ (Below w.heap.size w w')) ?_ ?_
                   rotate_left
                   ·intro hJ1_6_9_10
                    refine join_ (σ := Value × Addr × Value) 3 #[true,true,true,true,true,true,true,true,true,true,false,false,false] (fun s_ => [(52,s_.1),(57,.string (rdOf ByteArray.empty y451 (ji36))),(60,s_.2.2),(56,.pointer (some (s_.2.1.add ((ji36)).toNat))),(58,.string (x9_2 ++ (rdOf ByteArray.empty y451 (ji36))))]) (fun s_ w' => (Kd.R Kd.string 9 w' w.heap.size (fun _ => True) s_.1 y451) ∧ (Kd.R (Kd.int .u8) 5 w' w.heap.size (fun _ => True) s_.2.2 y455) ∧ (∃ c_,(s_.1 : Value) = .slice (some s_.2.1) y451.length c_) ∧ (Below w.heap.size w w')) ?_ ?_
                    rotate_left
                    ·intro hJ1_6_9
                     refine join_ (σ := Value × Addr × Value) 4 #[true,true,true,true,true,true,false,false,true,true,true,false,false] (fun s_ => [(52,s_.1),(60,s_.2.2),(61,.string (strOfNums y455)),(56,.pointer (some (s_.2.1.add ((ji36)).toNat)))]) (fun s_ w' => (Kd.R Kd.string 9 w' w.heap.size (fun _ => True) s_.1 y451) ∧ (Kd.R (Kd.int .u8) 5 w' w.heap.size (fun _ => True) s_.2.2 y455) ∧ (∃ c_,(s_.1 : Value) = .slice (some s_.2.1) y451.length c_) ∧ (Below w.heap.size w w')) ?_ ?_
                     rotate_left
                     ·intro hJ1_9_10
                      refine join_ (σ := Value × Addr) 4 #[true,true,true,true,true,true,true,true,true,false,false,false,false] (fun s_ => [(52,s_.1),(57,.string (rdOf ByteArray.empty y451 (ji36))),(56,.pointer (some (s_.2.add ((ji36)).toNat))),(58,.string (x9_2 ++ (rdOf ByteArray.empty y451 (ji36))))]) (fun s_ w' => (Kd.R Kd.string 9 w' w.heap.size (fun _ => True) s_.1 y451) ∧ (∃ c_,(s_.1 : Value) = .slice (some s_.2) y451.length c_) ∧ (Below w.heap.size w w')) ?_ ?_
                      rotate_left
                      ·intro hJ1_6
                       refine join_ (σ := Value × Addr × Value) 5 #[true,true,true,true,true,true,false,false,true,true,false,false,false] (fun s_ => [(52,s_.1),(60,s_.2.2),(56,.pointer (some (s_.2.1.add ((ji36)).toNat)))]) (fun s_ w' => (Kd.R Kd.string 9 w' w.heap.size (fun _ => True) s_.1 y451) ∧ (Kd.R (Kd.int .u8) 5 w' w.heap.size (fun _ => True) s_.2.2 y455) ∧ (∃ c_,(s_.1 : Value) = .slice (some s_.2.1) y451.length c_) ∧ (Below w.heap.size w w')) ?_ ?_
                       rotate_left
                       ·intro hJ1_9
                        refine join_ (σ := Value) 6 #[true,false,true,true,true,false,false,false,true,true,true,false,false] (fun s_ => [(60,s_),(61,.string (strOfNums y455))]) (fun s_ w' => (Kd.R (Kd.int .u8) 5 w' w.heap.size (fun _ => True) s_ y455) ∧ (Below w.heap.size w w')) ?_ ?_
                        rotate_left
                        ·intro hJ9_10
                         refine join_ (σ := Value × Addr) 6 #[true,true,true,true,true,true,false,false,true,false,false,false,false] (fun s_ => [(52,s_.1),(56,.pointer (some (s_.2.add ((ji36)).toNat)))]) (fun s_ w' => (Kd.R Kd.string 9 w' w.heap.size (fun _ => True) s_.1 y451) ∧ (∃ c_,(s_.1 : Value) = .slice (some s_.2) y451.length c_) ∧ (Below w.heap.size w w')) ?_ ?_
                         rotate_left
                         ·intro hJ1
                          refine join_ (σ := Value) 7 #[true,false,true,true,true,false,false,false,true,true,false,false,false] (fun s_ => [(60,s_)]) (fun s_ w' => (Kd.R (Kd.int .u8) 5 w' w.heap.size (fun _ => True) s_ y455) ∧ (Below w.heap.size w w')) ?_ ?_
                          rotate_left
                          ·intro hJ9
                           refine two_ (i := 1) (j := 9) (Ni := some 52) (Nj := some 60) #[true,true,true,true,true,false,false,false,true,false,false,false,false] #[true,false,true,true,true,false,false,false,true,true,false,false,false] rfl rfl rfl rfl (two_of HT_.out (by kernel_rfl)) (by decide) (by decide) (fun K hK => ?_) (fun K hK => ?_)
                           ·skip
                            refine Kd.R_lit_step Kd.string _ 9 ?hg (N := 52) ?hd (xs := ([(⟨#[]⟩ : ByteArray),(⟨#[45]⟩ : ByteArray),(⟨#[95]⟩ : ByteArray),(⟨#[32]⟩ : ByteArray)] : List ByteArray)) (inner := [.string (⟨#[]⟩ : ByteArray),.string (⟨#[45]⟩ : ByteArray),.string (⟨#[95]⟩ : ByteArray),.string (⟨#[32]⟩ : ByteArray)]) (ok := fun _ => True) (okp := fun _ => True) ?hr ?hp (fun _ hk => hk) trivial (Below.refl _ _) (Nat.le_refl _) (by simp) ?_;(case hd => rfl);(case hg => rfl);(case hr => first | (go_simp;done) | (go_simp;rfl));(case hp => exact (Reps.one (show Kd.M Kd.string _ _ _ (⟨#[]⟩ : ByteArray) [.string (⟨#[]⟩ : ByteArray)] from rfl) (Reps.one (show Kd.M Kd.string _ _ _ (⟨#[45]⟩ : ByteArray) [.string (⟨#[45]⟩ : ByteArray)] from rfl) (Reps.one (show Kd.M Kd.string _ _ _ (⟨#[95]⟩ : ByteArray) [.string (⟨#[95]⟩ : ByteArray)] from rfl) (Reps.one (show Kd.M Kd.string _ _ _ (⟨#[32]⟩ : ByteArray) [.string (⟨#[32]⟩ : ByteArray)] from rfl) (Reps.none _ _))))))
                            intro v452 w42 ho43 hb hg_ hnew_
                            clear hg_ hnew_
                            (first | rw [← Ny451.out] at ho43 | (simp only [Int.reduceToNat] at ho43;rw [← Ny451.out] at ho43))
                            have n0_ := Aside0.mk (Kd.R_lower ho43 (below_size (by repeat (first | (with_reducible first | exact HB.out | apply below_alloc | apply pw_below_drewN | apply below_drew1) | exact HB.out))))
                            have n1_ := Aside0.mk (below_step (by repeat (first | (with_reducible first | exact HB.out | apply below_alloc | apply pw_below_drewN | apply below_drew1) | exact HB.out)) hb)
                            clear HB
                            have HO453 := n0_
                            have HB := n1_
                            clear n0_ n1_
                            clear hb ho43
                            obtain ⟨Ao44,co44,eo44⟩ := Kd.R_slice HO453.out
                            subst eo44
                            obtain ⟨ado44,fo44,_⟩ := Kd.at_string (Kd.R_reads' HO453.out).2.2 0 (by decide) (by rw [Ny451.out];simp)
                            cases fo44
                            refine hK.out _ _ trivial (fun hHeld => ?_)
                            clear hK K
                            refine norm_ (a' := ?_) ?_ ?_
                            rotate_left;·show Act.put _ (some 52) _ = _;simp only [Act.put,setIfInBounds_toArray,set_cons_zero,set_cons_succ,i64_w,i32_w];rfl
                            refine pure_ (i := 5) (N := some 56) (v := ?_) (a' := ?_) #[true,true,true,true,true,true,false,false,true,false,false,false,false] rfl rfl (any_of HT_.out (by kernel_rfl)) (fun _ _ _ h => h) (Or.inl ⟨by rfl,?_⟩) ?_ ?_
                            rotate_left;·intro w';go_simp;rw [u8tm,hji36,if_pos ⟨of_eq_true pi454,of_eq_true qi454⟩]
                            rotate_left;·simp only [Act.put,setIfInBounds_toArray,set_cons_zero,set_cons_succ,i64_w,i32_w];rfl
                            exact norm_ (by first | (simp only [Go.Proofs.YtpcljaidlihafaaW.PrintLast.putAll,Act.put,setIfInBounds_toArray,set_cons_zero,set_cons_succ];done) | (simp only [Go.Proofs.YtpcljaidlihafaaW.PrintLast.putAll,Act.put,setIfInBounds_toArray,set_cons_zero,set_cons_succ];rfl)) (hJ1 (.slice (some ado44) y451.length co44,ado44) _ ⟨(by (with_reducible repeat (first | apply Kd.R_alloc | apply Kd.R_drewN | apply Kd.R_drew));exact HO453.out),⟨_,rfl⟩,(by repeat (first | (with_reducible first | exact HB.out | apply below_alloc | apply pw_below_drewN | apply below_drew1) | exact HB.out))⟩)
                           ·skip
                            refine Kd.R_lit_step (Kd.int .u8) _ 5 ?hg (N := 60) ?hd (xs := ([bt (rdOf ByteArray.empty t439 (ji6)) x10_2] : List Int)) (inner := [.int .u8 (bt (rdOf ByteArray.empty t439 (ji6)) x10_2)]) (ok := fun _ => True) (okp := fun _ => True) ?hr ?hp (fun _ hk => hk) trivial (Below.refl _ _) (Nat.le_refl _) (by simp) ?_;(case hd => rfl);(case hg => rfl);(case hr => first | (go_simp;done) | (go_simp;rfl));(case hp => exact (Reps.one (show Kd.M (Kd.int .u8) _ _ _ (bt (rdOf ByteArray.empty t439 (ji6)) x10_2) [.int .u8 (bt (rdOf ByteArray.empty t439 (ji6)) x10_2)] from rfl) (Reps.none _ _)))
                            intro v456 w42 ho43 hb hg_ hnew_
                            clear hg_ hnew_
                            (first | rw [← Ny455.out] at ho43 | (simp only [Int.reduceToNat] at ho43;rw [← Ny455.out] at ho43))
                            have n0_ := Aside0.mk (Kd.R_lower ho43 (below_size (by repeat (first | (with_reducible first | exact HB.out | apply below_alloc | apply pw_below_drewN | apply below_drew1) | exact HB.out))))
                            have n1_ := Aside0.mk (below_step (by repeat (first | (with_reducible first | exact HB.out | apply below_alloc | apply pw_below_drewN | apply below_drew1) | exact HB.out)) hb)
                            clear HB
                            have HO457 := n0_
                            have HB := n1_
                            clear n0_ n1_
                            clear hb ho43
                            refine hK.out _ _ trivial (fun hHeld => ?_)
                            clear hK K
                            refine norm_ (a' := ?_) ?_ ?_
                            rotate_left;·show Act.put _ (some 60) _ = _;simp only [Act.put,setIfInBounds_toArray,set_cons_zero,set_cons_succ,i64_w,i32_w];rfl
                            exact norm_ (by first | (simp only [Go.Proofs.YtpcljaidlihafaaW.PrintLast.putAll,Act.put,setIfInBounds_toArray,set_cons_zero,set_cons_succ];done) | (simp only [Go.Proofs.YtpcljaidlihafaaW.PrintLast.putAll,Act.put,setIfInBounds_toArray,set_cons_zero,set_cons_succ];rfl)) (hJ9 (v456) _ ⟨(by (with_reducible repeat (first | apply Kd.R_alloc | apply Kd.R_drewN | apply Kd.R_drew));exact HO457.out),(by repeat (first | (with_reducible first | exact HB.out | apply below_alloc | apply pw_below_drewN | apply below_drew1) | exact HB.out))⟩)
                          ·skip
                           rintro v456 w44 ⟨h0_,h1_⟩
                           have n0_ : Aside0 (Kd.R (Kd.int .u8) 5 w44 w.heap.size (fun _ => True) v456 y455) := ⟨h0_⟩
                           have n1_ : Aside0 (Below w.heap.size w w44) := ⟨h1_⟩
                           clear HB
                           clear h0_ h1_
                           have HO457 := n0_
                           have HB := n1_
                           clear n0_ n1_
                           have hHeld := trivial
                           refine norm_ (a' := ?_) ?_ ?_
                           rotate_left;·simp only [Go.Proofs.YtpcljaidlihafaaW.PrintLast.putAll,Act.put,setIfInBounds_toArray,set_cons_zero,set_cons_succ];rfl
                           refine two_ (i := 1) (j := 10) (Ni := some 52) (Nj := some 61) #[true,true,true,true,true,false,false,false,true,true,false,false,false] #[true,false,true,true,true,false,false,false,true,true,true,false,false] rfl rfl rfl rfl (two_of HT_.out (by kernel_rfl)) (by decide) (by decide) (fun K hK => ?_) (fun K hK => ?_)
                           ·skip
                            refine Kd.R_lit_step Kd.string _ 9 ?hg (N := 52) ?hd (xs := ([(⟨#[]⟩ : ByteArray),(⟨#[45]⟩ : ByteArray),(⟨#[95]⟩ : ByteArray),(⟨#[32]⟩ : ByteArray)] : List ByteArray)) (inner := [.string (⟨#[]⟩ : ByteArray),.string (⟨#[45]⟩ : ByteArray),.string (⟨#[95]⟩ : ByteArray),.string (⟨#[32]⟩ : ByteArray)]) (ok := fun _ => True) (okp := fun _ => True) ?hr ?hp (fun _ hk => hk) trivial (Below.refl _ _) (Nat.le_refl _) (by simp) ?_;(case hd => rfl);(case hg => rfl);(case hr => first | (go_simp;done) | (go_simp;rfl));(case hp => exact (Reps.one (show Kd.M Kd.string _ _ _ (⟨#[]⟩ : ByteArray) [.string (⟨#[]⟩ : ByteArray)] from rfl) (Reps.one (show Kd.M Kd.string _ _ _ (⟨#[45]⟩ : ByteArray) [.string (⟨#[45]⟩ : ByteArray)] from rfl) (Reps.one (show Kd.M Kd.string _ _ _ (⟨#[95]⟩ : ByteArray) [.string (⟨#[95]⟩ : ByteArray)] from rfl) (Reps.one (show Kd.M Kd.string _ _ _ (⟨#[32]⟩ : ByteArray) [.string (⟨#[32]⟩ : ByteArray)] from rfl) (Reps.none _ _))))))
                            intro v452 w45 ho46 hb hg_ hnew_
                            clear hg_ hnew_
                            (first | rw [← Ny451.out] at ho46 | (simp only [Int.reduceToNat] at ho46;rw [← Ny451.out] at ho46))
                            have n0_ := Aside0.mk (Kd.R_below (by (with_reducible repeat (first | apply Kd.R_alloc | apply Kd.R_drewN | apply Kd.R_drew));exact HO457.out) hb)
                            have n1_ := Aside0.mk (Kd.R_lower ho46 (below_size (by repeat (first | (with_reducible first | exact HB.out | apply below_alloc | apply pw_below_drewN | apply below_drew1) | exact HB.out))))
                            have n2_ := Aside0.mk (below_step (by repeat (first | (with_reducible first | exact HB.out | apply below_alloc | apply pw_below_drewN | apply below_drew1) | exact HB.out)) hb)
                            clear HO457
                            clear HB
                            have HO457 := n0_
                            have HO453 := n1_
                            have HB := n2_
                            clear n0_ n1_ n2_
                            clear hb ho46
                            obtain ⟨Ao47,co47,eo47⟩ := Kd.R_slice HO453.out
                            subst eo47
                            obtain ⟨ado47,fo47,_⟩ := Kd.at_string (Kd.R_reads' HO453.out).2.2 0 (by decide) (by rw [Ny451.out];simp)
                            cases fo47
                            refine hK.out _ _ trivial (fun hHeld => ?_)
                            clear hK K
                            refine norm_ (a' := ?_) ?_ ?_
                            rotate_left;·show Act.put _ (some 52) _ = _;simp only [Act.put,setIfInBounds_toArray,set_cons_zero,set_cons_succ,i64_w,i32_w];rfl
                            refine pure_ (i := 5) (N := some 56) (v := ?_) (a' := ?_) #[true,true,true,true,true,true,false,false,true,true,false,false,false] rfl rfl (any_of HT_.out (by kernel_rfl)) (fun _ _ _ h => h) (Or.inl ⟨by rfl,?_⟩) ?_ ?_
                            rotate_left;·intro w';go_simp;rw [u8tm,hji36,if_pos ⟨of_eq_true pi454,of_eq_true qi454⟩]
                            rotate_left;·simp only [Act.put,setIfInBounds_toArray,set_cons_zero,set_cons_succ,i64_w,i32_w];rfl
                            exact norm_ (by first | (simp only [Go.Proofs.YtpcljaidlihafaaW.PrintLast.putAll,Act.put,setIfInBounds_toArray,set_cons_zero,set_cons_succ];done) | (simp only [Go.Proofs.YtpcljaidlihafaaW.PrintLast.putAll,Act.put,setIfInBounds_toArray,set_cons_zero,set_cons_succ];rfl)) (hJ1_9 (.slice (some ado47) y451.length co47,ado47,v456) _ ⟨(by (with_reducible repeat (first | apply Kd.R_alloc | apply Kd.R_drewN | apply Kd.R_drew));exact HO453.out),(by (with_reducible repeat (first | apply Kd.R_alloc | apply Kd.R_drewN | apply Kd.R_drew));exact HO457.out),⟨_,rfl⟩,(by repeat (first | (with_reducible first | exact HB.out | apply below_alloc | apply pw_below_drewN | apply below_drew1) | exact HB.out))⟩)
                           ·skip
                            have hcv45 := own_string (P := Try.prog) Try.underlying36 Try.underlying5 Try.underlying9 (Kd.own_of_R HO457.out)
                            refine value_ (w1 := ?_) (v := ?_) (by rfl) rfl ?_ ?_
                            rotate_left 2
                            ·go_simp
                             constructor
                             ·rfl
                             ·rfl
                            clear hcv45
                            refine hK.out _ _ trivial (fun hHeld => ?_)
                            clear hK K
                            refine norm_ (a' := ?_) ?_ ?_
                            rotate_left;·show Act.put _ (some 61) _ = _;simp only [Act.put,setIfInBounds_toArray,set_cons_zero,set_cons_succ,i64_w,i32_w];rfl
                            exact norm_ (by first | (simp only [Go.Proofs.YtpcljaidlihafaaW.PrintLast.putAll,Act.put,setIfInBounds_toArray,set_cons_zero,set_cons_succ];done) | (simp only [Go.Proofs.YtpcljaidlihafaaW.PrintLast.putAll,Act.put,setIfInBounds_toArray,set_cons_zero,set_cons_succ];rfl)) (hJ9_10 (v456) _ ⟨(by (with_reducible repeat (first | apply Kd.R_alloc | apply Kd.R_drewN | apply Kd.R_drew));exact HO457.out),(by repeat (first | (with_reducible first | exact HB.out | apply below_alloc | apply pw_below_drewN | apply below_drew1) | exact HB.out))⟩)
                         ·skip
                          rintro ⟨v452,adz_v452⟩ w45 ⟨h0_,h1_,h2_⟩
                          have n0_ : Aside0 (Kd.R Kd.string 9 w45 w.heap.size (fun _ => True) v452 y451) := ⟨h0_⟩
                          have n1_ : Aside0 (∃ c_,(v452 : Value) = .slice (some adz_v452) y451.length c_) := ⟨h1_⟩
                          have n2_ : Aside0 (Below w.heap.size w w45) := ⟨h2_⟩
                          clear HB
                          clear h0_ h1_ h2_
                          have HO453 := n0_
                          have HA_HO453 := n1_
                          have HB := n2_
                          clear n0_ n1_ n2_
                          have hHeld := trivial
                          obtain ⟨co46,eo46⟩ := HA_HO453.out
                          clear HA_HO453
                          subst eo46
                          refine norm_ (a' := ?_) ?_ ?_
                          rotate_left;·simp only [Go.Proofs.YtpcljaidlihafaaW.PrintLast.putAll,Act.put,setIfInBounds_toArray,set_cons_zero,set_cons_succ];rfl
                          refine two_ (i := 6) (j := 9) (Ni := some 57) (Nj := some 60) #[true,true,true,true,true,true,true,false,true,false,false,false,false] #[true,true,true,true,true,true,false,false,true,true,false,false,false] rfl rfl rfl rfl (two_of HT_.out (by kernel_rfl)) (by decide) (by decide) (fun K hK => ?_) (fun K hK => ?_)
                          ·skip
                           (have p454 : 0 ≤ ((ji36) : Int) := of_decide_eq_true (by first | (with_reducible assumption) | assumption);have q454 : (ji36) < (y451.length : Int) := of_decide_eq_true (by first | (with_reducible assumption) | assumption);obtain ⟨ad454,e454,hx454_0⟩ := Kd.at_string (Kd.R_reads' HO453.out).2.2 (ji36) p454 q454;obtain rfl : adz_v452 = ad454 := (by injection e454))
                           refine value_ (w1 := ?_) (v := ?_) (by rfl) rfl ?_ ?_
                           rotate_left 2
                           ·go_simp
                            constructor
                            ·rfl
                            ·rfl
                           clear hx454_0
                           refine hK.out _ _ trivial (fun hHeld => ?_)
                           clear hK K
                           refine norm_ (a' := ?_) ?_ ?_
                           rotate_left;·show Act.put _ (some 57) _ = _;simp only [Act.put,setIfInBounds_toArray,set_cons_zero,set_cons_succ,i64_w,i32_w];rfl
                           refine pure_ (i := 7) (N := some 58) (v := ?_) (a' := ?_) #[true,true,true,true,true,true,true,true,true,false,false,false,false] rfl rfl (any_of HT_.out (by kernel_rfl)) (fun _ _ _ h => h) (Or.inl ⟨by rfl,?_⟩) ?_ ?_
                           rotate_left;·intro w';go_simp;skip;with_reducible rfl
                           rotate_left;·simp only [Act.put,setIfInBounds_toArray,set_cons_zero,set_cons_succ,i64_w,i32_w];rfl
                           exact norm_ (by first | (simp only [Go.Proofs.YtpcljaidlihafaaW.PrintLast.putAll,Act.put,setIfInBounds_toArray,set_cons_zero,set_cons_succ];done) | (simp only [Go.Proofs.YtpcljaidlihafaaW.PrintLast.putAll,Act.put,setIfInBounds_toArray,set_cons_zero,set_cons_succ];rfl)) (hJ1_6 (.slice (some adz_v452) y451.length co46,adz_v452) _ ⟨(by (with_reducible repeat (first | apply Kd.R_alloc | apply Kd.R_drewN | apply Kd.R_drew));exact HO453.out),⟨_,rfl⟩,(by repeat (first | (with_reducible first | exact HB.out | apply below_alloc | apply pw_below_drewN | apply below_drew1) | exact HB.out))⟩)
                          ·skip
                           refine Kd.R_lit_step (Kd.int .u8) _ 5 ?hg (N := 60) ?hd (xs := ([bt (rdOf ByteArray.empty t439 (ji6)) x10_2] : List Int)) (inner := [.int .u8 (bt (rdOf ByteArray.empty t439 (ji6)) x10_2)]) (ok := fun _ => True) (okp := fun _ => True) ?hr ?hp (fun _ hk => hk) trivial (Below.refl _ _) (Nat.le_refl _) (by simp) ?_;(case hd => rfl);(case hg => rfl);(case hr => first | (go_simp;done) | (go_simp;rfl));(case hp => exact (Reps.one (show Kd.M (Kd.int .u8) _ _ _ (bt (rdOf ByteArray.empty t439 (ji6)) x10_2) [.int .u8 (bt (rdOf ByteArray.empty t439 (ji6)) x10_2)] from rfl) (Reps.none _ _)))
                           intro v456 w47 ho48 hb hg_ hnew_
                           clear hg_ hnew_
                           (first | rw [← Ny455.out] at ho48 | (simp only [Int.reduceToNat] at ho48;rw [← Ny455.out] at ho48))
                           have n0_ := Aside0.mk (Kd.R_below (by (with_reducible repeat (first | apply Kd.R_alloc | apply Kd.R_drewN | apply Kd.R_drew));exact HO453.out) hb)
                           have n1_ := Aside0.mk (Kd.R_lower ho48 (below_size (by repeat (first | (with_reducible first | exact HB.out | apply below_alloc | apply pw_below_drewN | apply below_drew1) | exact HB.out))))
                           have n2_ := Aside0.mk (below_step (by repeat (first | (with_reducible first | exact HB.out | apply below_alloc | apply pw_below_drewN | apply below_drew1) | exact HB.out)) hb)
                           clear HO453
                           clear HB
                           have HO453 := n0_
                           have HO457 := n1_
                           have HB := n2_
                           clear n0_ n1_ n2_
                           clear hb ho48
                           refine hK.out _ _ trivial (fun hHeld => ?_)
                           clear hK K
                           refine norm_ (a' := ?_) ?_ ?_
                           rotate_left;·show Act.put _ (some 60) _ = _;simp only [Act.put,setIfInBounds_toArray,set_cons_zero,set_cons_succ,i64_w,i32_w];rfl
                           exact norm_ (by first | (simp only [Go.Proofs.YtpcljaidlihafaaW.PrintLast.putAll,Act.put,setIfInBounds_toArray,set_cons_zero,set_cons_succ];done) | (simp only [Go.Proofs.YtpcljaidlihafaaW.PrintLast.putAll,Act.put,setIfInBounds_toArray,set_cons_zero,set_cons_succ];rfl)) (hJ1_9 (.slice (some adz_v452) y451.length co46,adz_v452,v456) _ ⟨(by (with_reducible repeat (first | apply Kd.R_alloc | apply Kd.R_drewN | apply Kd.R_drew));exact HO453.out),(by (with_reducible repeat (first | apply Kd.R_alloc | apply Kd.R_drewN | apply Kd.R_drew));exact HO457.out),⟨_,rfl⟩,(by repeat (first | (with_reducible first | exact HB.out | apply below_alloc | apply pw_below_drewN | apply below_drew1) | exact HB.out))⟩)
                        ·skip
                         rintro v456 w45 ⟨h0_,h1_⟩
                         have n0_ : Aside0 (Kd.R (Kd.int .u8) 5 w45 w.heap.size (fun _ => True) v456 y455) := ⟨h0_⟩
                         have n1_ : Aside0 (Below w.heap.size w w45) := ⟨h1_⟩
                         clear HB
                         clear h0_ h1_
                         have HO457 := n0_
                         have HB := n1_
                         clear n0_ n1_
                         have hHeld := trivial
                         refine norm_ (a' := ?_) ?_ ?_
                         rotate_left;·simp only [Go.Proofs.YtpcljaidlihafaaW.PrintLast.putAll,Act.put,setIfInBounds_toArray,set_cons_zero,set_cons_succ];rfl
                         refine one_ (i := 1) (N := some 52) #[true,true,true,true,true,false,false,false,true,true,true,false,false] rfl rfl (one_of HT_.out (by kernel_rfl)) (by decide) (fun K hK => ?_)
                         refine Kd.R_lit_step Kd.string _ 9 ?hg (N := 52) ?hd (xs := ([(⟨#[]⟩ : ByteArray),(⟨#[45]⟩ : ByteArray),(⟨#[95]⟩ : ByteArray),(⟨#[32]⟩ : ByteArray)] : List ByteArray)) (inner := [.string (⟨#[]⟩ : ByteArray),.string (⟨#[45]⟩ : ByteArray),.string (⟨#[95]⟩ : ByteArray),.string (⟨#[32]⟩ : ByteArray)]) (ok := fun _ => True) (okp := fun _ => True) ?hr ?hp (fun _ hk => hk) trivial (Below.refl _ _) (Nat.le_refl _) (by simp) ?_;(case hd => rfl);(case hg => rfl);(case hr => first | (go_simp;done) | (go_simp;rfl));(case hp => exact (Reps.one (show Kd.M Kd.string _ _ _ (⟨#[]⟩ : ByteArray) [.string (⟨#[]⟩ : ByteArray)] from rfl) (Reps.one (show Kd.M Kd.string _ _ _ (⟨#[45]⟩ : ByteArray) [.string (⟨#[45]⟩ : ByteArray)] from rfl) (Reps.one (show Kd.M Kd.string _ _ _ (⟨#[95]⟩ : ByteArray) [.string (⟨#[95]⟩ : ByteArray)] from rfl) (Reps.one (show Kd.M Kd.string _ _ _ (⟨#[32]⟩ : ByteArray) [.string (⟨#[32]⟩ : ByteArray)] from rfl) (Reps.none _ _))))))
                         intro v452 w46 ho47 hb hg_ hnew_
                         clear hg_ hnew_
                         (first | rw [← Ny451.out] at ho47 | (simp only [Int.reduceToNat] at ho47;rw [← Ny451.out] at ho47))
                         have n0_ := Aside0.mk (Kd.R_below (by (with_reducible repeat (first | apply Kd.R_alloc | apply Kd.R_drewN | apply Kd.R_drew));exact HO457.out) hb)
                         have n1_ := Aside0.mk (Kd.R_lower ho47 (below_size (by repeat (first | (with_reducible first | exact HB.out | apply below_alloc | apply pw_below_drewN | apply below_drew1) | exact HB.out))))
                         have n2_ := Aside0.mk (below_step (by repeat (first | (with_reducible first | exact HB.out | apply below_alloc | apply pw_below_drewN | apply below_drew1) | exact HB.out)) hb)
                         clear HO457
                         clear HB
                         have HO457 := n0_
                         have HO453 := n1_
                         have HB := n2_
                         clear n0_ n1_ n2_
                         clear hb ho47
                         obtain ⟨Ao48,co48,eo48⟩ := Kd.R_slice HO453.out
                         subst eo48
                         obtain ⟨ado48,fo48,_⟩ := Kd.at_string (Kd.R_reads' HO453.out).2.2 0 (by decide) (by rw [Ny451.out];simp)
                         cases fo48
                         refine hK.out _ _ trivial (fun hHeld => ?_)
                         clear hK K
                         refine norm_ (a' := ?_) ?_ ?_
                         rotate_left;·show Act.put _ (some 52) _ = _;simp only [Act.put,setIfInBounds_toArray,set_cons_zero,set_cons_succ,i64_w,i32_w];rfl
                         refine pure_ (i := 5) (N := some 56) (v := ?_) (a' := ?_) #[true,true,true,true,true,true,false,false,true,true,true,false,false] rfl rfl (any_of HT_.out (by kernel_rfl)) (fun _ _ _ h => h) (Or.inl ⟨by rfl,?_⟩) ?_ ?_
                         rotate_left;·intro w';go_simp;rw [u8tm,hji36,if_pos ⟨of_eq_true pi454,of_eq_true qi454⟩]
                         rotate_left;·simp only [Act.put,setIfInBounds_toArray,set_cons_zero,set_cons_succ,i64_w,i32_w];rfl
                         exact norm_ (by first | (simp only [Go.Proofs.YtpcljaidlihafaaW.PrintLast.putAll,Act.put,setIfInBounds_toArray,set_cons_zero,set_cons_succ];done) | (simp only [Go.Proofs.YtpcljaidlihafaaW.PrintLast.putAll,Act.put,setIfInBounds_toArray,set_cons_zero,set_cons_succ];rfl)) (hJ1_9_10 (.slice (some ado48) y451.length co48,ado48,v456) _ ⟨(by (with_reducible repeat (first | apply Kd.R_alloc | apply Kd.R_drewN | apply Kd.R_drew));exact HO453.out),(by (with_reducible repeat (first | apply Kd.R_alloc | apply Kd.R_drewN | apply Kd.R_drew));exact HO457.out),⟨_,rfl⟩,(by repeat (first | (with_reducible first | exact HB.out | apply below_alloc | apply pw_below_drewN | apply below_drew1) | exact HB.out))⟩)
                       ·skip
                        rintro ⟨v452,adz_v452,v456⟩ w47 ⟨h0_,h1_,h2_,h3_⟩
                        have n0_ : Aside0 (Kd.R Kd.string 9 w47 w.heap.size (fun _ => True) v452 y451) := ⟨h0_⟩
                        have n1_ : Aside0 (Kd.R (Kd.int .u8) 5 w47 w.heap.size (fun _ => True) v456 y455) := ⟨h1_⟩
                        have n2_ : Aside0 (∃ c_,(v452 : Value) = .slice (some adz_v452) y451.length c_) := ⟨h2_⟩
                        have n3_ : Aside0 (Below w.heap.size w w47) := ⟨h3_⟩
                        clear HB
                        clear h0_ h1_ h2_ h3_
                        have HO453 := n0_
                        have HO457 := n1_
                        have HA_HO453 := n2_
                        have HB := n3_
                        clear n0_ n1_ n2_ n3_
                        have hHeld := trivial
                        obtain ⟨co48,eo48⟩ := HA_HO453.out
                        clear HA_HO453
                        subst eo48
                        refine norm_ (a' := ?_) ?_ ?_
                        rotate_left;·simp only [Go.Proofs.YtpcljaidlihafaaW.PrintLast.putAll,Act.put,setIfInBounds_toArray,set_cons_zero,set_cons_succ];rfl
                        refine two_ (i := 6) (j := 10) (Ni := some 57) (Nj := some 61) #[true,true,true,true,true,true,true,false,true,true,false,false,false] #[true,true,true,true,true,true,false,false,true,true,true,false,false] rfl rfl rfl rfl (two_of HT_.out (by kernel_rfl)) (by decide) (by decide) (fun K hK => ?_) (fun K hK => ?_)
                        ·skip
                         (have p454 : 0 ≤ ((ji36) : Int) := of_decide_eq_true (by first | (with_reducible assumption) | assumption);have q454 : (ji36) < (y451.length : Int) := of_decide_eq_true (by first | (with_reducible assumption) | assumption);obtain ⟨ad454,e454,hx454_0⟩ := Kd.at_string (Kd.R_reads' HO453.out).2.2 (ji36) p454 q454;obtain rfl : adz_v452 = ad454 := (by injection e454))
                         refine value_ (w1 := ?_) (v := ?_) (by rfl) rfl ?_ ?_
                         rotate_left 2
                         ·go_simp
                          constructor
                          ·rfl
                          ·rfl
                         clear hx454_0
                         refine hK.out _ _ trivial (fun hHeld => ?_)
                         clear hK K
                         refine norm_ (a' := ?_) ?_ ?_
                         rotate_left;·show Act.put _ (some 57) _ = _;simp only [Act.put,setIfInBounds_toArray,set_cons_zero,set_cons_succ,i64_w,i32_w];rfl
                         refine pure_ (i := 7) (N := some 58) (v := ?_) (a' := ?_) #[true,true,true,true,true,true,true,true,true,true,false,false,false] rfl rfl (any_of HT_.out (by kernel_rfl)) (fun _ _ _ h => h) (Or.inl ⟨by rfl,?_⟩) ?_ ?_
                         rotate_left;·intro w';go_simp;skip;with_reducible rfl
                         rotate_left;·simp only [Act.put,setIfInBounds_toArray,set_cons_zero,set_cons_succ,i64_w,i32_w];rfl
                         exact norm_ (by first | (simp only [Go.Proofs.YtpcljaidlihafaaW.PrintLast.putAll,Act.put,setIfInBounds_toArray,set_cons_zero,set_cons_succ];done) | (simp only [Go.Proofs.YtpcljaidlihafaaW.PrintLast.putAll,Act.put,setIfInBounds_toArray,set_cons_zero,set_cons_succ];rfl)) (hJ1_6_9 (.slice (some adz_v452) y451.length co48,adz_v452,v456) _ ⟨(by (with_reducible repeat (first | apply Kd.R_alloc | apply Kd.R_drewN | apply Kd.R_drew));exact HO453.out),(by (with_reducible repeat (first | apply Kd.R_alloc | apply Kd.R_drewN | apply Kd.R_drew));exact HO457.out),⟨_,rfl⟩,(by repeat (first | (with_reducible first | exact HB.out | apply below_alloc | apply pw_below_drewN | apply below_drew1) | exact HB.out))⟩)
                        ·skip
                         have hcv49 := own_string (P := Try.prog) Try.underlying36 Try.underlying5 Try.underlying9 (Kd.own_of_R HO457.out)
                         refine value_ (w1 := ?_) (v := ?_) (by rfl) rfl ?_ ?_
                         rotate_left 2
                         ·go_simp
                          constructor
                          ·rfl
                          ·rfl
                         clear hcv49
                         refine hK.out _ _ trivial (fun hHeld => ?_)
                         clear hK K
                         refine norm_ (a' := ?_) ?_ ?_
                         rotate_left;·show Act.put _ (some 61) _ = _;simp only [Act.put,setIfInBounds_toArray,set_cons_zero,set_cons_succ,i64_w,i32_w];rfl
                         exact norm_ (by first | (simp only [Go.Proofs.YtpcljaidlihafaaW.PrintLast.putAll,Act.put,setIfInBounds_toArray,set_cons_zero,set_cons_succ];done) | (simp only [Go.Proofs.YtpcljaidlihafaaW.PrintLast.putAll,Act.put,setIfInBounds_toArray,set_cons_zero,set_cons_succ];rfl)) (hJ1_9_10 (.slice (some adz_v452) y451.length co48,adz_v452,v456) _ ⟨(by (with_reducible repeat (first | apply Kd.R_alloc | apply Kd.R_drewN | apply Kd.R_drew));exact HO453.out),(by (with_reducible repeat (first | apply Kd.R_alloc | apply Kd.R_drewN | apply Kd.R_drew));exact HO457.out),⟨_,rfl⟩,(by repeat (first | (with_reducible first | exact HB.out | apply below_alloc | apply pw_below_drewN | apply below_drew1) | exact HB.out))⟩)
                      ·skip
                       rintro ⟨v452,adz_v452⟩ w45 ⟨h0_,h1_,h2_⟩
                       have n0_ : Aside0 (Kd.R Kd.string 9 w45 w.heap.size (fun _ => True) v452 y451) := ⟨h0_⟩
                       have n1_ : Aside0 (∃ c_,(v452 : Value) = .slice (some adz_v452) y451.length c_) := ⟨h1_⟩
                       have n2_ : Aside0 (Below w.heap.size w w45) := ⟨h2_⟩
                       clear HB
                       clear h0_ h1_ h2_
                       have HO453 := n0_
                       have HA_HO453 := n1_
                       have HB := n2_
                       clear n0_ n1_ n2_
                       have hHeld := trivial
                       obtain ⟨co46,eo46⟩ := HA_HO453.out
                       clear HA_HO453
                       subst eo46
                       refine norm_ (a' := ?_) ?_ ?_
                       rotate_left;·simp only [Go.Proofs.YtpcljaidlihafaaW.PrintLast.putAll,Act.put,setIfInBounds_toArray,set_cons_zero,set_cons_succ];rfl
                       refine one_ (i := 9) (N := some 60) #[true,true,true,true,true,true,true,true,true,true,false,false,false] rfl rfl (one_of HT_.out (by kernel_rfl)) (by decide) (fun K hK => ?_)
                       refine Kd.R_lit_step (Kd.int .u8) _ 5 ?hg (N := 60) ?hd (xs := ([bt (rdOf ByteArray.empty t439 (ji6)) x10_2] : List Int)) (inner := [.int .u8 (bt (rdOf ByteArray.empty t439 (ji6)) x10_2)]) (ok := fun _ => True) (okp := fun _ => True) ?hr ?hp (fun _ hk => hk) trivial (Below.refl _ _) (Nat.le_refl _) (by simp) ?_;(case hd => rfl);(case hg => rfl);(case hr => first | (go_simp;done) | (go_simp;rfl));(case hp => exact (Reps.one (show Kd.M (Kd.int .u8) _ _ _ (bt (rdOf ByteArray.empty t439 (ji6)) x10_2) [.int .u8 (bt (rdOf ByteArray.empty t439 (ji6)) x10_2)] from rfl) (Reps.none _ _)))
                       intro v456 w47 ho48 hb hg_ hnew_
                       clear hg_ hnew_
                       (first | rw [← Ny455.out] at ho48 | (simp only [Int.reduceToNat] at ho48;rw [← Ny455.out] at ho48))
                       have n0_ := Aside0.mk (Kd.R_below (by (with_reducible repeat (first | apply Kd.R_alloc | apply Kd.R_drewN | apply Kd.R_drew));exact HO453.out) hb)
                       have n1_ := Aside0.mk (Kd.R_lower ho48 (below_size (by repeat (first | (with_reducible first | exact HB.out | apply below_alloc | apply pw_below_drewN | apply below_drew1) | exact HB.out))))
                       have n2_ := Aside0.mk (below_step (by repeat (first | (with_reducible first | exact HB.out | apply below_alloc | apply pw_below_drewN | apply below_drew1) | exact HB.out)) hb)
                       clear HO453
                       clear HB
                       have HO453 := n0_
                       have HO457 := n1_
                       have HB := n2_
                       clear n0_ n1_ n2_
                       clear hb ho48
                       refine hK.out _ _ trivial (fun hHeld => ?_)
                       clear hK K
                       refine norm_ (a' := ?_) ?_ ?_
                       rotate_left;·show Act.put _ (some 60) _ = _;simp only [Act.put,setIfInBounds_toArray,set_cons_zero,set_cons_succ,i64_w,i32_w];rfl
                       exact norm_ (by first | (simp only [Go.Proofs.YtpcljaidlihafaaW.PrintLast.putAll,Act.put,setIfInBounds_toArray,set_cons_zero,set_cons_succ];done) | (simp only [Go.Proofs.YtpcljaidlihafaaW.PrintLast.putAll,Act.put,setIfInBounds_toArray,set_cons_zero,set_cons_succ];rfl)) (hJ1_6_9 (.slice (some adz_v452) y451.length co46,adz_v452,v456) _ ⟨(by (with_reducible repeat (first | apply Kd.R_alloc | apply Kd.R_drewN | apply Kd.R_drew));exact HO453.out),(by (with_reducible repeat (first | apply Kd.R_alloc | apply Kd.R_drewN | apply Kd.R_drew));exact HO457.out),⟨_,rfl⟩,(by repeat (first | (with_reducible first | exact HB.out | apply below_alloc | apply pw_below_drewN | apply below_drew1) | exact HB.out))⟩)
                     ·skip
                      rintro ⟨v452,adz_v452,v456⟩ w48 ⟨h0_,h1_,h2_,h3_⟩
                      have n0_ : Aside0 (Kd.R Kd.string 9 w48 w.heap.size (fun _ => True) v452 y451) := ⟨h0_⟩
                      have n1_ : Aside0 (Kd.R (Kd.int .u8) 5 w48 w.heap.size (fun _ => True) v456 y455) := ⟨h1_⟩
                      have n2_ : Aside0 (∃ c_,(v452 : Value) = .slice (some adz_v452) y451.length c_) := ⟨h2_⟩
                      have n3_ : Aside0 (Below w.heap.size w w48) := ⟨h3_⟩
                      clear HB
                      clear h0_ h1_ h2_ h3_
                      have HO453 := n0_
                      have HO457 := n1_
                      have HA_HO453 := n2_
                      have HB := n3_
                      clear n0_ n1_ n2_ n3_
                      have hHeld := trivial
                      obtain ⟨co49,eo49⟩ := HA_HO453.out
                      clear HA_HO453
                      subst eo49
                      refine norm_ (a' := ?_) ?_ ?_
                      rotate_left;·simp only [Go.Proofs.YtpcljaidlihafaaW.PrintLast.putAll,Act.put,setIfInBounds_toArray,set_cons_zero,set_cons_succ];rfl
                      refine one_ (i := 6) (N := some 57) #[true,true,true,true,true,true,true,false,true,true,true,false,false] rfl rfl (one_of HT_.out (by kernel_rfl)) (by decide) (fun K hK => ?_)
                      (have p454 : 0 ≤ ((ji36) : Int) := of_decide_eq_true (by first | (with_reducible assumption) | assumption);have q454 : (ji36) < (y451.length : Int) := of_decide_eq_true (by first | (with_reducible assumption) | assumption);obtain ⟨ad454,e454,hx454_0⟩ := Kd.at_string (Kd.R_reads' HO453.out).2.2 (ji36) p454 q454;obtain rfl : adz_v452 = ad454 := (by injection e454))
                      refine value_ (w1 := ?_) (v := ?_) (by rfl) rfl ?_ ?_
                      rotate_left 2
                      ·go_simp
                       constructor
                       ·rfl
                       ·rfl
                      clear hx454_0
                      refine hK.out _ _ trivial (fun hHeld => ?_)
                      clear hK K
                      refine norm_ (a' := ?_) ?_ ?_
                      rotate_left;·show Act.put _ (some 57) _ = _;simp only [Act.put,setIfInBounds_toArray,set_cons_zero,set_cons_succ,i64_w,i32_w];rfl
                      refine pure_ (i := 7) (N := some 58) (v := ?_) (a' := ?_) #[true,true,true,true,true,true,true,true,true,true,true,false,false] rfl rfl (any_of HT_.out (by kernel_rfl)) (fun _ _ _ h => h) (Or.inl ⟨by rfl,?_⟩) ?_ ?_
                      rotate_left;·intro w';go_simp;skip;with_reducible rfl
                      rotate_left;·simp only [Act.put,setIfInBounds_toArray,set_cons_zero,set_cons_succ,i64_w,i32_w];rfl
                      exact norm_ (by first | (simp only [Go.Proofs.YtpcljaidlihafaaW.PrintLast.putAll,Act.put,setIfInBounds_toArray,set_cons_zero,set_cons_succ];done) | (simp only [Go.Proofs.YtpcljaidlihafaaW.PrintLast.putAll,Act.put,setIfInBounds_toArray,set_cons_zero,set_cons_succ];rfl)) (hJ1_6_9_10 (.slice (some adz_v452) y451.length co49,adz_v452,v456) _ ⟨(by (with_reducible repeat (first | apply Kd.R_alloc | apply Kd.R_drewN | apply Kd.R_drew));exact HO453.out),(by (with_reducible repeat (first | apply Kd.R_alloc | apply Kd.R_drewN | apply Kd.R_drew));exact HO457.out),⟨_,rfl⟩,(by repeat (first | (with_reducible first | exact HB.out | apply below_alloc | apply pw_below_drewN | apply below_drew1) | exact HB.out))⟩)
                    ·skip
                     rintro ⟨v452,adz_v452,v456⟩ w47 ⟨h0_,h1_,h2_,h3_⟩
                     have n0_ : Aside0 (Kd.R Kd.string 9 w47 w.heap.size (fun _ => True) v452 y451) := ⟨h0_⟩
                     have n1_ : Aside0 (Kd.R (Kd.int .u8) 5 w47 w.heap.size (fun _ => True) v456 y455) := ⟨h1_⟩
                     have n2_ : Aside0 (∃ c_,(v452 : Value) = .slice (some adz_v452) y451.length c_) := ⟨h2_⟩
                     have n3_ : Aside0 (Below w.heap.size w w47) := ⟨h3_⟩
                     clear HB
                     clear h0_ h1_ h2_ h3_
                     have HO453 := n0_
                     have HO457 := n1_
                     have HA_HO453 := n2_
                     have HB := n3_
                     clear n0_ n1_ n2_ n3_
                     have hHeld := trivial
                     obtain ⟨co48,eo48⟩ := HA_HO453.out
                     clear HA_HO453
                     subst eo48
                     refine norm_ (a' := ?_) ?_ ?_
                     rotate_left;·simp only [Go.Proofs.YtpcljaidlihafaaW.PrintLast.putAll,Act.put,setIfInBounds_toArray,set_cons_zero,set_cons_succ];rfl
                     refine one_ (i := 10) (N := some 61) #[true,true,true,true,true,true,true,true,true,true,true,false,false] rfl rfl (one_of HT_.out (by kernel_rfl)) (by decide) (fun K hK => ?_)
                     have hcv49 := own_string (P := Try.prog) Try.underlying36 Try.underlying5 Try.underlying9 (Kd.own_of_R HO457.out)
                     refine value_ (w1 := ?_) (v := ?_) (by rfl) rfl ?_ ?_
                     rotate_left 2
                     ·go_simp
                      constructor
                      ·rfl
                      ·rfl
                     clear hcv49
                     refine hK.out _ _ trivial (fun hHeld => ?_)
                     clear hK K
                     refine norm_ (a' := ?_) ?_ ?_
                     rotate_left;·show Act.put _ (some 61) _ = _;simp only [Act.put,setIfInBounds_toArray,set_cons_zero,set_cons_succ,i64_w,i32_w];rfl
                     exact norm_ (by first | (simp only [Go.Proofs.YtpcljaidlihafaaW.PrintLast.putAll,Act.put,setIfInBounds_toArray,set_cons_zero,set_cons_succ];done) | (simp only [Go.Proofs.YtpcljaidlihafaaW.PrintLast.putAll,Act.put,setIfInBounds_toArray,set_cons_zero,set_cons_succ];rfl)) (hJ1_6_9_10 (.slice (some adz_v452) y451.length co48,adz_v452,v456) _ ⟨(by (with_reducible repeat (first | apply Kd.R_alloc | apply Kd.R_drewN | apply Kd.R_drew));exact HO453.out),(by (with_reducible repeat (first | apply Kd.R_alloc | apply Kd.R_drewN | apply Kd.R_drew));exact HO457.out),⟨_,rfl⟩,(by repeat (first | (with_reducible first | exact HB.out | apply below_alloc | apply pw_below_drewN | apply below_drew1) | exact HB.out))⟩)
                   rintro ⟨v452,adz_v452,v456⟩ w48 ⟨h0_,h1_,h2_,h3_⟩
                   have n0_ : Aside0 (Kd.R Kd.string 9 w48 w.heap.size (fun _ => True) v452 y451) := ⟨h0_⟩
                   have n1_ : Aside0 (Kd.R (Kd.int .u8) 5 w48 w.heap.size (fun _ => True) v456 y455) := ⟨h1_⟩
                   have n2_ : Aside0 (∃ c_,(v452 : Value) = .slice (some adz_v452) y451.length c_) := ⟨h2_⟩
                   have n3_ : Aside0 (Below w.heap.size w w48) := ⟨h3_⟩
                   clear HB
                   clear h0_ h1_ h2_ h3_
                   have HO453 := n0_
                   have HO457 := n1_
                   have HA_HO453 := n2_
                   have HB := n3_
                   clear n0_ n1_ n2_ n3_
                   have hHeld := trivial
                   obtain ⟨co49,eo49⟩ := HA_HO453.out
                   clear HA_HO453
                   subst eo49
                   refine norm_ (a' := ?_) ?_ ?_
                   rotate_left;·simp only [Go.Proofs.YtpcljaidlihafaaW.PrintLast.putAll,Act.put,setIfInBounds_toArray,set_cons_zero,set_cons_succ];rfl
                   refine pure_ (i := 11) (N := some 62) (v := ?_) (a' := ?_) #[true,true,true,true,true,true,true,true,true,true,true,true,false] rfl rfl (any_of HT_.out (by kernel_rfl)) (fun _ _ _ h => h) (Or.inl ⟨by rfl,?_⟩) ?_ ?_
                   rotate_left;·intro w';go_simp;rw [if_neg (by have h_ := c40;rw [ByteArray.size_append] at h_;omega)]
                   rotate_left;·simp only [Act.put,setIfInBounds_toArray,set_cons_zero,set_cons_succ,i64_w,i32_w];rfl
                   refine pure_ (i := 12) (N := some 9) (v := ?_) (a' := ?_) #[true,true,true,true,true,true,true,true,true,true,true,true,true] rfl rfl (any_of HT_.out (by kernel_rfl)) (fun _ _ _ h => h) (Or.inl ⟨by rfl,?_⟩) ?_ ?_
                   rotate_left;·intro w';go_simp;skip;with_reducible rfl
                   rotate_left;·simp only [Act.put,setIfInBounds_toArray,set_cons_zero,set_cons_succ,i64_w,i32_w];rfl
                   refine done_ (done_of HT_.out (by kernel_rfl)) ?_
                   try go_wp2
                   go_roundg k2
                   case measure => have := HJ8.out;have := HK2.out;omega
                   case rel => exact ⟨((x9_2 ++ (rdOf ByteArray.empty y451 (ji36))) ++ (strOfNums y455)),(wrap64 (x10_2 + 1)),(by first | rfl | (simp;done) | (simp only [← hji36] <;> (first | rfl | simp)) | (simp [*];done)),(by first | rfl | (simp;done) | (simp [*];done)),H',⟨by have := HJ8.out;have := HK2.out;omega⟩,⟨by repeat (first | (with_reducible first | exact HB.out | apply below_alloc | apply pw_below_drewN | apply below_drew1) | exact HB.out)⟩⟩
                  ·rw [if_neg c40] at H
                   exact absurd H (by simp)
                 ·rw [if_neg c39] at H
                  exact absurd H (by simp)
                ·rw [if_neg c38] at H
                 exact absurd H (by simp)
               ·rw [if_neg c37] at H
                exact absurd H (by simp)
             ·rw [if_neg c20] at H
              exact absurd H (by simp)
            ·rw [if_neg c19] at H
             exact absurd H (by simp)
          ·rw [if_neg c16] at H
           have c16b0 : decide (0 < (l1.length : Int)) = false := decide_eq_false c16
           have c16b1 : decide (0 < l1.length) = false := decide_eq_false (by omega)
           clear c16
           by_cases c50 : ((0 : Int) % 2) = 1
           ·exact absurd c50 (by decide)
           ·rw [if_neg c50] at H
            have c50b0 : (((0 : Int) % 2) == 1) = false := beq_eq_false_iff_ne.mpr c50
            have c50b1 : (((0 : Int) % 2) != 1) = true := bne_iff_ne.mpr c50
            obtain ⟨y465,hy465⟩ : ∃ y_ : List ByteArray,y_ = (([(⟨#[]⟩ : ByteArray),(⟨#[45]⟩ : ByteArray),(⟨#[95]⟩ : ByteArray),(⟨#[32]⟩ : ByteArray)] : List ByteArray)) := ⟨_,rfl⟩
            replace H : (if 0 ≤ (((0 : Int) / 2) % 4) then (if (((0 : Int) / 2) % 4) < (y465.length : Int) then (if x9_2.size + (rdOf ByteArray.empty y465 (((0 : Int) / 2) % 4)).size ≤ 9223372036854775807 then ((some (([bt (rdOf ByteArray.empty t439 (ji6)) x10_2] : List Int) : List Int)).bind fun y469 => (if (x9_2 ++ (rdOf ByteArray.empty y465 (((0 : Int) / 2) % 4))).size + (strOfNums y469).size ≤ 9223372036854775807 then (glyphcutterlaw05_PropsLoose.l0 k2 l1 (rdOf ByteArray.empty t439 (ji6)) ((x9_2 ++ (rdOf ByteArray.empty y465 (((0 : Int) / 2) % 4))) ++ (strOfNums y469)) (wrap64 (x10_2 + 1))) else (none))) else (none)) else (none)) else (none)) = some r := by first | (rw [hy465];with_reducible exact H) | (have H2_ := (Option.bind_some _ _).symm.trans H;rw [hy465];with_reducible exact H2_) | (have H2_ := (Option.bind_some _ _).symm.trans H;with_reducible exact H2_) | with_reducible exact H | (rw [hy465];exact H) | exact H
            have Ny465 := Aside0.mk hy465
            clear hy465
            obtain ⟨ji65,hji65⟩ : ∃ j_ : Int,(((0 : Int) / 2) % 4) = j_ := ⟨_,rfl⟩
            replace H : (if 0 ≤ (ji65) then (if (ji65) < (y465.length : Int) then (if x9_2.size + (rdOf ByteArray.empty y465 (ji65)).size ≤ 9223372036854775807 then ((some (([bt (rdOf ByteArray.empty t439 (ji6)) x10_2] : List Int) : List Int)).bind fun y469 => (if (x9_2 ++ (rdOf ByteArray.empty y465 (ji65))).size + (strOfNums y469).size ≤ 9223372036854775807 then (glyphcutterlaw05_PropsLoose.l0 k2 l1 (rdOf ByteArray.empty t439 (ji6)) ((x9_2 ++ (rdOf ByteArray.empty y465 (ji65))) ++ (strOfNums y469)) (wrap64 (x10_2 + 1))) else (none))) else (none)) else (none)) else (none)) = some r := by first | (rw [hji65] at H;exact H) | (simp only [hji65] at H ⊢;exact H)
            by_cases c66 : 0 ≤ (ji65)
            ·rw [if_pos c66] at H
             have c66b0 : decide (0 ≤ (ji65)) = true := decide_eq_true c66
             clear c66
             by_cases c67 : (ji65) < (y465.length : Int)
             ·rw [if_pos c67] at H
              have c67b0 : decide ((ji65) < (y465.length : Int)) = true := decide_eq_true c67
              clear c67
              by_cases c68 : x9_2.size + (rdOf ByteArray.empty y465 (ji65)).size ≤ 9223372036854775807
              ·rw [if_pos c68] at H
               have c68b0 := eq_true c68
               have c68b1 : decide (x9_2.size + (rdOf ByteArray.empty y465 (ji65)).size ≤ 9223372036854775807) = true := decide_eq_true c68
               try have c68b2 : (9223372036854775807 < x9_2.size + (rdOf ByteArray.empty y465 (ji65)).size) = False := eq_false (Nat.not_lt.2 c68)
               obtain ⟨y469,hy469⟩ : ∃ y_ : List Int,y_ = (([bt (rdOf ByteArray.empty t439 (ji6)) x10_2] : List Int)) := ⟨_,rfl⟩
               replace H : (if (x9_2 ++ (rdOf ByteArray.empty y465 (ji65))).size + (strOfNums y469).size ≤ 9223372036854775807 then (glyphcutterlaw05_PropsLoose.l0 k2 l1 (rdOf ByteArray.empty t439 (ji6)) ((x9_2 ++ (rdOf ByteArray.empty y465 (ji65))) ++ (strOfNums y469)) (wrap64 (x10_2 + 1))) else (none)) = some r := by first | (rw [hy469];with_reducible exact H) | (have H2_ := (Option.bind_some _ _).symm.trans H;rw [hy469];with_reducible exact H2_) | (have H2_ := (Option.bind_some _ _).symm.trans H;with_reducible exact H2_) | with_reducible exact H | (rw [hy469];exact H) | exact H
               have Ny469 := Aside0.mk hy469
               clear hy469
               by_cases c69 : (x9_2 ++ (rdOf ByteArray.empty y465 (ji65))).size + (strOfNums y469).size ≤ 9223372036854775807
               ·rw [if_pos c69] at H
                have c69b0 := eq_true c69
                have c69b1 : decide ((x9_2 ++ (rdOf ByteArray.empty y465 (ji65))).size + (strOfNums y469).size ≤ 9223372036854775807) = true := decide_eq_true c69
                try have c69b2 : (9223372036854775807 < (x9_2 ++ (rdOf ByteArray.empty y465 (ji65))).size + (strOfNums y469).size) = False := eq_false (Nat.not_lt.2 c69)
                have H' := Aside0.mk H
                clear H
                have p15 : 0 ≤ (x10_2 : Int) := of_decide_eq_true (by first | (with_reducible assumption) | assumption)
                have q15 : x10_2 < ((rdOf ByteArray.empty t439 (ji6)).size : Int) := of_decide_eq_true (by first | (with_reducible assumption) | assumption)
                have hx15 := bt_at (rdOf ByteArray.empty t439 (ji6)) x10_2
                replace p15 := eq_true p15
                replace q15 := eq_true q15
                try go_wp2
                have pi468 : (0 ≤ ((ji65) : Int)) = True := eq_true (of_decide_eq_true (by first | (with_reducible assumption) | assumption))
                have qi468 : ((ji65) < (y465.length : Int)) = True := eq_true (of_decide_eq_true (by first | (with_reducible assumption) | assumption))
                have n0_ := Aside0.mk (below_drew1 HB.out)
                clear HB
                have HB := n0_
                clear n0_
                refine start_ (n := 13) (S := fun w' => True) (ds := []) #[false,false,false,false,false,false,false,false,false,false,false,false,false] (by kernel_rfl) rfl rfl trivial (fun hHeld => ?_);refine with_tabW glyphcutterlaw05_PropsLoose.tab15 glyphcutterlaw05_PropsLoose.bits15 (fun HT_ HW_ => ?_)
                generalize wr.drew = w70 at HB hHeld ⊢
                refine pure_ (i := 0) (N := some 51) (v := ?_) (a' := ?_) #[true,false,false,false,false,false,false,false,false,false,false,false,false] rfl rfl (any_of HT_.out (by kernel_rfl)) (fun _ _ _ h => h) (Or.inl ⟨by rfl,?_⟩) ?_ ?_
                rotate_left;·intro w';go_simp;skip;with_reducible rfl
                rotate_left;·simp only [Act.put,setIfInBounds_toArray,set_cons_zero,set_cons_succ,i64_w,i32_w];rfl
                refine pure_ (i := 2) (N := some 53) (v := ?_) (a' := ?_) #[true,false,true,false,false,false,false,false,false,false,false,false,false] rfl rfl (any_of HT_.out (by kernel_rfl)) (fun _ _ _ h => h) (Or.inl ⟨by rfl,?_⟩) ?_ ?_
                rotate_left;·intro w';go_simp;skip;with_reducible rfl
                rotate_left;·simp only [Act.put,setIfInBounds_toArray,set_cons_zero,set_cons_succ,i64_w,i32_w];rfl
                refine pure_ (i := 3) (N := some 54) (v := ?_) (a' := ?_) #[true,false,true,true,false,false,false,false,false,false,false,false,false] rfl rfl (any_of HT_.out (by kernel_rfl)) (fun _ _ _ h => h) (Or.inl ⟨by rfl,?_⟩) ?_ ?_
                rotate_left;·intro w';go_simp;skip;with_reducible rfl
                rotate_left;·simp only [Act.put,setIfInBounds_toArray,set_cons_zero,set_cons_succ,i64_w,i32_w];rfl
                refine pure_ (i := 4) (N := some 55) (v := ?_) (a' := ?_) #[true,false,true,true,true,false,false,false,false,false,false,false,false] rfl rfl (any_of HT_.out (by kernel_rfl)) (fun _ _ _ h => h) (Or.inl ⟨by rfl,?_⟩) ?_ ?_
                rotate_left;·intro w';go_simp;skip;with_reducible rfl
                rotate_left;·simp only [Act.put,setIfInBounds_toArray,set_cons_zero,set_cons_succ,i64_w,i32_w];rfl
                refine pure_ (i := 8) (N := some 59) (v := ?_) (a' := ?_) #[true,false,true,true,true,false,false,false,true,false,false,false,false] rfl rfl (any_of HT_.out (by kernel_rfl)) (fun _ _ _ h => h) (Or.inl ⟨by rfl,?_⟩) ?_ ?_
                rotate_left;·intro w';go_simp;skip;with_reducible rfl
                rotate_left;·simp only [Act.put,setIfInBounds_toArray,set_cons_zero,set_cons_succ,i64_w,i32_w];rfl
                refine join_ (σ := Value × Addr × Value) 2 #[true,true,true,true,true,true,true,true,true,true,true,false,false] (fun s_ => [(52,s_.1),(57,.string (rdOf ByteArray.empty y465 (ji65))),(60,s_.2.2),(61,.string (strOfNums y469)),(56,.pointer (some (s_.2.1.add ((ji65)).toNat))),(58,.string (x9_2 ++ (rdOf ByteArray.empty y465 (ji65))))]) (fun s_ w' => (Kd.R Kd.string 9 w' w.heap.size (fun _ => True) s_.1 y465) ∧ (Kd.R (Kd.int .u8) 5 w' w.heap.size (fun _ => True) s_.2.2 y469) ∧ (∃ c_,(s_.1 : Value) = .slice (some s_.2.1) y465.length c_) ∧ (Below w.heap.size w w')) ?_ ?_
                rotate_left
                ·intro hJ1_6_9_10
                 refine join_ (σ := Value × Addr × Value) 3 #[true,true,true,true,true,true,true,true,true,true,false,false,false] (fun s_ => [(52,s_.1),(57,.string (rdOf ByteArray.empty y465 (ji65))),(60,s_.2.2),(56,.pointer (some (s_.2.1.add ((ji65)).toNat))),(58,.string (x9_2 ++ (rdOf ByteArray.empty y465 (ji65))))]) (fun s_ w' => (Kd.R Kd.string 9 w' w.heap.size (fun _ => True) s_.1 y465) ∧ (Kd.R (Kd.int .u8) 5 w' w.heap.size (fun _ => True) s_.2.2 y469) ∧ (∃ c_,(s_.1 : Value) = .slice (some s_.2.1) y465.length c_) ∧ (Below w.heap.size w w')) ?_ ?_
                 rotate_left
                 ·intro hJ1_6_9
                  refine join_ (σ := Value × Addr × Value) 4 #[true,true,true,true,true,true,false,false,true,true,true,false,false] (fun s_ => [(52,s_.1),(60,s_.2.2),(61,.string (strOfNums y469)),(56,.pointer (some (s_.2.1.add ((ji65)).toNat)))]) (fun s_ w' => (Kd.R Kd.string 9 w' w.heap.size (fun _ => True) s_.1 y465) ∧ (Kd.R (Kd.int .u8) 5 w' w.heap.size (fun _ => True) s_.2.2 y469) ∧ (∃ c_,(s_.1 : Value) = .slice (some s_.2.1) y465.length c_) ∧ (Below w.heap.size w w')) ?_ ?_
                  rotate_left
                  ·intro hJ1_9_10
                   refine join_ (σ := Value × Addr) 4 #[true,true,true,true,true,true,true,true,true,false,false,false,false] (fun s_ => [(52,s_.1),(57,.string (rdOf ByteArray.empty y465 (ji65))),(56,.pointer (some (s_.2.add ((ji65)).toNat))),(58,.string (x9_2 ++ (rdOf ByteArray.empty y465 (ji65))))]) (fun s_ w' => (Kd.R Kd.string 9 w' w.heap.size (fun _ => True) s_.1 y465) ∧ (∃ c_,(s_.1 : Value) = .slice (some s_.2) y465.length c_) ∧ (Below w.heap.size w w')) ?_ ?_
                   rotate_left
                   ·intro hJ1_6
                    refine join_ (σ := Value × Addr × Value) 5 #[true,true,true,true,true,true,false,false,true,true,false,false,false] (fun s_ => [(52,s_.1),(60,s_.2.2),(56,.pointer (some (s_.2.1.add ((ji65)).toNat)))]) (fun s_ w' => (Kd.R Kd.string 9 w' w.heap.size (fun _ => True) s_.1 y465) ∧ (Kd.R (Kd.int .u8) 5 w' w.heap.size (fun _ => True) s_.2.2 y469) ∧ (∃ c_,(s_.1 : Value) = .slice (some s_.2.1) y465.length c_) ∧ (Below w.heap.size w w')) ?_ ?_
                    rotate_left
                    ·intro hJ1_9
                     refine join_ (σ := Value) 6 #[true,false,true,true,true,false,false,false,true,true,true,false,false] (fun s_ => [(60,s_),(61,.string (strOfNums y469))]) (fun s_ w' => (Kd.R (Kd.int .u8) 5 w' w.heap.size (fun _ => True) s_ y469) ∧ (Below w.heap.size w w')) ?_ ?_
                     rotate_left
                     ·intro hJ9_10
                      refine join_ (σ := Value × Addr) 6 #[true,true,true,true,true,true,false,false,true,false,false,false,false] (fun s_ => [(52,s_.1),(56,.pointer (some (s_.2.add ((ji65)).toNat)))]) (fun s_ w' => (Kd.R Kd.string 9 w' w.heap.size (fun _ => True) s_.1 y465) ∧ (∃ c_,(s_.1 : Value) = .slice (some s_.2) y465.length c_) ∧ (Below w.heap.size w w')) ?_ ?_
                      rotate_left
                      ·intro hJ1
                       refine join_ (σ := Value) 7 #[true,false,true,true,true,false,false,false,true,true,false,false,false] (fun s_ => [(60,s_)]) (fun s_ w' => (Kd.R (Kd.int .u8) 5 w' w.heap.size (fun _ => True) s_ y469) ∧ (Below w.heap.size w w')) ?_ ?_
                       rotate_left
                       ·intro hJ9
                        refine two_ (i := 1) (j := 9) (Ni := some 52) (Nj := some 60) #[true,true,true,true,true,false,false,false,true,false,false,false,false] #[true,false,true,true,true,false,false,false,true,true,false,false,false] rfl rfl rfl rfl (two_of HT_.out (by kernel_rfl)) (by decide) (by decide) (fun K hK => ?_) (fun K hK => ?_)
                        ·skip
                         refine Kd.R_lit_step Kd.string _ 9 ?hg (N := 52) ?hd (xs := ([(⟨#[]⟩ : ByteArray),(⟨#[45]⟩ : ByteArray),(⟨#[95]⟩ : ByteArray),(⟨#[32]⟩ : ByteArray)] : List ByteArray)) (inner := [.string (⟨#[]⟩ : ByteArray),.string (⟨#[45]⟩ : ByteArray),.string (⟨#[95]⟩ : ByteArray),.string (⟨#[32]⟩ : ByteArray)]) (ok := fun _ => True) (okp := fun _ => True) ?hr ?hp (fun _ hk => hk) trivial (Below.refl _ _) (Nat.le_refl _) (by simp) ?_;(case hd => rfl);(case hg => rfl);(case hr => first | (go_simp;done) | (go_simp;rfl));(case hp => exact (Reps.one (show Kd.M Kd.string _ _ _ (⟨#[]⟩ : ByteArray) [.string (⟨#[]⟩ : ByteArray)] from rfl) (Reps.one (show Kd.M Kd.string _ _ _ (⟨#[45]⟩ : ByteArray) [.string (⟨#[45]⟩ : ByteArray)] from rfl) (Reps.one (show Kd.M Kd.string _ _ _ (⟨#[95]⟩ : ByteArray) [.string (⟨#[95]⟩ : ByteArray)] from rfl) (Reps.one (show Kd.M Kd.string _ _ _ (⟨#[32]⟩ : ByteArray) [.string (⟨#[32]⟩ : ByteArray)] from rfl) (Reps.none _ _))))))
                         intro v466 w71 ho72 hb hg_ hnew_
                         clear hg_ hnew_
                         (first | rw [← Ny465.out] at ho72 | (simp only [Int.reduceToNat] at ho72;rw [← Ny465.out] at ho72))
                         have n0_ := Aside0.mk (Kd.R_lower ho72 (below_size (by repeat (first | (with_reducible first | exact HB.out | apply below_alloc | apply pw_below_drewN | apply below_drew1) | exact HB.out))))
                         have n1_ := Aside0.mk (below_step (by repeat (first | (with_reducible first | exact HB.out | apply below_alloc | apply pw_below_drewN | apply below_drew1) | exact HB.out)) hb)
                         clear HB
                         have HO467 := n0_
                         have HB := n1_
                         clear n0_ n1_
                         clear hb ho72
                         obtain ⟨Ao73,co73,eo73⟩ := Kd.R_slice HO467.out
                         subst eo73
                         obtain ⟨ado73,fo73,_⟩ := Kd.at_string (Kd.R_reads' HO467.out).2.2 0 (by decide) (by rw [Ny465.out];simp)
                         cases fo73
                         refine hK.out _ _ trivial (fun hHeld => ?_)
                         clear hK K
                         refine norm_ (a' := ?_) ?_ ?_
                         rotate_left;·show Act.put _ (some 52) _ = _;simp only [Act.put,setIfInBounds_toArray,set_cons_zero,set_cons_succ,i64_w,i32_w];rfl
                         refine pure_ (i := 5) (N := some 56) (v := ?_) (a' := ?_) #[true,true,true,true,true,true,false,false,true,false,false,false,false] rfl rfl (any_of HT_.out (by kernel_rfl)) (fun _ _ _ h => h) (Or.inl ⟨by rfl,?_⟩) ?_ ?_
                         rotate_left;·intro w';go_simp;rw [show (IntKind.u8.wrap 0).tmod 4 = ji65 from (by rw [← hji65];decide),if_pos ⟨of_eq_true pi468,of_eq_true qi468⟩]
                         rotate_left;·simp only [Act.put,setIfInBounds_toArray,set_cons_zero,set_cons_succ,i64_w,i32_w];rfl
                         exact norm_ (by first | (simp only [Go.Proofs.YtpcljaidlihafaaW.PrintLast.putAll,Act.put,setIfInBounds_toArray,set_cons_zero,set_cons_succ];done) | (simp only [Go.Proofs.YtpcljaidlihafaaW.PrintLast.putAll,Act.put,setIfInBounds_toArray,set_cons_zero,set_cons_succ];rfl)) (hJ1 (.slice (some ado73) y465.length co73,ado73) _ ⟨(by (with_reducible repeat (first | apply Kd.R_alloc | apply Kd.R_drewN | apply Kd.R_drew));exact HO467.out),⟨_,rfl⟩,(by repeat (first | (with_reducible first | exact HB.out | apply below_alloc | apply pw_below_drewN | apply below_drew1) | exact HB.out))⟩)
                        ·skip
                         refine Kd.R_lit_step (Kd.int .u8) _ 5 ?hg (N := 60) ?hd (xs := ([bt (rdOf ByteArray.empty t439 (ji6)) x10_2] : List Int)) (inner := [.int .u8 (bt (rdOf ByteArray.empty t439 (ji6)) x10_2)]) (ok := fun _ => True) (okp := fun _ => True) ?hr ?hp (fun _ hk => hk) trivial (Below.refl _ _) (Nat.le_refl _) (by simp) ?_;(case hd => rfl);(case hg => rfl);(case hr => first | (go_simp;done) | (go_simp;rfl));(case hp => exact (Reps.one (show Kd.M (Kd.int .u8) _ _ _ (bt (rdOf ByteArray.empty t439 (ji6)) x10_2) [.int .u8 (bt (rdOf ByteArray.empty t439 (ji6)) x10_2)] from rfl) (Reps.none _ _)))
                         intro v470 w71 ho72 hb hg_ hnew_
                         clear hg_ hnew_
                         (first | rw [← Ny469.out] at ho72 | (simp only [Int.reduceToNat] at ho72;rw [← Ny469.out] at ho72))
                         have n0_ := Aside0.mk (Kd.R_lower ho72 (below_size (by repeat (first | (with_reducible first | exact HB.out | apply below_alloc | apply pw_below_drewN | apply below_drew1) | exact HB.out))))
                         have n1_ := Aside0.mk (below_step (by repeat (first | (with_reducible first | exact HB.out | apply below_alloc | apply pw_below_drewN | apply below_drew1) | exact HB.out)) hb)
                         clear HB
                         have HO471 := n0_
                         have HB := n1_
                         clear n0_ n1_
                         clear hb ho72
                         refine hK.out _ _ trivial (fun hHeld => ?_)
                         clear hK K
                         refine norm_ (a' := ?_) ?_ ?_
                         rotate_left;·show Act.put _ (some 60) _ = _;simp only [Act.put,setIfInBounds_toArray,set_cons_zero,set_cons_succ,i64_w,i32_w];rfl
                         exact norm_ (by first | (simp only [Go.Proofs.YtpcljaidlihafaaW.PrintLast.putAll,Act.put,setIfInBounds_toArray,set_cons_zero,set_cons_succ];done) | (simp only [Go.Proofs.YtpcljaidlihafaaW.PrintLast.putAll,Act.put,setIfInBounds_toArray,set_cons_zero,set_cons_succ];rfl)) (hJ9 (v470) _ ⟨(by (with_reducible repeat (first | apply Kd.R_alloc | apply Kd.R_drewN | apply Kd.R_drew));exact HO471.out),(by repeat (first | (with_reducible first | exact HB.out | apply below_alloc | apply pw_below_drewN | apply below_drew1) | exact HB.out))⟩)
                       ·skip
                        rintro v470 w73 ⟨h0_,h1_⟩
                        have n0_ : Aside0 (Kd.R (Kd.int .u8) 5 w73 w.heap.size (fun _ => True) v470 y469) := ⟨h0_⟩
                        have n1_ : Aside0 (Below w.heap.size w w73) := ⟨h1_⟩
                        clear HB
                        clear h0_ h1_
                        have HO471 := n0_
                        have HB := n1_
                        clear n0_ n1_
                        have hHeld := trivial
                        refine norm_ (a' := ?_) ?_ ?_
                        rotate_left;·simp only [Go.Proofs.YtpcljaidlihafaaW.PrintLast.putAll,Act.put,setIfInBounds_toArray,set_cons_zero,set_cons_succ];rfl
                        refine two_ (i := 1) (j := 10) (Ni := some 52) (Nj := some 61) #[true,true,true,true,true,false,false,false,true,true,false,false,false] #[true,false,true,true,true,false,false,false,true,true,true,false,false] rfl rfl rfl rfl (two_of HT_.out (by kernel_rfl)) (by decide) (by decide) (fun K hK => ?_) (fun K hK => ?_)
                        ·skip
                         refine Kd.R_lit_step Kd.string _ 9 ?hg (N := 52) ?hd (xs := ([(⟨#[]⟩ : ByteArray),(⟨#[45]⟩ : ByteArray),(⟨#[95]⟩ : ByteArray),(⟨#[32]⟩ : ByteArray)] : List ByteArray)) (inner := [.string (⟨#[]⟩ : ByteArray),.string (⟨#[45]⟩ : ByteArray),.string (⟨#[95]⟩ : ByteArray),.string (⟨#[32]⟩ : ByteArray)]) (ok := fun _ => True) (okp := fun _ => True) ?hr ?hp (fun _ hk => hk) trivial (Below.refl _ _) (Nat.le_refl _) (by simp) ?_;(case hd => rfl);(case hg => rfl);(case hr => first | (go_simp;done) | (go_simp;rfl));(case hp => exact (Reps.one (show Kd.M Kd.string _ _ _ (⟨#[]⟩ : ByteArray) [.string (⟨#[]⟩ : ByteArray)] from rfl) (Reps.one (show Kd.M Kd.string _ _ _ (⟨#[45]⟩ : ByteArray) [.string (⟨#[45]⟩ : ByteArray)] from rfl) (Reps.one (show Kd.M Kd.string _ _ _ (⟨#[95]⟩ : ByteArray) [.string (⟨#[95]⟩ : ByteArray)] from rfl) (Reps.one (show Kd.M Kd.string _ _ _ (⟨#[32]⟩ : ByteArray) [.string (⟨#[32]⟩ : ByteArray)] from rfl) (Reps.none _ _))))))
                         intro v466 w74 ho75 hb hg_ hnew_
                         clear hg_ hnew_
                         (first | rw [← Ny465.out] at ho75 | (simp only [Int.reduceToNat] at ho75;rw [← Ny465.out] at ho75))
                         have n0_ := Aside0.mk (Kd.R_below (by (with_reducible repeat (first | apply Kd.R_alloc | apply Kd.R_drewN | apply Kd.R_drew));exact HO471.out) hb)
                         have n1_ := Aside0.mk (Kd.R_lower ho75 (below_size (by repeat (first | (with_reducible first | exact HB.out | apply below_alloc | apply pw_below_drewN | apply below_drew1) | exact HB.out))))
                         have n2_ := Aside0.mk (below_step (by repeat (first | (with_reducible first | exact HB.out | apply below_alloc | apply pw_below_drewN | apply below_drew1) | exact HB.out)) hb)
                         clear HO471
                         clear HB
                         have HO471 := n0_
                         have HO467 := n1_
                         have HB := n2_
                         clear n0_ n1_ n2_
                         clear hb ho75
                         obtain ⟨Ao76,co76,eo76⟩ := Kd.R_slice HO467.out
                         subst eo76
                         obtain ⟨ado76,fo76,_⟩ := Kd.at_string (Kd.R_reads' HO467.out).2.2 0 (by decide) (by rw [Ny465.out];simp)
                         cases fo76
                         refine hK.out _ _ trivial (fun hHeld => ?_)
                         clear hK K
                         refine norm_ (a' := ?_) ?_ ?_
                         rotate_left;·show Act.put _ (some 52) _ = _;simp only [Act.put,setIfInBounds_toArray,set_cons_zero,set_cons_succ,i64_w,i32_w];rfl
                         refine pure_ (i := 5) (N := some 56) (v := ?_) (a' := ?_) #[true,true,true,true,true,true,false,false,true,true,false,false,false] rfl rfl (any_of HT_.out (by kernel_rfl)) (fun _ _ _ h => h) (Or.inl ⟨by rfl,?_⟩) ?_ ?_
                         rotate_left;·intro w';go_simp;rw [show (IntKind.u8.wrap 0).tmod 4 = ji65 from (by rw [← hji65];decide),if_pos ⟨of_eq_true pi468,of_eq_true qi468⟩]
                         rotate_left;·simp only [Act.put,setIfInBounds_toArray,set_cons_zero,set_cons_succ,i64_w,i32_w];rfl
                         exact norm_ (by first | (simp only [Go.Proofs.YtpcljaidlihafaaW.PrintLast.putAll,Act.put,setIfInBounds_toArray,set_cons_zero,set_cons_succ];done) | (simp only [Go.Proofs.YtpcljaidlihafaaW.PrintLast.putAll,Act.put,setIfInBounds_toArray,set_cons_zero,set_cons_succ];rfl)) (hJ1_9 (.slice (some ado76) y465.length co76,ado76,v470) _ ⟨(by (with_reducible repeat (first | apply Kd.R_alloc | apply Kd.R_drewN | apply Kd.R_drew));exact HO467.out),(by (with_reducible repeat (first | apply Kd.R_alloc | apply Kd.R_drewN | apply Kd.R_drew));exact HO471.out),⟨_,rfl⟩,(by repeat (first | (with_reducible first | exact HB.out | apply below_alloc | apply pw_below_drewN | apply below_drew1) | exact HB.out))⟩)
                        ·skip
                         have hcv74 := own_string (P := Try.prog) Try.underlying36 Try.underlying5 Try.underlying9 (Kd.own_of_R HO471.out)
                         refine value_ (w1 := ?_) (v := ?_) (by rfl) rfl ?_ ?_
                         rotate_left 2
                         ·go_simp
                          constructor
                          ·rfl
                          ·rfl
                         clear hcv74
                         refine hK.out _ _ trivial (fun hHeld => ?_)
                         clear hK K
                         refine norm_ (a' := ?_) ?_ ?_
                         rotate_left;·show Act.put _ (some 61) _ = _;simp only [Act.put,setIfInBounds_toArray,set_cons_zero,set_cons_succ,i64_w,i32_w];rfl
                         exact norm_ (by first | (simp only [Go.Proofs.YtpcljaidlihafaaW.PrintLast.putAll,Act.put,setIfInBounds_toArray,set_cons_zero,set_cons_succ];done) | (simp only [Go.Proofs.YtpcljaidlihafaaW.PrintLast.putAll,Act.put,setIfInBounds_toArray,set_cons_zero,set_cons_succ];rfl)) (hJ9_10 (v470) _ ⟨(by (with_reducible repeat (first | apply Kd.R_alloc | apply Kd.R_drewN | apply Kd.R_drew));exact HO471.out),(by repeat (first | (with_reducible first | exact HB.out | apply below_alloc | apply pw_below_drewN | apply below_drew1) | exact HB.out))⟩)
                      ·skip
                       rintro ⟨v466,adz_v466⟩ w74 ⟨h0_,h1_,h2_⟩
                       have n0_ : Aside0 (Kd.R Kd.string 9 w74 w.heap.size (fun _ => True) v466 y465) := ⟨h0_⟩
                       have n1_ : Aside0 (∃ c_,(v466 : Value) = .slice (some adz_v466) y465.length c_) := ⟨h1_⟩
                       have n2_ : Aside0 (Below w.heap.size w w74) := ⟨h2_⟩
                       clear HB
                       clear h0_ h1_ h2_
                       have HO467 := n0_
                       have HA_HO467 := n1_
                       have HB := n2_
                       clear n0_ n1_ n2_
                       have hHeld := trivial
                       obtain ⟨co75,eo75⟩ := HA_HO467.out
                       clear HA_HO467
                       subst eo75
                       refine norm_ (a' := ?_) ?_ ?_
                       rotate_left;·simp only [Go.Proofs.YtpcljaidlihafaaW.PrintLast.putAll,Act.put,setIfInBounds_toArray,set_cons_zero,set_cons_succ];rfl
                       refine two_ (i := 6) (j := 9) (Ni := some 57) (Nj := some 60) #[true,true,true,true,true,true,true,false,true,false,false,false,false] #[true,true,true,true,true,true,false,false,true,true,false,false,false] rfl rfl rfl rfl (two_of HT_.out (by kernel_rfl)) (by decide) (by decide) (fun K hK => ?_) (fun K hK => ?_)
                       ·skip
                        (have p468 : 0 ≤ ((ji65) : Int) := of_decide_eq_true (by first | (with_reducible assumption) | assumption);have q468 : (ji65) < (y465.length : Int) := of_decide_eq_true (by first | (with_reducible assumption) | assumption);obtain ⟨ad468,e468,hx468_0⟩ := Kd.at_string (Kd.R_reads' HO467.out).2.2 (ji65) p468 q468;obtain rfl : adz_v466 = ad468 := (by injection e468))
                        refine value_ (w1 := ?_) (v := ?_) (by rfl) rfl ?_ ?_
                        rotate_left 2
                        ·go_simp
                         constructor
                         ·rfl
                         ·rfl
                        clear hx468_0
                        refine hK.out _ _ trivial (fun hHeld => ?_)
                        clear hK K
                        refine norm_ (a' := ?_) ?_ ?_
                        rotate_left;·show Act.put _ (some 57) _ = _;simp only [Act.put,setIfInBounds_toArray,set_cons_zero,set_cons_succ,i64_w,i32_w];rfl
                        refine pure_ (i := 7) (N := some 58) (v := ?_) (a' := ?_) #[true,true,true,true,true,true,true,true,true,false,false,false,false] rfl rfl (any_of HT_.out (by kernel_rfl)) (fun _ _ _ h => h) (Or.inl ⟨by rfl,?_⟩) ?_ ?_
                        rotate_left;·intro w';go_simp;skip;with_reducible rfl
                        rotate_left;·simp only [Act.put,setIfInBounds_toArray,set_cons_zero,set_cons_succ,i64_w,i32_w];rfl
                        exact norm_ (by first | (simp only [Go.Proofs.YtpcljaidlihafaaW.PrintLast.putAll,Act.put,setIfInBounds_toArray,set_cons_zero,set_cons_succ];done) | (simp only [Go.Proofs.YtpcljaidlihafaaW.PrintLast.putAll,Act.put,setIfInBounds_toArray,set_cons_zero,set_cons_succ];rfl)) (hJ1_6 (.slice (some adz_v466) y465.length co75,adz_v466) _ ⟨(by (with_reducible repeat (first | apply Kd.R_alloc | apply Kd.R_drewN | apply Kd.R_drew));exact HO467.out),⟨_,rfl⟩,(by repeat (first | (with_reducible first | exact HB.out | apply below_alloc | apply pw_below_drewN | apply below_drew1) | exact HB.out))⟩)
                       ·skip
                        refine Kd.R_lit_step (Kd.int .u8) _ 5 ?hg (N := 60) ?hd (xs := ([bt (rdOf ByteArray.empty t439 (ji6)) x10_2] : List Int)) (inner := [.int .u8 (bt (rdOf ByteArray.empty t439 (ji6)) x10_2)]) (ok := fun _ => True) (okp := fun _ => True) ?hr ?hp (fun _ hk => hk) trivial (Below.refl _ _) (Nat.le_refl _) (by simp) ?_;(case hd => rfl);(case hg => rfl);(case hr => first | (go_simp;done) | (go_simp;rfl));(case hp => exact (Reps.one (show Kd.M (Kd.int .u8) _ _ _ (bt (rdOf ByteArray.empty t439 (ji6)) x10_2) [.int .u8 (bt (rdOf ByteArray.empty t439 (ji6)) x10_2)] from rfl) (Reps.none _ _)))
                        intro v470 w76 ho77 hb hg_ hnew_
                        clear hg_ hnew_
                        (first | rw [← Ny469.out] at ho77 | (simp only [Int.reduceToNat] at ho77;rw [← Ny469.out] at ho77))
                        have n0_ := Aside0.mk (Kd.R_below (by (with_reducible repeat (first | apply Kd.R_alloc | apply Kd.R_drewN | apply Kd.R_drew));exact HO467.out) hb)
                        have n1_ := Aside0.mk (Kd.R_lower ho77 (below_size (by repeat (first | (with_reducible first | exact HB.out | apply below_alloc | apply pw_below_drewN | apply below_drew1) | exact HB.out))))
                        have n2_ := Aside0.mk (below_step (by repeat (first | (with_reducible first | exact HB.out | apply below_alloc | apply pw_below_drewN | apply below_drew1) | exact HB.out)) hb)
                        clear HO467
                        clear HB
                        have HO467 := n0_
                        have HO471 := n1_
                        have HB := n2_
                        clear n0_ n1_ n2_
                        clear hb ho77
                        refine hK.out _ _ trivial (fun hHeld => ?_)
                        clear hK K
                        refine norm_ (a' := ?_) ?_ ?_
                        rotate_left;·show Act.put _ (some 60) _ = _;simp only [Act.put,setIfInBounds_toArray,set_cons_zero,set_cons_succ,i64_w,i32_w];rfl
                        exact norm_ (by first | (simp only [Go.Proofs.YtpcljaidlihafaaW.PrintLast.putAll,Act.put,setIfInBounds_toArray,set_cons_zero,set_cons_succ];done) | (simp only [Go.Proofs.YtpcljaidlihafaaW.PrintLast.putAll,Act.put,setIfInBounds_toArray,set_cons_zero,set_cons_succ];rfl)) (hJ1_9 (.slice (some adz_v466) y465.length co75,adz_v466,v470) _ ⟨(by (with_reducible repeat (first | apply Kd.R_alloc | apply Kd.R_drewN | apply Kd.R_drew));exact HO467.out),(by (with_reducible repeat (first | apply Kd.R_alloc | apply Kd.R_drewN | apply Kd.R_drew));exact HO471.out),⟨_,rfl⟩,(by repeat (first | (with_reducible first | exact HB.out | apply below_alloc | apply pw_below_drewN | apply below_drew1) | exact HB.out))⟩)
                     ·skip
                      rintro v470 w74 ⟨h0_,h1_⟩
                      have n0_ : Aside0 (Kd.R (Kd.int .u8) 5 w74 w.heap.size (fun _ => True) v470 y469) := ⟨h0_⟩
                      have n1_ : Aside0 (Below w.heap.size w w74) := ⟨h1_⟩
                      clear HB
                      clear h0_ h1_
                      have HO471 := n0_
                      have HB := n1_
                      clear n0_ n1_
                      have hHeld := trivial
                      refine norm_ (a' := ?_) ?_ ?_
                      rotate_left;·simp only [Go.Proofs.YtpcljaidlihafaaW.PrintLast.putAll,Act.put,setIfInBounds_toArray,set_cons_zero,set_cons_succ];rfl
                      refine one_ (i := 1) (N := some 52) #[true,true,true,true,true,false,false,false,true,true,true,false,false] rfl rfl (one_of HT_.out (by kernel_rfl)) (by decide) (fun K hK => ?_)
                      refine Kd.R_lit_step Kd.string _ 9 ?hg (N := 52) ?hd (xs := ([(⟨#[]⟩ : ByteArray),(⟨#[45]⟩ : ByteArray),(⟨#[95]⟩ : ByteArray),(⟨#[32]⟩ : ByteArray)] : List ByteArray)) (inner := [.string (⟨#[]⟩ : ByteArray),.string (⟨#[45]⟩ : ByteArray),.string (⟨#[95]⟩ : ByteArray),.string (⟨#[32]⟩ : ByteArray)]) (ok := fun _ => True) (okp := fun _ => True) ?hr ?hp (fun _ hk => hk) trivial (Below.refl _ _) (Nat.le_refl _) (by simp) ?_;(case hd => rfl);(case hg => rfl);(case hr => first | (go_simp;done) | (go_simp;rfl));(case hp => exact (Reps.one (show Kd.M Kd.string _ _ _ (⟨#[]⟩ : ByteArray) [.string (⟨#[]⟩ : ByteArray)] from rfl) (Reps.one (show Kd.M Kd.string _ _ _ (⟨#[45]⟩ : ByteArray) [.string (⟨#[45]⟩ : ByteArray)] from rfl) (Reps.one (show Kd.M Kd.string _ _ _ (⟨#[95]⟩ : ByteArray) [.string (⟨#[95]⟩ : ByteArray)] from rfl) (Reps.one (show Kd.M Kd.string _ _ _ (⟨#[32]⟩ : ByteArray) [.string (⟨#[32]⟩ : ByteArray)] from rfl) (Reps.none _ _))))))
                      intro v466 w75 ho76 hb hg_ hnew_
                      clear hg_ hnew_
                      (first | rw [← Ny465.out] at ho76 | (simp only [Int.reduceToNat] at ho76;rw [← Ny465.out] at ho76))
                      have n0_ := Aside0.mk (Kd.R_below (by (with_reducible repeat (first | apply Kd.R_alloc | apply Kd.R_drewN | apply Kd.R_drew));exact HO471.out) hb)
                      have n1_ := Aside0.mk (Kd.R_lower ho76 (below_size (by repeat (first | (with_reducible first | exact HB.out | apply below_alloc | apply pw_below_drewN | apply below_drew1) | exact HB.out))))
                      have n2_ := Aside0.mk (below_step (by repeat (first | (with_reducible first | exact HB.out | apply below_alloc | apply pw_below_drewN | apply below_drew1) | exact HB.out)) hb)
                      clear HO471
                      clear HB
                      have HO471 := n0_
                      have HO467 := n1_
                      have HB := n2_
                      clear n0_ n1_ n2_
                      clear hb ho76
                      obtain ⟨Ao77,co77,eo77⟩ := Kd.R_slice HO467.out
                      subst eo77
                      obtain ⟨ado77,fo77,_⟩ := Kd.at_string (Kd.R_reads' HO467.out).2.2 0 (by decide) (by rw [Ny465.out];simp)
                      cases fo77
                      refine hK.out _ _ trivial (fun hHeld => ?_)
                      clear hK K
                      refine norm_ (a' := ?_) ?_ ?_
                      rotate_left;·show Act.put _ (some 52) _ = _;simp only [Act.put,setIfInBounds_toArray,set_cons_zero,set_cons_succ,i64_w,i32_w];rfl
                      refine pure_ (i := 5) (N := some 56) (v := ?_) (a' := ?_) #[true,true,true,true,true,true,false,false,true,true,true,false,false] rfl rfl (any_of HT_.out (by kernel_rfl)) (fun _ _ _ h => h) (Or.inl ⟨by rfl,?_⟩) ?_ ?_
                      rotate_left;·intro w';go_simp;rw [show (IntKind.u8.wrap 0).tmod 4 = ji65 from (by rw [← hji65];decide),if_pos ⟨of_eq_true pi468,of_eq_true qi468⟩]
                      rotate_left;·simp only [Act.put,setIfInBounds_toArray,set_cons_zero,set_cons_succ,i64_w,i32_w];rfl
                      exact norm_ (by first | (simp only [Go.Proofs.YtpcljaidlihafaaW.PrintLast.putAll,Act.put,setIfInBounds_toArray,set_cons_zero,set_cons_succ];done) | (simp only [Go.Proofs.YtpcljaidlihafaaW.PrintLast.putAll,Act.put,setIfInBounds_toArray,set_cons_zero,set_cons_succ];rfl)) (hJ1_9_10 (.slice (some ado77) y465.length co77,ado77,v470) _ ⟨(by (with_reducible repeat (first | apply Kd.R_alloc | apply Kd.R_drewN | apply Kd.R_drew));exact HO467.out),(by (with_reducible repeat (first | apply Kd.R_alloc | apply Kd.R_drewN | apply Kd.R_drew));exact HO471.out),⟨_,rfl⟩,(by repeat (first | (with_reducible first | exact HB.out | apply below_alloc | apply pw_below_drewN | apply below_drew1) | exact HB.out))⟩)
                    ·skip
                     rintro ⟨v466,adz_v466,v470⟩ w76 ⟨h0_,h1_,h2_,h3_⟩
                     have n0_ : Aside0 (Kd.R Kd.string 9 w76 w.heap.size (fun _ => True) v466 y465) := ⟨h0_⟩
                     have n1_ : Aside0 (Kd.R (Kd.int .u8) 5 w76 w.heap.size (fun _ => True) v470 y469) := ⟨h1_⟩
                     have n2_ : Aside0 (∃ c_,(v466 : Value) = .slice (some adz_v466) y465.length c_) := ⟨h2_⟩
                     have n3_ : Aside0 (Below w.heap.size w w76) := ⟨h3_⟩
                     clear HB
                     clear h0_ h1_ h2_ h3_
                     have HO467 := n0_
                     have HO471 := n1_
                     have HA_HO467 := n2_
                     have HB := n3_
                     clear n0_ n1_ n2_ n3_
                     have hHeld := trivial
                     obtain ⟨co77,eo77⟩ := HA_HO467.out
                     clear HA_HO467
                     subst eo77
                     refine norm_ (a' := ?_) ?_ ?_
                     rotate_left;·simp only [Go.Proofs.YtpcljaidlihafaaW.PrintLast.putAll,Act.put,setIfInBounds_toArray,set_cons_zero,set_cons_succ];rfl
                     refine two_ (i := 6) (j := 10) (Ni := some 57) (Nj := some 61) #[true,true,true,true,true,true,true,false,true,true,false,false,false] #[true,true,true,true,true,true,false,false,true,true,true,false,false] rfl rfl rfl rfl (two_of HT_.out (by kernel_rfl)) (by decide) (by decide) (fun K hK => ?_) (fun K hK => ?_)
                     ·skip
                      (have p468 : 0 ≤ ((ji65) : Int) := of_decide_eq_true (by first | (with_reducible assumption) | assumption);have q468 : (ji65) < (y465.length : Int) := of_decide_eq_true (by first | (with_reducible assumption) | assumption);obtain ⟨ad468,e468,hx468_0⟩ := Kd.at_string (Kd.R_reads' HO467.out).2.2 (ji65) p468 q468;obtain rfl : adz_v466 = ad468 := (by injection e468))
                      refine value_ (w1 := ?_) (v := ?_) (by rfl) rfl ?_ ?_
                      rotate_left 2
                      ·go_simp
                       constructor
                       ·rfl
                       ·rfl
                      clear hx468_0
                      refine hK.out _ _ trivial (fun hHeld => ?_)
                      clear hK K
                      refine norm_ (a' := ?_) ?_ ?_
                      rotate_left;·show Act.put _ (some 57) _ = _;simp only [Act.put,setIfInBounds_toArray,set_cons_zero,set_cons_succ,i64_w,i32_w];rfl
                      refine pure_ (i := 7) (N := some 58) (v := ?_) (a' := ?_) #[true,true,true,true,true,true,true,true,true,true,false,false,false] rfl rfl (any_of HT_.out (by kernel_rfl)) (fun _ _ _ h => h) (Or.inl ⟨by rfl,?_⟩) ?_ ?_
                      rotate_left;·intro w';go_simp;skip;with_reducible rfl
                      rotate_left;·simp only [Act.put,setIfInBounds_toArray,set_cons_zero,set_cons_succ,i64_w,i32_w];rfl
                      exact norm_ (by first | (simp only [Go.Proofs.YtpcljaidlihafaaW.PrintLast.putAll,Act.put,setIfInBounds_toArray,set_cons_zero,set_cons_succ];done) | (simp only [Go.Proofs.YtpcljaidlihafaaW.PrintLast.putAll,Act.put,setIfInBounds_toArray,set_cons_zero,set_cons_succ];rfl)) (hJ1_6_9 (.slice (some adz_v466) y465.length co77,adz_v466,v470) _ ⟨(by (with_reducible repeat (first | apply Kd.R_alloc | apply Kd.R_drewN | apply Kd.R_drew));exact HO467.out),(by (with_reducible repeat (first | apply Kd.R_alloc | apply Kd.R_drewN | apply Kd.R_drew));exact HO471.out),⟨_,rfl⟩,(by repeat (first | (with_reducible first | exact HB.out | apply below_alloc | apply pw_below_drewN | apply below_drew1) | exact HB.out))⟩)
                     ·skip
                      have hcv78 := own_string (P := Try.prog) Try.underlying36 Try.underlying5 Try.underlying9 (Kd.own_of_R HO471.out)
                      refine value_ (w1 := ?_) (v := ?_) (by rfl) rfl ?_ ?_
                      rotate_left 2
                      ·go_simp
                       constructor
                       ·rfl
                       ·rfl
                      clear hcv78
                      refine hK.out _ _ trivial (fun hHeld => ?_)
                      clear hK K
                      refine norm_ (a' := ?_) ?_ ?_
                      rotate_left;·show Act.put _ (some 61) _ = _;simp only [Act.put,setIfInBounds_toArray,set_cons_zero,set_cons_succ,i64_w,i32_w];rfl
                      exact norm_ (by first | (simp only [Go.Proofs.YtpcljaidlihafaaW.PrintLast.putAll,Act.put,setIfInBounds_toArray,set_cons_zero,set_cons_succ];done) | (simp only [Go.Proofs.YtpcljaidlihafaaW.PrintLast.putAll,Act.put,setIfInBounds_toArray,set_cons_zero,set_cons_succ];rfl)) (hJ1_9_10 (.slice (some adz_v466) y465.length co77,adz_v466,v470) _ ⟨(by (with_reducible repeat (first | apply Kd.R_alloc | apply Kd.R_drewN | apply Kd.R_drew));exact HO467.out),(by (with_reducible repeat (first | apply Kd.R_alloc | apply Kd.R_drewN | apply Kd.R_drew));exact HO471.out),⟨_,rfl⟩,(by repeat (first | (with_reducible first | exact HB.out | apply below_alloc | apply pw_below_drewN | apply below_drew1) | exact HB.out))⟩)
                   ·skip
                    rintro ⟨v466,adz_v466⟩ w74 ⟨h0_,h1_,h2_⟩
                    have n0_ : Aside0 (Kd.R Kd.string 9 w74 w.heap.size (fun _ => True) v466 y465) := ⟨h0_⟩
                    have n1_ : Aside0 (∃ c_,(v466 : Value) = .slice (some adz_v466) y465.length c_) := ⟨h1_⟩
                    have n2_ : Aside0 (Below w.heap.size w w74) := ⟨h2_⟩
                    clear HB
                    clear h0_ h1_ h2_
                    have HO467 := n0_
                    have HA_HO467 := n1_
                    have HB := n2_
                    clear n0_ n1_ n2_
                    have hHeld := trivial
                    obtain ⟨co75,eo75⟩ := HA_HO467.out
                    clear HA_HO467
                    subst eo75
                    refine norm_ (a' := ?_) ?_ ?_
                    rotate_left;·simp only [Go.Proofs.YtpcljaidlihafaaW.PrintLast.putAll,Act.put,setIfInBounds_toArray,set_cons_zero,set_cons_succ];rfl
                    refine one_ (i := 9) (N := some 60) #[true,true,true,true,true,true,true,true,true,true,false,false,false] rfl rfl (one_of HT_.out (by kernel_rfl)) (by decide) (fun K hK => ?_)
                    refine Kd.R_lit_step (Kd.int .u8) _ 5 ?hg (N := 60) ?hd (xs := ([bt (rdOf ByteArray.empty t439 (ji6)) x10_2] : List Int)) (inner := [.int .u8 (bt (rdOf ByteArray.empty t439 (ji6)) x10_2)]) (ok := fun _ => True) (okp := fun _ => True) ?hr ?hp (fun _ hk => hk) trivial (Below.refl _ _) (Nat.le_refl _) (by simp) ?_;(case hd => rfl);(case hg => rfl);(case hr => first | (go_simp;done) | (go_simp;rfl));(case hp => exact (Reps.one (show Kd.M (Kd.int .u8) _ _ _ (bt (rdOf ByteArray.empty t439 (ji6)) x10_2) [.int .u8 (bt (rdOf ByteArray.empty t439 (ji6)) x10_2)] from rfl) (Reps.none _ _)))
                    intro v470 w76 ho77 hb hg_ hnew_
                    clear hg_ hnew_
                    (first | rw [← Ny469.out] at ho77 | (simp only [Int.reduceToNat] at ho77;rw [← Ny469.out] at ho77))
                    have n0_ := Aside0.mk (Kd.R_below (by (with_reducible repeat (first | apply Kd.R_alloc | apply Kd.R_drewN | apply Kd.R_drew));exact HO467.out) hb)
                    have n1_ := Aside0.mk (Kd.R_lower ho77 (below_size (by repeat (first | (with_reducible first | exact HB.out | apply below_alloc | apply pw_below_drewN | apply below_drew1) | exact HB.out))))
                    have n2_ := Aside0.mk (below_step (by repeat (first | (with_reducible first | exact HB.out | apply below_alloc | apply pw_below_drewN | apply below_drew1) | exact HB.out)) hb)
                    clear HO467
                    clear HB
                    have HO467 := n0_
                    have HO471 := n1_
                    have HB := n2_
                    clear n0_ n1_ n2_
                    clear hb ho77
                    refine hK.out _ _ trivial (fun hHeld => ?_)
                    clear hK K
                    refine norm_ (a' := ?_) ?_ ?_
                    rotate_left;·show Act.put _ (some 60) _ = _;simp only [Act.put,setIfInBounds_toArray,set_cons_zero,set_cons_succ,i64_w,i32_w];rfl
                    exact norm_ (by first | (simp only [Go.Proofs.YtpcljaidlihafaaW.PrintLast.putAll,Act.put,setIfInBounds_toArray,set_cons_zero,set_cons_succ];done) | (simp only [Go.Proofs.YtpcljaidlihafaaW.PrintLast.putAll,Act.put,setIfInBounds_toArray,set_cons_zero,set_cons_succ];rfl)) (hJ1_6_9 (.slice (some adz_v466) y465.length co75,adz_v466,v470) _ ⟨(by (with_reducible repeat (first | apply Kd.R_alloc | apply Kd.R_drewN | apply Kd.R_drew));exact HO467.out),(by (with_reducible repeat (first | apply Kd.R_alloc | apply Kd.R_drewN | apply Kd.R_drew));exact HO471.out),⟨_,rfl⟩,(by repeat (first | (with_reducible first | exact HB.out | apply below_alloc | apply pw_below_drewN | apply below_drew1) | exact HB.out))⟩)
                  ·skip
                   rintro ⟨v466,adz_v466,v470⟩ w77 ⟨h0_,h1_,h2_,h3_⟩
                   have n0_ : Aside0 (Kd.R Kd.string 9 w77 w.heap.size (fun _ => True) v466 y465) := ⟨h0_⟩
                   have n1_ : Aside0 (Kd.R (Kd.int .u8) 5 w77 w.heap.size (fun _ => True) v470 y469) := ⟨h1_⟩
                   have n2_ : Aside0 (∃ c_,(v466 : Value) = .slice (some adz_v466) y465.length c_) := ⟨h2_⟩
                   have n3_ : Aside0 (Below w.heap.size w w77) := ⟨h3_⟩
                   clear HB
                   clear h0_ h1_ h2_ h3_
                   have HO467 := n0_
                   have HO471 := n1_
                   have HA_HO467 := n2_
                   have HB := n3_
                   clear n0_ n1_ n2_ n3_
                   have hHeld := trivial
                   obtain ⟨co78,eo78⟩ := HA_HO467.out
                   clear HA_HO467
                   subst eo78
                   refine norm_ (a' := ?_) ?_ ?_
                   rotate_left;·simp only [Go.Proofs.YtpcljaidlihafaaW.PrintLast.putAll,Act.put,setIfInBounds_toArray,set_cons_zero,set_cons_succ];rfl
                   refine one_ (i := 6) (N := some 57) #[true,true,true,true,true,true,true,false,true,true,true,false,false] rfl rfl (one_of HT_.out (by kernel_rfl)) (by decide) (fun K hK => ?_)
                   (have p468 : 0 ≤ ((ji65) : Int) := of_decide_eq_true (by first | (with_reducible assumption) | assumption);have q468 : (ji65) < (y465.length : Int) := of_decide_eq_true (by first | (with_reducible assumption) | assumption);obtain ⟨ad468,e468,hx468_0⟩ := Kd.at_string (Kd.R_reads' HO467.out).2.2 (ji65) p468 q468;obtain rfl : adz_v466 = ad468 := (by injection e468))
                   refine value_ (w1 := ?_) (v := ?_) (by rfl) rfl ?_ ?_
                   rotate_left 2
                   ·go_simp
                    constructor
                    ·rfl
                    ·rfl
                   clear hx468_0
                   refine hK.out _ _ trivial (fun hHeld => ?_)
                   clear hK K
                   refine norm_ (a' := ?_) ?_ ?_
                   rotate_left;·show Act.put _ (some 57) _ = _;simp only [Act.put,setIfInBounds_toArray,set_cons_zero,set_cons_succ,i64_w,i32_w];rfl
                   refine pure_ (i := 7) (N := some 58) (v := ?_) (a' := ?_) #[true,true,true,true,true,true,true,true,true,true,true,false,false] rfl rfl (any_of HT_.out (by kernel_rfl)) (fun _ _ _ h => h) (Or.inl ⟨by rfl,?_⟩) ?_ ?_
                   rotate_left;·intro w';go_simp;skip;with_reducible rfl
                   rotate_left;·simp only [Act.put,setIfInBounds_toArray,set_cons_zero,set_cons_succ,i64_w,i32_w];rfl
                   exact norm_ (by first | (simp only [Go.Proofs.YtpcljaidlihafaaW.PrintLast.putAll,Act.put,setIfInBounds_toArray,set_cons_zero,set_cons_succ];done) | (simp only [Go.Proofs.YtpcljaidlihafaaW.PrintLast.putAll,Act.put,setIfInBounds_toArray,set_cons_zero,set_cons_succ];rfl)) (hJ1_6_9_10 (.slice (some adz_v466) y465.length co78,adz_v466,v470) _ ⟨(by (with_reducible repeat (first | apply Kd.R_alloc | apply Kd.R_drewN | apply Kd.R_drew));exact HO467.out),(by (with_reducible repeat (first | apply Kd.R_alloc | apply Kd.R_drewN | apply Kd.R_drew));exact HO471.out),⟨_,rfl⟩,(by repeat (first | (with_reducible first | exact HB.out | apply below_alloc | apply pw_below_drewN | apply below_drew1) | exact HB.out))⟩)
                 ·skip
                  rintro ⟨v466,adz_v466,v470⟩ w76 ⟨h0_,h1_,h2_,h3_⟩
                  have n0_ : Aside0 (Kd.R Kd.string 9 w76 w.heap.size (fun _ => True) v466 y465) := ⟨h0_⟩
                  have n1_ : Aside0 (Kd.R (Kd.int .u8) 5 w76 w.heap.size (fun _ => True) v470 y469) := ⟨h1_⟩
                  have n2_ : Aside0 (∃ c_,(v466 : Value) = .slice (some adz_v466) y465.length c_) := ⟨h2_⟩
                  have n3_ : Aside0 (Below w.heap.size w w76) := ⟨h3_⟩
                  clear HB
                  clear h0_ h1_ h2_ h3_
                  have HO467 := n0_
                  have HO471 := n1_
                  have HA_HO467 := n2_
                  have HB := n3_
                  clear n0_ n1_ n2_ n3_
                  have hHeld := trivial
                  obtain ⟨co77,eo77⟩ := HA_HO467.out
                  clear HA_HO467
                  subst eo77
                  refine norm_ (a' := ?_) ?_ ?_
                  rotate_left;·simp only [Go.Proofs.YtpcljaidlihafaaW.PrintLast.putAll,Act.put,setIfInBounds_toArray,set_cons_zero,set_cons_succ];rfl
                  refine one_ (i := 10) (N := some 61) #[true,true,true,true,true,true,true,true,true,true,true,false,false] rfl rfl (one_of HT_.out (by kernel_rfl)) (by decide) (fun K hK => ?_)
                  have hcv78 := own_string (P := Try.prog) Try.underlying36 Try.underlying5 Try.underlying9 (Kd.own_of_R HO471.out)
                  refine value_ (w1 := ?_) (v := ?_) (by rfl) rfl ?_ ?_
                  rotate_left 2
                  ·go_simp
                   constructor
                   ·rfl
                   ·rfl
                  clear hcv78
                  refine hK.out _ _ trivial (fun hHeld => ?_)
                  clear hK K
                  refine norm_ (a' := ?_) ?_ ?_
                  rotate_left;·show Act.put _ (some 61) _ = _;simp only [Act.put,setIfInBounds_toArray,set_cons_zero,set_cons_succ,i64_w,i32_w];rfl
                  exact norm_ (by first | (simp only [Go.Proofs.YtpcljaidlihafaaW.PrintLast.putAll,Act.put,setIfInBounds_toArray,set_cons_zero,set_cons_succ];done) | (simp only [Go.Proofs.YtpcljaidlihafaaW.PrintLast.putAll,Act.put,setIfInBounds_toArray,set_cons_zero,set_cons_succ];rfl)) (hJ1_6_9_10 (.slice (some adz_v466) y465.length co77,adz_v466,v470) _ ⟨(by (with_reducible repeat (first | apply Kd.R_alloc | apply Kd.R_drewN | apply Kd.R_drew));exact HO467.out),(by (with_reducible repeat (first | apply Kd.R_alloc | apply Kd.R_drewN | apply Kd.R_drew));exact HO471.out),⟨_,rfl⟩,(by repeat (first | (with_reducible first | exact HB.out | apply below_alloc | apply pw_below_drewN | apply below_drew1) | exact HB.out))⟩)
                rintro ⟨v466,adz_v466,v470⟩ w77 ⟨h0_,h1_,h2_,h3_⟩
                have n0_ : Aside0 (Kd.R Kd.string 9 w77 w.heap.size (fun _ => True) v466 y465) := ⟨h0_⟩
                have n1_ : Aside0 (Kd.R (Kd.int .u8) 5 w77 w.heap.size (fun _ => True) v470 y469) := ⟨h1_⟩
                have n2_ : Aside0 (∃ c_,(v466 : Value) = .slice (some adz_v466) y465.length c_) := ⟨h2_⟩
                have n3_ : Aside0 (Below w.heap.size w w77) := ⟨h3_⟩
                clear HB
                clear h0_ h1_ h2_ h3_
                have HO467 := n0_
                have HO471 := n1_
                have HA_HO467 := n2_
                have HB := n3_
                clear n0_ n1_ n2_ n3_
                have hHeld := trivial
                obtain ⟨co78,eo78⟩ := HA_HO467.out
                clear HA_HO467
                subst eo78
                refine norm_ (a' := ?_) ?_ ?_
                rotate_left;·simp only [Go.Proofs.YtpcljaidlihafaaW.PrintLast.putAll,Act.put,setIfInBounds_toArray,set_cons_zero,set_cons_succ];rfl
                refine pure_ (i := 11) (N := some 62) (v := ?_) (a' := ?_) #[true,true,true,true,true,true,true,true,true,true,true,true,false] rfl rfl (any_of HT_.out (by kernel_rfl)) (fun _ _ _ h => h) (Or.inl ⟨by rfl,?_⟩) ?_ ?_
                rotate_left;·intro w';go_simp;rw [if_neg (by have h_ := c69;rw [ByteArray.size_append] at h_;omega)]
                rotate_left;·simp only [Act.put,setIfInBounds_toArray,set_cons_zero,set_cons_succ,i64_w,i32_w];rfl
                refine pure_ (i := 12) (N := some 9) (v := ?_) (a' := ?_) #[true,true,true,true,true,true,true,true,true,true,true,true,true] rfl rfl (any_of HT_.out (by kernel_rfl)) (fun _ _ _ h => h) (Or.inl ⟨by rfl,?_⟩) ?_ ?_
                rotate_left;·intro w';go_simp;skip;with_reducible rfl
                rotate_left;·simp only [Act.put,setIfInBounds_toArray,set_cons_zero,set_cons_succ,i64_w,i32_w];rfl
                refine done_ (done_of HT_.out (by kernel_rfl)) ?_
                try go_wp2
                go_roundg k2
                case measure => have := HJ8.out;have := HK2.out;omega
                case rel => exact ⟨((x9_2 ++ (rdOf ByteArray.empty y465 (ji65))) ++ (strOfNums y469)),(wrap64 (x10_2 + 1)),(by first | rfl | (simp;done) | (simp only [← hji65] <;> (first | rfl | simp)) | (simp [*];done)),(by first | rfl | (simp;done) | (simp [*];done)),H',⟨by have := HJ8.out;have := HK2.out;omega⟩,⟨by repeat (first | (with_reducible first | exact HB.out | apply below_alloc | apply pw_below_drewN | apply below_drew1) | exact HB.out)⟩⟩
               ·rw [if_neg c69] at H
                exact absurd H (by simp)
              ·rw [if_neg c68] at H
               exact absurd H (by simp)
             ·rw [if_neg c67] at H
              exact absurd H (by simp)
            ·rw [if_neg c66] at H
             exact absurd H (by simp)
         ·rw [if_neg c14] at H
          exact absurd H (by simp)
        ·rw [if_neg c13] at H
         have c13b0 : decide (x10_2 < ((rdOf ByteArray.empty t439 (ji6)).size : Int)) = false := decide_eq_false c13
         clear c13
         replace H := Option.bind_eq_some_iff.mp H
         obtain ⟨⟨t472,t473⟩,A790,H⟩ := H
         replace H : ((props_Of.f (rdOf ByteArray.empty t439 (ji6))).bind fun bt476 => ((glyphcutterlaw05_known.f k2).bind fun t480 => (if t480 = true then (if t473 = true then (if bt476.2 = true then ((glyphcutterref01_Alike.f k2 t472 bt476.1).bind fun t481 => (some t481)) else (some false)) else (some false)) else (some false)))) = some r := H
         have A79 := Aside0.mk A790
         clear A790
         replace H := Option.bind_eq_some_iff.mp H
         obtain ⟨⟨t476,t477⟩,A800,H⟩ := H
         replace H : ((glyphcutterlaw05_known.f k2).bind fun t480 => (if t480 = true then (if t473 = true then (if t477 = true then ((glyphcutterref01_Alike.f k2 t472 t476).bind fun t481 => (some t481)) else (some false)) else (some false)) else (some false))) = some r := H
         have A80 := Aside0.mk A800
         clear A800
         replace H := Option.bind_eq_some_iff.mp H
         obtain ⟨t480,A810,H⟩ := H
         skip
         have A81 := Aside0.mk A810
         clear A810
         by_cases c82 : t480 = true
         ·subst c82
          rw [if_pos rfl] at H
          by_cases c83 : t473 = true
          ·subst c83
           rw [if_pos rfl] at H
           by_cases c84 : t477 = true
           ·subst c84
            rw [if_pos rfl] at H
            replace H := Option.bind_eq_some_iff.mp H
            obtain ⟨t481,A850,H⟩ := H
            skip
            have A85 := Aside0.mk A850
            clear A850
            obtain rfl := Option.some.inj H
            go_wp2_with (first | ((with_reducible refine gate_callee (f := 12) rfl ?_);refine goesL_ (some 65) rfl rfl Try.func12 (by kernel_rfl) rfl #[.string x9_2] rfl (by (try simp only [List.map_toArray,List.map_cons,List.map_nil]);first | done | rfl | (simp only [List.length_drop,List.length_take];rfl)) ?_;(with_reducible refine (props_Of.calls x9_2 t472 true _ A79.out).mono ?_);rintro e w86 ⟨v474,rfl,ho0,hb⟩;refine ⟨_,rfl,?_⟩;have n0_ := Aside0.mk (Kd.R_lower ho0 (below_size (by repeat (first | (with_reducible first | exact HB.out | apply below_alloc | apply pw_below_drewN | apply below_drew1) | exact HB.out))));have n1_ := Aside0.mk (below_step (by repeat (first | (with_reducible first | exact HB.out | apply below_alloc | apply pw_below_drewN | apply below_drew1) | exact HB.out)) hb);clear HB;have HO475 := n0_;have HB := n1_;clear n0_ n1_;(try clear hb);(try clear hb2);(try clear hk);(try clear hi);(try clear ho0)) | ((with_reducible refine gate_callee (f := 12) rfl ?_);refine goesL_ (some 70) rfl rfl Try.func12 (by kernel_rfl) rfl #[.string (rdOf ByteArray.empty t439 (ji6))] rfl (by (try simp only [List.map_toArray,List.map_cons,List.map_nil]);first | done | (simp only [hji6];rfl) | rfl | (simp only [List.length_drop,List.length_take];rfl)) ?_;(with_reducible refine (props_Of.calls (rdOf ByteArray.empty t439 (ji6)) t476 true _ A80.out).mono ?_);rintro e w87 ⟨v478,rfl,ho0,hb⟩;refine ⟨_,rfl,?_⟩;have n0_ := Aside0.mk (Kd.R_elder' (by (with_reducible repeat (first | apply Kd.R_alloc | apply Kd.R_drewN | apply Kd.R_drew));exact HO475.out) (Kd.R_base ho0) hb);have n1_ := Aside0.mk (Kd.R_lower (Kd.R_new' ho0 (Kd.R_lt (by (with_reducible repeat (first | apply Kd.R_alloc | apply Kd.R_drewN | apply Kd.R_drew));exact HO475.out))) (below_size (by repeat (first | (with_reducible first | exact HB.out | apply below_alloc | apply pw_below_drewN | apply below_drew1) | exact HB.out))));have n2_ := Aside0.mk (below_step (by repeat (first | (with_reducible first | exact HB.out | apply below_alloc | apply pw_below_drewN | apply below_drew1) | exact HB.out)) hb);clear HO475;clear HB;have HO475 := n0_;have HO479 := n1_;have HB := n2_;clear n0_ n1_ n2_;(try clear hb);(try clear hb2);(try clear hk);(try clear hi);(try clear ho0)) | ((with_reducible refine gate_callee (f := 9) rfl ?_);refine goesL_ (some 73) rfl rfl Try.func9 (by kernel_rfl) rfl #[] rfl (by (try simp only [List.map_toArray,List.map_cons,List.map_nil]);first | done | rfl | (simp only [List.length_drop,List.length_take];rfl)) ?_;(with_reducible refine (glyphcutterlaw05_known.calls k2  true _ A81.out).mono ?_);rintro e w88 ⟨rfl,hb⟩;refine ⟨_,rfl,?_⟩;have n0_ := Aside0.mk (Kd.R_below (by (with_reducible repeat (first | apply Kd.R_alloc | apply Kd.R_drewN | apply Kd.R_drew));exact HO475.out) hb);have n1_ := Aside0.mk (Kd.R_below (by (with_reducible repeat (first | apply Kd.R_alloc | apply Kd.R_drewN | apply Kd.R_drew));exact HO479.out) hb);have n2_ := Aside0.mk (below_step (by repeat (first | (with_reducible first | exact HB.out | apply below_alloc | apply pw_below_drewN | apply below_drew1) | exact HB.out)) hb);clear HO475;clear HO479;clear HB;have HO475 := n0_;have HO479 := n1_;have HB := n2_;clear n0_ n1_ n2_;(try clear hb);(try clear hb2);(try clear hk);(try clear hi);obtain ⟨Ao89,co89,eo89⟩ := Kd.R_slice HO475.out;subst eo89;obtain ⟨Ao90,co90,eo90⟩ := Kd.R_slice HO479.out;subst eo90) | (go_at_call 13;(with_reducible refine (glyphcutterref01_Alike.calls k2 _ _ t472 _ _ t476 t481 _ ?side1 ?side2 ?side3 ?side4 A85.out).mono ?_);(case side1 => repeat (first | exact (Kd.R_reads' HO475.out).2.2 | (with_reducible refine Kd.C_alloc ?_ _) | (with_reducible refine Kd.C_drewN ?_ _) | (with_reducible refine Kd.C_drew ?_)));(case side2 => exact (Kd.R_reads' HO475.out).2.1);(case side3 => repeat (first | exact (Kd.R_reads' HO479.out).2.2 | (with_reducible refine Kd.C_alloc ?_ _) | (with_reducible refine Kd.C_drewN ?_ _) | (with_reducible refine Kd.C_drew ?_)));(case side4 => exact (Kd.R_reads' HO479.out).2.1);rintro e w' ⟨rfl,⟨nd,rfl⟩⟩))
            go_ret
            exact ⟨by first | rfl | (simp [errW_none,errW_some] <;> rfl) | (simp only [← hji6];first | rfl | (simp [errW_none,errW_some] <;> rfl)) | (simp [*,errW_none,errW_some] <;> rfl),by repeat (first | (with_reducible first | exact HB.out | apply below_alloc | apply pw_below_drewN | apply below_drew1) | exact HB.out)⟩
           ·replace c84 := Bool.eq_false_iff.mpr c84
            subst c84
            rw [if_neg (show ¬ (false = true) by decide)] at H
            obtain rfl := Option.some.inj H
            go_wp2_with (first | ((with_reducible refine gate_callee (f := 12) rfl ?_);refine goesL_ (some 65) rfl rfl Try.func12 (by kernel_rfl) rfl #[.string x9_2] rfl (by (try simp only [List.map_toArray,List.map_cons,List.map_nil]);first | done | rfl | (simp only [List.length_drop,List.length_take];rfl)) ?_;(with_reducible refine (props_Of.calls x9_2 t472 true _ A79.out).mono ?_);rintro e w91 ⟨v474,rfl,ho0,hb⟩;refine ⟨_,rfl,?_⟩;have n0_ := Aside0.mk (Kd.R_lower ho0 (below_size (by repeat (first | (with_reducible first | exact HB.out | apply below_alloc | apply pw_below_drewN | apply below_drew1) | exact HB.out))));have n1_ := Aside0.mk (below_step (by repeat (first | (with_reducible first | exact HB.out | apply below_alloc | apply pw_below_drewN | apply below_drew1) | exact HB.out)) hb);clear HB;have HO475 := n0_;have HB := n1_;clear n0_ n1_;(try clear hb);(try clear hb2);(try clear hk);(try clear hi);(try clear ho0)) | ((with_reducible refine gate_callee (f := 12) rfl ?_);refine goesL_ (some 70) rfl rfl Try.func12 (by kernel_rfl) rfl #[.string (rdOf ByteArray.empty t439 (ji6))] rfl (by (try simp only [List.map_toArray,List.map_cons,List.map_nil]);first | done | (simp only [hji6];rfl) | rfl | (simp only [List.length_drop,List.length_take];rfl)) ?_;(with_reducible refine (props_Of.calls (rdOf ByteArray.empty t439 (ji6)) t476 false _ A80.out).mono ?_);rintro e w92 ⟨v478,rfl,ho0,hb⟩;refine ⟨_,rfl,?_⟩;have n0_ := Aside0.mk (Kd.R_elder' (by (with_reducible repeat (first | apply Kd.R_alloc | apply Kd.R_drewN | apply Kd.R_drew));exact HO475.out) (Kd.R_base ho0) hb);have n1_ := Aside0.mk (Kd.R_lower (Kd.R_new' ho0 (Kd.R_lt (by (with_reducible repeat (first | apply Kd.R_alloc | apply Kd.R_drewN | apply Kd.R_drew));exact HO475.out))) (below_size (by repeat (first | (with_reducible first | exact HB.out | apply below_alloc | apply pw_below_drewN | apply below_drew1) | exact HB.out))));have n2_ := Aside0.mk (below_step (by repeat (first | (with_reducible first | exact HB.out | apply below_alloc | apply pw_below_drewN | apply below_drew1) | exact HB.out)) hb);clear HO475;clear HB;have HO475 := n0_;have HO479 := n1_;have HB := n2_;clear n0_ n1_ n2_;(try clear hb);(try clear hb2);(try clear hk);(try clear hi);(try clear ho0)) | ((with_reducible refine gate_callee (f := 9) rfl ?_);refine goesL_ (some 73) rfl rfl Try.func9 (by kernel_rfl) rfl #[] rfl (by (try simp only [List.map_toArray,List.map_cons,List.map_nil]);first | done | rfl | (simp only [List.length_drop,List.length_take];rfl)) ?_;(with_reducible refine (glyphcutterlaw05_known.calls k2  true _ A81.out).mono ?_);rintro e w93 ⟨rfl,hb⟩;refine ⟨_,rfl,?_⟩;have n0_ := Aside0.mk (Kd.R_below (by (with_reducible repeat (first | apply Kd.R_alloc | apply Kd.R_drewN | apply Kd.R_drew));exact HO475.out) hb);have n1_ := Aside0.mk (Kd.R_below (by (with_reducible repeat (first | apply Kd.R_alloc | apply Kd.R_drewN | apply Kd.R_drew));exact HO479.out) hb);have n2_ := Aside0.mk (below_step (by repeat (first | (with_reducible first | exact HB.out | apply below_alloc | apply pw_below_drewN | apply below_drew1) | exact HB.out)) hb);clear HO475;clear HO479;clear HB;have HO475 := n0_;have HO479 := n1_;have HB := n2_;clear n0_ n1_ n2_;(try clear hb);(try clear hb2);(try clear hk);(try clear hi)))
            go_ret
            exact ⟨by first | rfl | (simp [errW_none,errW_some] <;> rfl) | (simp only [← hji6];first | rfl | (simp [errW_none,errW_some] <;> rfl)) | (simp [*,errW_none,errW_some] <;> rfl),by repeat (first | (with_reducible first | exact HB.out | apply below_alloc | apply pw_below_drewN | apply below_drew1) | exact HB.out)⟩
          ·replace c83 := Bool.eq_false_iff.mpr c83
           subst c83
           rw [if_neg (show ¬ (false = true) by decide)] at H
           obtain rfl := Option.some.inj H
           go_wp2_with (first | ((with_reducible refine gate_callee (f := 12) rfl ?_);refine goesL_ (some 65) rfl rfl Try.func12 (by kernel_rfl) rfl #[.string x9_2] rfl (by (try simp only [List.map_toArray,List.map_cons,List.map_nil]);first | done | rfl | (simp only [List.length_drop,List.length_take];rfl)) ?_;(with_reducible refine (props_Of.calls x9_2 t472 false _ A79.out).mono ?_);rintro e w94 ⟨v474,rfl,ho0,hb⟩;refine ⟨_,rfl,?_⟩;have n0_ := Aside0.mk (Kd.R_lower ho0 (below_size (by repeat (first | (with_reducible first | exact HB.out | apply below_alloc | apply pw_below_drewN | apply below_drew1) | exact HB.out))));have n1_ := Aside0.mk (below_step (by repeat (first | (with_reducible first | exact HB.out | apply below_alloc | apply pw_below_drewN | apply below_drew1) | exact HB.out)) hb);clear HB;have HO475 := n0_;have HB := n1_;clear n0_ n1_;(try clear hb);(try clear hb2);(try clear hk);(try clear hi);(try clear ho0)) | ((with_reducible refine gate_callee (f := 12) rfl ?_);refine goesL_ (some 70) rfl rfl Try.func12 (by kernel_rfl) rfl #[.string (rdOf ByteArray.empty t439 (ji6))] rfl (by (try simp only [List.map_toArray,List.map_cons,List.map_nil]);first | done | (simp only [hji6];rfl) | rfl | (simp only [List.length_drop,List.length_take];rfl)) ?_;(with_reducible refine (props_Of.calls (rdOf ByteArray.empty t439 (ji6)) t476 t477 _ A80.out).mono ?_);rintro e w95 ⟨v478,rfl,ho0,hb⟩;refine ⟨_,rfl,?_⟩;have n0_ := Aside0.mk (Kd.R_elder' (by (with_reducible repeat (first | apply Kd.R_alloc | apply Kd.R_drewN | apply Kd.R_drew));exact HO475.out) (Kd.R_base ho0) hb);have n1_ := Aside0.mk (Kd.R_lower (Kd.R_new' ho0 (Kd.R_lt (by (with_reducible repeat (first | apply Kd.R_alloc | apply Kd.R_drewN | apply Kd.R_drew));exact HO475.out))) (below_size (by repeat (first | (with_reducible first | exact HB.out | apply below_alloc | apply pw_below_drewN | apply below_drew1) | exact HB.out))));have n2_ := Aside0.mk (below_step (by repeat (first | (with_reducible first | exact HB.out | apply below_alloc | apply pw_below_drewN | apply below_drew1) | exact HB.out)) hb);clear HO475;clear HB;have HO475 := n0_;have HO479 := n1_;have HB := n2_;clear n0_ n1_ n2_;(try clear hb);(try clear hb2);(try clear hk);(try clear hi);(try clear ho0)) | ((with_reducible refine gate_callee (f := 9) rfl ?_);refine goesL_ (some 73) rfl rfl Try.func9 (by kernel_rfl) rfl #[] rfl (by (try simp only [List.map_toArray,List.map_cons,List.map_nil]);first | done | rfl | (simp only [List.length_drop,List.length_take];rfl)) ?_;(with_reducible refine (glyphcutterlaw05_known.calls k2  true _ A81.out).mono ?_);rintro e w96 ⟨rfl,hb⟩;refine ⟨_,rfl,?_⟩;have n0_ := Aside0.mk (Kd.R_below (by (with_reducible repeat (first | apply Kd.R_alloc | apply Kd.R_drewN | apply Kd.R_drew));exact HO475.out) hb);have n1_ := Aside0.mk (Kd.R_below (by (with_reducible repeat (first | apply Kd.R_alloc | apply Kd.R_drewN | apply Kd.R_drew));exact HO479.out) hb);have n2_ := Aside0.mk (below_step (by repeat (first | (with_reducible first | exact HB.out | apply below_alloc | apply pw_below_drewN | apply below_drew1) | exact HB.out)) hb);clear HO475;clear HO479;clear HB;have HO475 := n0_;have HO479 := n1_;have HB := n2_;clear n0_ n1_ n2_;(try clear hb);(try clear hb2);(try clear hk);(try clear hi)))
           go_ret
           exact ⟨by first | rfl | (simp [errW_none,errW_some] <;> rfl) | (simp only [← hji6];first | rfl | (simp [errW_none,errW_some] <;> rfl)) | (simp [*,errW_none,errW_some] <;> rfl),by repeat (first | (with_reducible first | exact HB.out | apply below_alloc | apply pw_below_drewN | apply below_drew1) | exact HB.out)⟩
         ·replace c82 := Bool.eq_false_iff.mpr c82
          subst c82
          rw [if_neg (show ¬ (false = true) by decide)] at H
          obtain rfl := Option.some.inj H
          go_wp2_with (first | ((with_reducible refine gate_callee (f := 12) rfl ?_);refine goesL_ (some 65) rfl rfl Try.func12 (by kernel_rfl) rfl #[.string x9_2] rfl (by (try simp only [List.map_toArray,List.map_cons,List.map_nil]);first | done | rfl | (simp only [List.length_drop,List.length_take];rfl)) ?_;(with_reducible refine (props_Of.calls x9_2 t472 t473 _ A79.out).mono ?_);rintro e w97 ⟨v474,rfl,ho0,hb⟩;refine ⟨_,rfl,?_⟩;have n0_ := Aside0.mk (Kd.R_lower ho0 (below_size (by repeat (first | (with_reducible first | exact HB.out | apply below_alloc | apply pw_below_drewN | apply below_drew1) | exact HB.out))));have n1_ := Aside0.mk (below_step (by repeat (first | (with_reducible first | exact HB.out | apply below_alloc | apply pw_below_drewN | apply below_drew1) | exact HB.out)) hb);clear HB;have HO475 := n0_;have HB := n1_;clear n0_ n1_;(try clear hb);(try clear hb2);(try clear hk);(try clear hi);(try clear ho0)) | ((with_reducible refine gate_callee (f := 12) rfl ?_);refine goesL_ (some 70) rfl rfl Try.func12 (by kernel_rfl) rfl #[.string (rdOf ByteArray.empty t439 (ji6))] rfl (by (try simp only [List.map_toArray,List.map_cons,List.map_nil]);first | done | (simp only [hji6];rfl) | rfl | (simp only [List.length_drop,List.length_take];rfl)) ?_;(with_reducible refine (props_Of.calls (rdOf ByteArray.empty t439 (ji6)) t476 t477 _ A80.out).mono ?_);rintro e w98 ⟨v478,rfl,ho0,hb⟩;refine ⟨_,rfl,?_⟩;have n0_ := Aside0.mk (Kd.R_elder' (by (with_reducible repeat (first | apply Kd.R_alloc | apply Kd.R_drewN | apply Kd.R_drew));exact HO475.out) (Kd.R_base ho0) hb);have n1_ := Aside0.mk (Kd.R_lower (Kd.R_new' ho0 (Kd.R_lt (by (with_reducible repeat (first | apply Kd.R_alloc | apply Kd.R_drewN | apply Kd.R_drew));exact HO475.out))) (below_size (by repeat (first | (with_reducible first | exact HB.out | apply below_alloc | apply pw_below_drewN | apply below_drew1) | exact HB.out))));have n2_ := Aside0.mk (below_step (by repeat (first | (with_reducible first | exact HB.out | apply below_alloc | apply pw_below_drewN | apply below_drew1) | exact HB.out)) hb);clear HO475;clear HB;have HO475 := n0_;have HO479 := n1_;have HB := n2_;clear n0_ n1_ n2_;(try clear hb);(try clear hb2);(try clear hk);(try clear hi);(try clear ho0)) | ((with_reducible refine gate_callee (f := 9) rfl ?_);refine goesL_ (some 73) rfl rfl Try.func9 (by kernel_rfl) rfl #[] rfl (by (try simp only [List.map_toArray,List.map_cons,List.map_nil]);first | done | rfl | (simp only [List.length_drop,List.length_take];rfl)) ?_;(with_reducible refine (glyphcutterlaw05_known.calls k2  false _ A81.out).mono ?_);rintro e w99 ⟨rfl,hb⟩;refine ⟨_,rfl,?_⟩;have n0_ := Aside0.mk (Kd.R_below (by (with_reducible repeat (first | apply Kd.R_alloc | apply Kd.R_drewN | apply Kd.R_drew));exact HO475.out) hb);have n1_ := Aside0.mk (Kd.R_below (by (with_reducible repeat (first | apply Kd.R_alloc | apply Kd.R_drewN | apply Kd.R_drew));exact HO479.out) hb);have n2_ := Aside0.mk (below_step (by repeat (first | (with_reducible first | exact HB.out | apply below_alloc | apply pw_below_drewN | apply below_drew1) | exact HB.out)) hb);clear HO475;clear HO479;clear HB;have HO475 := n0_;have HO479 := n1_;have HB := n2_;clear n0_ n1_ n2_;(try clear hb);(try clear hb2);(try clear hk);(try clear hi)))
          go_ret
          exact ⟨by first | rfl | (simp [errW_none,errW_some] <;> rfl) | (simp only [← hji6];first | rfl | (simp [errW_none,errW_some] <;> rfl)) | (simp [*,errW_none,errW_some] <;> rfl),by repeat (first | (with_reducible first | exact HB.out | apply below_alloc | apply pw_below_drewN | apply below_drew1) | exact HB.out)⟩
   ·rw [if_neg c8] at H
    exact absurd H (by simp)
  ·rw [if_neg c7] at H
   exact absurd H (by simp)

end Go.Proofs.Ytpcljaidlihafaa.P
