-- WRITTEN BY A PROGRAM (hybrid.py over the kit's print.py): Lean checks it.
import Derived.Test.YtfaahcgoinkmlaaPx0
namespace Go.Proofs.Ytfaahcgoinkmlaa.P
open List (setIfInBounds_toArray set_cons_zero set_cons_succ)
open Go.RowKit Go.Proofs.YtfaahcgoinkmlaaW.PrintWords Go.Proofs.YtfaahcgoinkmlaaW.PrintLast Go.Proofs.YtfaahcgoinkmlaaW.PrintMore
attribute [local go_sem] max2_int min2_int max_two min_two max_three min_three max_four min_four   -- for this text's walks alone
set_option linter.unusedVariables false
set_option linter.unusedSimpArgs false

/-! ### glyphcutterlaw16_Pairs: function 15 -/
mutual
def glyphcutterlaw16_Pairs.l0 : Nat → List (S58) → List Int → List (S45) → Int → Option ((List (S45)))
 | 0,_,_,_,_ => none
 | k + 1,x0,x3,x4,x5 => if x5 < (x0.length : Int) then (glyphcutterlaw16_Pairs.j1 k x0 x3 x4 x5 (decide (x5 < 250))) else (glyphcutterlaw16_Pairs.j1 k x0 x3 x4 x5 false)
def glyphcutterlaw16_Pairs.j1 : Nat → List (S58) → List Int → List (S45) → Int → Bool → Option ((List (S45)))
 | 0,_,_,_,_,_ => none
 | k + 1,x0,x3,x4,x5,x15 => if x15 = true then (if 0 ≤ x5 then (if x5 < (x0.length : Int) then (if 0 ≤ (Int.tmod ((rd_T58 x0 x5).f0) 8) then (if (Int.tmod ((rd_T58 x0 x5).f0) 8) < (x3.length : Int) then (if 0 ≤ (Int.tmod ((rd_T58 x0 x5).f1) 8) then (if (Int.tmod ((rd_T58 x0 x5).f1) 8) < (x3.length : Int) then (if ((rd_T58 x0 x5).f2) < 0 then (if x4.length < 8796093022208 then (glyphcutterlaw16_Pairs.l0 k x0 x3 (x4 ++ [(⟨rd x3 (Int.tmod ((rd_T58 x0 x5).f0) 8),(rd_T58 x0 x5).f2⟩ : S45)]) (wrap64 (x5 + 1))) else (none)) else (if ((rd_T58 x0 x5).f2) > 1 then (if x4.length < 8796093022208 then (glyphcutterlaw16_Pairs.l0 k x0 x3 (x4 ++ [(⟨rd x3 (Int.tmod ((rd_T58 x0 x5).f0) 8),(rd_T58 x0 x5).f2⟩ : S45)]) (wrap64 (x5 + 1))) else (none)) else (if x4.length < 8796093022208 then (glyphcutterlaw16_Pairs.l0 k x0 x3 (x4 ++ [(⟨rd x3 (Int.tmod ((rd_T58 x0 x5).f0) 8),rd x3 (Int.tmod ((rd_T58 x0 x5).f1) 8)⟩ : S45)]) (wrap64 (x5 + 1))) else (none)))) else (none)) else (none)) else (none)) else (none)) else (none)) else (none)) else (some x4)
end
def glyphcutterlaw16_Pairs.f (k : Nat) (l0 : List (S58)) : Option ((List (S45))) := glyphcutterlaw16_Pairs.l0 k l0 (([97,98,99,75,13,10,945,233] : List Int)) ([] : List (S45)) 0
theorem glyphcutterlaw16_Pairs.mono_l : ∀ k,(∀ y0 y1 y2 y3,LeO (glyphcutterlaw16_Pairs.l0 k y0 y1 y2 y3) (glyphcutterlaw16_Pairs.l0 (k + 1) y0 y1 y2 y3)) ∧ (∀ y0 y1 y2 y3 y4,LeO (glyphcutterlaw16_Pairs.j1 k y0 y1 y2 y3 y4) (glyphcutterlaw16_Pairs.j1 (k + 1) y0 y1 y2 y3 y4))
 | 0 => ⟨fun _ _ _ _ r h => by simp [glyphcutterlaw16_Pairs.l0] at h,fun _ _ _ _ _ r h => by simp [glyphcutterlaw16_Pairs.j1] at h⟩
 | k + 1 => by
  obtain ⟨ih0,ih1⟩ := glyphcutterlaw16_Pairs.mono_l k
  refine ⟨?_,?_⟩
  ·intro y0 y1 y2 y3
   unfold glyphcutterlaw16_Pairs.l0
   repeat' first
   | (with_reducible exact ih0 _ _ _ _)
   | (with_reducible exact ih1 _ _ _ _ _)
   | (with_reducible exact LeO.refl _)
   | (with_reducible exact LeO.none _)
   | (with_reducible refine LeO.ite ?_ ?_)
   | (with_reducible refine LeO.bind ?_ (fun _ => ?_))
   | exact ih0 _ _ _ _
   | exact ih1 _ _ _ _ _
   | exact LeO.none _
   | refine LeO.ite ?_ ?_
   | refine LeO.bind ?_ (fun _ => ?_)
  ·intro y0 y1 y2 y3 y4
   unfold glyphcutterlaw16_Pairs.j1
   repeat' first
   | (with_reducible exact ih0 _ _ _ _)
   | (with_reducible exact ih1 _ _ _ _ _)
   | (with_reducible exact LeO.refl _)
   | (with_reducible exact LeO.none _)
   | (with_reducible refine LeO.ite ?_ ?_)
   | (with_reducible refine LeO.bind ?_ (fun _ => ?_))
   | exact ih0 _ _ _ _
   | exact ih1 _ _ _ _ _
   | exact LeO.none _
   | refine LeO.ite ?_ ?_
   | refine LeO.bind ?_ (fun _ => ?_)
theorem glyphcutterlaw16_Pairs.mono : ∀ a0 k,LeO (glyphcutterlaw16_Pairs.f k a0) (glyphcutterlaw16_Pairs.f (k + 1) a0) := by
 intro a0 k
 obtain ⟨ih0,ih1⟩ := glyphcutterlaw16_Pairs.mono_l k
 unfold glyphcutterlaw16_Pairs.f
 repeat' first
   | (with_reducible exact ih0 _ _ _ _)
   | (with_reducible exact ih1 _ _ _ _ _)
   | (with_reducible exact LeO.refl _)
   | (with_reducible exact LeO.none _)
   | (with_reducible refine LeO.ite ?_ ?_)
   | (with_reducible refine LeO.bind ?_ (fun _ => ?_))
   | exact ih0 _ _ _ _
   | exact ih1 _ _ _ _ _
   | exact LeO.none _
   | refine LeO.ite ?_ ?_
   | refine LeO.bind ?_ (fun _ => ?_)
def glyphcutterlaw16_Pairs.T6 : Bool × List (List Nat × List Nat) := (true,[([],[]),([],[]),([],[]),([1,2],[1,2]),([3],[3]),([4],[4]),([5],[5]),([0,6],[0,6]),([7],[7]),([],[]),([],[]),([],[]),([10,11],[10,11]),([12],[12]),([13],[13]),([14],[14]),([9,15],[9,15]),([16],[16]),([8,17],[8,17]),([],[]),([19,18,0,1,2,3,4,5,6,7,8,9,10,11,12,13,14,15,16,17,18,19],[18,19])])
def glyphcutterlaw16_Pairs.B6 : List Nat := [0,0,0,6,14,30,62,127,255,0,0,0,3072,7168,15360,31744,65024,130560,262143,0,1048575]
theorem glyphcutterlaw16_Pairs.tab6 : rtab .any (opsOf Try.f15 6) = glyphcutterlaw16_Pairs.T6 := by kernel_rfl
theorem glyphcutterlaw16_Pairs.bits6 : waitsOk glyphcutterlaw16_Pairs.T6.2 glyphcutterlaw16_Pairs.B6 = true := by kernel_rfl
set_option maxHeartbeats 8000000 in
set_option maxRecDepth 100000 in
theorem glyphcutterlaw16_Pairs.calls (k : Nat) (A0 : Option Addr) (c0 : Nat) (l0 : List (S58)) (r : List (S45)) (w : World) (hr0 : Kd.C k58 w A0 l0.length l0) (hc0 : l0.length ≤ c0) (h : glyphcutterlaw16_Pairs.f k l0 = some r) :
  Calls Try.prog 15 #[.slice A0 l0.length c0] w fun e w' => ∃ v0_ : Value,e = .returned (v0_) ∧ Kd.R k45 45 w' w.heap.size (fun _ => True) v0_ r ∧ Below w.heap.size w w' := by
 have hu45 := Try.underlying45
 have HR0 := Aside0.mk hr0
 have HC0 := Aside0.mk hc0
 clear hr0 hc0
 have HB := Aside0.mk (Below.refl w.heap.size w)
 have H : (glyphcutterlaw16_Pairs.l0 k l0 (([97,98,99,75,13,10,945,233] : List Int)) ([] : List (S45)) 0) = some r := h
 clear h
 obtain ⟨y163,hy163⟩ : ∃ y_ : List Int,y_ = (([97,98,99,75,13,10,945,233] : List Int)) := ⟨_,rfl⟩
 replace H : (glyphcutterlaw16_Pairs.l0 k l0 y163 ([] : List (S45)) 0) = some r := by first | (rw [hy163];with_reducible exact H) | (have H2_ := (Option.bind_some _ _).symm.trans H;rw [hy163];with_reducible exact H2_) | (have H2_ := (Option.bind_some _ _).symm.trans H;with_reducible exact H2_) | with_reducible exact H | (rw [hy163];exact H) | exact H
 have Ny163 := Aside0.mk hy163
 clear hy163
 have H' := Aside0.mk H
 clear H
 go_enter Try.func15,Try.ntmps15
 go_wp2_with (first | ((with_reducible refine gate_dst (N := 7) rfl ?_);refine Kd.R_lit (Kd.int .i64) _ 3 ?hg (N := 7) ?hd (xs := ([97,98,99,75,13,10,945,233] : List Int)) (inner := [.int .i64 97,.int .i64 98,.int .i64 99,.int .i64 75,.int .i64 13,.int .i64 10,.int .i64 945,.int .i64 233]) (ok := fun _ => True) (okp := fun _ => True) ?hr ?hp (fun _ hk => hk) trivial (Below.refl _ _) (Nat.le_refl _) (by simp) ?_;(case hd => rfl);(case hg => rfl);(case hr => first | (go_simp;done) | (go_simp;rfl));(case hp => exact (Reps.one (show Kd.M (Kd.int .i64) _ _ _ 97 [.int .i64 97] from rfl) (Reps.one (show Kd.M (Kd.int .i64) _ _ _ 98 [.int .i64 98] from rfl) (Reps.one (show Kd.M (Kd.int .i64) _ _ _ 99 [.int .i64 99] from rfl) (Reps.one (show Kd.M (Kd.int .i64) _ _ _ 75 [.int .i64 75] from rfl) (Reps.one (show Kd.M (Kd.int .i64) _ _ _ 13 [.int .i64 13] from rfl) (Reps.one (show Kd.M (Kd.int .i64) _ _ _ 10 [.int .i64 10] from rfl) (Reps.one (show Kd.M (Kd.int .i64) _ _ _ 945 [.int .i64 945] from rfl) (Reps.one (show Kd.M (Kd.int .i64) _ _ _ 233 [.int .i64 233] from rfl) (Reps.none _ _))))))))));intro v164 w2 ho3 hb hg_ hnew_;clear hg_ hnew_;(first | rw [← Ny163.out] at ho3 | (simp only [Int.reduceToNat] at ho3;rw [← Ny163.out] at ho3));have n0_ := Aside0.mk (Kd.R_lower ho3 (below_size (by repeat (first | (with_reducible first | exact HB.out | apply below_alloc | apply pw_below_drewN | apply below_drew1) | exact HB.out))));have n1_ := Aside0.mk (below_step (by repeat (first | (with_reducible first | exact HB.out | apply below_alloc | apply pw_below_drewN | apply below_drew1) | exact HB.out)) hb);clear HB;have HO165 := n0_;have HB := n1_;clear n0_ n1_;clear hb ho3))
 go_loopg [4,5] k (fun kq v4 v5 w' => ∃ (x4_1 : List (S45)) (x5_1 : Int),v5 = .int .i64 x5_1 ∧ Aside0 (glyphcutterlaw16_Pairs.l0 kq l0 y163 x4_1 x5_1 = some r) ∧ Aside0 (kq ≤ k) ∧ Aside0 (Kd.R (Kd.int .i64) 3 w' w.heap.size (fun _ => True) v164 y163) ∧ Aside0 (Kd.R k45 45 w' w.heap.size (fun _ => True) v4 x4_1) ∧ Aside0 (Below w.heap.size w w'))
 case atStart => exact ⟨(([] : List (S45))),(0),(by first | rfl | (simp;done) | (simp [*];done)),H',⟨Nat.le_refl _⟩,⟨by (with_reducible repeat (first | apply Kd.R_alloc | apply Kd.R_drewN | apply Kd.R_drew));exact HO165.out⟩,⟨by first | exact Kd.R_nil _ _ _ _ _ | exact Kd.N_nil _ _ _ _ _ | exact Kd.V_nil _ _ _ _ _ | exact Kd.Q_nil _ _ _ _ _ | exact Kd.S_nil _ _ _ _ _⟩,⟨by repeat (first | (with_reducible first | exact HB.out | apply below_alloc | apply pw_below_drewN | apply below_drew1) | exact HB.out)⟩⟩
 case round =>
  clear H'
  try clear c1
  try clear p2
  obtain ⟨x4_1,x5_1,rfl,HA,HK1,HO_3,HO_4,HB⟩ := hrel
  cases gk with
  | zero => exact absurd HA.out (by simp [glyphcutterlaw16_Pairs.l0])
  | succ k1 =>
   have H := HA.out
   clear HA
   simp only [glyphcutterlaw16_Pairs.l0] at H
   have HC4 := Aside0.mk H
   clear H
   go_upto_region 4 with (fail)
   go_cut [15] (fun v15 wc => ∃ (kq : Nat) (x15_3 : Bool),v15 = .bool x15_3 ∧ Aside0 (glyphcutterlaw16_Pairs.j1 kq l0 y163 x4_1 x5_1 x15_3 = some r) ∧ Aside0 (kq ≤ k1) ∧ Aside0 (Kd.R (Kd.int .i64) 3 wc w.heap.size (fun _ => True) v164 y163) ∧ Aside0 (Kd.R k45 45 wc w.heap.size (fun _ => True) u4 x4_1) ∧ Aside0 (Below w.heap.size w wc))
   case first =>
    have H := HC4.out
    clear HC4
    by_cases c5 : x5_1 < (l0.length : Int)
    ·rw [if_pos c5] at H
     have c5b0 : decide (x5_1 < (l0.length : Int)) = true := decide_eq_true c5
     clear c5
     (first | rw [c5b0] | (simp only [i64_w,i32_w];rw [c5b0]) | skip)
     have H' := Aside0.mk H
     clear H
     go_wp2
     go_meet
     case rel => exact ⟨_,(decide (x5_1 < 250)),(by first | rfl | (simp;done) | (simp [*];done)),H',⟨by have := HK1.out;first | omega | exact Nat.le_refl _⟩,⟨by (with_reducible repeat (first | apply Kd.R_alloc | apply Kd.R_drewN | apply Kd.R_drew));exact HO_3.out⟩,⟨by (with_reducible repeat (first | apply Kd.R_alloc | apply Kd.R_drewN | apply Kd.R_drew));exact HO_4.out⟩,⟨by repeat (first | (with_reducible first | exact HB.out | apply below_alloc | apply pw_below_drewN | apply below_drew1) | exact HB.out)⟩⟩
    ·rw [if_neg c5] at H
     have c5b0 : decide (x5_1 < (l0.length : Int)) = false := decide_eq_false c5
     clear c5
     (first | rw [c5b0] | (simp only [i64_w,i32_w];rw [c5b0]) | skip)
     have H' := Aside0.mk H
     clear H
     go_wp2
     go_meet
     case rel => exact ⟨_,(false),(by first | rfl | (simp;done) | (simp [*];done)),H',⟨by have := HK1.out;first | omega | exact Nat.le_refl _⟩,⟨by (with_reducible repeat (first | apply Kd.R_alloc | apply Kd.R_drewN | apply Kd.R_drew));exact HO_3.out⟩,⟨by (with_reducible repeat (first | apply Kd.R_alloc | apply Kd.R_drewN | apply Kd.R_drew));exact HO_4.out⟩,⟨by repeat (first | (with_reducible first | exact HB.out | apply below_alloc | apply pw_below_drewN | apply below_drew1) | exact HB.out)⟩⟩
   case rest =>
    clear HC4
    try clear c1
    try clear p2
    try clear c5
    try clear c5b0
    try clear p2
    obtain ⟨kq,x15_3,rfl,HA,HJ3,HO_3,HO_4,HB⟩ := hcut
    cases kq with
    | zero => exact absurd HA.out (by simp [glyphcutterlaw16_Pairs.j1])
    | succ kj3 =>
     have H := HA.out
     clear HA
     simp only [glyphcutterlaw16_Pairs.j1] at H
     by_cases c6 : x15_3 = true
     ·subst c6
      rw [if_pos rfl] at H
      by_cases c7 : 0 ≤ x5_1
      ·rw [if_pos c7] at H
       have c7b0 : decide (0 ≤ x5_1) = true := decide_eq_true c7
       clear c7
       by_cases c8 : x5_1 < (l0.length : Int)
       ·rw [if_pos c8] at H
        have c8b0 : decide (x5_1 < (l0.length : Int)) = true := decide_eq_true c8
        clear c8
        obtain ⟨ji9,hji9⟩ : ∃ j_ : Int,(Int.tmod ((rd_T58 l0 x5_1).f0) 8) = j_ := ⟨_,rfl⟩
        replace H : (if 0 ≤ (ji9) then (if (ji9) < (y163.length : Int) then (if 0 ≤ (Int.tmod ((rd_T58 l0 x5_1).f1) 8) then (if (Int.tmod ((rd_T58 l0 x5_1).f1) 8) < (y163.length : Int) then (if ((rd_T58 l0 x5_1).f2) < 0 then (if x4_1.length < 8796093022208 then (glyphcutterlaw16_Pairs.l0 kj3 l0 y163 (x4_1 ++ [(⟨rd y163 (ji9),(rd_T58 l0 x5_1).f2⟩ : S45)]) (wrap64 (x5_1 + 1))) else (none)) else (if ((rd_T58 l0 x5_1).f2) > 1 then (if x4_1.length < 8796093022208 then (glyphcutterlaw16_Pairs.l0 kj3 l0 y163 (x4_1 ++ [(⟨rd y163 (ji9),(rd_T58 l0 x5_1).f2⟩ : S45)]) (wrap64 (x5_1 + 1))) else (none)) else (if x4_1.length < 8796093022208 then (glyphcutterlaw16_Pairs.l0 kj3 l0 y163 (x4_1 ++ [(⟨rd y163 (ji9),rd y163 (Int.tmod ((rd_T58 l0 x5_1).f1) 8)⟩ : S45)]) (wrap64 (x5_1 + 1))) else (none)))) else (none)) else (none)) else (none)) else (none)) = some r := by first | (rw [hji9] at H;exact H) | (simp only [hji9] at H ⊢;exact H)
        by_cases c10 : 0 ≤ (ji9)
        ·rw [if_pos c10] at H
         have c10b0 : decide (0 ≤ (ji9)) = true := decide_eq_true c10
         clear c10
         by_cases c11 : (ji9) < (y163.length : Int)
         ·rw [if_pos c11] at H
          have c11b0 : decide ((ji9) < (y163.length : Int)) = true := decide_eq_true c11
          clear c11
          obtain ⟨ji12,hji12⟩ : ∃ j_ : Int,(Int.tmod ((rd_T58 l0 x5_1).f1) 8) = j_ := ⟨_,rfl⟩
          replace H : (if 0 ≤ (ji12) then (if (ji12) < (y163.length : Int) then (if ((rd_T58 l0 x5_1).f2) < 0 then (if x4_1.length < 8796093022208 then (glyphcutterlaw16_Pairs.l0 kj3 l0 y163 (x4_1 ++ [(⟨rd y163 (ji9),(rd_T58 l0 x5_1).f2⟩ : S45)]) (wrap64 (x5_1 + 1))) else (none)) else (if ((rd_T58 l0 x5_1).f2) > 1 then (if x4_1.length < 8796093022208 then (glyphcutterlaw16_Pairs.l0 kj3 l0 y163 (x4_1 ++ [(⟨rd y163 (ji9),(rd_T58 l0 x5_1).f2⟩ : S45)]) (wrap64 (x5_1 + 1))) else (none)) else (if x4_1.length < 8796093022208 then (glyphcutterlaw16_Pairs.l0 kj3 l0 y163 (x4_1 ++ [(⟨rd y163 (ji9),rd y163 (ji12)⟩ : S45)]) (wrap64 (x5_1 + 1))) else (none)))) else (none)) else (none)) = some r := by first | (rw [hji12] at H;exact H) | (simp only [hji12] at H ⊢;exact H)
          by_cases c13 : 0 ≤ (ji12)
          ·rw [if_pos c13] at H
           have c13b0 : decide (0 ≤ (ji12)) = true := decide_eq_true c13
           clear c13
           by_cases c14 : (ji12) < (y163.length : Int)
           ·rw [if_pos c14] at H
            have c14b0 : decide ((ji12) < (y163.length : Int)) = true := decide_eq_true c14
            clear c14
            by_cases c15 : ((rd_T58 l0 x5_1).f2) < 0
            ·rw [if_pos c15] at H
             have c15b0 : decide (((rd_T58 l0 x5_1).f2) < 0) = true := decide_eq_true c15
             clear c15
             by_cases c16 : x4_1.length < 8796093022208
             ·rw [if_pos c16] at H
              have LMc16 := Aside0.mk c16
              clear c16
              obtain ⟨y173,hy173⟩ : ∃ y_ : List (S45),y_ = (x4_1 ++ [(⟨rd y163 (ji9),(rd_T58 l0 x5_1).f2⟩ : S45)]) := ⟨_,rfl⟩
              replace H : (glyphcutterlaw16_Pairs.l0 kj3 l0 y163 y173 (wrap64 (x5_1 + 1))) = some r := by first | (rw [hy173];with_reducible exact H) | (have H2_ := (Option.bind_some _ _).symm.trans H;rw [hy173];with_reducible exact H2_) | (have H2_ := (Option.bind_some _ _).symm.trans H;with_reducible exact H2_) | with_reducible exact H | (rw [hy173];exact H) | exact H
              have Ny173 := Aside0.mk hy173
              clear hy173
              have H' := Aside0.mk H
              clear H
              try go_wp2
              have n0_ := Aside0.mk (Kd.R_drew HO_3.out)
              have n1_ := Aside0.mk (Kd.R_drew HO_4.out)
              have n2_ := Aside0.mk (below_drew1 HB.out)
              clear HO_3
              clear HO_4
              clear HB
              have HO_3 := n0_
              have HO_4 := n1_
              have HB := n2_
              clear n0_ n1_ n2_
              have p166 : 0 ≤ (x5_1 : Int) := of_decide_eq_true (by first | (with_reducible assumption) | assumption)
              have q166 : x5_1 < (l0.length : Int) := of_decide_eq_true (by first | (with_reducible assumption) | assumption)
              obtain ⟨ad166,e166,hx166_0,hx166_1,hx166_2⟩ := at_T58 HR0.out x5_1 p166 q166
              have hw166_2 := hx166_2
              have hw166_1 := hx166_1
              have hw166_0 := hx166_0
              cases e166
              replace hx166_0 := (HB.out.cell (World.block_lt_of_cell? w _ hx166_0)).trans hx166_0
              replace hx166_1 := (HB.out.cell (World.block_lt_of_cell? w _ hx166_1)).trans hx166_1
              replace hx166_2 := (HB.out.cell (World.block_lt_of_cell? w _ hx166_2)).trans hx166_2
              replace p166 := eq_true p166
              replace q166 := eq_true q166
              obtain ⟨Ao18,co18,eo18⟩ := Kd.R_slice HO_3.out
              (first | subst eo18 | (injection eo18 with f1_ f2_ f3_;have f4_ := f1_.symm;have f5_ := f3_.symm;clear f1_ f2_ f3_;subst f4_;subst f5_))
              have p167 : 0 ≤ ((ji9) : Int) := of_decide_eq_true (by first | (with_reducible assumption) | assumption)
              have q167 : (ji9) < (y163.length : Int) := of_decide_eq_true (by first | (with_reducible assumption) | assumption)
              obtain ⟨ad167,e167,hx167_0⟩ := Kd.at_int (Kd.R_reads' HO_3.out).2.2 (ji9) p167 q167
              cases e167
              replace p167 := eq_true p167
              replace q167 := eq_true q167
              have p168 : 0 ≤ (x5_1 : Int) := of_decide_eq_true (by first | (with_reducible assumption) | assumption)
              have q168 : x5_1 < (l0.length : Int) := of_decide_eq_true (by first | (with_reducible assumption) | assumption)
              obtain ⟨ad168,e168,hx168_0,hx168_1,hx168_2⟩ := at_T58 HR0.out x5_1 p168 q168
              have hw168_2 := hx168_2
              have hw168_1 := hx168_1
              have hw168_0 := hx168_0
              obtain rfl : ad166 = ad168 := (by injection e168)
              replace hx168_0 := (HB.out.cell (World.block_lt_of_cell? w _ hx168_0)).trans hx168_0
              replace hx168_1 := (HB.out.cell (World.block_lt_of_cell? w _ hx168_1)).trans hx168_1
              replace hx168_2 := (HB.out.cell (World.block_lt_of_cell? w _ hx168_2)).trans hx168_2
              replace p168 := eq_true p168
              replace q168 := eq_true q168
              have p169 : 0 ≤ ((ji12) : Int) := of_decide_eq_true (by first | (with_reducible assumption) | assumption)
              have q169 : (ji12) < (y163.length : Int) := of_decide_eq_true (by first | (with_reducible assumption) | assumption)
              obtain ⟨ad169,e169,hx169_0⟩ := Kd.at_int (Kd.R_reads' HO_3.out).2.2 (ji12) p169 q169
              obtain rfl : ad167 = ad169 := (by injection e169)
              replace p169 := eq_true p169
              replace q169 := eq_true q169
              refine start_ (n := 21) (S := fun w' => w'.cell? (ad166.add ((x5_1).toNat * 3)) = some (.int .u8 ((rd_T58 l0 x5_1).f0)) ∧ w'.cell? ⟨(ad166.add ((x5_1).toNat * 3)).block,(ad166.add ((x5_1).toNat * 3)).off + 1,none⟩ = some (.int .u8 ((rd_T58 l0 x5_1).f1)) ∧ w'.cell? ⟨(ad166.add ((x5_1).toNat * 3)).block,(ad166.add ((x5_1).toNat * 3)).off + 2,none⟩ = some (.int .i64 ((rd_T58 l0 x5_1).f2)) ∧ w'.cell? (ad167.add ((ji9)).toNat) = some (.int .i64 (rd y163 (ji9))) ∧ w'.cell? (ad166.add ((x5_1).toNat * 3)) = some (.int .u8 ((rd_T58 l0 x5_1).f0)) ∧ w'.cell? ⟨(ad166.add ((x5_1).toNat * 3)).block,(ad166.add ((x5_1).toNat * 3)).off + 1,none⟩ = some (.int .u8 ((rd_T58 l0 x5_1).f1)) ∧ w'.cell? ⟨(ad166.add ((x5_1).toNat * 3)).block,(ad166.add ((x5_1).toNat * 3)).off + 2,none⟩ = some (.int .i64 ((rd_T58 l0 x5_1).f2)) ∧ w'.cell? (ad167.add ((ji12)).toNat) = some (.int .i64 (rd y163 (ji12)))) (ds := []) #[false,false,false,false,false,false,false,false,false,false,false,false,false,false,false,false,false,false,false,false,false] (by kernel_rfl) rfl rfl ⟨((HB.out.cell (World.block_lt_of_cell? w _ hw166_0)).trans hw166_0),((HB.out.cell (World.block_lt_of_cell? w _ hw166_1)).trans hw166_1),((HB.out.cell (World.block_lt_of_cell? w _ hw166_2)).trans hw166_2),hx167_0,((HB.out.cell (World.block_lt_of_cell? w _ hw168_0)).trans hw168_0),((HB.out.cell (World.block_lt_of_cell? w _ hw168_1)).trans hw168_1),((HB.out.cell (World.block_lt_of_cell? w _ hw168_2)).trans hw168_2),hx169_0⟩ (fun hHeld => ?_);refine with_tabW glyphcutterlaw16_Pairs.tab6 glyphcutterlaw16_Pairs.bits6 (fun HT_ HW_ => ?_)
              generalize wc.drew = w17 at HO_3 HO_4 HB hx166_0 hx166_1 hx166_2 hx167_0 hx168_0 hx168_1 hx168_2 hx169_0 hHeld ⊢
              refine pure_ (i := 0) (N := some 18) (v := ?_) (a' := ?_) #[true,false,false,false,false,false,false,false,false,false,false,false,false,false,false,false,false,false,false,false,false] rfl rfl (any_of HT_.out (by kernel_rfl)) (fun _ _ _ h => h) (Or.inl ⟨by rfl,?_⟩) ?_ ?_
              rotate_left;·intro w';go_simp;with_reducible rfl
              rotate_left;·simp only [Act.put,setIfInBounds_toArray,set_cons_zero,set_cons_succ,i64_w,i32_w];rfl
              refine pure_ (i := 1) (N := some 19) (v := ?_) (a' := ?_) #[true,true,false,false,false,false,false,false,false,false,false,false,false,false,false,false,false,false,false,false,false] rfl rfl (any_of HT_.out (by kernel_rfl)) (fun _ _ _ h => h) (Or.inl ⟨by rfl,?_⟩) ?_ ?_
              rotate_left;·intro w';go_simp;with_reducible rfl
              rotate_left;·simp only [Act.put,setIfInBounds_toArray,set_cons_zero,set_cons_succ,i64_w,i32_w];rfl
              refine pure_ (i := 2) (N := some 20) (v := ?_) (a' := ?_) #[true,true,true,false,false,false,false,false,false,false,false,false,false,false,false,false,false,false,false,false,false] rfl rfl (any_of HT_.out (by kernel_rfl)) (fun _ _ _ h => h) (Or.inl ⟨by rfl,?_⟩) ?_ ?_
              rotate_left;·intro w';go_simp;with_reducible rfl
              rotate_left;·simp only [Act.put,setIfInBounds_toArray,set_cons_zero,set_cons_succ,i64_w,i32_w];rfl
              refine pure_ (i := 3) (N := some 21) (v := ?_) (a' := ?_) #[true,true,true,true,false,false,false,false,false,false,false,false,false,false,false,false,false,false,false,false,false] rfl rfl (any_of HT_.out (by kernel_rfl)) (fun _ _ _ h => h) (Or.inl ⟨by rfl,?_⟩) ?_ ?_
              rotate_left;·intro w';go_simp;with_reducible rfl
              rotate_left;·simp only [Act.put,setIfInBounds_toArray,set_cons_zero,set_cons_succ,i64_w,i32_w];rfl
              refine pure_ (i := 4) (N := some 22) (v := ?_) (a' := ?_) #[true,true,true,true,true,false,false,false,false,false,false,false,false,false,false,false,false,false,false,false,false] rfl rfl (any_of HT_.out (by kernel_rfl)) (fun _ _ _ h => h) (Or.inl ⟨by rfl,?_⟩) ?_ ?_
              rotate_left;·intro w';go_simp;with_reducible rfl
              rotate_left;·simp only [Act.put,setIfInBounds_toArray,set_cons_zero,set_cons_succ,i64_w,i32_w];rfl
              refine pure_ (i := 9) (N := some 27) (v := ?_) (a' := ?_) #[true,true,true,true,true,false,false,false,false,true,false,false,false,false,false,false,false,false,false,false,false] rfl rfl (any_of HT_.out (by kernel_rfl)) (fun _ _ _ h => h) (Or.inl ⟨by rfl,?_⟩) ?_ ?_
              rotate_left;·intro w';go_simp;with_reducible rfl
              rotate_left;·simp only [Act.put,setIfInBounds_toArray,set_cons_zero,set_cons_succ,i64_w,i32_w];rfl
              refine pure_ (i := 10) (N := some 28) (v := ?_) (a' := ?_) #[true,true,true,true,true,false,false,false,false,true,true,false,false,false,false,false,false,false,false,false,false] rfl rfl (any_of HT_.out (by kernel_rfl)) (fun _ _ _ h => h) (Or.inl ⟨by rfl,?_⟩) ?_ ?_
              rotate_left;·intro w';go_simp;with_reducible rfl
              rotate_left;·simp only [Act.put,setIfInBounds_toArray,set_cons_zero,set_cons_succ,i64_w,i32_w];rfl
              refine pure_ (i := 11) (N := some 29) (v := ?_) (a' := ?_) #[true,true,true,true,true,false,false,false,false,true,true,true,false,false,false,false,false,false,false,false,false] rfl rfl (any_of HT_.out (by kernel_rfl)) (fun _ _ _ h => h) (Or.inl ⟨by rfl,?_⟩) ?_ ?_
              rotate_left;·intro w';go_simp;with_reducible rfl
              rotate_left;·simp only [Act.put,setIfInBounds_toArray,set_cons_zero,set_cons_succ,i64_w,i32_w];rfl
              refine pure_ (i := 12) (N := some 30) (v := ?_) (a' := ?_) #[true,true,true,true,true,false,false,false,false,true,true,true,true,false,false,false,false,false,false,false,false] rfl rfl (any_of HT_.out (by kernel_rfl)) (fun _ _ _ h => h) (Or.inl ⟨by rfl,?_⟩) ?_ ?_
              rotate_left;·intro w';go_simp;with_reducible rfl
              rotate_left;·simp only [Act.put,setIfInBounds_toArray,set_cons_zero,set_cons_succ,i64_w,i32_w];rfl
              refine pure_ (i := 13) (N := some 31) (v := ?_) (a' := ?_) #[true,true,true,true,true,false,false,false,false,true,true,true,true,true,false,false,false,false,false,false,false] rfl rfl (any_of HT_.out (by kernel_rfl)) (fun _ _ _ h => h) (Or.inl ⟨by rfl,?_⟩) ?_ ?_
              rotate_left;·intro w';go_simp;with_reducible rfl
              rotate_left;·simp only [Act.put,setIfInBounds_toArray,set_cons_zero,set_cons_succ,i64_w,i32_w];rfl
              refine take_ (i := 5) (N := some 23) (v := ?_) (a' := ?_) #[true,true,true,true,true,true,false,false,false,true,true,true,true,true,false,false,false,false,false,false,false] rfl rfl (take_ofW HT_.out HW_.out (by kernel_rfl)) (fun _ _ _ h => h) (Or.inl ⟨by rfl,?_⟩) hHeld ?_ ?_
              rotate_left;·rintro w' ⟨s0,s1,s2,s3,s4,s5,s6,s7⟩;go_simp;with_reducible rfl
              rotate_left;·simp only [Act.put,setIfInBounds_toArray,set_cons_zero,set_cons_succ,i64_w,i32_w];rfl
              refine pure_ (i := 6) (N := some 24) (v := ?_) (a' := ?_) #[true,true,true,true,true,true,true,false,false,true,true,true,true,true,false,false,false,false,false,false,false] rfl rfl (any_of HT_.out (by kernel_rfl)) (fun _ _ _ h => h) (Or.inl ⟨by rfl,?_⟩) ?_ ?_
              rotate_left;·intro w';go_simp;with_reducible rfl
              rotate_left;·simp only [Act.put,setIfInBounds_toArray,set_cons_zero,set_cons_succ,i64_w,i32_w];rfl
              refine pure_ (i := 7) (N := some 25) (v := ?_) (a' := ?_) #[true,true,true,true,true,true,true,true,false,true,true,true,true,true,false,false,false,false,false,false,false] rfl rfl (any_of HT_.out (by kernel_rfl)) (fun _ _ _ h => h) (Or.inl ⟨by rfl,?_⟩) ?_ ?_
              rotate_left;·intro w';go_simp;with_reducible rfl
              rotate_left;·simp only [Act.put,setIfInBounds_toArray,set_cons_zero,set_cons_succ,i64_w,i32_w];rfl
              refine take_ (i := 8) (N := some 26) (v := ?_) (a' := ?_) #[true,true,true,true,true,true,true,true,true,true,true,true,true,true,false,false,false,false,false,false,false] rfl rfl (take_ofW HT_.out HW_.out (by kernel_rfl)) (fun _ _ _ h => h) (Or.inl ⟨by rfl,?_⟩) hHeld ?_ ?_
              rotate_left;·rintro w' ⟨s0,s1,s2,s3,s4,s5,s6,s7⟩;go_simp;with_reducible rfl
              rotate_left;·simp only [Act.put,setIfInBounds_toArray,set_cons_zero,set_cons_succ,i64_w,i32_w];rfl
              refine take_ (i := 14) (N := some 32) (v := ?_) (a' := ?_) #[true,true,true,true,true,true,true,true,true,true,true,true,true,true,true,false,false,false,false,false,false] rfl rfl (take_ofW HT_.out HW_.out (by kernel_rfl)) (fun _ _ _ h => h) (Or.inl ⟨by rfl,?_⟩) hHeld ?_ ?_
              rotate_left;·rintro w' ⟨s0,s1,s2,s3,s4,s5,s6,s7⟩;go_simp;with_reducible rfl
              rotate_left;·simp only [Act.put,setIfInBounds_toArray,set_cons_zero,set_cons_succ,i64_w,i32_w];rfl
              refine pure_ (i := 15) (N := some 33) (v := ?_) (a' := ?_) #[true,true,true,true,true,true,true,true,true,true,true,true,true,true,true,true,false,false,false,false,false] rfl rfl (any_of HT_.out (by kernel_rfl)) (fun _ _ _ h => h) (Or.inl ⟨by rfl,?_⟩) ?_ ?_
              rotate_left;·intro w';go_simp;with_reducible rfl
              rotate_left;·simp only [Act.put,setIfInBounds_toArray,set_cons_zero,set_cons_succ,i64_w,i32_w];rfl
              refine pure_ (i := 16) (N := some 34) (v := ?_) (a' := ?_) #[true,true,true,true,true,true,true,true,true,true,true,true,true,true,true,true,true,false,false,false,false] rfl rfl (any_of HT_.out (by kernel_rfl)) (fun _ _ _ h => h) (Or.inl ⟨by rfl,?_⟩) ?_ ?_
              rotate_left;·intro w';go_simp;with_reducible rfl
              rotate_left;·simp only [Act.put,setIfInBounds_toArray,set_cons_zero,set_cons_succ,i64_w,i32_w];rfl
              refine take_ (i := 17) (N := some 35) (v := ?_) (a' := ?_) #[true,true,true,true,true,true,true,true,true,true,true,true,true,true,true,true,true,true,false,false,false] rfl rfl (take_ofW HT_.out HW_.out (by kernel_rfl)) (fun _ _ _ h => h) (Or.inl ⟨by rfl,?_⟩) hHeld ?_ ?_
              rotate_left;·rintro w' ⟨s0,s1,s2,s3,s4,s5,s6,s7⟩;go_simp;with_reducible rfl
              rotate_left;·simp only [Act.put,setIfInBounds_toArray,set_cons_zero,set_cons_succ,i64_w,i32_w];rfl
              refine pure_ (i := 18) (N := some 36) (v := ?_) (a' := ?_) #[true,true,true,true,true,true,true,true,true,true,true,true,true,true,true,true,true,true,true,false,false] rfl rfl (any_of HT_.out (by kernel_rfl)) (fun _ _ _ h => h) (Or.inl ⟨by rfl,?_⟩) ?_ ?_
              rotate_left;·intro w';go_simp;with_reducible rfl
              rotate_left;·simp only [Act.put,setIfInBounds_toArray,set_cons_zero,set_cons_succ,i64_w,i32_w];rfl
              refine one_ (i := 19) (N := some 6) #[true,true,true,true,true,true,true,true,true,true,true,true,true,true,true,true,true,true,true,true,false] rfl rfl (one_of HT_.out (by kernel_rfl)) (by decide) (fun K hK => ?_)
              refine box_step ?hg (N := 6) ?hd (cs := #[.int .i64 0,.int .i64 0]) (t := 45) ?hr ?_;(case hd => rfl);(case hg => rfl);(case hr => first | (go_simp;done) | (go_simp;rfl))
              intro gb170 hg w19 hbox hb
              have HS3_ := (hb.cell (World.block_lt_of_cell? _ _ (hHeld.2.2.2.1))).trans (hHeld.2.2.2.1)
              have HS7_ := (hb.cell (World.block_lt_of_cell? _ _ (hHeld.2.2.2.2.2.2.2))).trans (hHeld.2.2.2.2.2.2.2)
              have n0_ := Aside0.mk (Kd.R_below (by (with_reducible repeat (first | apply Kd.R_alloc | apply Kd.R_drewN | apply Kd.R_drew));exact HO_3.out) hb)
              have n1_ := Aside0.mk (Kd.R_below (Kd.R_elderB (by (with_reducible repeat (first | apply Kd.R_alloc | apply Kd.R_drewN | apply Kd.R_drew));exact HO_4.out) gb170 (Nat.le_of_eq hg.symm)) hb)
              have n2_ := Aside0.mk (below_step (by repeat (first | (with_reducible first | exact HB.out | apply below_alloc | apply pw_below_drewN | apply below_drew1) | exact HB.out)) hb)
              have n3_ := Aside0.mk (hbox)
              have n4_ := Aside0.mk ((by rw [hg];exact (below_size (by repeat (first | (with_reducible first | exact HB.out | apply below_alloc | apply pw_below_drewN | apply below_drew1) | exact HB.out))) : w.heap.size ≤ gb170))
              have n5_ := Aside0.mk ((by rw [hg];exact (below_size (by repeat (first | (with_reducible first | exact HB.out | apply below_alloc | apply pw_below_drewN | apply below_drew1) | exact HB.out))) : w.heap.size ≤ gb170))
              clear HO_3
              clear HO_4
              clear HB
              have HO_3 := n0_
              have HO_4 := n1_
              have HB := n2_
              have BK170 := n3_
              have GW170 := n4_
              have GE170 := n5_
              clear n0_ n1_ n2_ n3_ n4_ n5_
              clear hb hbox hg
              refine hK.out _ _ ⟨((HB.out.cell (World.block_lt_of_cell? w _ hw166_0)).trans hw166_0),((HB.out.cell (World.block_lt_of_cell? w _ hw166_1)).trans hw166_1),((HB.out.cell (World.block_lt_of_cell? w _ hw166_2)).trans hw166_2),HS3_,((HB.out.cell (World.block_lt_of_cell? w _ hw168_0)).trans hw168_0),((HB.out.cell (World.block_lt_of_cell? w _ hw168_1)).trans hw168_1),((HB.out.cell (World.block_lt_of_cell? w _ hw168_2)).trans hw168_2),HS7_⟩ (fun hHeld => ?_)
              clear hK K
              refine norm_ (a' := ?_) ?_ ?_
              rotate_left;·show Act.put _ (some 6) _ = _;simp only [Act.put,setIfInBounds_toArray,set_cons_zero,set_cons_succ,i64_w,i32_w];rfl
              refine one_ (i := 20) (N := none) #[true,true,true,true,true,true,true,true,true,true,true,true,true,true,true,true,true,true,true,true,true] rfl rfl (one_of HT_.out (by kernel_rfl)) (by decide) (fun K hK => ?_)
              have hs20 : w19.cell? ⟨gb170,0,none⟩ = some (.int .i64 0) := (blk_cell BK170.out 0).trans rfl
              have hfs20 := blk_frozen BK170.out 0
              have hs21 : w19.cell? ⟨gb170,1,none⟩ = some (.int .i64 0) := (blk_cell BK170.out 1).trans rfl
              have hfs21 := blk_frozen BK170.out 1
              refine skip_ (w1 := ?_) (by rfl) rfl ?_ ?_
              rotate_left;·go_simp;rfl
              refine hK.out _ _ ⟨((cell_far (p := ⟨gb170,_,none⟩) (by first | exact Nat.ne_of_lt (Nat.lt_of_lt_of_le (by have := World.block_lt_of_cell? _ _ hw166_0;first | rwa [add_block] at this | exact this) GW170.out) | (rw [add_block];exact Nat.ne_of_lt (Nat.lt_of_lt_of_le (by have := World.block_lt_of_cell? _ _ hw166_0;first | rwa [add_block] at this | exact this) GW170.out)) | (show (Addr.add _ _).block ≠ _;rw [add_block];exact Nat.ne_of_lt (Nat.lt_of_lt_of_le (by have := World.block_lt_of_cell? _ _ hw166_0;first | rwa [add_block] at this | exact this) GW170.out)) | (dsimp only;exact Nat.ne_of_lt (Nat.lt_of_lt_of_le (by have := World.block_lt_of_cell? _ _ hw166_0;first | rwa [add_block] at this | exact this) GW170.out))) _).trans (((cell_far (p := ⟨gb170,_,none⟩) (by first | exact Nat.ne_of_lt (Nat.lt_of_lt_of_le (by have := World.block_lt_of_cell? _ _ hw166_0;first | rwa [add_block] at this | exact this) GW170.out) | (rw [add_block];exact Nat.ne_of_lt (Nat.lt_of_lt_of_le (by have := World.block_lt_of_cell? _ _ hw166_0;first | rwa [add_block] at this | exact this) GW170.out)) | (show (Addr.add _ _).block ≠ _;rw [add_block];exact Nat.ne_of_lt (Nat.lt_of_lt_of_le (by have := World.block_lt_of_cell? _ _ hw166_0;first | rwa [add_block] at this | exact this) GW170.out)) | (dsimp only;exact Nat.ne_of_lt (Nat.lt_of_lt_of_le (by have := World.block_lt_of_cell? _ _ hw166_0;first | rwa [add_block] at this | exact this) GW170.out))) _).trans (hHeld.1)))),((cell_far (p := ⟨gb170,_,none⟩) (by first | exact Nat.ne_of_lt (Nat.lt_of_lt_of_le (by have := World.block_lt_of_cell? _ _ hw166_1;first | rwa [add_block] at this | exact this) GW170.out) | (rw [add_block];exact Nat.ne_of_lt (Nat.lt_of_lt_of_le (by have := World.block_lt_of_cell? _ _ hw166_1;first | rwa [add_block] at this | exact this) GW170.out)) | (show (Addr.add _ _).block ≠ _;rw [add_block];exact Nat.ne_of_lt (Nat.lt_of_lt_of_le (by have := World.block_lt_of_cell? _ _ hw166_1;first | rwa [add_block] at this | exact this) GW170.out)) | (dsimp only;exact Nat.ne_of_lt (Nat.lt_of_lt_of_le (by have := World.block_lt_of_cell? _ _ hw166_1;first | rwa [add_block] at this | exact this) GW170.out))) _).trans (((cell_far (p := ⟨gb170,_,none⟩) (by first | exact Nat.ne_of_lt (Nat.lt_of_lt_of_le (by have := World.block_lt_of_cell? _ _ hw166_1;first | rwa [add_block] at this | exact this) GW170.out) | (rw [add_block];exact Nat.ne_of_lt (Nat.lt_of_lt_of_le (by have := World.block_lt_of_cell? _ _ hw166_1;first | rwa [add_block] at this | exact this) GW170.out)) | (show (Addr.add _ _).block ≠ _;rw [add_block];exact Nat.ne_of_lt (Nat.lt_of_lt_of_le (by have := World.block_lt_of_cell? _ _ hw166_1;first | rwa [add_block] at this | exact this) GW170.out)) | (dsimp only;exact Nat.ne_of_lt (Nat.lt_of_lt_of_le (by have := World.block_lt_of_cell? _ _ hw166_1;first | rwa [add_block] at this | exact this) GW170.out))) _).trans (hHeld.2.1)))),((cell_far (p := ⟨gb170,_,none⟩) (by first | exact Nat.ne_of_lt (Nat.lt_of_lt_of_le (by have := World.block_lt_of_cell? _ _ hw166_2;first | rwa [add_block] at this | exact this) GW170.out) | (rw [add_block];exact Nat.ne_of_lt (Nat.lt_of_lt_of_le (by have := World.block_lt_of_cell? _ _ hw166_2;first | rwa [add_block] at this | exact this) GW170.out)) | (show (Addr.add _ _).block ≠ _;rw [add_block];exact Nat.ne_of_lt (Nat.lt_of_lt_of_le (by have := World.block_lt_of_cell? _ _ hw166_2;first | rwa [add_block] at this | exact this) GW170.out)) | (dsimp only;exact Nat.ne_of_lt (Nat.lt_of_lt_of_le (by have := World.block_lt_of_cell? _ _ hw166_2;first | rwa [add_block] at this | exact this) GW170.out))) _).trans (((cell_far (p := ⟨gb170,_,none⟩) (by first | exact Nat.ne_of_lt (Nat.lt_of_lt_of_le (by have := World.block_lt_of_cell? _ _ hw166_2;first | rwa [add_block] at this | exact this) GW170.out) | (rw [add_block];exact Nat.ne_of_lt (Nat.lt_of_lt_of_le (by have := World.block_lt_of_cell? _ _ hw166_2;first | rwa [add_block] at this | exact this) GW170.out)) | (show (Addr.add _ _).block ≠ _;rw [add_block];exact Nat.ne_of_lt (Nat.lt_of_lt_of_le (by have := World.block_lt_of_cell? _ _ hw166_2;first | rwa [add_block] at this | exact this) GW170.out)) | (dsimp only;exact Nat.ne_of_lt (Nat.lt_of_lt_of_le (by have := World.block_lt_of_cell? _ _ hw166_2;first | rwa [add_block] at this | exact this) GW170.out))) _).trans (hHeld.2.2.1)))),((cell_far (p := ⟨gb170,_,none⟩) (by first | exact Kd.own_blk (Kd.R_ne HO_3.out BK170.out (by decide)) | (rw [add_block];exact Kd.own_blk (Kd.R_ne HO_3.out BK170.out (by decide))) | (show (Addr.add _ _).block ≠ _;rw [add_block];exact Kd.own_blk (Kd.R_ne HO_3.out BK170.out (by decide))) | (dsimp only;exact Kd.own_blk (Kd.R_ne HO_3.out BK170.out (by decide)))) _).trans (((cell_far (p := ⟨gb170,_,none⟩) (by first | exact Kd.own_blk (Kd.R_ne HO_3.out BK170.out (by decide)) | (rw [add_block];exact Kd.own_blk (Kd.R_ne HO_3.out BK170.out (by decide))) | (show (Addr.add _ _).block ≠ _;rw [add_block];exact Kd.own_blk (Kd.R_ne HO_3.out BK170.out (by decide))) | (dsimp only;exact Kd.own_blk (Kd.R_ne HO_3.out BK170.out (by decide)))) _).trans (hHeld.2.2.2.1)))),((cell_far (p := ⟨gb170,_,none⟩) (by first | exact Nat.ne_of_lt (Nat.lt_of_lt_of_le (by have := World.block_lt_of_cell? _ _ hw168_0;first | rwa [add_block] at this | exact this) GW170.out) | (rw [add_block];exact Nat.ne_of_lt (Nat.lt_of_lt_of_le (by have := World.block_lt_of_cell? _ _ hw168_0;first | rwa [add_block] at this | exact this) GW170.out)) | (show (Addr.add _ _).block ≠ _;rw [add_block];exact Nat.ne_of_lt (Nat.lt_of_lt_of_le (by have := World.block_lt_of_cell? _ _ hw168_0;first | rwa [add_block] at this | exact this) GW170.out)) | (dsimp only;exact Nat.ne_of_lt (Nat.lt_of_lt_of_le (by have := World.block_lt_of_cell? _ _ hw168_0;first | rwa [add_block] at this | exact this) GW170.out))) _).trans (((cell_far (p := ⟨gb170,_,none⟩) (by first | exact Nat.ne_of_lt (Nat.lt_of_lt_of_le (by have := World.block_lt_of_cell? _ _ hw168_0;first | rwa [add_block] at this | exact this) GW170.out) | (rw [add_block];exact Nat.ne_of_lt (Nat.lt_of_lt_of_le (by have := World.block_lt_of_cell? _ _ hw168_0;first | rwa [add_block] at this | exact this) GW170.out)) | (show (Addr.add _ _).block ≠ _;rw [add_block];exact Nat.ne_of_lt (Nat.lt_of_lt_of_le (by have := World.block_lt_of_cell? _ _ hw168_0;first | rwa [add_block] at this | exact this) GW170.out)) | (dsimp only;exact Nat.ne_of_lt (Nat.lt_of_lt_of_le (by have := World.block_lt_of_cell? _ _ hw168_0;first | rwa [add_block] at this | exact this) GW170.out))) _).trans (hHeld.2.2.2.2.1)))),((cell_far (p := ⟨gb170,_,none⟩) (by first | exact Nat.ne_of_lt (Nat.lt_of_lt_of_le (by have := World.block_lt_of_cell? _ _ hw168_1;first | rwa [add_block] at this | exact this) GW170.out) | (rw [add_block];exact Nat.ne_of_lt (Nat.lt_of_lt_of_le (by have := World.block_lt_of_cell? _ _ hw168_1;first | rwa [add_block] at this | exact this) GW170.out)) | (show (Addr.add _ _).block ≠ _;rw [add_block];exact Nat.ne_of_lt (Nat.lt_of_lt_of_le (by have := World.block_lt_of_cell? _ _ hw168_1;first | rwa [add_block] at this | exact this) GW170.out)) | (dsimp only;exact Nat.ne_of_lt (Nat.lt_of_lt_of_le (by have := World.block_lt_of_cell? _ _ hw168_1;first | rwa [add_block] at this | exact this) GW170.out))) _).trans (((cell_far (p := ⟨gb170,_,none⟩) (by first | exact Nat.ne_of_lt (Nat.lt_of_lt_of_le (by have := World.block_lt_of_cell? _ _ hw168_1;first | rwa [add_block] at this | exact this) GW170.out) | (rw [add_block];exact Nat.ne_of_lt (Nat.lt_of_lt_of_le (by have := World.block_lt_of_cell? _ _ hw168_1;first | rwa [add_block] at this | exact this) GW170.out)) | (show (Addr.add _ _).block ≠ _;rw [add_block];exact Nat.ne_of_lt (Nat.lt_of_lt_of_le (by have := World.block_lt_of_cell? _ _ hw168_1;first | rwa [add_block] at this | exact this) GW170.out)) | (dsimp only;exact Nat.ne_of_lt (Nat.lt_of_lt_of_le (by have := World.block_lt_of_cell? _ _ hw168_1;first | rwa [add_block] at this | exact this) GW170.out))) _).trans (hHeld.2.2.2.2.2.1)))),((cell_far (p := ⟨gb170,_,none⟩) (by first | exact Nat.ne_of_lt (Nat.lt_of_lt_of_le (by have := World.block_lt_of_cell? _ _ hw168_2;first | rwa [add_block] at this | exact this) GW170.out) | (rw [add_block];exact Nat.ne_of_lt (Nat.lt_of_lt_of_le (by have := World.block_lt_of_cell? _ _ hw168_2;first | rwa [add_block] at this | exact this) GW170.out)) | (show (Addr.add _ _).block ≠ _;rw [add_block];exact Nat.ne_of_lt (Nat.lt_of_lt_of_le (by have := World.block_lt_of_cell? _ _ hw168_2;first | rwa [add_block] at this | exact this) GW170.out)) | (dsimp only;exact Nat.ne_of_lt (Nat.lt_of_lt_of_le (by have := World.block_lt_of_cell? _ _ hw168_2;first | rwa [add_block] at this | exact this) GW170.out))) _).trans (((cell_far (p := ⟨gb170,_,none⟩) (by first | exact Nat.ne_of_lt (Nat.lt_of_lt_of_le (by have := World.block_lt_of_cell? _ _ hw168_2;first | rwa [add_block] at this | exact this) GW170.out) | (rw [add_block];exact Nat.ne_of_lt (Nat.lt_of_lt_of_le (by have := World.block_lt_of_cell? _ _ hw168_2;first | rwa [add_block] at this | exact this) GW170.out)) | (show (Addr.add _ _).block ≠ _;rw [add_block];exact Nat.ne_of_lt (Nat.lt_of_lt_of_le (by have := World.block_lt_of_cell? _ _ hw168_2;first | rwa [add_block] at this | exact this) GW170.out)) | (dsimp only;exact Nat.ne_of_lt (Nat.lt_of_lt_of_le (by have := World.block_lt_of_cell? _ _ hw168_2;first | rwa [add_block] at this | exact this) GW170.out))) _).trans (hHeld.2.2.2.2.2.2.1)))),((cell_far (p := ⟨gb170,_,none⟩) (by first | exact Kd.own_blk (Kd.R_ne HO_3.out BK170.out (by decide)) | (rw [add_block];exact Kd.own_blk (Kd.R_ne HO_3.out BK170.out (by decide))) | (show (Addr.add _ _).block ≠ _;rw [add_block];exact Kd.own_blk (Kd.R_ne HO_3.out BK170.out (by decide))) | (dsimp only;exact Kd.own_blk (Kd.R_ne HO_3.out BK170.out (by decide)))) _).trans (((cell_far (p := ⟨gb170,_,none⟩) (by first | exact Kd.own_blk (Kd.R_ne HO_3.out BK170.out (by decide)) | (rw [add_block];exact Kd.own_blk (Kd.R_ne HO_3.out BK170.out (by decide))) | (show (Addr.add _ _).block ≠ _;rw [add_block];exact Kd.own_blk (Kd.R_ne HO_3.out BK170.out (by decide))) | (dsimp only;exact Kd.own_blk (Kd.R_ne HO_3.out BK170.out (by decide)))) _).trans (hHeld.2.2.2.2.2.2.2))))⟩ (fun hHeld => ?_)
              clear hK K
              refine done_ (done_of HT_.out (by kernel_rfl)) ?_
              have p171 : 0 ≤ (x5_1 : Int) := of_decide_eq_true (by first | (with_reducible assumption) | assumption)
              have q171 : x5_1 < (l0.length : Int) := of_decide_eq_true (by first | (with_reducible assumption) | assumption)
              obtain ⟨ad171,e171,hx171_0,hx171_1,hx171_2⟩ := at_T58 HR0.out x5_1 p171 q171
              obtain rfl : ad166 = ad171 := (by injection e171)
              have hn171_0 : ad166.block ≠ gb170 := Nat.ne_of_lt (Nat.lt_of_lt_of_le (by have := World.block_lt_of_cell? _ _ hx171_0;first | rwa [add_block] at this | exact this) GW170.out)
              have hn171_1 : ad166.block ≠ gb170 := Nat.ne_of_lt (Nat.lt_of_lt_of_le (by have := World.block_lt_of_cell? _ _ hx171_0;first | rwa [add_block] at this | exact this) GW170.out)
              replace hx171_0 := (HB.out.cell (World.block_lt_of_cell? w _ hx171_0)).trans hx171_0
              replace hx171_1 := (HB.out.cell (World.block_lt_of_cell? w _ hx171_1)).trans hx171_1
              replace hx171_2 := (HB.out.cell (World.block_lt_of_cell? w _ hx171_2)).trans hx171_2
              replace hx171_0 := (cell_far (p := ⟨gb170,0,none⟩) (by first | (rw [add_block];exact hn171_0) | (show (Addr.add _ _).block ≠ _;rw [add_block];exact hn171_0) | exact hn171_0) (.int .i64 (rd y163 (ji9)))).trans hx171_0
              replace hx171_1 := (cell_far (p := ⟨gb170,0,none⟩) (by first | (rw [add_block];exact hn171_0) | (show (Addr.add _ _).block ≠ _;rw [add_block];exact hn171_0) | exact hn171_0) (.int .i64 (rd y163 (ji9)))).trans hx171_1
              replace hx171_2 := (cell_far (p := ⟨gb170,0,none⟩) (by first | (rw [add_block];exact hn171_0) | (show (Addr.add _ _).block ≠ _;rw [add_block];exact hn171_0) | exact hn171_0) (.int .i64 (rd y163 (ji9)))).trans hx171_2
              replace hx171_0 := (cell_far (p := ⟨gb170,1,none⟩) (by first | (rw [add_block];exact hn171_1) | (show (Addr.add _ _).block ≠ _;rw [add_block];exact hn171_1) | exact hn171_1) (.int .i64 (rd y163 (ji12)))).trans hx171_0
              replace hx171_1 := (cell_far (p := ⟨gb170,1,none⟩) (by first | (rw [add_block];exact hn171_1) | (show (Addr.add _ _).block ≠ _;rw [add_block];exact hn171_1) | exact hn171_1) (.int .i64 (rd y163 (ji12)))).trans hx171_1
              replace hx171_2 := (cell_far (p := ⟨gb170,1,none⟩) (by first | (rw [add_block];exact hn171_1) | (show (Addr.add _ _).block ≠ _;rw [add_block];exact hn171_1) | exact hn171_1) (.int .i64 (rd y163 (ji12)))).trans hx171_2
              clear hn171_0
              clear hn171_1
              replace p171 := eq_true p171
              replace q171 := eq_true q171
              have p172 : 0 ≤ (x5_1 : Int) := of_decide_eq_true (by first | (with_reducible assumption) | assumption)
              have q172 : x5_1 < (l0.length : Int) := of_decide_eq_true (by first | (with_reducible assumption) | assumption)
              obtain ⟨ad172,e172,hx172_0,hx172_1,hx172_2⟩ := at_T58 HR0.out x5_1 p172 q172
              obtain rfl : ad166 = ad172 := (by injection e172)
              have hn172_0 : ad166.block ≠ gb170 := Nat.ne_of_lt (Nat.lt_of_lt_of_le (by have := World.block_lt_of_cell? _ _ hx172_0;first | rwa [add_block] at this | exact this) GW170.out)
              have hn172_1 : ad166.block ≠ gb170 := Nat.ne_of_lt (Nat.lt_of_lt_of_le (by have := World.block_lt_of_cell? _ _ hx172_0;first | rwa [add_block] at this | exact this) GW170.out)
              replace hx172_0 := (HB.out.cell (World.block_lt_of_cell? w _ hx172_0)).trans hx172_0
              replace hx172_1 := (HB.out.cell (World.block_lt_of_cell? w _ hx172_1)).trans hx172_1
              replace hx172_2 := (HB.out.cell (World.block_lt_of_cell? w _ hx172_2)).trans hx172_2
              replace hx172_0 := (cell_far (p := ⟨gb170,0,none⟩) (by first | (rw [add_block];exact hn172_0) | (show (Addr.add _ _).block ≠ _;rw [add_block];exact hn172_0) | exact hn172_0) (.int .i64 (rd y163 (ji9)))).trans hx172_0
              replace hx172_1 := (cell_far (p := ⟨gb170,0,none⟩) (by first | (rw [add_block];exact hn172_0) | (show (Addr.add _ _).block ≠ _;rw [add_block];exact hn172_0) | exact hn172_0) (.int .i64 (rd y163 (ji9)))).trans hx172_1
              replace hx172_2 := (cell_far (p := ⟨gb170,0,none⟩) (by first | (rw [add_block];exact hn172_0) | (show (Addr.add _ _).block ≠ _;rw [add_block];exact hn172_0) | exact hn172_0) (.int .i64 (rd y163 (ji9)))).trans hx172_2
              replace hx172_0 := (cell_far (p := ⟨gb170,1,none⟩) (by first | (rw [add_block];exact hn172_1) | (show (Addr.add _ _).block ≠ _;rw [add_block];exact hn172_1) | exact hn172_1) (.int .i64 (rd y163 (ji12)))).trans hx172_0
              replace hx172_1 := (cell_far (p := ⟨gb170,1,none⟩) (by first | (rw [add_block];exact hn172_1) | (show (Addr.add _ _).block ≠ _;rw [add_block];exact hn172_1) | exact hn172_1) (.int .i64 (rd y163 (ji12)))).trans hx172_1
              replace hx172_2 := (cell_far (p := ⟨gb170,1,none⟩) (by first | (rw [add_block];exact hn172_1) | (show (Addr.add _ _).block ≠ _;rw [add_block];exact hn172_1) | exact hn172_1) (.int .i64 (rd y163 (ji12)))).trans hx172_2
              clear hn172_0
              clear hn172_1
              replace p172 := eq_true p172
              replace q172 := eq_true q172
              have hcz22_0 : w19.cell? ⟨gb170,0,none⟩ = some (.int .i64 0) := (blk_cell BK170.out 0).trans rfl
              have hcz22_1 : w19.cell? ⟨gb170,1,none⟩ = some (.int .i64 0) := (blk_cell BK170.out 1).trans rfl
              have hfz22_0 := blk_frozen BK170.out 0
              have hfz22_1 := blk_frozen BK170.out 1
              have hcy_0 : (((w19.setCell ⟨gb170,0,none⟩ (.int .i64 (rd y163 (ji9)))).setCell ⟨gb170,1,none⟩ (.int .i64 (rd y163 (ji12)))).setCell ⟨gb170,1,none⟩ (.int .i64 ((rd_T58 l0 x5_1).f2))).cell? ⟨gb170,1,none⟩ = some (.int .i64 ((rd_T58 l0 x5_1).f2)) := (blk_cell (blk_put (cs := #[(.int .i64 (rd y163 (ji9))),(.int .i64 (rd y163 (ji12)))]) (blk_put (cs := #[(.int .i64 (rd y163 (ji9))),.int .i64 0]) (blk_put (cs := #[.int .i64 0,.int .i64 0]) BK170.out 0 _ rfl) 1 _ rfl) 1 _ rfl) 1).trans rfl
              try go_wp2_with (first | ((with_reducible refine gate_builtin (b := .append) (xs := #[.tmp 57,.tmp 59]) rfl ?_);at_builtin;refine Kd.R_append k45 (w0 := w) w.heap.size rfl (.tmp 57) (.tmp 59) 31 45 (.agg #[(.int .i64 0),(.int .i64 0)]) 16 rfl Try.underlying31 info45 rfl (by decide) (by omega) u4 x4_1 (⟨rd y163 (ji9),(rd_T58 l0 x5_1).f2⟩ : S45) [.int .i64 (rd y163 (ji9)),.int .i64 ((rd_T58 l0 x5_1).f2)] (fun k_ => k_ ≠ gb170) (fun _ => False) rfl (by first | (go_simp;done) | (go_simp;rfl)) ?aP (fun _ hk => hk.elim) ?aF ?aO ?aB ?aS ?aL ?_;(case aP => exact k45_mkM _ _ _ (⟨rd y163 (ji9),(rd_T58 l0 x5_1).f2⟩ : S45));(case aB => exact (by repeat (first | (with_reducible first | exact HB.out | apply below_alloc | apply pw_below_drewN | apply below_drew1 | refine below_set ?_ GE170.out) | exact HB.out)));(case aF => exact (fun k_ hk => Kd.freshB (g := gb170) (o := .cells #[.int .i64 (rd y163 (ji9)),.int .i64 ((rd_T58 l0 x5_1).f2)] 45 (0,0)) (by (with_reducible repeat (first | refine blk_drewN ?_ _ | refine blk_drew ?_ | refine blk_alloc ?_ _));refine blk_put (cs := #[.int .i64 (rd y163 (ji9)),.int .i64 (rd y163 (ji12))]) ?_ 1 _ rfl;(with_reducible repeat (first | refine blk_drewN ?_ _ | refine blk_drew ?_ | refine blk_alloc ?_ _));refine blk_put (cs := #[.int .i64 (rd y163 (ji9)),.int .i64 0]) ?_ 1 _ rfl;(with_reducible repeat (first | refine blk_drewN ?_ _ | refine blk_drew ?_ | refine blk_alloc ?_ _));refine blk_put (cs := #[.int .i64 0,.int .i64 0]) ?_ 0 _ rfl;(with_reducible repeat (first | refine blk_drewN ?_ _ | refine blk_drew ?_ | refine blk_alloc ?_ _));exact BK170.out) k_ hk));(case aO => exact (by (with_reducible repeat (first | apply Kd.R_alloc | apply Kd.R_drewN | apply Kd.R_drew));exact Kd.R_mono (Kd.R_far (p := ⟨gb170,1,none⟩) (Kd.R_far (p := ⟨gb170,1,none⟩) (Kd.R_far (p := ⟨gb170,0,none⟩) (Kd.R_mono HO_4.out (fun k_ hk => (⟨hk,hk.2⟩ : _ ∧ k_ ≠ gb170))) (fun _ hk => hk.2) (.int .i64 (rd y163 (ji9)))) (fun _ hk => hk.2) (.int .i64 (rd y163 (ji12)))) (fun _ hk => hk.2) (.int .i64 ((rd_T58 l0 x5_1).f2))) (fun _ hk => hk.1.2)));(case aS => exact (below_size (by repeat (first | (with_reducible first | exact HB.out | apply below_alloc | apply pw_below_drewN | apply below_drew1 | refine below_set ?_ GE170.out) | exact HB.out))));(case aL => have := LMc16.out;omega);intro v174 w23 ho hb hg hat;rw [← Ny173.out] at ho;have n0_ := Aside0.mk (Kd.R_over' (by (with_reducible repeat (first | apply Kd.R_alloc | apply Kd.R_drewN | apply Kd.R_drew));exact (Kd.R_mono (Kd.R_far (p := ⟨gb170,1,none⟩) (Kd.R_far (p := ⟨gb170,1,none⟩) (Kd.R_far (p := ⟨gb170,0,none⟩) (Kd.R_types HO_3.out BK170.out (by decide)) (fun _ hk => hk.2) (.int .i64 (rd y163 (ji9)))) (fun _ hk => hk.2) (.int .i64 (rd y163 (ji12)))) (fun _ hk => hk.2) (.int .i64 ((rd_T58 l0 x5_1).f2))) (fun _ h_ => h_.1))) (Kd.R_typed (by (with_reducible repeat (first | apply Kd.R_alloc | apply Kd.R_drewN | apply Kd.R_drew));exact (Kd.R_mono (Kd.R_far (p := ⟨gb170,1,none⟩) (Kd.R_far (p := ⟨gb170,1,none⟩) (Kd.R_far (p := ⟨gb170,0,none⟩) (Kd.R_mono HO_4.out (fun k_ hk => (⟨hk,hk.2⟩ : _ ∧ k_ ≠ gb170))) (fun _ hk => hk.2) (.int .i64 (rd y163 (ji9)))) (fun _ hk => hk.2) (.int .i64 (rd y163 (ji12)))) (fun _ hk => hk.2) (.int .i64 ((rd_T58 l0 x5_1).f2))) (fun _ h_ => h_.1)))) (by decide) hg);have n1_ := Aside0.mk (blk_grown (g := gb170) (o := .cells #[.int .i64 (rd y163 (ji9)),.int .i64 ((rd_T58 l0 x5_1).f2)] 45 (0,0)) (by (with_reducible repeat (first | refine blk_drewN ?_ _ | refine blk_drew ?_ | refine blk_alloc ?_ _));refine blk_put (cs := #[.int .i64 (rd y163 (ji9)),.int .i64 (rd y163 (ji12))]) ?_ 1 _ rfl;(with_reducible repeat (first | refine blk_drewN ?_ _ | refine blk_drew ?_ | refine blk_alloc ?_ _));refine blk_put (cs := #[.int .i64 (rd y163 (ji9)),.int .i64 0]) ?_ 1 _ rfl;(with_reducible repeat (first | refine blk_drewN ?_ _ | refine blk_drew ?_ | refine blk_alloc ?_ _));refine blk_put (cs := #[.int .i64 0,.int .i64 0]) ?_ 0 _ rfl;(with_reducible repeat (first | refine blk_drewN ?_ _ | refine blk_drew ?_ | refine blk_alloc ?_ _));exact BK170.out) hg (Kd.R_away HO_4.out (fun _ hk => hk.2)));have n2_ := Aside0.mk (hb);have n3_ := Aside0.mk (ho);clear HO_3;clear BK170;clear HB;clear HO_4;have HO_3 := n0_;have BK170 := n1_;have HB := n2_;have HO175 := n3_;clear n0_ n1_ n2_ n3_;clear ho hb hg hat))
              go_roundg kj3
              case measure => have := HK1.out;have := HJ3.out;omega
              case rel => exact ⟨(y173),(wrap64 (x5_1 + 1)),(by first | rfl | (simp;done) | (simp [*];done)),H',⟨by have := HK1.out;have := HJ3.out;omega⟩,⟨by (with_reducible repeat (first | apply Kd.R_alloc | apply Kd.R_drewN | apply Kd.R_drew));exact HO_3.out⟩,⟨by (with_reducible repeat (first | apply Kd.R_alloc | apply Kd.R_drewN | apply Kd.R_drew));exact Kd.R_mono HO175.out (fun _ hk => trivial)⟩,⟨by repeat (first | (with_reducible first | exact HB.out | apply below_alloc | apply pw_below_drewN | apply below_drew1 | refine below_set ?_ GE170.out) | exact HB.out)⟩⟩
             ·rw [if_neg c16] at H
              exact absurd H (by simp)
            ·rw [if_neg c15] at H
             have c15b0 : decide (((rd_T58 l0 x5_1).f2) < 0) = false := decide_eq_false c15
             clear c15
             by_cases c24 : ((rd_T58 l0 x5_1).f2) > 1
             ·rw [if_pos c24] at H
              have c24b0 : decide (1 < ((rd_T58 l0 x5_1).f2)) = true := decide_eq_true c24
              clear c24
              by_cases c25 : x4_1.length < 8796093022208
              ·rw [if_pos c25] at H
               have LMc25 := Aside0.mk c25
               clear c25
               obtain ⟨y178,hy178⟩ : ∃ y_ : List (S45),y_ = (x4_1 ++ [(⟨rd y163 (ji9),(rd_T58 l0 x5_1).f2⟩ : S45)]) := ⟨_,rfl⟩
               replace H : (glyphcutterlaw16_Pairs.l0 kj3 l0 y163 y178 (wrap64 (x5_1 + 1))) = some r := by first | (rw [hy178];with_reducible exact H) | (have H2_ := (Option.bind_some _ _).symm.trans H;rw [hy178];with_reducible exact H2_) | (have H2_ := (Option.bind_some _ _).symm.trans H;with_reducible exact H2_) | with_reducible exact H | (rw [hy178];exact H) | exact H
               have Ny178 := Aside0.mk hy178
               clear hy178
               have H' := Aside0.mk H
               clear H
               try go_wp2
               have n0_ := Aside0.mk (Kd.R_drew HO_3.out)
               have n1_ := Aside0.mk (Kd.R_drew HO_4.out)
               have n2_ := Aside0.mk (below_drew1 HB.out)
               clear HO_3
               clear HO_4
               clear HB
               have HO_3 := n0_
               have HO_4 := n1_
               have HB := n2_
               clear n0_ n1_ n2_
               have p166 : 0 ≤ (x5_1 : Int) := of_decide_eq_true (by first | (with_reducible assumption) | assumption)
               have q166 : x5_1 < (l0.length : Int) := of_decide_eq_true (by first | (with_reducible assumption) | assumption)
               obtain ⟨ad166,e166,hx166_0,hx166_1,hx166_2⟩ := at_T58 HR0.out x5_1 p166 q166
               have hw166_2 := hx166_2
               have hw166_1 := hx166_1
               have hw166_0 := hx166_0
               cases e166
               replace hx166_0 := (HB.out.cell (World.block_lt_of_cell? w _ hx166_0)).trans hx166_0
               replace hx166_1 := (HB.out.cell (World.block_lt_of_cell? w _ hx166_1)).trans hx166_1
               replace hx166_2 := (HB.out.cell (World.block_lt_of_cell? w _ hx166_2)).trans hx166_2
               replace p166 := eq_true p166
               replace q166 := eq_true q166
               obtain ⟨Ao27,co27,eo27⟩ := Kd.R_slice HO_3.out
               (first | subst eo27 | (injection eo27 with f1_ f2_ f3_;have f4_ := f1_.symm;have f5_ := f3_.symm;clear f1_ f2_ f3_;subst f4_;subst f5_))
               have p167 : 0 ≤ ((ji9) : Int) := of_decide_eq_true (by first | (with_reducible assumption) | assumption)
               have q167 : (ji9) < (y163.length : Int) := of_decide_eq_true (by first | (with_reducible assumption) | assumption)
               obtain ⟨ad167,e167,hx167_0⟩ := Kd.at_int (Kd.R_reads' HO_3.out).2.2 (ji9) p167 q167
               cases e167
               replace p167 := eq_true p167
               replace q167 := eq_true q167
               have p168 : 0 ≤ (x5_1 : Int) := of_decide_eq_true (by first | (with_reducible assumption) | assumption)
               have q168 : x5_1 < (l0.length : Int) := of_decide_eq_true (by first | (with_reducible assumption) | assumption)
               obtain ⟨ad168,e168,hx168_0,hx168_1,hx168_2⟩ := at_T58 HR0.out x5_1 p168 q168
               have hw168_2 := hx168_2
               have hw168_1 := hx168_1
               have hw168_0 := hx168_0
               obtain rfl : ad166 = ad168 := (by injection e168)
               replace hx168_0 := (HB.out.cell (World.block_lt_of_cell? w _ hx168_0)).trans hx168_0
               replace hx168_1 := (HB.out.cell (World.block_lt_of_cell? w _ hx168_1)).trans hx168_1
               replace hx168_2 := (HB.out.cell (World.block_lt_of_cell? w _ hx168_2)).trans hx168_2
               replace p168 := eq_true p168
               replace q168 := eq_true q168
               have p169 : 0 ≤ ((ji12) : Int) := of_decide_eq_true (by first | (with_reducible assumption) | assumption)
               have q169 : (ji12) < (y163.length : Int) := of_decide_eq_true (by first | (with_reducible assumption) | assumption)
               obtain ⟨ad169,e169,hx169_0⟩ := Kd.at_int (Kd.R_reads' HO_3.out).2.2 (ji12) p169 q169
               obtain rfl : ad167 = ad169 := (by injection e169)
               replace p169 := eq_true p169
               replace q169 := eq_true q169
               refine start_ (n := 21) (S := fun w' => w'.cell? (ad166.add ((x5_1).toNat * 3)) = some (.int .u8 ((rd_T58 l0 x5_1).f0)) ∧ w'.cell? ⟨(ad166.add ((x5_1).toNat * 3)).block,(ad166.add ((x5_1).toNat * 3)).off + 1,none⟩ = some (.int .u8 ((rd_T58 l0 x5_1).f1)) ∧ w'.cell? ⟨(ad166.add ((x5_1).toNat * 3)).block,(ad166.add ((x5_1).toNat * 3)).off + 2,none⟩ = some (.int .i64 ((rd_T58 l0 x5_1).f2)) ∧ w'.cell? (ad167.add ((ji9)).toNat) = some (.int .i64 (rd y163 (ji9))) ∧ w'.cell? (ad166.add ((x5_1).toNat * 3)) = some (.int .u8 ((rd_T58 l0 x5_1).f0)) ∧ w'.cell? ⟨(ad166.add ((x5_1).toNat * 3)).block,(ad166.add ((x5_1).toNat * 3)).off + 1,none⟩ = some (.int .u8 ((rd_T58 l0 x5_1).f1)) ∧ w'.cell? ⟨(ad166.add ((x5_1).toNat * 3)).block,(ad166.add ((x5_1).toNat * 3)).off + 2,none⟩ = some (.int .i64 ((rd_T58 l0 x5_1).f2)) ∧ w'.cell? (ad167.add ((ji12)).toNat) = some (.int .i64 (rd y163 (ji12)))) (ds := []) #[false,false,false,false,false,false,false,false,false,false,false,false,false,false,false,false,false,false,false,false,false] (by kernel_rfl) rfl rfl ⟨((HB.out.cell (World.block_lt_of_cell? w _ hw166_0)).trans hw166_0),((HB.out.cell (World.block_lt_of_cell? w _ hw166_1)).trans hw166_1),((HB.out.cell (World.block_lt_of_cell? w _ hw166_2)).trans hw166_2),hx167_0,((HB.out.cell (World.block_lt_of_cell? w _ hw168_0)).trans hw168_0),((HB.out.cell (World.block_lt_of_cell? w _ hw168_1)).trans hw168_1),((HB.out.cell (World.block_lt_of_cell? w _ hw168_2)).trans hw168_2),hx169_0⟩ (fun hHeld => ?_);refine with_tabW glyphcutterlaw16_Pairs.tab6 glyphcutterlaw16_Pairs.bits6 (fun HT_ HW_ => ?_)
               generalize wc.drew = w26 at HO_3 HO_4 HB hx166_0 hx166_1 hx166_2 hx167_0 hx168_0 hx168_1 hx168_2 hx169_0 hHeld ⊢
               refine pure_ (i := 0) (N := some 18) (v := ?_) (a' := ?_) #[true,false,false,false,false,false,false,false,false,false,false,false,false,false,false,false,false,false,false,false,false] rfl rfl (any_of HT_.out (by kernel_rfl)) (fun _ _ _ h => h) (Or.inl ⟨by rfl,?_⟩) ?_ ?_
               rotate_left;·intro w';go_simp;with_reducible rfl
               rotate_left;·simp only [Act.put,setIfInBounds_toArray,set_cons_zero,set_cons_succ,i64_w,i32_w];rfl
               refine pure_ (i := 1) (N := some 19) (v := ?_) (a' := ?_) #[true,true,false,false,false,false,false,false,false,false,false,false,false,false,false,false,false,false,false,false,false] rfl rfl (any_of HT_.out (by kernel_rfl)) (fun _ _ _ h => h) (Or.inl ⟨by rfl,?_⟩) ?_ ?_
               rotate_left;·intro w';go_simp;with_reducible rfl
               rotate_left;·simp only [Act.put,setIfInBounds_toArray,set_cons_zero,set_cons_succ,i64_w,i32_w];rfl
               refine pure_ (i := 2) (N := some 20) (v := ?_) (a' := ?_) #[true,true,true,false,false,false,false,false,false,false,false,false,false,false,false,false,false,false,false,false,false] rfl rfl (any_of HT_.out (by kernel_rfl)) (fun _ _ _ h => h) (Or.inl ⟨by rfl,?_⟩) ?_ ?_
               rotate_left;·intro w';go_simp;with_reducible rfl
               rotate_left;·simp only [Act.put,setIfInBounds_toArray,set_cons_zero,set_cons_succ,i64_w,i32_w];rfl
               refine pure_ (i := 3) (N := some 21) (v := ?_) (a' := ?_) #[true,true,true,true,false,false,false,false,false,false,false,false,false,false,false,false,false,false,false,false,false] rfl rfl (any_of HT_.out (by kernel_rfl)) (fun _ _ _ h => h) (Or.inl ⟨by rfl,?_⟩) ?_ ?_
               rotate_left;·intro w';go_simp;with_reducible rfl
               rotate_left;·simp only [Act.put,setIfInBounds_toArray,set_cons_zero,set_cons_succ,i64_w,i32_w];rfl
               refine pure_ (i := 4) (N := some 22) (v := ?_) (a' := ?_) #[true,true,true,true,true,false,false,false,false,false,false,false,false,false,false,false,false,false,false,false,false] rfl rfl (any_of HT_.out (by kernel_rfl)) (fun _ _ _ h => h) (Or.inl ⟨by rfl,?_⟩) ?_ ?_
               rotate_left;·intro w';go_simp;with_reducible rfl
               rotate_left;·simp only [Act.put,setIfInBounds_toArray,set_cons_zero,set_cons_succ,i64_w,i32_w];rfl
               refine pure_ (i := 9) (N := some 27) (v := ?_) (a' := ?_) #[true,true,true,true,true,false,false,false,false,true,false,false,false,false,false,false,false,false,false,false,false] rfl rfl (any_of HT_.out (by kernel_rfl)) (fun _ _ _ h => h) (Or.inl ⟨by rfl,?_⟩) ?_ ?_
               rotate_left;·intro w';go_simp;with_reducible rfl
               rotate_left;·simp only [Act.put,setIfInBounds_toArray,set_cons_zero,set_cons_succ,i64_w,i32_w];rfl
               refine pure_ (i := 10) (N := some 28) (v := ?_) (a' := ?_) #[true,true,true,true,true,false,false,false,false,true,true,false,false,false,false,false,false,false,false,false,false] rfl rfl (any_of HT_.out (by kernel_rfl)) (fun _ _ _ h => h) (Or.inl ⟨by rfl,?_⟩) ?_ ?_
               rotate_left;·intro w';go_simp;with_reducible rfl
               rotate_left;·simp only [Act.put,setIfInBounds_toArray,set_cons_zero,set_cons_succ,i64_w,i32_w];rfl
               refine pure_ (i := 11) (N := some 29) (v := ?_) (a' := ?_) #[true,true,true,true,true,false,false,false,false,true,true,true,false,false,false,false,false,false,false,false,false] rfl rfl (any_of HT_.out (by kernel_rfl)) (fun _ _ _ h => h) (Or.inl ⟨by rfl,?_⟩) ?_ ?_
               rotate_left;·intro w';go_simp;with_reducible rfl
               rotate_left;·simp only [Act.put,setIfInBounds_toArray,set_cons_zero,set_cons_succ,i64_w,i32_w];rfl
               refine pure_ (i := 12) (N := some 30) (v := ?_) (a' := ?_) #[true,true,true,true,true,false,false,false,false,true,true,true,true,false,false,false,false,false,false,false,false] rfl rfl (any_of HT_.out (by kernel_rfl)) (fun _ _ _ h => h) (Or.inl ⟨by rfl,?_⟩) ?_ ?_
               rotate_left;·intro w';go_simp;with_reducible rfl
               rotate_left;·simp only [Act.put,setIfInBounds_toArray,set_cons_zero,set_cons_succ,i64_w,i32_w];rfl
               refine pure_ (i := 13) (N := some 31) (v := ?_) (a' := ?_) #[true,true,true,true,true,false,false,false,false,true,true,true,true,true,false,false,false,false,false,false,false] rfl rfl (any_of HT_.out (by kernel_rfl)) (fun _ _ _ h => h) (Or.inl ⟨by rfl,?_⟩) ?_ ?_
               rotate_left;·intro w';go_simp;with_reducible rfl
               rotate_left;·simp only [Act.put,setIfInBounds_toArray,set_cons_zero,set_cons_succ,i64_w,i32_w];rfl
               refine take_ (i := 5) (N := some 23) (v := ?_) (a' := ?_) #[true,true,true,true,true,true,false,false,false,true,true,true,true,true,false,false,false,false,false,false,false] rfl rfl (take_ofW HT_.out HW_.out (by kernel_rfl)) (fun _ _ _ h => h) (Or.inl ⟨by rfl,?_⟩) hHeld ?_ ?_
               rotate_left;·rintro w' ⟨s0,s1,s2,s3,s4,s5,s6,s7⟩;go_simp;with_reducible rfl
               rotate_left;·simp only [Act.put,setIfInBounds_toArray,set_cons_zero,set_cons_succ,i64_w,i32_w];rfl
               refine pure_ (i := 6) (N := some 24) (v := ?_) (a' := ?_) #[true,true,true,true,true,true,true,false,false,true,true,true,true,true,false,false,false,false,false,false,false] rfl rfl (any_of HT_.out (by kernel_rfl)) (fun _ _ _ h => h) (Or.inl ⟨by rfl,?_⟩) ?_ ?_
               rotate_left;·intro w';go_simp;with_reducible rfl
               rotate_left;·simp only [Act.put,setIfInBounds_toArray,set_cons_zero,set_cons_succ,i64_w,i32_w];rfl
               refine pure_ (i := 7) (N := some 25) (v := ?_) (a' := ?_) #[true,true,true,true,true,true,true,true,false,true,true,true,true,true,false,false,false,false,false,false,false] rfl rfl (any_of HT_.out (by kernel_rfl)) (fun _ _ _ h => h) (Or.inl ⟨by rfl,?_⟩) ?_ ?_
               rotate_left;·intro w';go_simp;with_reducible rfl
               rotate_left;·simp only [Act.put,setIfInBounds_toArray,set_cons_zero,set_cons_succ,i64_w,i32_w];rfl
               refine take_ (i := 8) (N := some 26) (v := ?_) (a' := ?_) #[true,true,true,true,true,true,true,true,true,true,true,true,true,true,false,false,false,false,false,false,false] rfl rfl (take_ofW HT_.out HW_.out (by kernel_rfl)) (fun _ _ _ h => h) (Or.inl ⟨by rfl,?_⟩) hHeld ?_ ?_
               rotate_left;·rintro w' ⟨s0,s1,s2,s3,s4,s5,s6,s7⟩;go_simp;with_reducible rfl
               rotate_left;·simp only [Act.put,setIfInBounds_toArray,set_cons_zero,set_cons_succ,i64_w,i32_w];rfl
               refine take_ (i := 14) (N := some 32) (v := ?_) (a' := ?_) #[true,true,true,true,true,true,true,true,true,true,true,true,true,true,true,false,false,false,false,false,false] rfl rfl (take_ofW HT_.out HW_.out (by kernel_rfl)) (fun _ _ _ h => h) (Or.inl ⟨by rfl,?_⟩) hHeld ?_ ?_
               rotate_left;·rintro w' ⟨s0,s1,s2,s3,s4,s5,s6,s7⟩;go_simp;with_reducible rfl
               rotate_left;·simp only [Act.put,setIfInBounds_toArray,set_cons_zero,set_cons_succ,i64_w,i32_w];rfl
               refine pure_ (i := 15) (N := some 33) (v := ?_) (a' := ?_) #[true,true,true,true,true,true,true,true,true,true,true,true,true,true,true,true,false,false,false,false,false] rfl rfl (any_of HT_.out (by kernel_rfl)) (fun _ _ _ h => h) (Or.inl ⟨by rfl,?_⟩) ?_ ?_
               rotate_left;·intro w';go_simp;with_reducible rfl
               rotate_left;·simp only [Act.put,setIfInBounds_toArray,set_cons_zero,set_cons_succ,i64_w,i32_w];rfl
               refine pure_ (i := 16) (N := some 34) (v := ?_) (a' := ?_) #[true,true,true,true,true,true,true,true,true,true,true,true,true,true,true,true,true,false,false,false,false] rfl rfl (any_of HT_.out (by kernel_rfl)) (fun _ _ _ h => h) (Or.inl ⟨by rfl,?_⟩) ?_ ?_
               rotate_left;·intro w';go_simp;with_reducible rfl
               rotate_left;·simp only [Act.put,setIfInBounds_toArray,set_cons_zero,set_cons_succ,i64_w,i32_w];rfl
               refine take_ (i := 17) (N := some 35) (v := ?_) (a' := ?_) #[true,true,true,true,true,true,true,true,true,true,true,true,true,true,true,true,true,true,false,false,false] rfl rfl (take_ofW HT_.out HW_.out (by kernel_rfl)) (fun _ _ _ h => h) (Or.inl ⟨by rfl,?_⟩) hHeld ?_ ?_
               rotate_left;·rintro w' ⟨s0,s1,s2,s3,s4,s5,s6,s7⟩;go_simp;with_reducible rfl
               rotate_left;·simp only [Act.put,setIfInBounds_toArray,set_cons_zero,set_cons_succ,i64_w,i32_w];rfl
               refine pure_ (i := 18) (N := some 36) (v := ?_) (a' := ?_) #[true,true,true,true,true,true,true,true,true,true,true,true,true,true,true,true,true,true,true,false,false] rfl rfl (any_of HT_.out (by kernel_rfl)) (fun _ _ _ h => h) (Or.inl ⟨by rfl,?_⟩) ?_ ?_
               rotate_left;·intro w';go_simp;with_reducible rfl
               rotate_left;·simp only [Act.put,setIfInBounds_toArray,set_cons_zero,set_cons_succ,i64_w,i32_w];rfl
               refine one_ (i := 19) (N := some 6) #[true,true,true,true,true,true,true,true,true,true,true,true,true,true,true,true,true,true,true,true,false] rfl rfl (one_of HT_.out (by kernel_rfl)) (by decide) (fun K hK => ?_)
               refine box_step ?hg (N := 6) ?hd (cs := #[.int .i64 0,.int .i64 0]) (t := 45) ?hr ?_;(case hd => rfl);(case hg => rfl);(case hr => first | (go_simp;done) | (go_simp;rfl))
               intro gb170 hg w28 hbox hb
               have HS3_ := (hb.cell (World.block_lt_of_cell? _ _ (hHeld.2.2.2.1))).trans (hHeld.2.2.2.1)
               have HS7_ := (hb.cell (World.block_lt_of_cell? _ _ (hHeld.2.2.2.2.2.2.2))).trans (hHeld.2.2.2.2.2.2.2)
               have n0_ := Aside0.mk (Kd.R_below (by (with_reducible repeat (first | apply Kd.R_alloc | apply Kd.R_drewN | apply Kd.R_drew));exact HO_3.out) hb)
               have n1_ := Aside0.mk (Kd.R_below (Kd.R_elderB (by (with_reducible repeat (first | apply Kd.R_alloc | apply Kd.R_drewN | apply Kd.R_drew));exact HO_4.out) gb170 (Nat.le_of_eq hg.symm)) hb)
               have n2_ := Aside0.mk (below_step (by repeat (first | (with_reducible first | exact HB.out | apply below_alloc | apply pw_below_drewN | apply below_drew1) | exact HB.out)) hb)
               have n3_ := Aside0.mk (hbox)
               have n4_ := Aside0.mk ((by rw [hg];exact (below_size (by repeat (first | (with_reducible first | exact HB.out | apply below_alloc | apply pw_below_drewN | apply below_drew1) | exact HB.out))) : w.heap.size ≤ gb170))
               have n5_ := Aside0.mk ((by rw [hg];exact (below_size (by repeat (first | (with_reducible first | exact HB.out | apply below_alloc | apply pw_below_drewN | apply below_drew1) | exact HB.out))) : w.heap.size ≤ gb170))
               clear HO_3
               clear HO_4
               clear HB
               have HO_3 := n0_
               have HO_4 := n1_
               have HB := n2_
               have BK170 := n3_
               have GW170 := n4_
               have GE170 := n5_
               clear n0_ n1_ n2_ n3_ n4_ n5_
               clear hb hbox hg
               refine hK.out _ _ ⟨((HB.out.cell (World.block_lt_of_cell? w _ hw166_0)).trans hw166_0),((HB.out.cell (World.block_lt_of_cell? w _ hw166_1)).trans hw166_1),((HB.out.cell (World.block_lt_of_cell? w _ hw166_2)).trans hw166_2),HS3_,((HB.out.cell (World.block_lt_of_cell? w _ hw168_0)).trans hw168_0),((HB.out.cell (World.block_lt_of_cell? w _ hw168_1)).trans hw168_1),((HB.out.cell (World.block_lt_of_cell? w _ hw168_2)).trans hw168_2),HS7_⟩ (fun hHeld => ?_)
               clear hK K
               refine norm_ (a' := ?_) ?_ ?_
               rotate_left;·show Act.put _ (some 6) _ = _;simp only [Act.put,setIfInBounds_toArray,set_cons_zero,set_cons_succ,i64_w,i32_w];rfl
               refine one_ (i := 20) (N := none) #[true,true,true,true,true,true,true,true,true,true,true,true,true,true,true,true,true,true,true,true,true] rfl rfl (one_of HT_.out (by kernel_rfl)) (by decide) (fun K hK => ?_)
               have hs29 : w28.cell? ⟨gb170,0,none⟩ = some (.int .i64 0) := (blk_cell BK170.out 0).trans rfl
               have hfs29 := blk_frozen BK170.out 0
               have hs30 : w28.cell? ⟨gb170,1,none⟩ = some (.int .i64 0) := (blk_cell BK170.out 1).trans rfl
               have hfs30 := blk_frozen BK170.out 1
               refine skip_ (w1 := ?_) (by rfl) rfl ?_ ?_
               rotate_left;·go_simp;rfl
               refine hK.out _ _ ⟨((cell_far (p := ⟨gb170,_,none⟩) (by first | exact Nat.ne_of_lt (Nat.lt_of_lt_of_le (by have := World.block_lt_of_cell? _ _ hw166_0;first | rwa [add_block] at this | exact this) GW170.out) | (rw [add_block];exact Nat.ne_of_lt (Nat.lt_of_lt_of_le (by have := World.block_lt_of_cell? _ _ hw166_0;first | rwa [add_block] at this | exact this) GW170.out)) | (show (Addr.add _ _).block ≠ _;rw [add_block];exact Nat.ne_of_lt (Nat.lt_of_lt_of_le (by have := World.block_lt_of_cell? _ _ hw166_0;first | rwa [add_block] at this | exact this) GW170.out)) | (dsimp only;exact Nat.ne_of_lt (Nat.lt_of_lt_of_le (by have := World.block_lt_of_cell? _ _ hw166_0;first | rwa [add_block] at this | exact this) GW170.out))) _).trans (((cell_far (p := ⟨gb170,_,none⟩) (by first | exact Nat.ne_of_lt (Nat.lt_of_lt_of_le (by have := World.block_lt_of_cell? _ _ hw166_0;first | rwa [add_block] at this | exact this) GW170.out) | (rw [add_block];exact Nat.ne_of_lt (Nat.lt_of_lt_of_le (by have := World.block_lt_of_cell? _ _ hw166_0;first | rwa [add_block] at this | exact this) GW170.out)) | (show (Addr.add _ _).block ≠ _;rw [add_block];exact Nat.ne_of_lt (Nat.lt_of_lt_of_le (by have := World.block_lt_of_cell? _ _ hw166_0;first | rwa [add_block] at this | exact this) GW170.out)) | (dsimp only;exact Nat.ne_of_lt (Nat.lt_of_lt_of_le (by have := World.block_lt_of_cell? _ _ hw166_0;first | rwa [add_block] at this | exact this) GW170.out))) _).trans (hHeld.1)))),((cell_far (p := ⟨gb170,_,none⟩) (by first | exact Nat.ne_of_lt (Nat.lt_of_lt_of_le (by have := World.block_lt_of_cell? _ _ hw166_1;first | rwa [add_block] at this | exact this) GW170.out) | (rw [add_block];exact Nat.ne_of_lt (Nat.lt_of_lt_of_le (by have := World.block_lt_of_cell? _ _ hw166_1;first | rwa [add_block] at this | exact this) GW170.out)) | (show (Addr.add _ _).block ≠ _;rw [add_block];exact Nat.ne_of_lt (Nat.lt_of_lt_of_le (by have := World.block_lt_of_cell? _ _ hw166_1;first | rwa [add_block] at this | exact this) GW170.out)) | (dsimp only;exact Nat.ne_of_lt (Nat.lt_of_lt_of_le (by have := World.block_lt_of_cell? _ _ hw166_1;first | rwa [add_block] at this | exact this) GW170.out))) _).trans (((cell_far (p := ⟨gb170,_,none⟩) (by first | exact Nat.ne_of_lt (Nat.lt_of_lt_of_le (by have := World.block_lt_of_cell? _ _ hw166_1;first | rwa [add_block] at this | exact this) GW170.out) | (rw [add_block];exact Nat.ne_of_lt (Nat.lt_of_lt_of_le (by have := World.block_lt_of_cell? _ _ hw166_1;first | rwa [add_block] at this | exact this) GW170.out)) | (show (Addr.add _ _).block ≠ _;rw [add_block];exact Nat.ne_of_lt (Nat.lt_of_lt_of_le (by have := World.block_lt_of_cell? _ _ hw166_1;first | rwa [add_block] at this | exact this) GW170.out)) | (dsimp only;exact Nat.ne_of_lt (Nat.lt_of_lt_of_le (by have := World.block_lt_of_cell? _ _ hw166_1;first | rwa [add_block] at this | exact this) GW170.out))) _).trans (hHeld.2.1)))),((cell_far (p := ⟨gb170,_,none⟩) (by first | exact Nat.ne_of_lt (Nat.lt_of_lt_of_le (by have := World.block_lt_of_cell? _ _ hw166_2;first | rwa [add_block] at this | exact this) GW170.out) | (rw [add_block];exact Nat.ne_of_lt (Nat.lt_of_lt_of_le (by have := World.block_lt_of_cell? _ _ hw166_2;first | rwa [add_block] at this | exact this) GW170.out)) | (show (Addr.add _ _).block ≠ _;rw [add_block];exact Nat.ne_of_lt (Nat.lt_of_lt_of_le (by have := World.block_lt_of_cell? _ _ hw166_2;first | rwa [add_block] at this | exact this) GW170.out)) | (dsimp only;exact Nat.ne_of_lt (Nat.lt_of_lt_of_le (by have := World.block_lt_of_cell? _ _ hw166_2;first | rwa [add_block] at this | exact this) GW170.out))) _).trans (((cell_far (p := ⟨gb170,_,none⟩) (by first | exact Nat.ne_of_lt (Nat.lt_of_lt_of_le (by have := World.block_lt_of_cell? _ _ hw166_2;first | rwa [add_block] at this | exact this) GW170.out) | (rw [add_block];exact Nat.ne_of_lt (Nat.lt_of_lt_of_le (by have := World.block_lt_of_cell? _ _ hw166_2;first | rwa [add_block] at this | exact this) GW170.out)) | (show (Addr.add _ _).block ≠ _;rw [add_block];exact Nat.ne_of_lt (Nat.lt_of_lt_of_le (by have := World.block_lt_of_cell? _ _ hw166_2;first | rwa [add_block] at this | exact this) GW170.out)) | (dsimp only;exact Nat.ne_of_lt (Nat.lt_of_lt_of_le (by have := World.block_lt_of_cell? _ _ hw166_2;first | rwa [add_block] at this | exact this) GW170.out))) _).trans (hHeld.2.2.1)))),((cell_far (p := ⟨gb170,_,none⟩) (by first | exact Kd.own_blk (Kd.R_ne HO_3.out BK170.out (by decide)) | (rw [add_block];exact Kd.own_blk (Kd.R_ne HO_3.out BK170.out (by decide))) | (show (Addr.add _ _).block ≠ _;rw [add_block];exact Kd.own_blk (Kd.R_ne HO_3.out BK170.out (by decide))) | (dsimp only;exact Kd.own_blk (Kd.R_ne HO_3.out BK170.out (by decide)))) _).trans (((cell_far (p := ⟨gb170,_,none⟩) (by first | exact Kd.own_blk (Kd.R_ne HO_3.out BK170.out (by decide)) | (rw [add_block];exact Kd.own_blk (Kd.R_ne HO_3.out BK170.out (by decide))) | (show (Addr.add _ _).block ≠ _;rw [add_block];exact Kd.own_blk (Kd.R_ne HO_3.out BK170.out (by decide))) | (dsimp only;exact Kd.own_blk (Kd.R_ne HO_3.out BK170.out (by decide)))) _).trans (hHeld.2.2.2.1)))),((cell_far (p := ⟨gb170,_,none⟩) (by first | exact Nat.ne_of_lt (Nat.lt_of_lt_of_le (by have := World.block_lt_of_cell? _ _ hw168_0;first | rwa [add_block] at this | exact this) GW170.out) | (rw [add_block];exact Nat.ne_of_lt (Nat.lt_of_lt_of_le (by have := World.block_lt_of_cell? _ _ hw168_0;first | rwa [add_block] at this | exact this) GW170.out)) | (show (Addr.add _ _).block ≠ _;rw [add_block];exact Nat.ne_of_lt (Nat.lt_of_lt_of_le (by have := World.block_lt_of_cell? _ _ hw168_0;first | rwa [add_block] at this | exact this) GW170.out)) | (dsimp only;exact Nat.ne_of_lt (Nat.lt_of_lt_of_le (by have := World.block_lt_of_cell? _ _ hw168_0;first | rwa [add_block] at this | exact this) GW170.out))) _).trans (((cell_far (p := ⟨gb170,_,none⟩) (by first | exact Nat.ne_of_lt (Nat.lt_of_lt_of_le (by have := World.block_lt_of_cell? _ _ hw168_0;first | rwa [add_block] at this | exact this) GW170.out) | (rw [add_block];exact Nat.ne_of_lt (Nat.lt_of_lt_of_le (by have := World.block_lt_of_cell? _ _ hw168_0;first | rwa [add_block] at this | exact this) GW170.out)) | (show (Addr.add _ _).block ≠ _;rw [add_block];exact Nat.ne_of_lt (Nat.lt_of_lt_of_le (by have := World.block_lt_of_cell? _ _ hw168_0;first | rwa [add_block] at this | exact this) GW170.out)) | (dsimp only;exact Nat.ne_of_lt (Nat.lt_of_lt_of_le (by have := World.block_lt_of_cell? _ _ hw168_0;first | rwa [add_block] at this | exact this) GW170.out))) _).trans (hHeld.2.2.2.2.1)))),((cell_far (p := ⟨gb170,_,none⟩) (by first | exact Nat.ne_of_lt (Nat.lt_of_lt_of_le (by have := World.block_lt_of_cell? _ _ hw168_1;first | rwa [add_block] at this | exact this) GW170.out) | (rw [add_block];exact Nat.ne_of_lt (Nat.lt_of_lt_of_le (by have := World.block_lt_of_cell? _ _ hw168_1;first | rwa [add_block] at this | exact this) GW170.out)) | (show (Addr.add _ _).block ≠ _;rw [add_block];exact Nat.ne_of_lt (Nat.lt_of_lt_of_le (by have := World.block_lt_of_cell? _ _ hw168_1;first | rwa [add_block] at this | exact this) GW170.out)) | (dsimp only;exact Nat.ne_of_lt (Nat.lt_of_lt_of_le (by have := World.block_lt_of_cell? _ _ hw168_1;first | rwa [add_block] at this | exact this) GW170.out))) _).trans (((cell_far (p := ⟨gb170,_,none⟩) (by first | exact Nat.ne_of_lt (Nat.lt_of_lt_of_le (by have := World.block_lt_of_cell? _ _ hw168_1;first | rwa [add_block] at this | exact this) GW170.out) | (rw [add_block];exact Nat.ne_of_lt (Nat.lt_of_lt_of_le (by have := World.block_lt_of_cell? _ _ hw168_1;first | rwa [add_block] at this | exact this) GW170.out)) | (show (Addr.add _ _).block ≠ _;rw [add_block];exact Nat.ne_of_lt (Nat.lt_of_lt_of_le (by have := World.block_lt_of_cell? _ _ hw168_1;first | rwa [add_block] at this | exact this) GW170.out)) | (dsimp only;exact Nat.ne_of_lt (Nat.lt_of_lt_of_le (by have := World.block_lt_of_cell? _ _ hw168_1;first | rwa [add_block] at this | exact this) GW170.out))) _).trans (hHeld.2.2.2.2.2.1)))),((cell_far (p := ⟨gb170,_,none⟩) (by first | exact Nat.ne_of_lt (Nat.lt_of_lt_of_le (by have := World.block_lt_of_cell? _ _ hw168_2;first | rwa [add_block] at this | exact this) GW170.out) | (rw [add_block];exact Nat.ne_of_lt (Nat.lt_of_lt_of_le (by have := World.block_lt_of_cell? _ _ hw168_2;first | rwa [add_block] at this | exact this) GW170.out)) | (show (Addr.add _ _).block ≠ _;rw [add_block];exact Nat.ne_of_lt (Nat.lt_of_lt_of_le (by have := World.block_lt_of_cell? _ _ hw168_2;first | rwa [add_block] at this | exact this) GW170.out)) | (dsimp only;exact Nat.ne_of_lt (Nat.lt_of_lt_of_le (by have := World.block_lt_of_cell? _ _ hw168_2;first | rwa [add_block] at this | exact this) GW170.out))) _).trans (((cell_far (p := ⟨gb170,_,none⟩) (by first | exact Nat.ne_of_lt (Nat.lt_of_lt_of_le (by have := World.block_lt_of_cell? _ _ hw168_2;first | rwa [add_block] at this | exact this) GW170.out) | (rw [add_block];exact Nat.ne_of_lt (Nat.lt_of_lt_of_le (by have := World.block_lt_of_cell? _ _ hw168_2;first | rwa [add_block] at this | exact this) GW170.out)) | (show (Addr.add _ _).block ≠ _;rw [add_block];exact Nat.ne_of_lt (Nat.lt_of_lt_of_le (by have := World.block_lt_of_cell? _ _ hw168_2;first | rwa [add_block] at this | exact this) GW170.out)) | (dsimp only;exact Nat.ne_of_lt (Nat.lt_of_lt_of_le (by have := World.block_lt_of_cell? _ _ hw168_2;first | rwa [add_block] at this | exact this) GW170.out))) _).trans (hHeld.2.2.2.2.2.2.1)))),((cell_far (p := ⟨gb170,_,none⟩) (by first | exact Kd.own_blk (Kd.R_ne HO_3.out BK170.out (by decide)) | (rw [add_block];exact Kd.own_blk (Kd.R_ne HO_3.out BK170.out (by decide))) | (show (Addr.add _ _).block ≠ _;rw [add_block];exact Kd.own_blk (Kd.R_ne HO_3.out BK170.out (by decide))) | (dsimp only;exact Kd.own_blk (Kd.R_ne HO_3.out BK170.out (by decide)))) _).trans (((cell_far (p := ⟨gb170,_,none⟩) (by first | exact Kd.own_blk (Kd.R_ne HO_3.out BK170.out (by decide)) | (rw [add_block];exact Kd.own_blk (Kd.R_ne HO_3.out BK170.out (by decide))) | (show (Addr.add _ _).block ≠ _;rw [add_block];exact Kd.own_blk (Kd.R_ne HO_3.out BK170.out (by decide))) | (dsimp only;exact Kd.own_blk (Kd.R_ne HO_3.out BK170.out (by decide)))) _).trans (hHeld.2.2.2.2.2.2.2))))⟩ (fun hHeld => ?_)
               clear hK K
               refine done_ (done_of HT_.out (by kernel_rfl)) ?_
               have p171 : 0 ≤ (x5_1 : Int) := of_decide_eq_true (by first | (with_reducible assumption) | assumption)
               have q171 : x5_1 < (l0.length : Int) := of_decide_eq_true (by first | (with_reducible assumption) | assumption)
               obtain ⟨ad171,e171,hx171_0,hx171_1,hx171_2⟩ := at_T58 HR0.out x5_1 p171 q171
               obtain rfl : ad166 = ad171 := (by injection e171)
               have hn171_0 : ad166.block ≠ gb170 := Nat.ne_of_lt (Nat.lt_of_lt_of_le (by have := World.block_lt_of_cell? _ _ hx171_0;first | rwa [add_block] at this | exact this) GW170.out)
               have hn171_1 : ad166.block ≠ gb170 := Nat.ne_of_lt (Nat.lt_of_lt_of_le (by have := World.block_lt_of_cell? _ _ hx171_0;first | rwa [add_block] at this | exact this) GW170.out)
               replace hx171_0 := (HB.out.cell (World.block_lt_of_cell? w _ hx171_0)).trans hx171_0
               replace hx171_1 := (HB.out.cell (World.block_lt_of_cell? w _ hx171_1)).trans hx171_1
               replace hx171_2 := (HB.out.cell (World.block_lt_of_cell? w _ hx171_2)).trans hx171_2
               replace hx171_0 := (cell_far (p := ⟨gb170,0,none⟩) (by first | (rw [add_block];exact hn171_0) | (show (Addr.add _ _).block ≠ _;rw [add_block];exact hn171_0) | exact hn171_0) (.int .i64 (rd y163 (ji9)))).trans hx171_0
               replace hx171_1 := (cell_far (p := ⟨gb170,0,none⟩) (by first | (rw [add_block];exact hn171_0) | (show (Addr.add _ _).block ≠ _;rw [add_block];exact hn171_0) | exact hn171_0) (.int .i64 (rd y163 (ji9)))).trans hx171_1
               replace hx171_2 := (cell_far (p := ⟨gb170,0,none⟩) (by first | (rw [add_block];exact hn171_0) | (show (Addr.add _ _).block ≠ _;rw [add_block];exact hn171_0) | exact hn171_0) (.int .i64 (rd y163 (ji9)))).trans hx171_2
               replace hx171_0 := (cell_far (p := ⟨gb170,1,none⟩) (by first | (rw [add_block];exact hn171_1) | (show (Addr.add _ _).block ≠ _;rw [add_block];exact hn171_1) | exact hn171_1) (.int .i64 (rd y163 (ji12)))).trans hx171_0
               replace hx171_1 := (cell_far (p := ⟨gb170,1,none⟩) (by first | (rw [add_block];exact hn171_1) | (show (Addr.add _ _).block ≠ _;rw [add_block];exact hn171_1) | exact hn171_1) (.int .i64 (rd y163 (ji12)))).trans hx171_1
               replace hx171_2 := (cell_far (p := ⟨gb170,1,none⟩) (by first | (rw [add_block];exact hn171_1) | (show (Addr.add _ _).block ≠ _;rw [add_block];exact hn171_1) | exact hn171_1) (.int .i64 (rd y163 (ji12)))).trans hx171_2
               clear hn171_0
               clear hn171_1
               replace p171 := eq_true p171
               replace q171 := eq_true q171
               have p176 : 0 ≤ (x5_1 : Int) := of_decide_eq_true (by first | (with_reducible assumption) | assumption)
               have q176 : x5_1 < (l0.length : Int) := of_decide_eq_true (by first | (with_reducible assumption) | assumption)
               obtain ⟨ad176,e176,hx176_0,hx176_1,hx176_2⟩ := at_T58 HR0.out x5_1 p176 q176
               obtain rfl : ad166 = ad176 := (by injection e176)
               have hn176_0 : ad166.block ≠ gb170 := Nat.ne_of_lt (Nat.lt_of_lt_of_le (by have := World.block_lt_of_cell? _ _ hx176_0;first | rwa [add_block] at this | exact this) GW170.out)
               have hn176_1 : ad166.block ≠ gb170 := Nat.ne_of_lt (Nat.lt_of_lt_of_le (by have := World.block_lt_of_cell? _ _ hx176_0;first | rwa [add_block] at this | exact this) GW170.out)
               replace hx176_0 := (HB.out.cell (World.block_lt_of_cell? w _ hx176_0)).trans hx176_0
               replace hx176_1 := (HB.out.cell (World.block_lt_of_cell? w _ hx176_1)).trans hx176_1
               replace hx176_2 := (HB.out.cell (World.block_lt_of_cell? w _ hx176_2)).trans hx176_2
               replace hx176_0 := (cell_far (p := ⟨gb170,0,none⟩) (by first | (rw [add_block];exact hn176_0) | (show (Addr.add _ _).block ≠ _;rw [add_block];exact hn176_0) | exact hn176_0) (.int .i64 (rd y163 (ji9)))).trans hx176_0
               replace hx176_1 := (cell_far (p := ⟨gb170,0,none⟩) (by first | (rw [add_block];exact hn176_0) | (show (Addr.add _ _).block ≠ _;rw [add_block];exact hn176_0) | exact hn176_0) (.int .i64 (rd y163 (ji9)))).trans hx176_1
               replace hx176_2 := (cell_far (p := ⟨gb170,0,none⟩) (by first | (rw [add_block];exact hn176_0) | (show (Addr.add _ _).block ≠ _;rw [add_block];exact hn176_0) | exact hn176_0) (.int .i64 (rd y163 (ji9)))).trans hx176_2
               replace hx176_0 := (cell_far (p := ⟨gb170,1,none⟩) (by first | (rw [add_block];exact hn176_1) | (show (Addr.add _ _).block ≠ _;rw [add_block];exact hn176_1) | exact hn176_1) (.int .i64 (rd y163 (ji12)))).trans hx176_0
               replace hx176_1 := (cell_far (p := ⟨gb170,1,none⟩) (by first | (rw [add_block];exact hn176_1) | (show (Addr.add _ _).block ≠ _;rw [add_block];exact hn176_1) | exact hn176_1) (.int .i64 (rd y163 (ji12)))).trans hx176_1
               replace hx176_2 := (cell_far (p := ⟨gb170,1,none⟩) (by first | (rw [add_block];exact hn176_1) | (show (Addr.add _ _).block ≠ _;rw [add_block];exact hn176_1) | exact hn176_1) (.int .i64 (rd y163 (ji12)))).trans hx176_2
               clear hn176_0
               clear hn176_1
               replace p176 := eq_true p176
               replace q176 := eq_true q176
               have p177 : 0 ≤ (x5_1 : Int) := of_decide_eq_true (by first | (with_reducible assumption) | assumption)
               have q177 : x5_1 < (l0.length : Int) := of_decide_eq_true (by first | (with_reducible assumption) | assumption)
               obtain ⟨ad177,e177,hx177_0,hx177_1,hx177_2⟩ := at_T58 HR0.out x5_1 p177 q177
               obtain rfl : ad166 = ad177 := (by injection e177)
               have hn177_0 : ad166.block ≠ gb170 := Nat.ne_of_lt (Nat.lt_of_lt_of_le (by have := World.block_lt_of_cell? _ _ hx177_0;first | rwa [add_block] at this | exact this) GW170.out)
               have hn177_1 : ad166.block ≠ gb170 := Nat.ne_of_lt (Nat.lt_of_lt_of_le (by have := World.block_lt_of_cell? _ _ hx177_0;first | rwa [add_block] at this | exact this) GW170.out)
               replace hx177_0 := (HB.out.cell (World.block_lt_of_cell? w _ hx177_0)).trans hx177_0
               replace hx177_1 := (HB.out.cell (World.block_lt_of_cell? w _ hx177_1)).trans hx177_1
               replace hx177_2 := (HB.out.cell (World.block_lt_of_cell? w _ hx177_2)).trans hx177_2
               replace hx177_0 := (cell_far (p := ⟨gb170,0,none⟩) (by first | (rw [add_block];exact hn177_0) | (show (Addr.add _ _).block ≠ _;rw [add_block];exact hn177_0) | exact hn177_0) (.int .i64 (rd y163 (ji9)))).trans hx177_0
               replace hx177_1 := (cell_far (p := ⟨gb170,0,none⟩) (by first | (rw [add_block];exact hn177_0) | (show (Addr.add _ _).block ≠ _;rw [add_block];exact hn177_0) | exact hn177_0) (.int .i64 (rd y163 (ji9)))).trans hx177_1
               replace hx177_2 := (cell_far (p := ⟨gb170,0,none⟩) (by first | (rw [add_block];exact hn177_0) | (show (Addr.add _ _).block ≠ _;rw [add_block];exact hn177_0) | exact hn177_0) (.int .i64 (rd y163 (ji9)))).trans hx177_2
               replace hx177_0 := (cell_far (p := ⟨gb170,1,none⟩) (by first | (rw [add_block];exact hn177_1) | (show (Addr.add _ _).block ≠ _;rw [add_block];exact hn177_1) | exact hn177_1) (.int .i64 (rd y163 (ji12)))).trans hx177_0
               replace hx177_1 := (cell_far (p := ⟨gb170,1,none⟩) (by first | (rw [add_block];exact hn177_1) | (show (Addr.add _ _).block ≠ _;rw [add_block];exact hn177_1) | exact hn177_1) (.int .i64 (rd y163 (ji12)))).trans hx177_1
               replace hx177_2 := (cell_far (p := ⟨gb170,1,none⟩) (by first | (rw [add_block];exact hn177_1) | (show (Addr.add _ _).block ≠ _;rw [add_block];exact hn177_1) | exact hn177_1) (.int .i64 (rd y163 (ji12)))).trans hx177_2
               clear hn177_0
               clear hn177_1
               replace p177 := eq_true p177
               replace q177 := eq_true q177
               have hcz31_0 : w28.cell? ⟨gb170,0,none⟩ = some (.int .i64 0) := (blk_cell BK170.out 0).trans rfl
               have hcz31_1 : w28.cell? ⟨gb170,1,none⟩ = some (.int .i64 0) := (blk_cell BK170.out 1).trans rfl
               have hfz31_0 := blk_frozen BK170.out 0
               have hfz31_1 := blk_frozen BK170.out 1
               have hcy_1 : (((w28.setCell ⟨gb170,0,none⟩ (.int .i64 (rd y163 (ji9)))).setCell ⟨gb170,1,none⟩ (.int .i64 (rd y163 (ji12)))).setCell ⟨gb170,1,none⟩ (.int .i64 ((rd_T58 l0 x5_1).f2))).cell? ⟨gb170,1,none⟩ = some (.int .i64 ((rd_T58 l0 x5_1).f2)) := (blk_cell (blk_put (cs := #[(.int .i64 (rd y163 (ji9))),(.int .i64 (rd y163 (ji12)))]) (blk_put (cs := #[(.int .i64 (rd y163 (ji9))),.int .i64 0]) (blk_put (cs := #[.int .i64 0,.int .i64 0]) BK170.out 0 _ rfl) 1 _ rfl) 1 _ rfl) 1).trans rfl
               try go_wp2_with (first | ((with_reducible refine gate_builtin (b := .append) (xs := #[.tmp 57,.tmp 59]) rfl ?_);at_builtin;refine Kd.R_append k45 (w0 := w) w.heap.size rfl (.tmp 57) (.tmp 59) 31 45 (.agg #[(.int .i64 0),(.int .i64 0)]) 16 rfl Try.underlying31 info45 rfl (by decide) (by omega) u4 x4_1 (⟨rd y163 (ji9),(rd_T58 l0 x5_1).f2⟩ : S45) [.int .i64 (rd y163 (ji9)),.int .i64 ((rd_T58 l0 x5_1).f2)] (fun k_ => k_ ≠ gb170) (fun _ => False) rfl (by first | (go_simp;done) | (go_simp;rfl)) ?aP (fun _ hk => hk.elim) ?aF ?aO ?aB ?aS ?aL ?_;(case aP => exact k45_mkM _ _ _ (⟨rd y163 (ji9),(rd_T58 l0 x5_1).f2⟩ : S45));(case aB => exact (by repeat (first | (with_reducible first | exact HB.out | apply below_alloc | apply pw_below_drewN | apply below_drew1 | refine below_set ?_ GE170.out) | exact HB.out)));(case aF => exact (fun k_ hk => Kd.freshB (g := gb170) (o := .cells #[.int .i64 (rd y163 (ji9)),.int .i64 ((rd_T58 l0 x5_1).f2)] 45 (0,0)) (by (with_reducible repeat (first | refine blk_drewN ?_ _ | refine blk_drew ?_ | refine blk_alloc ?_ _));refine blk_put (cs := #[.int .i64 (rd y163 (ji9)),.int .i64 (rd y163 (ji12))]) ?_ 1 _ rfl;(with_reducible repeat (first | refine blk_drewN ?_ _ | refine blk_drew ?_ | refine blk_alloc ?_ _));refine blk_put (cs := #[.int .i64 (rd y163 (ji9)),.int .i64 0]) ?_ 1 _ rfl;(with_reducible repeat (first | refine blk_drewN ?_ _ | refine blk_drew ?_ | refine blk_alloc ?_ _));refine blk_put (cs := #[.int .i64 0,.int .i64 0]) ?_ 0 _ rfl;(with_reducible repeat (first | refine blk_drewN ?_ _ | refine blk_drew ?_ | refine blk_alloc ?_ _));exact BK170.out) k_ hk));(case aO => exact (by (with_reducible repeat (first | apply Kd.R_alloc | apply Kd.R_drewN | apply Kd.R_drew));exact Kd.R_mono (Kd.R_far (p := ⟨gb170,1,none⟩) (Kd.R_far (p := ⟨gb170,1,none⟩) (Kd.R_far (p := ⟨gb170,0,none⟩) (Kd.R_mono HO_4.out (fun k_ hk => (⟨hk,hk.2⟩ : _ ∧ k_ ≠ gb170))) (fun _ hk => hk.2) (.int .i64 (rd y163 (ji9)))) (fun _ hk => hk.2) (.int .i64 (rd y163 (ji12)))) (fun _ hk => hk.2) (.int .i64 ((rd_T58 l0 x5_1).f2))) (fun _ hk => hk.1.2)));(case aS => exact (below_size (by repeat (first | (with_reducible first | exact HB.out | apply below_alloc | apply pw_below_drewN | apply below_drew1 | refine below_set ?_ GE170.out) | exact HB.out))));(case aL => have := LMc25.out;omega);intro v179 w32 ho hb hg hat;rw [← Ny178.out] at ho;have n0_ := Aside0.mk (Kd.R_over' (by (with_reducible repeat (first | apply Kd.R_alloc | apply Kd.R_drewN | apply Kd.R_drew));exact (Kd.R_mono (Kd.R_far (p := ⟨gb170,1,none⟩) (Kd.R_far (p := ⟨gb170,1,none⟩) (Kd.R_far (p := ⟨gb170,0,none⟩) (Kd.R_types HO_3.out BK170.out (by decide)) (fun _ hk => hk.2) (.int .i64 (rd y163 (ji9)))) (fun _ hk => hk.2) (.int .i64 (rd y163 (ji12)))) (fun _ hk => hk.2) (.int .i64 ((rd_T58 l0 x5_1).f2))) (fun _ h_ => h_.1))) (Kd.R_typed (by (with_reducible repeat (first | apply Kd.R_alloc | apply Kd.R_drewN | apply Kd.R_drew));exact (Kd.R_mono (Kd.R_far (p := ⟨gb170,1,none⟩) (Kd.R_far (p := ⟨gb170,1,none⟩) (Kd.R_far (p := ⟨gb170,0,none⟩) (Kd.R_mono HO_4.out (fun k_ hk => (⟨hk,hk.2⟩ : _ ∧ k_ ≠ gb170))) (fun _ hk => hk.2) (.int .i64 (rd y163 (ji9)))) (fun _ hk => hk.2) (.int .i64 (rd y163 (ji12)))) (fun _ hk => hk.2) (.int .i64 ((rd_T58 l0 x5_1).f2))) (fun _ h_ => h_.1)))) (by decide) hg);have n1_ := Aside0.mk (blk_grown (g := gb170) (o := .cells #[.int .i64 (rd y163 (ji9)),.int .i64 ((rd_T58 l0 x5_1).f2)] 45 (0,0)) (by (with_reducible repeat (first | refine blk_drewN ?_ _ | refine blk_drew ?_ | refine blk_alloc ?_ _));refine blk_put (cs := #[.int .i64 (rd y163 (ji9)),.int .i64 (rd y163 (ji12))]) ?_ 1 _ rfl;(with_reducible repeat (first | refine blk_drewN ?_ _ | refine blk_drew ?_ | refine blk_alloc ?_ _));refine blk_put (cs := #[.int .i64 (rd y163 (ji9)),.int .i64 0]) ?_ 1 _ rfl;(with_reducible repeat (first | refine blk_drewN ?_ _ | refine blk_drew ?_ | refine blk_alloc ?_ _));refine blk_put (cs := #[.int .i64 0,.int .i64 0]) ?_ 0 _ rfl;(with_reducible repeat (first | refine blk_drewN ?_ _ | refine blk_drew ?_ | refine blk_alloc ?_ _));exact BK170.out) hg (Kd.R_away HO_4.out (fun _ hk => hk.2)));have n2_ := Aside0.mk (hb);have n3_ := Aside0.mk (ho);clear HO_3;clear BK170;clear HB;clear HO_4;have HO_3 := n0_;have BK170 := n1_;have HB := n2_;have HO180 := n3_;clear n0_ n1_ n2_ n3_;clear ho hb hg hat))
               go_roundg kj3
               case measure => have := HK1.out;have := HJ3.out;omega
               case rel => exact ⟨(y178),(wrap64 (x5_1 + 1)),(by first | rfl | (simp;done) | (simp [*];done)),H',⟨by have := HK1.out;have := HJ3.out;omega⟩,⟨by (with_reducible repeat (first | apply Kd.R_alloc | apply Kd.R_drewN | apply Kd.R_drew));exact HO_3.out⟩,⟨by (with_reducible repeat (first | apply Kd.R_alloc | apply Kd.R_drewN | apply Kd.R_drew));exact Kd.R_mono HO180.out (fun _ hk => trivial)⟩,⟨by repeat (first | (with_reducible first | exact HB.out | apply below_alloc | apply pw_below_drewN | apply below_drew1 | refine below_set ?_ GE170.out) | exact HB.out)⟩⟩
              ·rw [if_neg c25] at H
               exact absurd H (by simp)
             ·rw [if_neg c24] at H
              have c24b0 : decide (1 < ((rd_T58 l0 x5_1).f2)) = false := decide_eq_false c24
              clear c24
              by_cases c33 : x4_1.length < 8796093022208
              ·rw [if_pos c33] at H
               have LMc33 := Aside0.mk c33
               clear c33
               obtain ⟨y181,hy181⟩ : ∃ y_ : List (S45),y_ = (x4_1 ++ [(⟨rd y163 (ji9),rd y163 (ji12)⟩ : S45)]) := ⟨_,rfl⟩
               replace H : (glyphcutterlaw16_Pairs.l0 kj3 l0 y163 y181 (wrap64 (x5_1 + 1))) = some r := by first | (rw [hy181];with_reducible exact H) | (have H2_ := (Option.bind_some _ _).symm.trans H;rw [hy181];with_reducible exact H2_) | (have H2_ := (Option.bind_some _ _).symm.trans H;with_reducible exact H2_) | with_reducible exact H | (rw [hy181];exact H) | exact H
               have Ny181 := Aside0.mk hy181
               clear hy181
               have H' := Aside0.mk H
               clear H
               try go_wp2
               have n0_ := Aside0.mk (Kd.R_drew HO_3.out)
               have n1_ := Aside0.mk (Kd.R_drew HO_4.out)
               have n2_ := Aside0.mk (below_drew1 HB.out)
               clear HO_3
               clear HO_4
               clear HB
               have HO_3 := n0_
               have HO_4 := n1_
               have HB := n2_
               clear n0_ n1_ n2_
               have p166 : 0 ≤ (x5_1 : Int) := of_decide_eq_true (by first | (with_reducible assumption) | assumption)
               have q166 : x5_1 < (l0.length : Int) := of_decide_eq_true (by first | (with_reducible assumption) | assumption)
               obtain ⟨ad166,e166,hx166_0,hx166_1,hx166_2⟩ := at_T58 HR0.out x5_1 p166 q166
               have hw166_2 := hx166_2
               have hw166_1 := hx166_1
               have hw166_0 := hx166_0
               cases e166
               replace hx166_0 := (HB.out.cell (World.block_lt_of_cell? w _ hx166_0)).trans hx166_0
               replace hx166_1 := (HB.out.cell (World.block_lt_of_cell? w _ hx166_1)).trans hx166_1
               replace hx166_2 := (HB.out.cell (World.block_lt_of_cell? w _ hx166_2)).trans hx166_2
               replace p166 := eq_true p166
               replace q166 := eq_true q166
               obtain ⟨Ao35,co35,eo35⟩ := Kd.R_slice HO_3.out
               (first | subst eo35 | (injection eo35 with f1_ f2_ f3_;have f4_ := f1_.symm;have f5_ := f3_.symm;clear f1_ f2_ f3_;subst f4_;subst f5_))
               have p167 : 0 ≤ ((ji9) : Int) := of_decide_eq_true (by first | (with_reducible assumption) | assumption)
               have q167 : (ji9) < (y163.length : Int) := of_decide_eq_true (by first | (with_reducible assumption) | assumption)
               obtain ⟨ad167,e167,hx167_0⟩ := Kd.at_int (Kd.R_reads' HO_3.out).2.2 (ji9) p167 q167
               cases e167
               replace p167 := eq_true p167
               replace q167 := eq_true q167
               have p168 : 0 ≤ (x5_1 : Int) := of_decide_eq_true (by first | (with_reducible assumption) | assumption)
               have q168 : x5_1 < (l0.length : Int) := of_decide_eq_true (by first | (with_reducible assumption) | assumption)
               obtain ⟨ad168,e168,hx168_0,hx168_1,hx168_2⟩ := at_T58 HR0.out x5_1 p168 q168
               have hw168_2 := hx168_2
               have hw168_1 := hx168_1
               have hw168_0 := hx168_0
               obtain rfl : ad166 = ad168 := (by injection e168)
               replace hx168_0 := (HB.out.cell (World.block_lt_of_cell? w _ hx168_0)).trans hx168_0
               replace hx168_1 := (HB.out.cell (World.block_lt_of_cell? w _ hx168_1)).trans hx168_1
               replace hx168_2 := (HB.out.cell (World.block_lt_of_cell? w _ hx168_2)).trans hx168_2
               replace p168 := eq_true p168
               replace q168 := eq_true q168
               have p169 : 0 ≤ ((ji12) : Int) := of_decide_eq_true (by first | (with_reducible assumption) | assumption)
               have q169 : (ji12) < (y163.length : Int) := of_decide_eq_true (by first | (with_reducible assumption) | assumption)
               obtain ⟨ad169,e169,hx169_0⟩ := Kd.at_int (Kd.R_reads' HO_3.out).2.2 (ji12) p169 q169
               obtain rfl : ad167 = ad169 := (by injection e169)
               replace p169 := eq_true p169
               replace q169 := eq_true q169
               refine start_ (n := 21) (S := fun w' => w'.cell? (ad166.add ((x5_1).toNat * 3)) = some (.int .u8 ((rd_T58 l0 x5_1).f0)) ∧ w'.cell? ⟨(ad166.add ((x5_1).toNat * 3)).block,(ad166.add ((x5_1).toNat * 3)).off + 1,none⟩ = some (.int .u8 ((rd_T58 l0 x5_1).f1)) ∧ w'.cell? ⟨(ad166.add ((x5_1).toNat * 3)).block,(ad166.add ((x5_1).toNat * 3)).off + 2,none⟩ = some (.int .i64 ((rd_T58 l0 x5_1).f2)) ∧ w'.cell? (ad167.add ((ji9)).toNat) = some (.int .i64 (rd y163 (ji9))) ∧ w'.cell? (ad166.add ((x5_1).toNat * 3)) = some (.int .u8 ((rd_T58 l0 x5_1).f0)) ∧ w'.cell? ⟨(ad166.add ((x5_1).toNat * 3)).block,(ad166.add ((x5_1).toNat * 3)).off + 1,none⟩ = some (.int .u8 ((rd_T58 l0 x5_1).f1)) ∧ w'.cell? ⟨(ad166.add ((x5_1).toNat * 3)).block,(ad166.add ((x5_1).toNat * 3)).off + 2,none⟩ = some (.int .i64 ((rd_T58 l0 x5_1).f2)) ∧ w'.cell? (ad167.add ((ji12)).toNat) = some (.int .i64 (rd y163 (ji12)))) (ds := []) #[false,false,false,false,false,false,false,false,false,false,false,false,false,false,false,false,false,false,false,false,false] (by kernel_rfl) rfl rfl ⟨((HB.out.cell (World.block_lt_of_cell? w _ hw166_0)).trans hw166_0),((HB.out.cell (World.block_lt_of_cell? w _ hw166_1)).trans hw166_1),((HB.out.cell (World.block_lt_of_cell? w _ hw166_2)).trans hw166_2),hx167_0,((HB.out.cell (World.block_lt_of_cell? w _ hw168_0)).trans hw168_0),((HB.out.cell (World.block_lt_of_cell? w _ hw168_1)).trans hw168_1),((HB.out.cell (World.block_lt_of_cell? w _ hw168_2)).trans hw168_2),hx169_0⟩ (fun hHeld => ?_);refine with_tabW glyphcutterlaw16_Pairs.tab6 glyphcutterlaw16_Pairs.bits6 (fun HT_ HW_ => ?_)
               generalize wc.drew = w34 at HO_3 HO_4 HB hx166_0 hx166_1 hx166_2 hx167_0 hx168_0 hx168_1 hx168_2 hx169_0 hHeld ⊢
               refine pure_ (i := 0) (N := some 18) (v := ?_) (a' := ?_) #[true,false,false,false,false,false,false,false,false,false,false,false,false,false,false,false,false,false,false,false,false] rfl rfl (any_of HT_.out (by kernel_rfl)) (fun _ _ _ h => h) (Or.inl ⟨by rfl,?_⟩) ?_ ?_
               rotate_left;·intro w';go_simp;with_reducible rfl
               rotate_left;·simp only [Act.put,setIfInBounds_toArray,set_cons_zero,set_cons_succ,i64_w,i32_w];rfl
               refine pure_ (i := 1) (N := some 19) (v := ?_) (a' := ?_) #[true,true,false,false,false,false,false,false,false,false,false,false,false,false,false,false,false,false,false,false,false] rfl rfl (any_of HT_.out (by kernel_rfl)) (fun _ _ _ h => h) (Or.inl ⟨by rfl,?_⟩) ?_ ?_
               rotate_left;·intro w';go_simp;with_reducible rfl
               rotate_left;·simp only [Act.put,setIfInBounds_toArray,set_cons_zero,set_cons_succ,i64_w,i32_w];rfl
               refine pure_ (i := 2) (N := some 20) (v := ?_) (a' := ?_) #[true,true,true,false,false,false,false,false,false,false,false,false,false,false,false,false,false,false,false,false,false] rfl rfl (any_of HT_.out (by kernel_rfl)) (fun _ _ _ h => h) (Or.inl ⟨by rfl,?_⟩) ?_ ?_
               rotate_left;·intro w';go_simp;with_reducible rfl
               rotate_left;·simp only [Act.put,setIfInBounds_toArray,set_cons_zero,set_cons_succ,i64_w,i32_w];rfl
               refine pure_ (i := 3) (N := some 21) (v := ?_) (a' := ?_) #[true,true,true,true,false,false,false,false,false,false,false,false,false,false,false,false,false,false,false,false,false] rfl rfl (any_of HT_.out (by kernel_rfl)) (fun _ _ _ h => h) (Or.inl ⟨by rfl,?_⟩) ?_ ?_
               rotate_left;·intro w';go_simp;with_reducible rfl
               rotate_left;·simp only [Act.put,setIfInBounds_toArray,set_cons_zero,set_cons_succ,i64_w,i32_w];rfl
               refine pure_ (i := 4) (N := some 22) (v := ?_) (a' := ?_) #[true,true,true,true,true,false,false,false,false,false,false,false,false,false,false,false,false,false,false,false,false] rfl rfl (any_of HT_.out (by kernel_rfl)) (fun _ _ _ h => h) (Or.inl ⟨by rfl,?_⟩) ?_ ?_
               rotate_left;·intro w';go_simp;with_reducible rfl
               rotate_left;·simp only [Act.put,setIfInBounds_toArray,set_cons_zero,set_cons_succ,i64_w,i32_w];rfl
               refine pure_ (i := 9) (N := some 27) (v := ?_) (a' := ?_) #[true,true,true,true,true,false,false,false,false,true,false,false,false,false,false,false,false,false,false,false,false] rfl rfl (any_of HT_.out (by kernel_rfl)) (fun _ _ _ h => h) (Or.inl ⟨by rfl,?_⟩) ?_ ?_
               rotate_left;·intro w';go_simp;with_reducible rfl
               rotate_left;·simp only [Act.put,setIfInBounds_toArray,set_cons_zero,set_cons_succ,i64_w,i32_w];rfl
               refine pure_ (i := 10) (N := some 28) (v := ?_) (a' := ?_) #[true,true,true,true,true,false,false,false,false,true,true,false,false,false,false,false,false,false,false,false,false] rfl rfl (any_of HT_.out (by kernel_rfl)) (fun _ _ _ h => h) (Or.inl ⟨by rfl,?_⟩) ?_ ?_
               rotate_left;·intro w';go_simp;with_reducible rfl
               rotate_left;·simp only [Act.put,setIfInBounds_toArray,set_cons_zero,set_cons_succ,i64_w,i32_w];rfl
               refine pure_ (i := 11) (N := some 29) (v := ?_) (a' := ?_) #[true,true,true,true,true,false,false,false,false,true,true,true,false,false,false,false,false,false,false,false,false] rfl rfl (any_of HT_.out (by kernel_rfl)) (fun _ _ _ h => h) (Or.inl ⟨by rfl,?_⟩) ?_ ?_
               rotate_left;·intro w';go_simp;with_reducible rfl
               rotate_left;·simp only [Act.put,setIfInBounds_toArray,set_cons_zero,set_cons_succ,i64_w,i32_w];rfl
               refine pure_ (i := 12) (N := some 30) (v := ?_) (a' := ?_) #[true,true,true,true,true,false,false,false,false,true,true,true,true,false,false,false,false,false,false,false,false] rfl rfl (any_of HT_.out (by kernel_rfl)) (fun _ _ _ h => h) (Or.inl ⟨by rfl,?_⟩) ?_ ?_
               rotate_left;·intro w';go_simp;with_reducible rfl
               rotate_left;·simp only [Act.put,setIfInBounds_toArray,set_cons_zero,set_cons_succ,i64_w,i32_w];rfl
               refine pure_ (i := 13) (N := some 31) (v := ?_) (a' := ?_) #[true,true,true,true,true,false,false,false,false,true,true,true,true,true,false,false,false,false,false,false,false] rfl rfl (any_of HT_.out (by kernel_rfl)) (fun _ _ _ h => h) (Or.inl ⟨by rfl,?_⟩) ?_ ?_
               rotate_left;·intro w';go_simp;with_reducible rfl
               rotate_left;·simp only [Act.put,setIfInBounds_toArray,set_cons_zero,set_cons_succ,i64_w,i32_w];rfl
               refine take_ (i := 5) (N := some 23) (v := ?_) (a' := ?_) #[true,true,true,true,true,true,false,false,false,true,true,true,true,true,false,false,false,false,false,false,false] rfl rfl (take_ofW HT_.out HW_.out (by kernel_rfl)) (fun _ _ _ h => h) (Or.inl ⟨by rfl,?_⟩) hHeld ?_ ?_
               rotate_left;·rintro w' ⟨s0,s1,s2,s3,s4,s5,s6,s7⟩;go_simp;with_reducible rfl
               rotate_left;·simp only [Act.put,setIfInBounds_toArray,set_cons_zero,set_cons_succ,i64_w,i32_w];rfl
               refine pure_ (i := 6) (N := some 24) (v := ?_) (a' := ?_) #[true,true,true,true,true,true,true,false,false,true,true,true,true,true,false,false,false,false,false,false,false] rfl rfl (any_of HT_.out (by kernel_rfl)) (fun _ _ _ h => h) (Or.inl ⟨by rfl,?_⟩) ?_ ?_
               rotate_left;·intro w';go_simp;with_reducible rfl
               rotate_left;·simp only [Act.put,setIfInBounds_toArray,set_cons_zero,set_cons_succ,i64_w,i32_w];rfl
               refine pure_ (i := 7) (N := some 25) (v := ?_) (a' := ?_) #[true,true,true,true,true,true,true,true,false,true,true,true,true,true,false,false,false,false,false,false,false] rfl rfl (any_of HT_.out (by kernel_rfl)) (fun _ _ _ h => h) (Or.inl ⟨by rfl,?_⟩) ?_ ?_
               rotate_left;·intro w';go_simp;with_reducible rfl
               rotate_left;·simp only [Act.put,setIfInBounds_toArray,set_cons_zero,set_cons_succ,i64_w,i32_w];rfl
               refine take_ (i := 8) (N := some 26) (v := ?_) (a' := ?_) #[true,true,true,true,true,true,true,true,true,true,true,true,true,true,false,false,false,false,false,false,false] rfl rfl (take_ofW HT_.out HW_.out (by kernel_rfl)) (fun _ _ _ h => h) (Or.inl ⟨by rfl,?_⟩) hHeld ?_ ?_
               rotate_left;·rintro w' ⟨s0,s1,s2,s3,s4,s5,s6,s7⟩;go_simp;with_reducible rfl
               rotate_left;·simp only [Act.put,setIfInBounds_toArray,set_cons_zero,set_cons_succ,i64_w,i32_w];rfl
               refine take_ (i := 14) (N := some 32) (v := ?_) (a' := ?_) #[true,true,true,true,true,true,true,true,true,true,true,true,true,true,true,false,false,false,false,false,false] rfl rfl (take_ofW HT_.out HW_.out (by kernel_rfl)) (fun _ _ _ h => h) (Or.inl ⟨by rfl,?_⟩) hHeld ?_ ?_
               rotate_left;·rintro w' ⟨s0,s1,s2,s3,s4,s5,s6,s7⟩;go_simp;with_reducible rfl
               rotate_left;·simp only [Act.put,setIfInBounds_toArray,set_cons_zero,set_cons_succ,i64_w,i32_w];rfl
               refine pure_ (i := 15) (N := some 33) (v := ?_) (a' := ?_) #[true,true,true,true,true,true,true,true,true,true,true,true,true,true,true,true,false,false,false,false,false] rfl rfl (any_of HT_.out (by kernel_rfl)) (fun _ _ _ h => h) (Or.inl ⟨by rfl,?_⟩) ?_ ?_
               rotate_left;·intro w';go_simp;with_reducible rfl
               rotate_left;·simp only [Act.put,setIfInBounds_toArray,set_cons_zero,set_cons_succ,i64_w,i32_w];rfl
               refine pure_ (i := 16) (N := some 34) (v := ?_) (a' := ?_) #[true,true,true,true,true,true,true,true,true,true,true,true,true,true,true,true,true,false,false,false,false] rfl rfl (any_of HT_.out (by kernel_rfl)) (fun _ _ _ h => h) (Or.inl ⟨by rfl,?_⟩) ?_ ?_
               rotate_left;·intro w';go_simp;with_reducible rfl
               rotate_left;·simp only [Act.put,setIfInBounds_toArray,set_cons_zero,set_cons_succ,i64_w,i32_w];rfl
               refine take_ (i := 17) (N := some 35) (v := ?_) (a' := ?_) #[true,true,true,true,true,true,true,true,true,true,true,true,true,true,true,true,true,true,false,false,false] rfl rfl (take_ofW HT_.out HW_.out (by kernel_rfl)) (fun _ _ _ h => h) (Or.inl ⟨by rfl,?_⟩) hHeld ?_ ?_
               rotate_left;·rintro w' ⟨s0,s1,s2,s3,s4,s5,s6,s7⟩;go_simp;with_reducible rfl
               rotate_left;·simp only [Act.put,setIfInBounds_toArray,set_cons_zero,set_cons_succ,i64_w,i32_w];rfl
               refine pure_ (i := 18) (N := some 36) (v := ?_) (a' := ?_) #[true,true,true,true,true,true,true,true,true,true,true,true,true,true,true,true,true,true,true,false,false] rfl rfl (any_of HT_.out (by kernel_rfl)) (fun _ _ _ h => h) (Or.inl ⟨by rfl,?_⟩) ?_ ?_
               rotate_left;·intro w';go_simp;with_reducible rfl
               rotate_left;·simp only [Act.put,setIfInBounds_toArray,set_cons_zero,set_cons_succ,i64_w,i32_w];rfl
               refine one_ (i := 19) (N := some 6) #[true,true,true,true,true,true,true,true,true,true,true,true,true,true,true,true,true,true,true,true,false] rfl rfl (one_of HT_.out (by kernel_rfl)) (by decide) (fun K hK => ?_)
               refine box_step ?hg (N := 6) ?hd (cs := #[.int .i64 0,.int .i64 0]) (t := 45) ?hr ?_;(case hd => rfl);(case hg => rfl);(case hr => first | (go_simp;done) | (go_simp;rfl))
               intro gb170 hg w36 hbox hb
               have HS3_ := (hb.cell (World.block_lt_of_cell? _ _ (hHeld.2.2.2.1))).trans (hHeld.2.2.2.1)
               have HS7_ := (hb.cell (World.block_lt_of_cell? _ _ (hHeld.2.2.2.2.2.2.2))).trans (hHeld.2.2.2.2.2.2.2)
               have n0_ := Aside0.mk (Kd.R_below (by (with_reducible repeat (first | apply Kd.R_alloc | apply Kd.R_drewN | apply Kd.R_drew));exact HO_3.out) hb)
               have n1_ := Aside0.mk (Kd.R_below (Kd.R_elderB (by (with_reducible repeat (first | apply Kd.R_alloc | apply Kd.R_drewN | apply Kd.R_drew));exact HO_4.out) gb170 (Nat.le_of_eq hg.symm)) hb)
               have n2_ := Aside0.mk (below_step (by repeat (first | (with_reducible first | exact HB.out | apply below_alloc | apply pw_below_drewN | apply below_drew1) | exact HB.out)) hb)
               have n3_ := Aside0.mk (hbox)
               have n4_ := Aside0.mk ((by rw [hg];exact (below_size (by repeat (first | (with_reducible first | exact HB.out | apply below_alloc | apply pw_below_drewN | apply below_drew1) | exact HB.out))) : w.heap.size ≤ gb170))
               have n5_ := Aside0.mk ((by rw [hg];exact (below_size (by repeat (first | (with_reducible first | exact HB.out | apply below_alloc | apply pw_below_drewN | apply below_drew1) | exact HB.out))) : w.heap.size ≤ gb170))
               clear HO_3
               clear HO_4
               clear HB
               have HO_3 := n0_
               have HO_4 := n1_
               have HB := n2_
               have BK170 := n3_
               have GW170 := n4_
               have GE170 := n5_
               clear n0_ n1_ n2_ n3_ n4_ n5_
               clear hb hbox hg
               refine hK.out _ _ ⟨((HB.out.cell (World.block_lt_of_cell? w _ hw166_0)).trans hw166_0),((HB.out.cell (World.block_lt_of_cell? w _ hw166_1)).trans hw166_1),((HB.out.cell (World.block_lt_of_cell? w _ hw166_2)).trans hw166_2),HS3_,((HB.out.cell (World.block_lt_of_cell? w _ hw168_0)).trans hw168_0),((HB.out.cell (World.block_lt_of_cell? w _ hw168_1)).trans hw168_1),((HB.out.cell (World.block_lt_of_cell? w _ hw168_2)).trans hw168_2),HS7_⟩ (fun hHeld => ?_)
               clear hK K
               refine norm_ (a' := ?_) ?_ ?_
               rotate_left;·show Act.put _ (some 6) _ = _;simp only [Act.put,setIfInBounds_toArray,set_cons_zero,set_cons_succ,i64_w,i32_w];rfl
               refine one_ (i := 20) (N := none) #[true,true,true,true,true,true,true,true,true,true,true,true,true,true,true,true,true,true,true,true,true] rfl rfl (one_of HT_.out (by kernel_rfl)) (by decide) (fun K hK => ?_)
               have hs37 : w36.cell? ⟨gb170,0,none⟩ = some (.int .i64 0) := (blk_cell BK170.out 0).trans rfl
               have hfs37 := blk_frozen BK170.out 0
               have hs38 : w36.cell? ⟨gb170,1,none⟩ = some (.int .i64 0) := (blk_cell BK170.out 1).trans rfl
               have hfs38 := blk_frozen BK170.out 1
               refine skip_ (w1 := ?_) (by rfl) rfl ?_ ?_
               rotate_left;·go_simp;rfl
               refine hK.out _ _ ⟨((cell_far (p := ⟨gb170,_,none⟩) (by first | exact Nat.ne_of_lt (Nat.lt_of_lt_of_le (by have := World.block_lt_of_cell? _ _ hw166_0;first | rwa [add_block] at this | exact this) GW170.out) | (rw [add_block];exact Nat.ne_of_lt (Nat.lt_of_lt_of_le (by have := World.block_lt_of_cell? _ _ hw166_0;first | rwa [add_block] at this | exact this) GW170.out)) | (show (Addr.add _ _).block ≠ _;rw [add_block];exact Nat.ne_of_lt (Nat.lt_of_lt_of_le (by have := World.block_lt_of_cell? _ _ hw166_0;first | rwa [add_block] at this | exact this) GW170.out)) | (dsimp only;exact Nat.ne_of_lt (Nat.lt_of_lt_of_le (by have := World.block_lt_of_cell? _ _ hw166_0;first | rwa [add_block] at this | exact this) GW170.out))) _).trans (((cell_far (p := ⟨gb170,_,none⟩) (by first | exact Nat.ne_of_lt (Nat.lt_of_lt_of_le (by have := World.block_lt_of_cell? _ _ hw166_0;first | rwa [add_block] at this | exact this) GW170.out) | (rw [add_block];exact Nat.ne_of_lt (Nat.lt_of_lt_of_le (by have := World.block_lt_of_cell? _ _ hw166_0;first | rwa [add_block] at this | exact this) GW170.out)) | (show (Addr.add _ _).block ≠ _;rw [add_block];exact Nat.ne_of_lt (Nat.lt_of_lt_of_le (by have := World.block_lt_of_cell? _ _ hw166_0;first | rwa [add_block] at this | exact this) GW170.out)) | (dsimp only;exact Nat.ne_of_lt (Nat.lt_of_lt_of_le (by have := World.block_lt_of_cell? _ _ hw166_0;first | rwa [add_block] at this | exact this) GW170.out))) _).trans (hHeld.1)))),((cell_far (p := ⟨gb170,_,none⟩) (by first | exact Nat.ne_of_lt (Nat.lt_of_lt_of_le (by have := World.block_lt_of_cell? _ _ hw166_1;first | rwa [add_block] at this | exact this) GW170.out) | (rw [add_block];exact Nat.ne_of_lt (Nat.lt_of_lt_of_le (by have := World.block_lt_of_cell? _ _ hw166_1;first | rwa [add_block] at this | exact this) GW170.out)) | (show (Addr.add _ _).block ≠ _;rw [add_block];exact Nat.ne_of_lt (Nat.lt_of_lt_of_le (by have := World.block_lt_of_cell? _ _ hw166_1;first | rwa [add_block] at this | exact this) GW170.out)) | (dsimp only;exact Nat.ne_of_lt (Nat.lt_of_lt_of_le (by have := World.block_lt_of_cell? _ _ hw166_1;first | rwa [add_block] at this | exact this) GW170.out))) _).trans (((cell_far (p := ⟨gb170,_,none⟩) (by first | exact Nat.ne_of_lt (Nat.lt_of_lt_of_le (by have := World.block_lt_of_cell? _ _ hw166_1;first | rwa [add_block] at this | exact this) GW170.out) | (rw [add_block];exact Nat.ne_of_lt (Nat.lt_of_lt_of_le (by have := World.block_lt_of_cell? _ _ hw166_1;first | rwa [add_block] at this | exact this) GW170.out)) | (show (Addr.add _ _).block ≠ _;rw [add_block];exact Nat.ne_of_lt (Nat.lt_of_lt_of_le (by have := World.block_lt_of_cell? _ _ hw166_1;first | rwa [add_block] at this | exact this) GW170.out)) | (dsimp only;exact Nat.ne_of_lt (Nat.lt_of_lt_of_le (by have := World.block_lt_of_cell? _ _ hw166_1;first | rwa [add_block] at this | exact this) GW170.out))) _).trans (hHeld.2.1)))),((cell_far (p := ⟨gb170,_,none⟩) (by first | exact Nat.ne_of_lt (Nat.lt_of_lt_of_le (by have := World.block_lt_of_cell? _ _ hw166_2;first | rwa [add_block] at this | exact this) GW170.out) | (rw [add_block];exact Nat.ne_of_lt (Nat.lt_of_lt_of_le (by have := World.block_lt_of_cell? _ _ hw166_2;first | rwa [add_block] at this | exact this) GW170.out)) | (show (Addr.add _ _).block ≠ _;rw [add_block];exact Nat.ne_of_lt (Nat.lt_of_lt_of_le (by have := World.block_lt_of_cell? _ _ hw166_2;first | rwa [add_block] at this | exact this) GW170.out)) | (dsimp only;exact Nat.ne_of_lt (Nat.lt_of_lt_of_le (by have := World.block_lt_of_cell? _ _ hw166_2;first | rwa [add_block] at this | exact this) GW170.out))) _).trans (((cell_far (p := ⟨gb170,_,none⟩) (by first | exact Nat.ne_of_lt (Nat.lt_of_lt_of_le (by have := World.block_lt_of_cell? _ _ hw166_2;first | rwa [add_block] at this | exact this) GW170.out) | (rw [add_block];exact Nat.ne_of_lt (Nat.lt_of_lt_of_le (by have := World.block_lt_of_cell? _ _ hw166_2;first | rwa [add_block] at this | exact this) GW170.out)) | (show (Addr.add _ _).block ≠ _;rw [add_block];exact Nat.ne_of_lt (Nat.lt_of_lt_of_le (by have := World.block_lt_of_cell? _ _ hw166_2;first | rwa [add_block] at this | exact this) GW170.out)) | (dsimp only;exact Nat.ne_of_lt (Nat.lt_of_lt_of_le (by have := World.block_lt_of_cell? _ _ hw166_2;first | rwa [add_block] at this | exact this) GW170.out))) _).trans (hHeld.2.2.1)))),((cell_far (p := ⟨gb170,_,none⟩) (by first | exact Kd.own_blk (Kd.R_ne HO_3.out BK170.out (by decide)) | (rw [add_block];exact Kd.own_blk (Kd.R_ne HO_3.out BK170.out (by decide))) | (show (Addr.add _ _).block ≠ _;rw [add_block];exact Kd.own_blk (Kd.R_ne HO_3.out BK170.out (by decide))) | (dsimp only;exact Kd.own_blk (Kd.R_ne HO_3.out BK170.out (by decide)))) _).trans (((cell_far (p := ⟨gb170,_,none⟩) (by first | exact Kd.own_blk (Kd.R_ne HO_3.out BK170.out (by decide)) | (rw [add_block];exact Kd.own_blk (Kd.R_ne HO_3.out BK170.out (by decide))) | (show (Addr.add _ _).block ≠ _;rw [add_block];exact Kd.own_blk (Kd.R_ne HO_3.out BK170.out (by decide))) | (dsimp only;exact Kd.own_blk (Kd.R_ne HO_3.out BK170.out (by decide)))) _).trans (hHeld.2.2.2.1)))),((cell_far (p := ⟨gb170,_,none⟩) (by first | exact Nat.ne_of_lt (Nat.lt_of_lt_of_le (by have := World.block_lt_of_cell? _ _ hw168_0;first | rwa [add_block] at this | exact this) GW170.out) | (rw [add_block];exact Nat.ne_of_lt (Nat.lt_of_lt_of_le (by have := World.block_lt_of_cell? _ _ hw168_0;first | rwa [add_block] at this | exact this) GW170.out)) | (show (Addr.add _ _).block ≠ _;rw [add_block];exact Nat.ne_of_lt (Nat.lt_of_lt_of_le (by have := World.block_lt_of_cell? _ _ hw168_0;first | rwa [add_block] at this | exact this) GW170.out)) | (dsimp only;exact Nat.ne_of_lt (Nat.lt_of_lt_of_le (by have := World.block_lt_of_cell? _ _ hw168_0;first | rwa [add_block] at this | exact this) GW170.out))) _).trans (((cell_far (p := ⟨gb170,_,none⟩) (by first | exact Nat.ne_of_lt (Nat.lt_of_lt_of_le (by have := World.block_lt_of_cell? _ _ hw168_0;first | rwa [add_block] at this | exact this) GW170.out) | (rw [add_block];exact Nat.ne_of_lt (Nat.lt_of_lt_of_le (by have := World.block_lt_of_cell? _ _ hw168_0;first | rwa [add_block] at this | exact this) GW170.out)) | (show (Addr.add _ _).block ≠ _;rw [add_block];exact Nat.ne_of_lt (Nat.lt_of_lt_of_le (by have := World.block_lt_of_cell? _ _ hw168_0;first | rwa [add_block] at this | exact this) GW170.out)) | (dsimp only;exact Nat.ne_of_lt (Nat.lt_of_lt_of_le (by have := World.block_lt_of_cell? _ _ hw168_0;first | rwa [add_block] at this | exact this) GW170.out))) _).trans (hHeld.2.2.2.2.1)))),((cell_far (p := ⟨gb170,_,none⟩) (by first | exact Nat.ne_of_lt (Nat.lt_of_lt_of_le (by have := World.block_lt_of_cell? _ _ hw168_1;first | rwa [add_block] at this | exact this) GW170.out) | (rw [add_block];exact Nat.ne_of_lt (Nat.lt_of_lt_of_le (by have := World.block_lt_of_cell? _ _ hw168_1;first | rwa [add_block] at this | exact this) GW170.out)) | (show (Addr.add _ _).block ≠ _;rw [add_block];exact Nat.ne_of_lt (Nat.lt_of_lt_of_le (by have := World.block_lt_of_cell? _ _ hw168_1;first | rwa [add_block] at this | exact this) GW170.out)) | (dsimp only;exact Nat.ne_of_lt (Nat.lt_of_lt_of_le (by have := World.block_lt_of_cell? _ _ hw168_1;first | rwa [add_block] at this | exact this) GW170.out))) _).trans (((cell_far (p := ⟨gb170,_,none⟩) (by first | exact Nat.ne_of_lt (Nat.lt_of_lt_of_le (by have := World.block_lt_of_cell? _ _ hw168_1;first | rwa [add_block] at this | exact this) GW170.out) | (rw [add_block];exact Nat.ne_of_lt (Nat.lt_of_lt_of_le (by have := World.block_lt_of_cell? _ _ hw168_1;first | rwa [add_block] at this | exact this) GW170.out)) | (show (Addr.add _ _).block ≠ _;rw [add_block];exact Nat.ne_of_lt (Nat.lt_of_lt_of_le (by have := World.block_lt_of_cell? _ _ hw168_1;first | rwa [add_block] at this | exact this) GW170.out)) | (dsimp only;exact Nat.ne_of_lt (Nat.lt_of_lt_of_le (by have := World.block_lt_of_cell? _ _ hw168_1;first | rwa [add_block] at this | exact this) GW170.out))) _).trans (hHeld.2.2.2.2.2.1)))),((cell_far (p := ⟨gb170,_,none⟩) (by first | exact Nat.ne_of_lt (Nat.lt_of_lt_of_le (by have := World.block_lt_of_cell? _ _ hw168_2;first | rwa [add_block] at this | exact this) GW170.out) | (rw [add_block];exact Nat.ne_of_lt (Nat.lt_of_lt_of_le (by have := World.block_lt_of_cell? _ _ hw168_2;first | rwa [add_block] at this | exact this) GW170.out)) | (show (Addr.add _ _).block ≠ _;rw [add_block];exact Nat.ne_of_lt (Nat.lt_of_lt_of_le (by have := World.block_lt_of_cell? _ _ hw168_2;first | rwa [add_block] at this | exact this) GW170.out)) | (dsimp only;exact Nat.ne_of_lt (Nat.lt_of_lt_of_le (by have := World.block_lt_of_cell? _ _ hw168_2;first | rwa [add_block] at this | exact this) GW170.out))) _).trans (((cell_far (p := ⟨gb170,_,none⟩) (by first | exact Nat.ne_of_lt (Nat.lt_of_lt_of_le (by have := World.block_lt_of_cell? _ _ hw168_2;first | rwa [add_block] at this | exact this) GW170.out) | (rw [add_block];exact Nat.ne_of_lt (Nat.lt_of_lt_of_le (by have := World.block_lt_of_cell? _ _ hw168_2;first | rwa [add_block] at this | exact this) GW170.out)) | (show (Addr.add _ _).block ≠ _;rw [add_block];exact Nat.ne_of_lt (Nat.lt_of_lt_of_le (by have := World.block_lt_of_cell? _ _ hw168_2;first | rwa [add_block] at this | exact this) GW170.out)) | (dsimp only;exact Nat.ne_of_lt (Nat.lt_of_lt_of_le (by have := World.block_lt_of_cell? _ _ hw168_2;first | rwa [add_block] at this | exact this) GW170.out))) _).trans (hHeld.2.2.2.2.2.2.1)))),((cell_far (p := ⟨gb170,_,none⟩) (by first | exact Kd.own_blk (Kd.R_ne HO_3.out BK170.out (by decide)) | (rw [add_block];exact Kd.own_blk (Kd.R_ne HO_3.out BK170.out (by decide))) | (show (Addr.add _ _).block ≠ _;rw [add_block];exact Kd.own_blk (Kd.R_ne HO_3.out BK170.out (by decide))) | (dsimp only;exact Kd.own_blk (Kd.R_ne HO_3.out BK170.out (by decide)))) _).trans (((cell_far (p := ⟨gb170,_,none⟩) (by first | exact Kd.own_blk (Kd.R_ne HO_3.out BK170.out (by decide)) | (rw [add_block];exact Kd.own_blk (Kd.R_ne HO_3.out BK170.out (by decide))) | (show (Addr.add _ _).block ≠ _;rw [add_block];exact Kd.own_blk (Kd.R_ne HO_3.out BK170.out (by decide))) | (dsimp only;exact Kd.own_blk (Kd.R_ne HO_3.out BK170.out (by decide)))) _).trans (hHeld.2.2.2.2.2.2.2))))⟩ (fun hHeld => ?_)
               clear hK K
               refine done_ (done_of HT_.out (by kernel_rfl)) ?_
               have p171 : 0 ≤ (x5_1 : Int) := of_decide_eq_true (by first | (with_reducible assumption) | assumption)
               have q171 : x5_1 < (l0.length : Int) := of_decide_eq_true (by first | (with_reducible assumption) | assumption)
               obtain ⟨ad171,e171,hx171_0,hx171_1,hx171_2⟩ := at_T58 HR0.out x5_1 p171 q171
               obtain rfl : ad166 = ad171 := (by injection e171)
               have hn171_0 : ad166.block ≠ gb170 := Nat.ne_of_lt (Nat.lt_of_lt_of_le (by have := World.block_lt_of_cell? _ _ hx171_0;first | rwa [add_block] at this | exact this) GW170.out)
               have hn171_1 : ad166.block ≠ gb170 := Nat.ne_of_lt (Nat.lt_of_lt_of_le (by have := World.block_lt_of_cell? _ _ hx171_0;first | rwa [add_block] at this | exact this) GW170.out)
               replace hx171_0 := (HB.out.cell (World.block_lt_of_cell? w _ hx171_0)).trans hx171_0
               replace hx171_1 := (HB.out.cell (World.block_lt_of_cell? w _ hx171_1)).trans hx171_1
               replace hx171_2 := (HB.out.cell (World.block_lt_of_cell? w _ hx171_2)).trans hx171_2
               replace hx171_0 := (cell_far (p := ⟨gb170,0,none⟩) (by first | (rw [add_block];exact hn171_0) | (show (Addr.add _ _).block ≠ _;rw [add_block];exact hn171_0) | exact hn171_0) (.int .i64 (rd y163 (ji9)))).trans hx171_0
               replace hx171_1 := (cell_far (p := ⟨gb170,0,none⟩) (by first | (rw [add_block];exact hn171_0) | (show (Addr.add _ _).block ≠ _;rw [add_block];exact hn171_0) | exact hn171_0) (.int .i64 (rd y163 (ji9)))).trans hx171_1
               replace hx171_2 := (cell_far (p := ⟨gb170,0,none⟩) (by first | (rw [add_block];exact hn171_0) | (show (Addr.add _ _).block ≠ _;rw [add_block];exact hn171_0) | exact hn171_0) (.int .i64 (rd y163 (ji9)))).trans hx171_2
               replace hx171_0 := (cell_far (p := ⟨gb170,1,none⟩) (by first | (rw [add_block];exact hn171_1) | (show (Addr.add _ _).block ≠ _;rw [add_block];exact hn171_1) | exact hn171_1) (.int .i64 (rd y163 (ji12)))).trans hx171_0
               replace hx171_1 := (cell_far (p := ⟨gb170,1,none⟩) (by first | (rw [add_block];exact hn171_1) | (show (Addr.add _ _).block ≠ _;rw [add_block];exact hn171_1) | exact hn171_1) (.int .i64 (rd y163 (ji12)))).trans hx171_1
               replace hx171_2 := (cell_far (p := ⟨gb170,1,none⟩) (by first | (rw [add_block];exact hn171_1) | (show (Addr.add _ _).block ≠ _;rw [add_block];exact hn171_1) | exact hn171_1) (.int .i64 (rd y163 (ji12)))).trans hx171_2
               clear hn171_0
               clear hn171_1
               replace p171 := eq_true p171
               replace q171 := eq_true q171
               have p176 : 0 ≤ (x5_1 : Int) := of_decide_eq_true (by first | (with_reducible assumption) | assumption)
               have q176 : x5_1 < (l0.length : Int) := of_decide_eq_true (by first | (with_reducible assumption) | assumption)
               obtain ⟨ad176,e176,hx176_0,hx176_1,hx176_2⟩ := at_T58 HR0.out x5_1 p176 q176
               obtain rfl : ad166 = ad176 := (by injection e176)
               have hn176_0 : ad166.block ≠ gb170 := Nat.ne_of_lt (Nat.lt_of_lt_of_le (by have := World.block_lt_of_cell? _ _ hx176_0;first | rwa [add_block] at this | exact this) GW170.out)
               have hn176_1 : ad166.block ≠ gb170 := Nat.ne_of_lt (Nat.lt_of_lt_of_le (by have := World.block_lt_of_cell? _ _ hx176_0;first | rwa [add_block] at this | exact this) GW170.out)
               replace hx176_0 := (HB.out.cell (World.block_lt_of_cell? w _ hx176_0)).trans hx176_0
               replace hx176_1 := (HB.out.cell (World.block_lt_of_cell? w _ hx176_1)).trans hx176_1
               replace hx176_2 := (HB.out.cell (World.block_lt_of_cell? w _ hx176_2)).trans hx176_2
               replace hx176_0 := (cell_far (p := ⟨gb170,0,none⟩) (by first | (rw [add_block];exact hn176_0) | (show (Addr.add _ _).block ≠ _;rw [add_block];exact hn176_0) | exact hn176_0) (.int .i64 (rd y163 (ji9)))).trans hx176_0
               replace hx176_1 := (cell_far (p := ⟨gb170,0,none⟩) (by first | (rw [add_block];exact hn176_0) | (show (Addr.add _ _).block ≠ _;rw [add_block];exact hn176_0) | exact hn176_0) (.int .i64 (rd y163 (ji9)))).trans hx176_1
               replace hx176_2 := (cell_far (p := ⟨gb170,0,none⟩) (by first | (rw [add_block];exact hn176_0) | (show (Addr.add _ _).block ≠ _;rw [add_block];exact hn176_0) | exact hn176_0) (.int .i64 (rd y163 (ji9)))).trans hx176_2
               replace hx176_0 := (cell_far (p := ⟨gb170,1,none⟩) (by first | (rw [add_block];exact hn176_1) | (show (Addr.add _ _).block ≠ _;rw [add_block];exact hn176_1) | exact hn176_1) (.int .i64 (rd y163 (ji12)))).trans hx176_0
               replace hx176_1 := (cell_far (p := ⟨gb170,1,none⟩) (by first | (rw [add_block];exact hn176_1) | (show (Addr.add _ _).block ≠ _;rw [add_block];exact hn176_1) | exact hn176_1) (.int .i64 (rd y163 (ji12)))).trans hx176_1
               replace hx176_2 := (cell_far (p := ⟨gb170,1,none⟩) (by first | (rw [add_block];exact hn176_1) | (show (Addr.add _ _).block ≠ _;rw [add_block];exact hn176_1) | exact hn176_1) (.int .i64 (rd y163 (ji12)))).trans hx176_2
               clear hn176_0
               clear hn176_1
               replace p176 := eq_true p176
               replace q176 := eq_true q176
               have hcz39_0 : w36.cell? ⟨gb170,0,none⟩ = some (.int .i64 0) := (blk_cell BK170.out 0).trans rfl
               have hcz39_1 : w36.cell? ⟨gb170,1,none⟩ = some (.int .i64 0) := (blk_cell BK170.out 1).trans rfl
               have hfz39_0 := blk_frozen BK170.out 0
               have hfz39_1 := blk_frozen BK170.out 1
               try go_wp2_with (first | ((with_reducible refine gate_builtin (b := .append) (xs := #[.tmp 57,.tmp 59]) rfl ?_);at_builtin;refine Kd.R_append k45 (w0 := w) w.heap.size rfl (.tmp 57) (.tmp 59) 31 45 (.agg #[(.int .i64 0),(.int .i64 0)]) 16 rfl Try.underlying31 info45 rfl (by decide) (by omega) u4 x4_1 (⟨rd y163 (ji9),rd y163 (ji12)⟩ : S45) [.int .i64 (rd y163 (ji9)),.int .i64 (rd y163 (ji12))] (fun k_ => k_ ≠ gb170) (fun _ => False) rfl (by first | (go_simp;done) | (go_simp;rfl)) ?aP (fun _ hk => hk.elim) ?aF ?aO ?aB ?aS ?aL ?_;(case aP => exact k45_mkM _ _ _ (⟨rd y163 (ji9),rd y163 (ji12)⟩ : S45));(case aB => exact (by repeat (first | (with_reducible first | exact HB.out | apply below_alloc | apply pw_below_drewN | apply below_drew1 | refine below_set ?_ GE170.out) | exact HB.out)));(case aF => exact (fun k_ hk => Kd.freshB (g := gb170) (o := .cells #[.int .i64 (rd y163 (ji9)),.int .i64 (rd y163 (ji12))] 45 (0,0)) (by (with_reducible repeat (first | refine blk_drewN ?_ _ | refine blk_drew ?_ | refine blk_alloc ?_ _));refine blk_put (cs := #[.int .i64 (rd y163 (ji9)),.int .i64 0]) ?_ 1 _ rfl;(with_reducible repeat (first | refine blk_drewN ?_ _ | refine blk_drew ?_ | refine blk_alloc ?_ _));refine blk_put (cs := #[.int .i64 0,.int .i64 0]) ?_ 0 _ rfl;(with_reducible repeat (first | refine blk_drewN ?_ _ | refine blk_drew ?_ | refine blk_alloc ?_ _));exact BK170.out) k_ hk));(case aO => exact (by (with_reducible repeat (first | apply Kd.R_alloc | apply Kd.R_drewN | apply Kd.R_drew));exact Kd.R_mono (Kd.R_far (p := ⟨gb170,1,none⟩) (Kd.R_far (p := ⟨gb170,0,none⟩) (Kd.R_mono HO_4.out (fun k_ hk => (⟨hk,hk.2⟩ : _ ∧ k_ ≠ gb170))) (fun _ hk => hk.2) (.int .i64 (rd y163 (ji9)))) (fun _ hk => hk.2) (.int .i64 (rd y163 (ji12)))) (fun _ hk => hk.1.2)));(case aS => exact (below_size (by repeat (first | (with_reducible first | exact HB.out | apply below_alloc | apply pw_below_drewN | apply below_drew1 | refine below_set ?_ GE170.out) | exact HB.out))));(case aL => have := LMc33.out;omega);intro v182 w40 ho hb hg hat;rw [← Ny181.out] at ho;have n0_ := Aside0.mk (Kd.R_over' (by (with_reducible repeat (first | apply Kd.R_alloc | apply Kd.R_drewN | apply Kd.R_drew));exact (Kd.R_mono (Kd.R_far (p := ⟨gb170,1,none⟩) (Kd.R_far (p := ⟨gb170,0,none⟩) (Kd.R_types HO_3.out BK170.out (by decide)) (fun _ hk => hk.2) (.int .i64 (rd y163 (ji9)))) (fun _ hk => hk.2) (.int .i64 (rd y163 (ji12)))) (fun _ h_ => h_.1))) (Kd.R_typed (by (with_reducible repeat (first | apply Kd.R_alloc | apply Kd.R_drewN | apply Kd.R_drew));exact (Kd.R_mono (Kd.R_far (p := ⟨gb170,1,none⟩) (Kd.R_far (p := ⟨gb170,0,none⟩) (Kd.R_mono HO_4.out (fun k_ hk => (⟨hk,hk.2⟩ : _ ∧ k_ ≠ gb170))) (fun _ hk => hk.2) (.int .i64 (rd y163 (ji9)))) (fun _ hk => hk.2) (.int .i64 (rd y163 (ji12)))) (fun _ h_ => h_.1)))) (by decide) hg);have n1_ := Aside0.mk (blk_grown (g := gb170) (o := .cells #[.int .i64 (rd y163 (ji9)),.int .i64 (rd y163 (ji12))] 45 (0,0)) (by (with_reducible repeat (first | refine blk_drewN ?_ _ | refine blk_drew ?_ | refine blk_alloc ?_ _));refine blk_put (cs := #[.int .i64 (rd y163 (ji9)),.int .i64 0]) ?_ 1 _ rfl;(with_reducible repeat (first | refine blk_drewN ?_ _ | refine blk_drew ?_ | refine blk_alloc ?_ _));refine blk_put (cs := #[.int .i64 0,.int .i64 0]) ?_ 0 _ rfl;(with_reducible repeat (first | refine blk_drewN ?_ _ | refine blk_drew ?_ | refine blk_alloc ?_ _));exact BK170.out) hg (Kd.R_away HO_4.out (fun _ hk => hk.2)));have n2_ := Aside0.mk (hb);have n3_ := Aside0.mk (ho);clear HO_3;clear BK170;clear HB;clear HO_4;have HO_3 := n0_;have BK170 := n1_;have HB := n2_;have HO183 := n3_;clear n0_ n1_ n2_ n3_;clear ho hb hg hat))
               go_roundg kj3
               case measure => have := HK1.out;have := HJ3.out;omega
               case rel => exact ⟨(y181),(wrap64 (x5_1 + 1)),(by first | rfl | (simp;done) | (simp [*];done)),H',⟨by have := HK1.out;have := HJ3.out;omega⟩,⟨by (with_reducible repeat (first | apply Kd.R_alloc | apply Kd.R_drewN | apply Kd.R_drew));exact HO_3.out⟩,⟨by (with_reducible repeat (first | apply Kd.R_alloc | apply Kd.R_drewN | apply Kd.R_drew));exact Kd.R_mono HO183.out (fun _ hk => trivial)⟩,⟨by repeat (first | (with_reducible first | exact HB.out | apply below_alloc | apply pw_below_drewN | apply below_drew1 | refine below_set ?_ GE170.out) | exact HB.out)⟩⟩
              ·rw [if_neg c33] at H
               exact absurd H (by simp)
           ·rw [if_neg c14] at H
            exact absurd H (by simp)
          ·rw [if_neg c13] at H
           exact absurd H (by simp)
         ·rw [if_neg c11] at H
          exact absurd H (by simp)
        ·rw [if_neg c10] at H
         exact absurd H (by simp)
       ·rw [if_neg c8] at H
        exact absurd H (by simp)
      ·rw [if_neg c7] at H
       exact absurd H (by simp)
     ·replace c6 := Bool.eq_false_iff.mpr c6
      subst c6
      rw [if_neg (show ¬ (false = true) by decide)] at H
      obtain rfl := Option.some.inj H
      go_wp2
      go_ret
      exact ⟨_,by first | rfl | (simp [errW_none,errW_some] <;> rfl) | (simp [*,errW_none,errW_some] <;> rfl),by (with_reducible repeat (first | apply Kd.R_alloc | apply Kd.R_drewN | apply Kd.R_drew));exact HO_4.out,by repeat (first | (with_reducible first | exact HB.out | apply below_alloc | apply pw_below_drewN | apply below_drew1) | exact HB.out)⟩

end Go.Proofs.Ytfaahcgoinkmlaa.P
