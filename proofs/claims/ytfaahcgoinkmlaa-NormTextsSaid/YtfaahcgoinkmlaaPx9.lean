-- WRITTEN BY A PROGRAM (hybrid.py over the kit's print.py): Lean checks it.
import Derived.Test.YtfaahcgoinkmlaaPx0
import Derived.Test.YtfaahcgoinkmlaaPx8
namespace Go.Proofs.Ytfaahcgoinkmlaa.P
open List (setIfInBounds_toArray set_cons_zero set_cons_succ)
open Go.RowKit Go.Proofs.YtfaahcgoinkmlaaW.PrintWords Go.Proofs.YtfaahcgoinkmlaaW.PrintLast Go.Proofs.YtfaahcgoinkmlaaW.PrintMore
attribute [local go_sem] max2_int min2_int max_two min_two max_three min_three max_four min_four   -- for this text's walks alone
set_option linter.unusedVariables false
set_option linter.unusedSimpArgs false

/-! ### glyphcutterref02_Decode: function 46 -/
def glyphcutterref02_Decode.l0 : Nat → List Int → Int → Int → Int → Option (Int × Int)
 | 0,_,_,_,_ => none
 | k + 1,x0,x4,x5,x6 => if x6 < x4 then (if x6 ≥ (x0.length : Int) then (some ((-1),x6)) else (if x6 = 1 then (if 0 < (x0.length : Int) then (if 1 < (x0.length : Int) then ((glyphcutterref02_second.f (rd x0 0) (rd x0 1)).bind fun t305 => (if t305 = true then (if 0 ≤ x6 then (if x6 < (x0.length : Int) then (if (rd x0 x6) < 128 then (some ((-1),x6)) else (if (rd x0 x6) > 191 then (some ((-1),x6)) else (glyphcutterref02_Decode.l0 k x0 x4 (wrap64 ((wrap64 ((wrap64 (64 * x5)) + (wrap64 (rd x0 x6)))) - 128)) (wrap64 (x6 + 1))))) else (none)) else (none)) else (some ((-1),x6)))) else (none)) else (none)) else (if 0 ≤ x6 then (if x6 < (x0.length : Int) then (if (rd x0 x6) < 128 then (some ((-1),x6)) else (if (rd x0 x6) > 191 then (some ((-1),x6)) else (glyphcutterref02_Decode.l0 k x0 x4 (wrap64 ((wrap64 ((wrap64 (64 * x5)) + (wrap64 (rd x0 x6)))) - 128)) (wrap64 (x6 + 1))))) else (none)) else (none)))) else (some (x5,x4))
def glyphcutterref02_Decode.f (k : Nat) (l0 : List Int) : Option (Int × Int) := if (l0.length : Int) = 0 then (some ((-1),0)) else (if 0 < (l0.length : Int) then ((glyphcutterref02_long.f k (rd l0 0)).bind fun t296 => (if t296 = 0 then (some ((-1),1)) else (if t296 = 1 then (some (wrap64 (rd l0 0),1)) else ((some (([0,0,192,224,240] : List Int) : List Int)).bind fun y299 => (if 0 ≤ t296 then (if t296 < (y299.length : Int) then (glyphcutterref02_Decode.l0 k l0 t296 (wrap64 ((wrap64 (rd l0 0)) - (rd y299 t296))) 1) else (none)) else (none)))))) else (none))
theorem glyphcutterref02_Decode.mono_l : ∀ k,(∀ y0 y1 y2 y3,LeO (glyphcutterref02_Decode.l0 k y0 y1 y2 y3) (glyphcutterref02_Decode.l0 (k + 1) y0 y1 y2 y3))
 | 0 => fun _ _ _ _ r h => by simp [glyphcutterref02_Decode.l0] at h
 | k + 1 => by
  have ih0 := glyphcutterref02_Decode.mono_l k
  ·intro y0 y1 y2 y3
   unfold glyphcutterref02_Decode.l0
   repeat' first
   | (with_reducible exact ih0 _ _ _ _)
   | (with_reducible exact glyphcutterref02_long.mono _ _)
   | (with_reducible exact LeO.refl _)
   | (with_reducible exact LeO.none _)
   | (with_reducible refine LeO.ite ?_ ?_)
   | (with_reducible refine LeO.bind ?_ (fun _ => ?_))
   | exact ih0 _ _ _ _
   | exact glyphcutterref02_long.mono _ _
   | exact LeO.none _
   | refine LeO.ite ?_ ?_
   | refine LeO.bind ?_ (fun _ => ?_)
theorem glyphcutterref02_Decode.mono : ∀ a0 k,LeO (glyphcutterref02_Decode.f k a0) (glyphcutterref02_Decode.f (k + 1) a0) := by
 intro a0 k
 have ih0 := glyphcutterref02_Decode.mono_l k
 unfold glyphcutterref02_Decode.f
 repeat' first
   | (with_reducible exact ih0 _ _ _ _)
   | (with_reducible exact glyphcutterref02_long.mono _ _)
   | (with_reducible exact LeO.refl _)
   | (with_reducible exact LeO.none _)
   | (with_reducible refine LeO.ite ?_ ?_)
   | (with_reducible refine LeO.bind ?_ (fun _ => ?_))
   | exact ih0 _ _ _ _
   | exact glyphcutterref02_long.mono _ _
   | exact LeO.none _
   | refine LeO.ite ?_ ?_
   | refine LeO.bind ?_ (fun _ => ?_)
def glyphcutterref02_Decode.T8 : Bool × List (List Nat × List Nat) := (true,[([],[]),([0],[0]),([1],[1]),([2],[2]),([],[]),([],[]),([4,5],[4,5]),([6],[6]),([3,7],[3,7]),([8,0,1,2,3,4,5,6,7,8],[8])])
def glyphcutterref02_Decode.B8 : List Nat := [0,1,3,7,0,0,48,112,255,511]
theorem glyphcutterref02_Decode.tab8 : rtab .any (opsOf Try.f46 8) = glyphcutterref02_Decode.T8 := by kernel_rfl
theorem glyphcutterref02_Decode.bits8 : waitsOk glyphcutterref02_Decode.T8.2 glyphcutterref02_Decode.B8 = true := by kernel_rfl
def glyphcutterref02_Decode.T12 : Bool × List (List Nat × List Nat) := (true,[([],[]),([],[]),([1],[1]),([0,2],[0,2]),([3],[3]),([4],[4]),([5,4],[4,5]),([6,4,4],[4,6]),([7],[7]),([8,7],[7,8]),([9,7],[7,9]),([7],[7]),([11,7],[7,11]),([12,7],[7,12]),([10,13,7,7],[7,10,13]),([14,7],[7,14]),([7,15,4],[4,7,15]),([4,16],[4,16]),([17,14],[17]),([18],[18]),([18],[18]),([19,20,18],[18,19,20]),([21,18],[18,21]),([22,18],[18,22]),([18,23],[18,23]),([24,18],[24]),([25],[25]),([25],[25]),([26,27,25],[25,26,27]),([28,25],[25,28]),([29,25],[25,29]),([25,30],[25,30])])
def glyphcutterref02_Decode.B12 : List Nat := [0,0,2,7,15,31,63,127,255,511,1023,255,2303,6399,16383,32767,65535,131071,262143,524287,524287,2097151,4194303,8388607,16777215,33554431,67108863,67108863,268435455,536870911,1073741823,2147483647]
theorem glyphcutterref02_Decode.tab12 : rtab .any (opsOf Try.f46 12) = glyphcutterref02_Decode.T12 := by kernel_rfl
theorem glyphcutterref02_Decode.bits12 : waitsOk glyphcutterref02_Decode.T12.2 glyphcutterref02_Decode.B12 = true := by kernel_rfl
set_option maxHeartbeats 8000000 in
set_option maxRecDepth 100000 in
theorem glyphcutterref02_Decode.calls (k : Nat) (A0 : Option Addr) (c0 : Nat) (l0 : List Int) (r1 : Int) (r2 : Int) (w : World) (hr0 : Kd.C (Kd.int .u8) w A0 l0.length l0) (hc0 : l0.length ≤ c0) (h : glyphcutterref02_Decode.f k l0 = some (r1,r2)) :
  Calls Try.prog 46 #[.slice A0 l0.length c0] w fun e w' => e = .returned (.tuple #[.int .i64 r1,.int .i64 r2]) ∧ Below w.heap.size w w' := by
 have HR0 := Aside0.mk hr0
 have HC0 := Aside0.mk hc0
 clear hr0 hc0
 have HB := Aside0.mk (Below.refl w.heap.size w)
 have H : (if (l0.length : Int) = 0 then (some ((-1),0)) else (if 0 < (l0.length : Int) then ((glyphcutterref02_long.f k (rd l0 0)).bind fun t296 => (if t296 = 0 then (some ((-1),1)) else (if t296 = 1 then (some (wrap64 (rd l0 0),1)) else ((some (([0,0,192,224,240] : List Int) : List Int)).bind fun y299 => (if 0 ≤ t296 then (if t296 < (y299.length : Int) then (glyphcutterref02_Decode.l0 k l0 t296 (wrap64 ((wrap64 (rd l0 0)) - (rd y299 t296))) 1) else (none)) else (none)))))) else (none))) = some (r1,r2) := h
 clear h
 by_cases c2 : (l0.length : Int) = 0
 ·rw [if_pos c2] at H
  have c2b0 : ((l0.length : Int) == 0) = true := beq_iff_eq.mpr c2
  have c2b1 : ((l0.length : Int) != 0) = false := bne_eq_false_iff_eq.mpr c2
  clear c2
  simp only [Option.some.injEq,Prod.mk.injEq] at H
  obtain ⟨rfl,rfl⟩ := H
  go_enter Try.func46,Try.ntmps46
  go_wp2
  go_ret2
  exact ⟨by first | rfl | (simp [errW_none,errW_some] <;> rfl) | (simp [*,errW_none,errW_some] <;> rfl),by repeat (first | (with_reducible first | exact HB.out | apply below_alloc | apply pw_below_drewN | apply below_drew1) | exact HB.out)⟩
 ·rw [if_neg c2] at H
  have c2b0 : ((l0.length : Int) == 0) = false := beq_eq_false_iff_ne.mpr c2
  have c2b1 : ((l0.length : Int) != 0) = true := bne_iff_ne.mpr c2
  have c2b2 : ¬ (l0 = []) := fun h_ => c2 (by rw [h_];rfl)
  by_cases c3 : 0 < (l0.length : Int)
  ·rw [if_pos c3] at H
   have c3b0 : decide (0 < (l0.length : Int)) = true := decide_eq_true c3
   have c3b1 : decide (0 < l0.length) = true := decide_eq_true (by omega)
   clear c3
   replace H := Option.bind_eq_some_iff.mp H
   obtain ⟨t296,A40,H⟩ := H
   skip
   have A4 := Aside0.mk A40
   clear A40
   by_cases c5 : t296 = 0
   ·rw [if_pos c5] at H
    have c5b0 : (t296 == 0) = true := beq_iff_eq.mpr c5
    have c5b1 : (t296 != 0) = false := bne_eq_false_iff_eq.mpr c5
    clear c5
    simp only [Option.some.injEq,Prod.mk.injEq] at H
    obtain ⟨rfl,rfl⟩ := H
    have p295 : 0 ≤ (0 : Int) := (by omega)
    have q295 : 0 < (l0.length : Int) := of_decide_eq_true (by first | (with_reducible assumption) | assumption)
    obtain ⟨ad295,e295,hx295_0⟩ := Kd.at_int HR0.out 0 p295 q295
    cases e295
    have qi295 : (0 < l0.length) = True := eq_true (by omega)
    (try rw [show ((0 : Int)).toNat = 0 from rfl] at hx295_0)
    (try rw [Addr.add_zero'] at hx295_0)
    replace p295 := eq_true p295
    replace q295 := eq_true q295
    go_enter Try.func46,Try.ntmps46
    go_wp2_with (first | ((with_reducible refine gate_callee (f := 61) rfl ?_);refine goesL_ (some 13) rfl rfl Try.func61 (by kernel_rfl) rfl #[.int .u8 (rd l0 0)] rfl (by (try simp only [List.map_toArray,List.map_cons,List.map_nil]);first | done | rfl | (simp only [List.length_drop,List.length_take];rfl)) ?_;(with_reducible refine (glyphcutterref02_long.calls k (rd l0 0) t296 _ A4.out).mono ?_);rintro e w' ⟨rfl,⟨nd,rfl⟩⟩;refine ⟨_,rfl,?_⟩))
    go_ret2
    exact ⟨by first | rfl | (simp [errW_none,errW_some] <;> rfl) | (simp [*,errW_none,errW_some] <;> rfl),by repeat (first | (with_reducible first | exact HB.out | apply below_alloc | apply pw_below_drewN | apply below_drew1) | exact HB.out)⟩
   ·rw [if_neg c5] at H
    have c5b0 : (t296 == 0) = false := beq_eq_false_iff_ne.mpr c5
    have c5b1 : (t296 != 0) = true := bne_iff_ne.mpr c5
    by_cases c6 : t296 = 1
    ·rw [if_pos c6] at H
     have c6b0 : (t296 == 1) = true := beq_iff_eq.mpr c6
     have c6b1 : (t296 != 1) = false := bne_eq_false_iff_eq.mpr c6
     clear c6
     simp only [Option.some.injEq,Prod.mk.injEq] at H
     obtain ⟨rfl,rfl⟩ := H
     have p295 : 0 ≤ (0 : Int) := (by omega)
     have q295 : 0 < (l0.length : Int) := of_decide_eq_true (by first | (with_reducible assumption) | assumption)
     obtain ⟨ad295,e295,hx295_0⟩ := Kd.at_int HR0.out 0 p295 q295
     cases e295
     have qi295 : (0 < l0.length) = True := eq_true (by omega)
     (try rw [show ((0 : Int)).toNat = 0 from rfl] at hx295_0)
     (try rw [Addr.add_zero'] at hx295_0)
     replace p295 := eq_true p295
     replace q295 := eq_true q295
     go_enter Try.func46,Try.ntmps46
     go_wp2_with (first | ((with_reducible refine gate_callee (f := 61) rfl ?_);refine goesL_ (some 13) rfl rfl Try.func61 (by kernel_rfl) rfl #[.int .u8 (rd l0 0)] rfl (by (try simp only [List.map_toArray,List.map_cons,List.map_nil]);first | done | rfl | (simp only [List.length_drop,List.length_take];rfl)) ?_;(with_reducible refine (glyphcutterref02_long.calls k (rd l0 0) t296 _ A4.out).mono ?_);rintro e w' ⟨rfl,⟨nd,rfl⟩⟩;refine ⟨_,rfl,?_⟩;have p297 : 0 ≤ (0 : Int) := (by omega);have q297 : 0 < (l0.length : Int) := of_decide_eq_true (by first | (with_reducible assumption) | assumption);obtain ⟨ad297,e297,hx297_0⟩ := Kd.at_int HR0.out 0 p297 q297;obtain rfl : ad295 = ad297 := (by injection e297);have qi297 : (0 < l0.length) = True := eq_true (by omega);(try rw [show ((0 : Int)).toNat = 0 from rfl] at hx297_0);(try rw [Addr.add_zero'] at hx297_0);replace p297 := eq_true p297;replace q297 := eq_true q297))
     go_ret2
     exact ⟨by first | rfl | (simp [errW_none,errW_some] <;> rfl) | (simp [*,errW_none,errW_some] <;> rfl),by repeat (first | (with_reducible first | exact HB.out | apply below_alloc | apply pw_below_drewN | apply below_drew1) | exact HB.out)⟩
    ·rw [if_neg c6] at H
     have c6b0 : (t296 == 1) = false := beq_eq_false_iff_ne.mpr c6
     have c6b1 : (t296 != 1) = true := bne_iff_ne.mpr c6
     obtain ⟨y299,hy299⟩ : ∃ y_ : List Int,y_ = (([0,0,192,224,240] : List Int)) := ⟨_,rfl⟩
     replace H : (if 0 ≤ t296 then (if t296 < (y299.length : Int) then (glyphcutterref02_Decode.l0 k l0 t296 (wrap64 ((wrap64 (rd l0 0)) - (rd y299 t296))) 1) else (none)) else (none)) = some (r1,r2) := by first | (rw [hy299];with_reducible exact H) | (have H2_ := (Option.bind_some _ _).symm.trans H;rw [hy299];with_reducible exact H2_) | (have H2_ := (Option.bind_some _ _).symm.trans H;with_reducible exact H2_) | with_reducible exact H | (rw [hy299];exact H) | exact H
     have Ny299 := Aside0.mk hy299
     clear hy299
     by_cases c7 : 0 ≤ t296
     ·rw [if_pos c7] at H
      have c7b0 : decide (0 ≤ t296) = true := decide_eq_true c7
      clear c7
      by_cases c8 : t296 < (y299.length : Int)
      ·rw [if_pos c8] at H
       have c8b0 : decide (t296 < (y299.length : Int)) = true := decide_eq_true c8
       clear c8
       have H' := Aside0.mk H
       clear H
       have p295 : 0 ≤ (0 : Int) := (by omega)
       have q295 : 0 < (l0.length : Int) := of_decide_eq_true (by first | (with_reducible assumption) | assumption)
       obtain ⟨ad295,e295,hx295_0⟩ := Kd.at_int HR0.out 0 p295 q295
       cases e295
       have qi295 : (0 < l0.length) = True := eq_true (by omega)
       (try rw [show ((0 : Int)).toNat = 0 from rfl] at hx295_0)
       (try rw [Addr.add_zero'] at hx295_0)
       replace p295 := eq_true p295
       replace q295 := eq_true q295
       go_enter Try.func46,Try.ntmps46
       try go_wp2_with (first | ((with_reducible refine gate_callee (f := 61) rfl ?_);refine goesL_ (some 13) rfl rfl Try.func61 (by kernel_rfl) rfl #[.int .u8 (rd l0 0)] rfl (by (try simp only [List.map_toArray,List.map_cons,List.map_nil]);first | done | rfl | (simp only [List.length_drop,List.length_take];rfl)) ?_;(with_reducible refine (glyphcutterref02_long.calls k (rd l0 0) t296 _ A4.out).mono ?_);rintro e w' ⟨rfl,⟨nd,rfl⟩⟩;refine ⟨_,rfl,?_⟩))
       have pi302 : (0 ≤ (t296 : Int)) = True := eq_true (of_decide_eq_true (by first | (with_reducible assumption) | assumption))
       have qi302 : (t296 < (y299.length : Int)) = True := eq_true (of_decide_eq_true (by first | (with_reducible assumption) | assumption))
       have n0_ := Aside0.mk (below_drew1 (pw_below_drewN HB.out nd))
       clear HB
       have HB := n0_
       clear n0_
       have p298 : 0 ≤ (0 : Int) := (by omega)
       have q298 : 0 < (l0.length : Int) := of_decide_eq_true (by first | (with_reducible assumption) | assumption)
       obtain ⟨ad298,e298,hx298_0⟩ := Kd.at_int HR0.out 0 p298 q298
       have hw298_0 := hx298_0
       (try rw [show ((0 : Int)).toNat = 0 from rfl] at hw298_0)
       (try rw [show 0 * 1 = 0 from rfl] at hw298_0)
       (try rw [Addr.add_zero'] at hw298_0)
       obtain rfl : ad295 = ad298 := (by injection e298)
       have qi298 : (0 < l0.length) = True := eq_true (by omega)
       (try rw [show ((0 : Int)).toNat = 0 from rfl] at hx298_0)
       (try rw [Addr.add_zero'] at hx298_0)
       replace hx298_0 := (HB.out.cell (World.block_lt_of_cell? w _ hx298_0)).trans hx298_0
       replace p298 := eq_true p298
       replace q298 := eq_true q298
       refine start_ (n := 10) (S := fun w' => w'.cell? ad295 = some (.int .u8 (rd l0 0))) (ds := []) #[false,false,false,false,false,false,false,false,false,false] (by kernel_rfl) rfl rfl (((HB.out.cell (World.block_lt_of_cell? w _ hw298_0)).trans hw298_0)) (fun hHeld => ?_);refine with_tabW glyphcutterref02_Decode.tab8 glyphcutterref02_Decode.bits8 (fun HT_ HW_ => ?_)
       generalize (w.drewN nd).drew = w9 at HB hx298_0 hHeld ⊢
       refine pure_ (i := 0) (N := some 22) (v := ?_) (a' := ?_) #[true,false,false,false,false,false,false,false,false,false] rfl rfl (any_of HT_.out (by kernel_rfl)) (fun _ _ _ h => h) (Or.inl ⟨by rfl,?_⟩) ?_ ?_
       rotate_left;·intro w';go_simp;with_reducible rfl
       rotate_left;·simp only [Act.put,setIfInBounds_toArray,set_cons_zero,set_cons_succ,i64_w,i32_w];rfl
       refine pure_ (i := 1) (N := some 23) (v := ?_) (a' := ?_) #[true,true,false,false,false,false,false,false,false,false] rfl rfl (any_of HT_.out (by kernel_rfl)) (fun _ _ _ h => h) (Or.inl ⟨by rfl,?_⟩) ?_ ?_
       rotate_left;·intro w';go_simp;with_reducible rfl
       rotate_left;·simp only [Act.put,setIfInBounds_toArray,set_cons_zero,set_cons_succ,i64_w,i32_w];rfl
       refine pure_ (i := 5) (N := some 27) (v := ?_) (a' := ?_) #[true,true,false,false,false,true,false,false,false,false] rfl rfl (any_of HT_.out (by kernel_rfl)) (fun _ _ _ h => h) (Or.inl ⟨by rfl,?_⟩) ?_ ?_
       rotate_left;·intro w';go_simp;with_reducible rfl
       rotate_left;·simp only [Act.put,setIfInBounds_toArray,set_cons_zero,set_cons_succ,i64_w,i32_w];rfl
       refine take_ (i := 2) (N := some 24) (v := ?_) (a' := ?_) #[true,true,true,false,false,true,false,false,false,false] rfl rfl (take_ofW HT_.out HW_.out (by kernel_rfl)) (fun _ _ _ h => h) (Or.inl ⟨by rfl,?_⟩) hHeld ?_ ?_
       rotate_left;·intro w' s0;go_simp;with_reducible rfl
       rotate_left;·simp only [Act.put,setIfInBounds_toArray,set_cons_zero,set_cons_succ,i64_w,i32_w];rfl
       refine pure_ (i := 3) (N := some 25) (v := ?_) (a' := ?_) #[true,true,true,true,false,true,false,false,false,false] rfl rfl (any_of HT_.out (by kernel_rfl)) (fun _ _ _ h => h) (Or.inl ⟨by rfl,?_⟩) ?_ ?_
       rotate_left;·intro w';go_simp;with_reducible rfl
       rotate_left;·simp only [Act.put,setIfInBounds_toArray,set_cons_zero,set_cons_succ,i64_w,i32_w];rfl
       refine one_ (i := 4) (N := some 26) #[true,true,true,true,true,true,false,false,false,false] rfl rfl (one_of HT_.out (by kernel_rfl)) (by decide) (fun K hK => ?_)
       refine Kd.R_lit_step (Kd.int .i64) _ 3 ?hg (N := 26) ?hd (xs := ([0,0,192,224,240] : List Int)) (inner := [.int .i64 0,.int .i64 0,.int .i64 192,.int .i64 224,.int .i64 240]) (ok := fun _ => True) (okp := fun _ => True) ?hr ?hp (fun _ hk => hk) trivial (Below.refl _ _) (Nat.le_refl _) (by simp) ?_;(case hd => rfl);(case hg => rfl);(case hr => first | (go_simp;done) | (go_simp;rfl));(case hp => exact (Reps.one (show Kd.M (Kd.int .i64) _ _ _ 0 [.int .i64 0] from rfl) (Reps.one (show Kd.M (Kd.int .i64) _ _ _ 0 [.int .i64 0] from rfl) (Reps.one (show Kd.M (Kd.int .i64) _ _ _ 192 [.int .i64 192] from rfl) (Reps.one (show Kd.M (Kd.int .i64) _ _ _ 224 [.int .i64 224] from rfl) (Reps.one (show Kd.M (Kd.int .i64) _ _ _ 240 [.int .i64 240] from rfl) (Reps.none _ _)))))))
       intro v300 w10 ho11 hb hg_ hnew_
       clear hg_ hnew_
       (first | rw [← Ny299.out] at ho11 | (simp only [Int.reduceToNat] at ho11;rw [← Ny299.out] at ho11))
       have n0_ := Aside0.mk (Kd.R_lower ho11 (below_size (by repeat (first | (with_reducible first | exact HB.out | apply below_alloc | apply pw_below_drewN | apply below_drew1) | exact HB.out))))
       have n1_ := Aside0.mk (below_step (by repeat (first | (with_reducible first | exact HB.out | apply below_alloc | apply pw_below_drewN | apply below_drew1) | exact HB.out)) hb)
       clear HB
       have HO301 := n0_
       have HB := n1_
       clear n0_ n1_
       clear hb ho11
       obtain ⟨Ao12,co12,eo12⟩ := Kd.R_slice HO301.out
       subst eo12
       obtain ⟨ado12,fo12,_⟩ := Kd.at_int (Kd.R_reads' HO301.out).2.2 0 (by decide) (by rw [Ny299.out];simp)
       cases fo12
       refine hK.out _ _ (((HB.out.cell (World.block_lt_of_cell? w _ hw298_0)).trans hw298_0)) (fun hHeld => ?_)
       clear hK K
       refine norm_ (a' := ?_) ?_ ?_
       rotate_left;·show Act.put _ (some 26) _ = _;simp only [Act.put,setIfInBounds_toArray,set_cons_zero,set_cons_succ,i64_w,i32_w];rfl
       refine pure_ (i := 6) (N := some 28) (v := ?_) (a' := ?_) #[true,true,true,true,true,true,true,false,false,false] rfl rfl (any_of HT_.out (by kernel_rfl)) (fun _ _ _ h => h) (Or.inl ⟨by rfl,?_⟩) ?_ ?_
       rotate_left;·intro w';go_simp;with_reducible rfl
       rotate_left;·simp only [Act.put,setIfInBounds_toArray,set_cons_zero,set_cons_succ,i64_w,i32_w];rfl
       refine one_ (i := 7) (N := some 29) #[true,true,true,true,true,true,true,true,false,false] rfl rfl (one_of HT_.out (by kernel_rfl)) (by decide) (fun K hK => ?_)
       (have p302 : 0 ≤ (t296 : Int) := of_decide_eq_true (by first | (with_reducible assumption) | assumption);have q302 : t296 < (y299.length : Int) := of_decide_eq_true (by first | (with_reducible assumption) | assumption);obtain ⟨ad302,e302,hx302_0⟩ := Kd.at_int (Kd.R_reads' HO301.out).2.2 t296 p302 q302;obtain rfl : ado12 = ad302 := (by injection e302))
       refine value_ (w1 := ?_) (v := ?_) (by rfl) rfl ?_ ?_
       rotate_left 2
       ·go_simp
        constructor
        ·rfl
        ·rfl
       clear hx302_0
       refine hK.out _ _ (((HB.out.cell (World.block_lt_of_cell? w _ hw298_0)).trans hw298_0)) (fun hHeld => ?_)
       clear hK K
       refine norm_ (a' := ?_) ?_ ?_
       rotate_left;·show Act.put _ (some 29) _ = _;simp only [Act.put,setIfInBounds_toArray,set_cons_zero,set_cons_succ,i64_w,i32_w];rfl
       refine pure_ (i := 8) (N := some 30) (v := ?_) (a' := ?_) #[true,true,true,true,true,true,true,true,true,false] rfl rfl (any_of HT_.out (by kernel_rfl)) (fun _ _ _ h => h) (Or.inl ⟨by rfl,?_⟩) ?_ ?_
       rotate_left;·intro w';go_simp;with_reducible rfl
       rotate_left;·simp only [Act.put,setIfInBounds_toArray,set_cons_zero,set_cons_succ,i64_w,i32_w];rfl
       refine pure_ (i := 9) (N := some 5) (v := ?_) (a' := ?_) #[true,true,true,true,true,true,true,true,true,true] rfl rfl (any_of HT_.out (by kernel_rfl)) (fun _ _ _ h => h) (Or.inl ⟨by rfl,?_⟩) ?_ ?_
       rotate_left;·intro w';go_simp;with_reducible rfl
       rotate_left;·simp only [Act.put,setIfInBounds_toArray,set_cons_zero,set_cons_succ,i64_w,i32_w];rfl
       refine done_ (done_of HT_.out (by kernel_rfl)) ?_
       try go_wp2
       go_loopg [5,6] k (fun kq v5 v6 w' => ∃ (x5_1 : Int) (x6_1 : Int),v5 = .int .i64 x5_1 ∧ v6 = .int .i64 x6_1 ∧ Aside0 (glyphcutterref02_Decode.l0 kq l0 t296 x5_1 x6_1 = some (r1,r2)) ∧ Aside0 (kq ≤ k) ∧ Aside0 (Below w.heap.size w w'))
       case atStart => exact ⟨(wrap64 ((wrap64 (rd l0 0)) - (rd y299 t296))),(1),(by first | rfl | (simp;done) | (simp [*];done)),(by first | rfl | (simp;done) | (simp [*];done)),H',⟨Nat.le_refl _⟩,⟨by repeat (first | (with_reducible first | exact HB.out | apply below_alloc | apply pw_below_drewN | apply below_drew1) | exact HB.out)⟩⟩
       case round =>
        clear H'
        try clear c2
        try clear c2b0
        try clear c2b1
        try clear c2b2
        try clear p2
        try clear q2
        try clear hx2
        try clear qi2
        try clear c3
        try clear c3b0
        try clear c3b1
        try clear p3
        try clear q3
        try clear hx3
        try clear qi3
        try clear c4
        try clear c5
        try clear c5b0
        try clear c5b1
        try clear c6
        try clear c6b0
        try clear c6b1
        try clear p6
        try clear c7
        try clear c7b0
        try clear c8
        try clear c8b0
        try clear hx295_0
        try clear hx297_0
        try clear hx298_0
        try clear hx302_0
        try clear p295
        try clear p297
        try clear p298
        try clear p302
        try clear q295
        try clear q297
        try clear q298
        try clear q302
        obtain ⟨x5_1,x6_1,rfl,rfl,HA,HK1,HB⟩ := hrel
        cases gk with
        | zero => exact absurd HA.out (by simp [glyphcutterref02_Decode.l0])
        | succ k1 =>
         have H := HA.out
         clear HA
         simp only [glyphcutterref02_Decode.l0] at H
         by_cases c13 : x6_1 < t296
         ·rw [if_pos c13] at H
          have c13b0 : decide (x6_1 < t296) = true := decide_eq_true c13
          clear c13
          by_cases c14 : x6_1 ≥ (l0.length : Int)
          ·rw [if_pos c14] at H
           have c14b0 : decide ((l0.length : Int) ≤ x6_1) = true := decide_eq_true c14
           clear c14
           simp only [Option.some.injEq,Prod.mk.injEq] at H
           obtain ⟨rfl,rfl⟩ := H
           try go_wp2
           have n0_ := Aside0.mk (below_drew1 HB.out)
           clear HB
           have HB := n0_
           clear n0_
           refine start_ (n := 32) (S := fun w' => True) (ds := []) #[false,false,false,false,false,false,false,false,false,false,false,false,false,false,false,false,false,false,false,false,false,false,false,false,false,false,false,false,false,false,false,false] (by kernel_rfl) rfl rfl trivial (fun hHeld => ?_);refine with_tabW glyphcutterref02_Decode.tab12 glyphcutterref02_Decode.bits12 (fun HT_ HW_ => ?_)
           generalize wr.drew = w15 at HB hHeld ⊢
           refine pure_ (i := 0) (N := some 36) (v := ?_) (a' := ?_) #[true,false,false,false,false,false,false,false,false,false,false,false,false,false,false,false,false,false,false,false,false,false,false,false,false,false,false,false,false,false,false,false] rfl rfl (any_of HT_.out (by kernel_rfl)) (fun _ _ _ h => h) (Or.inl ⟨by rfl,?_⟩) ?_ ?_
           rotate_left;·intro w';go_simp;with_reducible rfl
           rotate_left;·simp only [Act.put,setIfInBounds_toArray,set_cons_zero,set_cons_succ,i64_w,i32_w];rfl
           refine pure_ (i := 1) (N := some 37) (v := ?_) (a' := ?_) #[true,true,false,false,false,false,false,false,false,false,false,false,false,false,false,false,false,false,false,false,false,false,false,false,false,false,false,false,false,false,false,false] rfl rfl (any_of HT_.out (by kernel_rfl)) (fun _ _ _ h => h) (Or.inl ⟨by rfl,?_⟩) ?_ ?_
           rotate_left;·intro w';go_simp;with_reducible rfl
           rotate_left;·simp only [Act.put,setIfInBounds_toArray,set_cons_zero,set_cons_succ,i64_w,i32_w];rfl
           refine pure_ (i := 2) (N := some 38) (v := ?_) (a' := ?_) #[true,true,true,false,false,false,false,false,false,false,false,false,false,false,false,false,false,false,false,false,false,false,false,false,false,false,false,false,false,false,false,false] rfl rfl (any_of HT_.out (by kernel_rfl)) (fun _ _ _ h => h) (Or.inl ⟨by rfl,?_⟩) ?_ ?_
           rotate_left;·intro w';go_simp;with_reducible rfl
           rotate_left;·simp only [Act.put,setIfInBounds_toArray,set_cons_zero,set_cons_succ,i64_w,i32_w];rfl
           refine pure_ (i := 3) (N := some 39) (v := ?_) (a' := ?_) #[true,true,true,true,false,false,false,false,false,false,false,false,false,false,false,false,false,false,false,false,false,false,false,false,false,false,false,false,false,false,false,false] rfl rfl (any_of HT_.out (by kernel_rfl)) (fun _ _ _ h => h) (Or.inl ⟨by rfl,?_⟩) ?_ ?_
           rotate_left;·intro w';go_simp;with_reducible rfl
           rotate_left;·simp only [Act.put,setIfInBounds_toArray,set_cons_zero,set_cons_succ,i64_w,i32_w];rfl
           refine pure_ (i := 4) (N := some 40) (v := ?_) (a' := ?_) #[true,true,true,true,true,false,false,false,false,false,false,false,false,false,false,false,false,false,false,false,false,false,false,false,false,false,false,false,false,false,false,false] rfl rfl (any_of HT_.out (by kernel_rfl)) (fun _ _ _ h => h) (Or.inl ⟨by rfl,?_⟩) ?_ ?_
           rotate_left;·intro w';go_simp;with_reducible rfl
           rotate_left;·simp only [Act.put,setIfInBounds_toArray,set_cons_zero,set_cons_succ,i64_w,i32_w];rfl
           refine pure_ (i := 5) (N := some 41) (v := undef) (a' := ?_) #[true,true,true,true,true,true,false,false,false,false,false,false,false,false,false,false,false,false,false,false,false,false,false,false,false,false,false,false,false,false,false,false] rfl rfl (any_of HT_.out (by kernel_rfl)) (fun _ _ _ h => h) (Or.inr ⟨by rfl,rfl⟩) ?_ ?_
           rotate_left;·simp only [Act.put,setIfInBounds_toArray,set_cons_zero,set_cons_succ,i64_w,i32_w];rfl
           refine pure_ (i := 6) (N := some 42) (v := undef) (a' := ?_) #[true,true,true,true,true,true,true,false,false,false,false,false,false,false,false,false,false,false,false,false,false,false,false,false,false,false,false,false,false,false,false,false] rfl rfl (any_of HT_.out (by kernel_rfl)) (fun _ _ _ h => h) (Or.inr ⟨by rfl,rfl⟩) ?_ ?_
           rotate_left;·simp only [Act.put,setIfInBounds_toArray,set_cons_zero,set_cons_succ,i64_w,i32_w];rfl
           refine pure_ (i := 7) (N := some 43) (v := undef) (a' := ?_) #[true,true,true,true,true,true,true,true,false,false,false,false,false,false,false,false,false,false,false,false,false,false,false,false,false,false,false,false,false,false,false,false] rfl rfl (any_of HT_.out (by kernel_rfl)) (fun _ _ _ h => h) (Or.inr ⟨by rfl,rfl⟩) ?_ ?_
           rotate_left;·simp only [Act.put,setIfInBounds_toArray,set_cons_zero,set_cons_succ,i64_w,i32_w];rfl
           refine pure_ (i := 8) (N := some 44) (v := undef) (a' := ?_) #[true,true,true,true,true,true,true,true,true,false,false,false,false,false,false,false,false,false,false,false,false,false,false,false,false,false,false,false,false,false,false,false] rfl rfl (any_of HT_.out (by kernel_rfl)) (fun _ _ _ h => h) (Or.inr ⟨by rfl,rfl⟩) ?_ ?_
           rotate_left;·simp only [Act.put,setIfInBounds_toArray,set_cons_zero,set_cons_succ,i64_w,i32_w];rfl
           refine pure_ (i := 9) (N := some 45) (v := undef) (a' := ?_) #[true,true,true,true,true,true,true,true,true,true,false,false,false,false,false,false,false,false,false,false,false,false,false,false,false,false,false,false,false,false,false,false] rfl rfl (any_of HT_.out (by kernel_rfl)) (fun _ _ _ h => h) (Or.inr ⟨by rfl,rfl⟩) ?_ ?_
           rotate_left;·simp only [Act.put,setIfInBounds_toArray,set_cons_zero,set_cons_succ,i64_w,i32_w];rfl
           refine pure_ (i := 10) (N := some 46) (v := undef) (a' := ?_) #[true,true,true,true,true,true,true,true,true,true,true,false,false,false,false,false,false,false,false,false,false,false,false,false,false,false,false,false,false,false,false,false] rfl rfl (any_of HT_.out (by kernel_rfl)) (fun _ _ _ h => h) (Or.inr ⟨by rfl,rfl⟩) ?_ ?_
           rotate_left;·simp only [Act.put,setIfInBounds_toArray,set_cons_zero,set_cons_succ,i64_w,i32_w];rfl
           refine pure_ (i := 11) (N := some 47) (v := undef) (a' := ?_) #[true,true,true,true,true,true,true,true,true,true,true,true,false,false,false,false,false,false,false,false,false,false,false,false,false,false,false,false,false,false,false,false] rfl rfl (any_of HT_.out (by kernel_rfl)) (fun _ _ _ h => h) (Or.inr ⟨by rfl,rfl⟩) ?_ ?_
           rotate_left;·simp only [Act.put,setIfInBounds_toArray,set_cons_zero,set_cons_succ,i64_w,i32_w];rfl
           refine pure_ (i := 12) (N := some 48) (v := undef) (a' := ?_) #[true,true,true,true,true,true,true,true,true,true,true,true,true,false,false,false,false,false,false,false,false,false,false,false,false,false,false,false,false,false,false,false] rfl rfl (any_of HT_.out (by kernel_rfl)) (fun _ _ _ h => h) (Or.inr ⟨by rfl,rfl⟩) ?_ ?_
           rotate_left;·simp only [Act.put,setIfInBounds_toArray,set_cons_zero,set_cons_succ,i64_w,i32_w];rfl
           refine pure_ (i := 13) (N := some 49) (v := undef) (a' := ?_) #[true,true,true,true,true,true,true,true,true,true,true,true,true,true,false,false,false,false,false,false,false,false,false,false,false,false,false,false,false,false,false,false] rfl rfl (any_of HT_.out (by kernel_rfl)) (fun _ _ _ h => h) (Or.inr ⟨by rfl,rfl⟩) ?_ ?_
           rotate_left;·simp only [Act.put,setIfInBounds_toArray,set_cons_zero,set_cons_succ,i64_w,i32_w];rfl
           refine pure_ (i := 14) (N := some 50) (v := undef) (a' := ?_) #[true,true,true,true,true,true,true,true,true,true,true,true,true,true,true,false,false,false,false,false,false,false,false,false,false,false,false,false,false,false,false,false] rfl rfl (any_of HT_.out (by kernel_rfl)) (fun _ _ _ h => h) (Or.inr ⟨by rfl,rfl⟩) ?_ ?_
           rotate_left;·simp only [Act.put,setIfInBounds_toArray,set_cons_zero,set_cons_succ,i64_w,i32_w];rfl
           refine pure_ (i := 15) (N := some 51) (v := undef) (a' := ?_) #[true,true,true,true,true,true,true,true,true,true,true,true,true,true,true,true,false,false,false,false,false,false,false,false,false,false,false,false,false,false,false,false] rfl rfl (any_of HT_.out (by kernel_rfl)) (fun _ _ _ h => h) (Or.inr ⟨by rfl,rfl⟩) ?_ ?_
           rotate_left;·simp only [Act.put,setIfInBounds_toArray,set_cons_zero,set_cons_succ,i64_w,i32_w];rfl
           refine pure_ (i := 16) (N := some 52) (v := undef) (a' := ?_) #[true,true,true,true,true,true,true,true,true,true,true,true,true,true,true,true,true,false,false,false,false,false,false,false,false,false,false,false,false,false,false,false] rfl rfl (any_of HT_.out (by kernel_rfl)) (fun _ _ _ h => h) (Or.inr ⟨by rfl,rfl⟩) ?_ ?_
           rotate_left;·simp only [Act.put,setIfInBounds_toArray,set_cons_zero,set_cons_succ,i64_w,i32_w];rfl
           refine pure_ (i := 17) (N := some 53) (v := ?_) (a' := ?_) #[true,true,true,true,true,true,true,true,true,true,true,true,true,true,true,true,true,true,false,false,false,false,false,false,false,false,false,false,false,false,false,false] rfl rfl (any_of HT_.out (by kernel_rfl)) (fun _ _ _ h => h) (Or.inl ⟨by rfl,?_⟩) ?_ ?_
           rotate_left;·intro w';go_simp;with_reducible rfl
           rotate_left;·simp only [Act.put,setIfInBounds_toArray,set_cons_zero,set_cons_succ,i64_w,i32_w];rfl
           refine pure_ (i := 18) (N := some 54) (v := ?_) (a' := ?_) #[true,true,true,true,true,true,true,true,true,true,true,true,true,true,true,true,true,true,true,false,false,false,false,false,false,false,false,false,false,false,false,false] rfl rfl (any_of HT_.out (by kernel_rfl)) (fun _ _ _ h => h) (Or.inl ⟨by rfl,?_⟩) ?_ ?_
           rotate_left;·intro w';go_simp;with_reducible rfl
           rotate_left;·simp only [Act.put,setIfInBounds_toArray,set_cons_zero,set_cons_succ,i64_w,i32_w];rfl
           refine pure_ (i := 19) (N := some 55) (v := undef) (a' := ?_) #[true,true,true,true,true,true,true,true,true,true,true,true,true,true,true,true,true,true,true,true,false,false,false,false,false,false,false,false,false,false,false,false] rfl rfl (any_of HT_.out (by kernel_rfl)) (fun _ _ _ h => h) (Or.inr ⟨by rfl,rfl⟩) ?_ ?_
           rotate_left;·simp only [Act.put,setIfInBounds_toArray,set_cons_zero,set_cons_succ,i64_w,i32_w];rfl
           refine pure_ (i := 20) (N := some 56) (v := undef) (a' := ?_) #[true,true,true,true,true,true,true,true,true,true,true,true,true,true,true,true,true,true,true,true,true,false,false,false,false,false,false,false,false,false,false,false] rfl rfl (any_of HT_.out (by kernel_rfl)) (fun _ _ _ h => h) (Or.inr ⟨by rfl,rfl⟩) ?_ ?_
           rotate_left;·simp only [Act.put,setIfInBounds_toArray,set_cons_zero,set_cons_succ,i64_w,i32_w];rfl
           refine pure_ (i := 21) (N := some 57) (v := undef) (a' := ?_) #[true,true,true,true,true,true,true,true,true,true,true,true,true,true,true,true,true,true,true,true,true,true,false,false,false,false,false,false,false,false,false,false] rfl rfl (any_of HT_.out (by kernel_rfl)) (fun _ _ _ h => h) (Or.inr ⟨by rfl,rfl⟩) ?_ ?_
           rotate_left;·simp only [Act.put,setIfInBounds_toArray,set_cons_zero,set_cons_succ,i64_w,i32_w];rfl
           refine pure_ (i := 22) (N := some 58) (v := undef) (a' := ?_) #[true,true,true,true,true,true,true,true,true,true,true,true,true,true,true,true,true,true,true,true,true,true,true,false,false,false,false,false,false,false,false,false] rfl rfl (any_of HT_.out (by kernel_rfl)) (fun _ _ _ h => h) (Or.inr ⟨by rfl,rfl⟩) ?_ ?_
           rotate_left;·simp only [Act.put,setIfInBounds_toArray,set_cons_zero,set_cons_succ,i64_w,i32_w];rfl
           refine pure_ (i := 23) (N := some 59) (v := undef) (a' := ?_) #[true,true,true,true,true,true,true,true,true,true,true,true,true,true,true,true,true,true,true,true,true,true,true,true,false,false,false,false,false,false,false,false] rfl rfl (any_of HT_.out (by kernel_rfl)) (fun _ _ _ h => h) (Or.inr ⟨by rfl,rfl⟩) ?_ ?_
           rotate_left;·simp only [Act.put,setIfInBounds_toArray,set_cons_zero,set_cons_succ,i64_w,i32_w];rfl
           refine pure_ (i := 24) (N := some 60) (v := ?_) (a' := ?_) #[true,true,true,true,true,true,true,true,true,true,true,true,true,true,true,true,true,true,true,true,true,true,true,true,true,false,false,false,false,false,false,false] rfl rfl (any_of HT_.out (by kernel_rfl)) (fun _ _ _ h => h) (Or.inl ⟨by rfl,?_⟩) ?_ ?_
           rotate_left;·intro w';go_simp;with_reducible rfl
           rotate_left;·simp only [Act.put,setIfInBounds_toArray,set_cons_zero,set_cons_succ,i64_w,i32_w];rfl
           refine pure_ (i := 25) (N := some 61) (v := ?_) (a' := ?_) #[true,true,true,true,true,true,true,true,true,true,true,true,true,true,true,true,true,true,true,true,true,true,true,true,true,true,false,false,false,false,false,false] rfl rfl (any_of HT_.out (by kernel_rfl)) (fun _ _ _ h => h) (Or.inl ⟨by rfl,?_⟩) ?_ ?_
           rotate_left;·intro w';go_simp;with_reducible rfl
           rotate_left;·simp only [Act.put,setIfInBounds_toArray,set_cons_zero,set_cons_succ,i64_w,i32_w];rfl
           refine pure_ (i := 26) (N := some 62) (v := undef) (a' := ?_) #[true,true,true,true,true,true,true,true,true,true,true,true,true,true,true,true,true,true,true,true,true,true,true,true,true,true,true,false,false,false,false,false] rfl rfl (any_of HT_.out (by kernel_rfl)) (fun _ _ _ h => h) (Or.inr ⟨by rfl,rfl⟩) ?_ ?_
           rotate_left;·simp only [Act.put,setIfInBounds_toArray,set_cons_zero,set_cons_succ,i64_w,i32_w];rfl
           refine pure_ (i := 27) (N := some 63) (v := undef) (a' := ?_) #[true,true,true,true,true,true,true,true,true,true,true,true,true,true,true,true,true,true,true,true,true,true,true,true,true,true,true,true,false,false,false,false] rfl rfl (any_of HT_.out (by kernel_rfl)) (fun _ _ _ h => h) (Or.inr ⟨by rfl,rfl⟩) ?_ ?_
           rotate_left;·simp only [Act.put,setIfInBounds_toArray,set_cons_zero,set_cons_succ,i64_w,i32_w];rfl
           refine pure_ (i := 28) (N := some 64) (v := undef) (a' := ?_) #[true,true,true,true,true,true,true,true,true,true,true,true,true,true,true,true,true,true,true,true,true,true,true,true,true,true,true,true,true,false,false,false] rfl rfl (any_of HT_.out (by kernel_rfl)) (fun _ _ _ h => h) (Or.inr ⟨by rfl,rfl⟩) ?_ ?_
           rotate_left;·simp only [Act.put,setIfInBounds_toArray,set_cons_zero,set_cons_succ,i64_w,i32_w];rfl
           refine pure_ (i := 29) (N := some 65) (v := undef) (a' := ?_) #[true,true,true,true,true,true,true,true,true,true,true,true,true,true,true,true,true,true,true,true,true,true,true,true,true,true,true,true,true,true,false,false] rfl rfl (any_of HT_.out (by kernel_rfl)) (fun _ _ _ h => h) (Or.inr ⟨by rfl,rfl⟩) ?_ ?_
           rotate_left;·simp only [Act.put,setIfInBounds_toArray,set_cons_zero,set_cons_succ,i64_w,i32_w];rfl
           refine pure_ (i := 30) (N := some 66) (v := undef) (a' := ?_) #[true,true,true,true,true,true,true,true,true,true,true,true,true,true,true,true,true,true,true,true,true,true,true,true,true,true,true,true,true,true,true,false] rfl rfl (any_of HT_.out (by kernel_rfl)) (fun _ _ _ h => h) (Or.inr ⟨by rfl,rfl⟩) ?_ ?_
           rotate_left;·simp only [Act.put,setIfInBounds_toArray,set_cons_zero,set_cons_succ,i64_w,i32_w];rfl
           refine pure_ (i := 31) (N := some 67) (v := ?_) (a' := ?_) #[true,true,true,true,true,true,true,true,true,true,true,true,true,true,true,true,true,true,true,true,true,true,true,true,true,true,true,true,true,true,true,true] rfl rfl (any_of HT_.out (by kernel_rfl)) (fun _ _ _ h => h) (Or.inl ⟨by rfl,?_⟩) ?_ ?_
           rotate_left;·intro w';go_simp;with_reducible rfl
           rotate_left;·simp only [Act.put,setIfInBounds_toArray,set_cons_zero,set_cons_succ,i64_w,i32_w];rfl
           refine done_ (done_of HT_.out (by kernel_rfl)) ?_
           try go_wp2
           go_ret2
           exact ⟨by first | rfl | (simp [errW_none,errW_some] <;> rfl) | (simp [*,errW_none,errW_some] <;> rfl),by repeat (first | (with_reducible first | exact HB.out | apply below_alloc | apply pw_below_drewN | apply below_drew1) | exact HB.out)⟩
          ·rw [if_neg c14] at H
           have c14b0 : decide ((l0.length : Int) ≤ x6_1) = false := decide_eq_false c14
           clear c14
           by_cases c16 : x6_1 = 1
           ·rw [if_pos c16] at H
            have c16b0 : (x6_1 == 1) = true := beq_iff_eq.mpr c16
            have c16b1 : (x6_1 != 1) = false := bne_eq_false_iff_eq.mpr c16
            clear c16
            by_cases c17 : 0 < (l0.length : Int)
            ·rw [if_pos c17] at H
             have c17b0 : decide (0 < (l0.length : Int)) = true := decide_eq_true c17
             have c17b1 : decide (0 < l0.length) = true := decide_eq_true (by omega)
             clear c17
             by_cases c18 : 1 < (l0.length : Int)
             ·rw [if_pos c18] at H
              have c18b0 : decide (1 < (l0.length : Int)) = true := decide_eq_true c18
              have c18b1 : decide (1 < l0.length) = true := decide_eq_true (by omega)
              clear c18
              replace H := Option.bind_eq_some_iff.mp H
              obtain ⟨t305,A190,H⟩ := H
              skip
              have A19 := Aside0.mk A190
              clear A190
              by_cases c20 : t305 = true
              ·subst c20
               rw [if_pos rfl] at H
               by_cases c21 : 0 ≤ x6_1
               ·rw [if_pos c21] at H
                have c21b0 : decide (0 ≤ x6_1) = true := decide_eq_true c21
                clear c21
                by_cases c22 : x6_1 < (l0.length : Int)
                ·rw [if_pos c22] at H
                 have c22b0 : decide (x6_1 < (l0.length : Int)) = true := decide_eq_true c22
                 clear c22
                 by_cases c23 : (rd l0 x6_1) < 128
                 ·rw [if_pos c23] at H
                  have c23b0 : decide ((rd l0 x6_1) < 128) = true := decide_eq_true c23
                  clear c23
                  simp only [Option.some.injEq,Prod.mk.injEq] at H
                  obtain ⟨rfl,rfl⟩ := H
                  try go_wp2
                  have n0_ := Aside0.mk (below_drew1 HB.out)
                  clear HB
                  have HB := n0_
                  clear n0_
                  have p303 : 0 ≤ (0 : Int) := (by omega)
                  have q303 : 0 < (l0.length : Int) := of_decide_eq_true (by first | (with_reducible assumption) | assumption)
                  obtain ⟨ad303,e303,hx303_0⟩ := Kd.at_int HR0.out 0 p303 q303
                  have hw303_0 := hx303_0
                  (try rw [show ((0 : Int)).toNat = 0 from rfl] at hw303_0)
                  (try rw [show 0 * 1 = 0 from rfl] at hw303_0)
                  (try rw [Addr.add_zero'] at hw303_0)
                  obtain rfl : ad295 = ad303 := (by injection e303)
                  have qi303 : (0 < l0.length) = True := eq_true (by omega)
                  (try rw [show ((0 : Int)).toNat = 0 from rfl] at hx303_0)
                  (try rw [Addr.add_zero'] at hx303_0)
                  replace hx303_0 := (HB.out.cell (World.block_lt_of_cell? w _ hx303_0)).trans hx303_0
                  replace p303 := eq_true p303
                  replace q303 := eq_true q303
                  have p304 : 0 ≤ (1 : Int) := (by omega)
                  have q304 : 1 < (l0.length : Int) := of_decide_eq_true (by first | (with_reducible assumption) | assumption)
                  obtain ⟨ad304,e304,hx304_0⟩ := Kd.at_int HR0.out 1 p304 q304
                  have hw304_0 := hx304_0
                  (try rw [show ((1 : Int)).toNat = 1 from rfl] at hw304_0)
                  (try rw [show 1 * 1 = 1 from rfl] at hw304_0)
                  (try simp only [Nat.reduceMul,Nat.reduceEqDiff,Go.Addr.add,↓reduceIte] at hw304_0)
                  obtain rfl : ad295 = ad304 := (by injection e304)
                  (try simp only [show (1 : Int).toNat = 1 from rfl,Nat.reduceMul,Nat.reduceEqDiff,Go.Addr.add,↓reduceIte] at hx304_0)
                  have qi304 : (1 < l0.length) = True := eq_true (by omega)
                  (try rw [show ((1 : Int)).toNat = 1 from rfl] at hx304_0)
                  replace hx304_0 := (HB.out.cell (World.block_lt_of_cell? w _ hx304_0)).trans hx304_0
                  replace p304 := eq_true p304
                  replace q304 := eq_true q304
                  have p306 : 0 ≤ (x6_1 : Int) := of_decide_eq_true (by first | (with_reducible assumption) | assumption)
                  have q306 : x6_1 < (l0.length : Int) := of_decide_eq_true (by first | (with_reducible assumption) | assumption)
                  obtain ⟨ad306,e306,hx306_0⟩ := Kd.at_int HR0.out x6_1 p306 q306
                  have hw306_0 := hx306_0
                  obtain rfl : ad295 = ad306 := (by injection e306)
                  replace hx306_0 := (HB.out.cell (World.block_lt_of_cell? w _ hx306_0)).trans hx306_0
                  replace p306 := eq_true p306
                  replace q306 := eq_true q306
                  refine start_ (n := 32) (S := fun w' => w'.cell? ad295 = some (.int .u8 (rd l0 0)) ∧ w'.cell? ⟨ad295.block,ad295.off + 1,none⟩ = some (.int .u8 (rd l0 1)) ∧ w'.cell? (ad295.add (x6_1).toNat) = some (.int .u8 (rd l0 x6_1))) (ds := []) #[false,false,false,false,false,false,false,false,false,false,false,false,false,false,false,false,false,false,false,false,false,false,false,false,false,false,false,false,false,false,false,false] (by kernel_rfl) rfl rfl ⟨((HB.out.cell (World.block_lt_of_cell? w _ hw303_0)).trans hw303_0),((HB.out.cell (World.block_lt_of_cell? w _ hw304_0)).trans hw304_0),((HB.out.cell (World.block_lt_of_cell? w _ hw306_0)).trans hw306_0)⟩ (fun hHeld => ?_);refine with_tabW glyphcutterref02_Decode.tab12 glyphcutterref02_Decode.bits12 (fun HT_ HW_ => ?_)
                  generalize wr.drew = w24 at HB hx303_0 hx304_0 hx306_0 hHeld ⊢
                  refine pure_ (i := 0) (N := some 36) (v := ?_) (a' := ?_) #[true,false,false,false,false,false,false,false,false,false,false,false,false,false,false,false,false,false,false,false,false,false,false,false,false,false,false,false,false,false,false,false] rfl rfl (any_of HT_.out (by kernel_rfl)) (fun _ _ _ h => h) (Or.inl ⟨by rfl,?_⟩) ?_ ?_
                  rotate_left;·intro w';go_simp;with_reducible rfl
                  rotate_left;·simp only [Act.put,setIfInBounds_toArray,set_cons_zero,set_cons_succ,i64_w,i32_w];rfl
                  refine pure_ (i := 1) (N := some 37) (v := ?_) (a' := ?_) #[true,true,false,false,false,false,false,false,false,false,false,false,false,false,false,false,false,false,false,false,false,false,false,false,false,false,false,false,false,false,false,false] rfl rfl (any_of HT_.out (by kernel_rfl)) (fun _ _ _ h => h) (Or.inl ⟨by rfl,?_⟩) ?_ ?_
                  rotate_left;·intro w';go_simp;with_reducible rfl
                  rotate_left;·simp only [Act.put,setIfInBounds_toArray,set_cons_zero,set_cons_succ,i64_w,i32_w];rfl
                  refine pure_ (i := 2) (N := some 38) (v := ?_) (a' := ?_) #[true,true,true,false,false,false,false,false,false,false,false,false,false,false,false,false,false,false,false,false,false,false,false,false,false,false,false,false,false,false,false,false] rfl rfl (any_of HT_.out (by kernel_rfl)) (fun _ _ _ h => h) (Or.inl ⟨by rfl,?_⟩) ?_ ?_
                  rotate_left;·intro w';go_simp;with_reducible rfl
                  rotate_left;·simp only [Act.put,setIfInBounds_toArray,set_cons_zero,set_cons_succ,i64_w,i32_w];rfl
                  refine pure_ (i := 3) (N := some 39) (v := ?_) (a' := ?_) #[true,true,true,true,false,false,false,false,false,false,false,false,false,false,false,false,false,false,false,false,false,false,false,false,false,false,false,false,false,false,false,false] rfl rfl (any_of HT_.out (by kernel_rfl)) (fun _ _ _ h => h) (Or.inl ⟨by rfl,?_⟩) ?_ ?_
                  rotate_left;·intro w';go_simp;with_reducible rfl
                  rotate_left;·simp only [Act.put,setIfInBounds_toArray,set_cons_zero,set_cons_succ,i64_w,i32_w];rfl
                  refine pure_ (i := 4) (N := some 40) (v := ?_) (a' := ?_) #[true,true,true,true,true,false,false,false,false,false,false,false,false,false,false,false,false,false,false,false,false,false,false,false,false,false,false,false,false,false,false,false] rfl rfl (any_of HT_.out (by kernel_rfl)) (fun _ _ _ h => h) (Or.inl ⟨by rfl,?_⟩) ?_ ?_
                  rotate_left;·intro w';go_simp;with_reducible rfl
                  rotate_left;·simp only [Act.put,setIfInBounds_toArray,set_cons_zero,set_cons_succ,i64_w,i32_w];rfl
                  refine pure_ (i := 5) (N := some 41) (v := ?_) (a' := ?_) #[true,true,true,true,true,true,false,false,false,false,false,false,false,false,false,false,false,false,false,false,false,false,false,false,false,false,false,false,false,false,false,false] rfl rfl (any_of HT_.out (by kernel_rfl)) (fun _ _ _ h => h) (Or.inl ⟨by rfl,?_⟩) ?_ ?_
                  rotate_left;·intro w';go_simp;with_reducible rfl
                  rotate_left;·simp only [Act.put,setIfInBounds_toArray,set_cons_zero,set_cons_succ,i64_w,i32_w];rfl
                  refine pure_ (i := 6) (N := some 42) (v := ?_) (a' := ?_) #[true,true,true,true,true,true,true,false,false,false,false,false,false,false,false,false,false,false,false,false,false,false,false,false,false,false,false,false,false,false,false,false] rfl rfl (any_of HT_.out (by kernel_rfl)) (fun _ _ _ h => h) (Or.inl ⟨by rfl,?_⟩) ?_ ?_
                  rotate_left;·intro w';go_simp;with_reducible rfl
                  rotate_left;·simp only [Act.put,setIfInBounds_toArray,set_cons_zero,set_cons_succ,i64_w,i32_w];rfl
                  refine pure_ (i := 7) (N := some 43) (v := ?_) (a' := ?_) #[true,true,true,true,true,true,true,true,false,false,false,false,false,false,false,false,false,false,false,false,false,false,false,false,false,false,false,false,false,false,false,false] rfl rfl (any_of HT_.out (by kernel_rfl)) (fun _ _ _ h => h) (Or.inl ⟨by rfl,?_⟩) ?_ ?_
                  rotate_left;·intro w';go_simp;with_reducible rfl
                  rotate_left;·simp only [Act.put,setIfInBounds_toArray,set_cons_zero,set_cons_succ,i64_w,i32_w];rfl
                  refine pure_ (i := 8) (N := some 44) (v := ?_) (a' := ?_) #[true,true,true,true,true,true,true,true,true,false,false,false,false,false,false,false,false,false,false,false,false,false,false,false,false,false,false,false,false,false,false,false] rfl rfl (any_of HT_.out (by kernel_rfl)) (fun _ _ _ h => h) (Or.inl ⟨by rfl,?_⟩) ?_ ?_
                  rotate_left;·intro w';go_simp;with_reducible rfl
                  rotate_left;·simp only [Act.put,setIfInBounds_toArray,set_cons_zero,set_cons_succ,i64_w,i32_w];rfl
                  refine pure_ (i := 9) (N := some 45) (v := ?_) (a' := ?_) #[true,true,true,true,true,true,true,true,true,true,false,false,false,false,false,false,false,false,false,false,false,false,false,false,false,false,false,false,false,false,false,false] rfl rfl (any_of HT_.out (by kernel_rfl)) (fun _ _ _ h => h) (Or.inl ⟨by rfl,?_⟩) ?_ ?_
                  rotate_left;·intro w';go_simp;with_reducible rfl
                  rotate_left;·simp only [Act.put,setIfInBounds_toArray,set_cons_zero,set_cons_succ,i64_w,i32_w];rfl
                  refine pure_ (i := 11) (N := some 47) (v := ?_) (a' := ?_) #[true,true,true,true,true,true,true,true,true,true,false,true,false,false,false,false,false,false,false,false,false,false,false,false,false,false,false,false,false,false,false,false] rfl rfl (any_of HT_.out (by kernel_rfl)) (fun _ _ _ h => h) (Or.inl ⟨by rfl,?_⟩) ?_ ?_
                  rotate_left;·intro w';go_simp;with_reducible rfl
                  rotate_left;·simp only [Act.put,setIfInBounds_toArray,set_cons_zero,set_cons_succ,i64_w,i32_w];rfl
                  refine pure_ (i := 12) (N := some 48) (v := ?_) (a' := ?_) #[true,true,true,true,true,true,true,true,true,true,false,true,true,false,false,false,false,false,false,false,false,false,false,false,false,false,false,false,false,false,false,false] rfl rfl (any_of HT_.out (by kernel_rfl)) (fun _ _ _ h => h) (Or.inl ⟨by rfl,?_⟩) ?_ ?_
                  rotate_left;·intro w';go_simp;with_reducible rfl
                  rotate_left;·simp only [Act.put,setIfInBounds_toArray,set_cons_zero,set_cons_succ,i64_w,i32_w];rfl
                  refine take_ (i := 10) (N := some 46) (v := ?_) (a' := ?_) #[true,true,true,true,true,true,true,true,true,true,true,true,true,false,false,false,false,false,false,false,false,false,false,false,false,false,false,false,false,false,false,false] rfl rfl (take_ofW HT_.out HW_.out (by kernel_rfl)) (fun _ _ _ h => h) (Or.inl ⟨by rfl,?_⟩) hHeld ?_ ?_
                  rotate_left;·rintro w' ⟨s0,s1,s2⟩;go_simp;with_reducible rfl
                  rotate_left;·simp only [Act.put,setIfInBounds_toArray,set_cons_zero,set_cons_succ,i64_w,i32_w];rfl
                  refine take_ (i := 13) (N := some 49) (v := ?_) (a' := ?_) #[true,true,true,true,true,true,true,true,true,true,true,true,true,true,false,false,false,false,false,false,false,false,false,false,false,false,false,false,false,false,false,false] rfl rfl (take_ofW HT_.out HW_.out (by kernel_rfl)) (fun _ _ _ h => h) (Or.inl ⟨by rfl,?_⟩) hHeld ?_ ?_
                  rotate_left;·rintro w' ⟨s0,s1,s2⟩;go_simp;with_reducible rfl
                  rotate_left;·simp only [Act.put,setIfInBounds_toArray,set_cons_zero,set_cons_succ,i64_w,i32_w];rfl
                  refine one_ (i := 14) (N := some 50) #[true,true,true,true,true,true,true,true,true,true,true,true,true,true,true,false,false,false,false,false,false,false,false,false,false,false,false,false,false,false,false,false] rfl rfl (one_of HT_.out (by kernel_rfl)) (by decide) (fun K hK => ?_)
                  refine goes_ Try.func62 (by kernel_rfl) rfl #[.int .u8 (rd l0 0),.int .u8 (rd l0 1)] (by rfl) rfl rfl (by (try simp only [List.map_toArray,List.map_cons,List.map_nil]);first | done | rfl | (simp only [List.length_drop,List.length_take];rfl)) ?_
                  with_reducible refine (glyphcutterref02_second.calls (rd l0 0) (rd l0 1) true _ A19.out).mono ?_
                  rintro e w' ⟨rfl,⟨nd,rfl⟩⟩
                  refine ⟨_,rfl,?_⟩
                  refine hK.out _ _ ⟨((HB.out.cell (World.block_lt_of_cell? w _ hw303_0)).trans hw303_0),((HB.out.cell (World.block_lt_of_cell? w _ hw304_0)).trans hw304_0),((HB.out.cell (World.block_lt_of_cell? w _ hw306_0)).trans hw306_0)⟩ (fun hHeld => ?_)
                  clear hK K
                  refine norm_ (a' := ?_) ?_ ?_
                  rotate_left;·show Act.put _ (some 50) _ = _;simp only [Act.put,setIfInBounds_toArray,set_cons_zero,set_cons_succ,i64_w,i32_w];rfl
                  refine pure_ (i := 15) (N := some 51) (v := ?_) (a' := ?_) #[true,true,true,true,true,true,true,true,true,true,true,true,true,true,true,true,false,false,false,false,false,false,false,false,false,false,false,false,false,false,false,false] rfl rfl (any_of HT_.out (by kernel_rfl)) (fun _ _ _ h => h) (Or.inl ⟨by rfl,?_⟩) ?_ ?_
                  rotate_left;·intro w';go_simp;with_reducible rfl
                  rotate_left;·simp only [Act.put,setIfInBounds_toArray,set_cons_zero,set_cons_succ,i64_w,i32_w];rfl
                  refine pure_ (i := 16) (N := some 52) (v := ?_) (a' := ?_) #[true,true,true,true,true,true,true,true,true,true,true,true,true,true,true,true,true,false,false,false,false,false,false,false,false,false,false,false,false,false,false,false] rfl rfl (any_of HT_.out (by kernel_rfl)) (fun _ _ _ h => h) (Or.inl ⟨by rfl,?_⟩) ?_ ?_
                  rotate_left;·intro w';go_simp;with_reducible rfl
                  rotate_left;·simp only [Act.put,setIfInBounds_toArray,set_cons_zero,set_cons_succ,i64_w,i32_w];rfl
                  refine pure_ (i := 17) (N := some 53) (v := ?_) (a' := ?_) #[true,true,true,true,true,true,true,true,true,true,true,true,true,true,true,true,true,true,false,false,false,false,false,false,false,false,false,false,false,false,false,false] rfl rfl (any_of HT_.out (by kernel_rfl)) (fun _ _ _ h => h) (Or.inl ⟨by rfl,?_⟩) ?_ ?_
                  rotate_left;·intro w';go_simp;with_reducible rfl
                  rotate_left;·simp only [Act.put,setIfInBounds_toArray,set_cons_zero,set_cons_succ,i64_w,i32_w];rfl
                  refine pure_ (i := 18) (N := some 54) (v := ?_) (a' := ?_) #[true,true,true,true,true,true,true,true,true,true,true,true,true,true,true,true,true,true,true,false,false,false,false,false,false,false,false,false,false,false,false,false] rfl rfl (any_of HT_.out (by kernel_rfl)) (fun _ _ _ h => h) (Or.inl ⟨by rfl,?_⟩) ?_ ?_
                  rotate_left;·intro w';go_simp;with_reducible rfl
                  rotate_left;·simp only [Act.put,setIfInBounds_toArray,set_cons_zero,set_cons_succ,i64_w,i32_w];rfl
                  refine pure_ (i := 19) (N := some 55) (v := ?_) (a' := ?_) #[true,true,true,true,true,true,true,true,true,true,true,true,true,true,true,true,true,true,true,true,false,false,false,false,false,false,false,false,false,false,false,false] rfl rfl (any_of HT_.out (by kernel_rfl)) (fun _ _ _ h => h) (Or.inl ⟨by rfl,?_⟩) ?_ ?_
                  rotate_left;·intro w';go_simp;with_reducible rfl
                  rotate_left;·simp only [Act.put,setIfInBounds_toArray,set_cons_zero,set_cons_succ,i64_w,i32_w];rfl
                  refine pure_ (i := 20) (N := some 56) (v := ?_) (a' := ?_) #[true,true,true,true,true,true,true,true,true,true,true,true,true,true,true,true,true,true,true,true,true,false,false,false,false,false,false,false,false,false,false,false] rfl rfl (any_of HT_.out (by kernel_rfl)) (fun _ _ _ h => h) (Or.inl ⟨by rfl,?_⟩) ?_ ?_
                  rotate_left;·intro w';go_simp;with_reducible rfl
                  rotate_left;·simp only [Act.put,setIfInBounds_toArray,set_cons_zero,set_cons_succ,i64_w,i32_w];rfl
                  refine pure_ (i := 21) (N := some 57) (v := ?_) (a' := ?_) #[true,true,true,true,true,true,true,true,true,true,true,true,true,true,true,true,true,true,true,true,true,true,false,false,false,false,false,false,false,false,false,false] rfl rfl (any_of HT_.out (by kernel_rfl)) (fun _ _ _ h => h) (Or.inl ⟨by rfl,?_⟩) ?_ ?_
                  rotate_left;·intro w';go_simp;with_reducible rfl
                  rotate_left;·simp only [Act.put,setIfInBounds_toArray,set_cons_zero,set_cons_succ,i64_w,i32_w];rfl
                  refine take_ (i := 22) (N := some 58) (v := ?_) (a' := ?_) #[true,true,true,true,true,true,true,true,true,true,true,true,true,true,true,true,true,true,true,true,true,true,true,false,false,false,false,false,false,false,false,false] rfl rfl (take_ofW HT_.out HW_.out (by kernel_rfl)) (fun _ _ _ h => h) (Or.inl ⟨by rfl,?_⟩) hHeld ?_ ?_
                  rotate_left;·rintro w' ⟨s0,s1,s2⟩;go_simp;with_reducible rfl
                  rotate_left;·simp only [Act.put,setIfInBounds_toArray,set_cons_zero,set_cons_succ,i64_w,i32_w];rfl
                  refine pure_ (i := 23) (N := some 59) (v := ?_) (a' := ?_) #[true,true,true,true,true,true,true,true,true,true,true,true,true,true,true,true,true,true,true,true,true,true,true,true,false,false,false,false,false,false,false,false] rfl rfl (any_of HT_.out (by kernel_rfl)) (fun _ _ _ h => h) (Or.inl ⟨by rfl,?_⟩) ?_ ?_
                  rotate_left;·intro w';go_simp;with_reducible rfl
                  rotate_left;·simp only [Act.put,setIfInBounds_toArray,set_cons_zero,set_cons_succ,i64_w,i32_w];rfl
                  refine pure_ (i := 24) (N := some 60) (v := ?_) (a' := ?_) #[true,true,true,true,true,true,true,true,true,true,true,true,true,true,true,true,true,true,true,true,true,true,true,true,true,false,false,false,false,false,false,false] rfl rfl (any_of HT_.out (by kernel_rfl)) (fun _ _ _ h => h) (Or.inl ⟨by rfl,?_⟩) ?_ ?_
                  rotate_left;·intro w';go_simp;with_reducible rfl
                  rotate_left;·simp only [Act.put,setIfInBounds_toArray,set_cons_zero,set_cons_succ,i64_w,i32_w];rfl
                  refine pure_ (i := 25) (N := some 61) (v := ?_) (a' := ?_) #[true,true,true,true,true,true,true,true,true,true,true,true,true,true,true,true,true,true,true,true,true,true,true,true,true,true,false,false,false,false,false,false] rfl rfl (any_of HT_.out (by kernel_rfl)) (fun _ _ _ h => h) (Or.inl ⟨by rfl,?_⟩) ?_ ?_
                  rotate_left;·intro w';go_simp;with_reducible rfl
                  rotate_left;·simp only [Act.put,setIfInBounds_toArray,set_cons_zero,set_cons_succ,i64_w,i32_w];rfl
                  refine pure_ (i := 26) (N := some 62) (v := undef) (a' := ?_) #[true,true,true,true,true,true,true,true,true,true,true,true,true,true,true,true,true,true,true,true,true,true,true,true,true,true,true,false,false,false,false,false] rfl rfl (any_of HT_.out (by kernel_rfl)) (fun _ _ _ h => h) (Or.inr ⟨by rfl,rfl⟩) ?_ ?_
                  rotate_left;·simp only [Act.put,setIfInBounds_toArray,set_cons_zero,set_cons_succ,i64_w,i32_w];rfl
                  refine pure_ (i := 27) (N := some 63) (v := undef) (a' := ?_) #[true,true,true,true,true,true,true,true,true,true,true,true,true,true,true,true,true,true,true,true,true,true,true,true,true,true,true,true,false,false,false,false] rfl rfl (any_of HT_.out (by kernel_rfl)) (fun _ _ _ h => h) (Or.inr ⟨by rfl,rfl⟩) ?_ ?_
                  rotate_left;·simp only [Act.put,setIfInBounds_toArray,set_cons_zero,set_cons_succ,i64_w,i32_w];rfl
                  refine pure_ (i := 28) (N := some 64) (v := undef) (a' := ?_) #[true,true,true,true,true,true,true,true,true,true,true,true,true,true,true,true,true,true,true,true,true,true,true,true,true,true,true,true,true,false,false,false] rfl rfl (any_of HT_.out (by kernel_rfl)) (fun _ _ _ h => h) (Or.inr ⟨by rfl,rfl⟩) ?_ ?_
                  rotate_left;·simp only [Act.put,setIfInBounds_toArray,set_cons_zero,set_cons_succ,i64_w,i32_w];rfl
                  refine pure_ (i := 29) (N := some 65) (v := undef) (a' := ?_) #[true,true,true,true,true,true,true,true,true,true,true,true,true,true,true,true,true,true,true,true,true,true,true,true,true,true,true,true,true,true,false,false] rfl rfl (any_of HT_.out (by kernel_rfl)) (fun _ _ _ h => h) (Or.inr ⟨by rfl,rfl⟩) ?_ ?_
                  rotate_left;·simp only [Act.put,setIfInBounds_toArray,set_cons_zero,set_cons_succ,i64_w,i32_w];rfl
                  refine pure_ (i := 30) (N := some 66) (v := undef) (a' := ?_) #[true,true,true,true,true,true,true,true,true,true,true,true,true,true,true,true,true,true,true,true,true,true,true,true,true,true,true,true,true,true,true,false] rfl rfl (any_of HT_.out (by kernel_rfl)) (fun _ _ _ h => h) (Or.inr ⟨by rfl,rfl⟩) ?_ ?_
                  rotate_left;·simp only [Act.put,setIfInBounds_toArray,set_cons_zero,set_cons_succ,i64_w,i32_w];rfl
                  refine pure_ (i := 31) (N := some 67) (v := ?_) (a' := ?_) #[true,true,true,true,true,true,true,true,true,true,true,true,true,true,true,true,true,true,true,true,true,true,true,true,true,true,true,true,true,true,true,true] rfl rfl (any_of HT_.out (by kernel_rfl)) (fun _ _ _ h => h) (Or.inl ⟨by rfl,?_⟩) ?_ ?_
                  rotate_left;·intro w';go_simp;with_reducible rfl
                  rotate_left;·simp only [Act.put,setIfInBounds_toArray,set_cons_zero,set_cons_succ,i64_w,i32_w];rfl
                  refine done_ (done_of HT_.out (by kernel_rfl)) ?_
                  try go_wp2
                  go_ret2
                  exact ⟨by first | rfl | (simp [errW_none,errW_some] <;> rfl) | (simp [*,errW_none,errW_some] <;> rfl),by repeat (first | (with_reducible first | exact HB.out | apply below_alloc | apply pw_below_drewN | apply below_drew1) | exact HB.out)⟩
                 ·rw [if_neg c23] at H
                  have c23b0 : decide ((rd l0 x6_1) < 128) = false := decide_eq_false c23
                  clear c23
                  by_cases c25 : (rd l0 x6_1) > 191
                  ·rw [if_pos c25] at H
                   have c25b0 : decide (191 < (rd l0 x6_1)) = true := decide_eq_true c25
                   clear c25
                   simp only [Option.some.injEq,Prod.mk.injEq] at H
                   obtain ⟨rfl,rfl⟩ := H
                   try go_wp2
                   have n0_ := Aside0.mk (below_drew1 HB.out)
                   clear HB
                   have HB := n0_
                   clear n0_
                   have p303 : 0 ≤ (0 : Int) := (by omega)
                   have q303 : 0 < (l0.length : Int) := of_decide_eq_true (by first | (with_reducible assumption) | assumption)
                   obtain ⟨ad303,e303,hx303_0⟩ := Kd.at_int HR0.out 0 p303 q303
                   have hw303_0 := hx303_0
                   (try rw [show ((0 : Int)).toNat = 0 from rfl] at hw303_0)
                   (try rw [show 0 * 1 = 0 from rfl] at hw303_0)
                   (try rw [Addr.add_zero'] at hw303_0)
                   obtain rfl : ad295 = ad303 := (by injection e303)
                   have qi303 : (0 < l0.length) = True := eq_true (by omega)
                   (try rw [show ((0 : Int)).toNat = 0 from rfl] at hx303_0)
                   (try rw [Addr.add_zero'] at hx303_0)
                   replace hx303_0 := (HB.out.cell (World.block_lt_of_cell? w _ hx303_0)).trans hx303_0
                   replace p303 := eq_true p303
                   replace q303 := eq_true q303
                   have p304 : 0 ≤ (1 : Int) := (by omega)
                   have q304 : 1 < (l0.length : Int) := of_decide_eq_true (by first | (with_reducible assumption) | assumption)
                   obtain ⟨ad304,e304,hx304_0⟩ := Kd.at_int HR0.out 1 p304 q304
                   have hw304_0 := hx304_0
                   (try rw [show ((1 : Int)).toNat = 1 from rfl] at hw304_0)
                   (try rw [show 1 * 1 = 1 from rfl] at hw304_0)
                   (try simp only [Nat.reduceMul,Nat.reduceEqDiff,Go.Addr.add,↓reduceIte] at hw304_0)
                   obtain rfl : ad295 = ad304 := (by injection e304)
                   (try simp only [show (1 : Int).toNat = 1 from rfl,Nat.reduceMul,Nat.reduceEqDiff,Go.Addr.add,↓reduceIte] at hx304_0)
                   have qi304 : (1 < l0.length) = True := eq_true (by omega)
                   (try rw [show ((1 : Int)).toNat = 1 from rfl] at hx304_0)
                   replace hx304_0 := (HB.out.cell (World.block_lt_of_cell? w _ hx304_0)).trans hx304_0
                   replace p304 := eq_true p304
                   replace q304 := eq_true q304
                   have p306 : 0 ≤ (x6_1 : Int) := of_decide_eq_true (by first | (with_reducible assumption) | assumption)
                   have q306 : x6_1 < (l0.length : Int) := of_decide_eq_true (by first | (with_reducible assumption) | assumption)
                   obtain ⟨ad306,e306,hx306_0⟩ := Kd.at_int HR0.out x6_1 p306 q306
                   have hw306_0 := hx306_0
                   obtain rfl : ad295 = ad306 := (by injection e306)
                   replace hx306_0 := (HB.out.cell (World.block_lt_of_cell? w _ hx306_0)).trans hx306_0
                   replace p306 := eq_true p306
                   replace q306 := eq_true q306
                   have p307 : 0 ≤ (x6_1 : Int) := of_decide_eq_true (by first | (with_reducible assumption) | assumption)
                   have q307 : x6_1 < (l0.length : Int) := of_decide_eq_true (by first | (with_reducible assumption) | assumption)
                   obtain ⟨ad307,e307,hx307_0⟩ := Kd.at_int HR0.out x6_1 p307 q307
                   have hw307_0 := hx307_0
                   obtain rfl : ad295 = ad307 := (by injection e307)
                   replace hx307_0 := (HB.out.cell (World.block_lt_of_cell? w _ hx307_0)).trans hx307_0
                   replace p307 := eq_true p307
                   replace q307 := eq_true q307
                   refine start_ (n := 32) (S := fun w' => w'.cell? ad295 = some (.int .u8 (rd l0 0)) ∧ w'.cell? ⟨ad295.block,ad295.off + 1,none⟩ = some (.int .u8 (rd l0 1)) ∧ w'.cell? (ad295.add (x6_1).toNat) = some (.int .u8 (rd l0 x6_1)) ∧ w'.cell? (ad295.add (x6_1).toNat) = some (.int .u8 (rd l0 x6_1))) (ds := []) #[false,false,false,false,false,false,false,false,false,false,false,false,false,false,false,false,false,false,false,false,false,false,false,false,false,false,false,false,false,false,false,false] (by kernel_rfl) rfl rfl ⟨((HB.out.cell (World.block_lt_of_cell? w _ hw303_0)).trans hw303_0),((HB.out.cell (World.block_lt_of_cell? w _ hw304_0)).trans hw304_0),((HB.out.cell (World.block_lt_of_cell? w _ hw306_0)).trans hw306_0),((HB.out.cell (World.block_lt_of_cell? w _ hw307_0)).trans hw307_0)⟩ (fun hHeld => ?_);refine with_tabW glyphcutterref02_Decode.tab12 glyphcutterref02_Decode.bits12 (fun HT_ HW_ => ?_)
                   generalize wr.drew = w26 at HB hx303_0 hx304_0 hx306_0 hx307_0 hHeld ⊢
                   refine pure_ (i := 0) (N := some 36) (v := ?_) (a' := ?_) #[true,false,false,false,false,false,false,false,false,false,false,false,false,false,false,false,false,false,false,false,false,false,false,false,false,false,false,false,false,false,false,false] rfl rfl (any_of HT_.out (by kernel_rfl)) (fun _ _ _ h => h) (Or.inl ⟨by rfl,?_⟩) ?_ ?_
                   rotate_left;·intro w';go_simp;with_reducible rfl
                   rotate_left;·simp only [Act.put,setIfInBounds_toArray,set_cons_zero,set_cons_succ,i64_w,i32_w];rfl
                   refine pure_ (i := 1) (N := some 37) (v := ?_) (a' := ?_) #[true,true,false,false,false,false,false,false,false,false,false,false,false,false,false,false,false,false,false,false,false,false,false,false,false,false,false,false,false,false,false,false] rfl rfl (any_of HT_.out (by kernel_rfl)) (fun _ _ _ h => h) (Or.inl ⟨by rfl,?_⟩) ?_ ?_
                   rotate_left;·intro w';go_simp;with_reducible rfl
                   rotate_left;·simp only [Act.put,setIfInBounds_toArray,set_cons_zero,set_cons_succ,i64_w,i32_w];rfl
                   refine pure_ (i := 2) (N := some 38) (v := ?_) (a' := ?_) #[true,true,true,false,false,false,false,false,false,false,false,false,false,false,false,false,false,false,false,false,false,false,false,false,false,false,false,false,false,false,false,false] rfl rfl (any_of HT_.out (by kernel_rfl)) (fun _ _ _ h => h) (Or.inl ⟨by rfl,?_⟩) ?_ ?_
                   rotate_left;·intro w';go_simp;with_reducible rfl
                   rotate_left;·simp only [Act.put,setIfInBounds_toArray,set_cons_zero,set_cons_succ,i64_w,i32_w];rfl
                   refine pure_ (i := 3) (N := some 39) (v := ?_) (a' := ?_) #[true,true,true,true,false,false,false,false,false,false,false,false,false,false,false,false,false,false,false,false,false,false,false,false,false,false,false,false,false,false,false,false] rfl rfl (any_of HT_.out (by kernel_rfl)) (fun _ _ _ h => h) (Or.inl ⟨by rfl,?_⟩) ?_ ?_
                   rotate_left;·intro w';go_simp;with_reducible rfl
                   rotate_left;·simp only [Act.put,setIfInBounds_toArray,set_cons_zero,set_cons_succ,i64_w,i32_w];rfl
                   refine pure_ (i := 4) (N := some 40) (v := ?_) (a' := ?_) #[true,true,true,true,true,false,false,false,false,false,false,false,false,false,false,false,false,false,false,false,false,false,false,false,false,false,false,false,false,false,false,false] rfl rfl (any_of HT_.out (by kernel_rfl)) (fun _ _ _ h => h) (Or.inl ⟨by rfl,?_⟩) ?_ ?_
                   rotate_left;·intro w';go_simp;with_reducible rfl
                   rotate_left;·simp only [Act.put,setIfInBounds_toArray,set_cons_zero,set_cons_succ,i64_w,i32_w];rfl
                   refine pure_ (i := 5) (N := some 41) (v := ?_) (a' := ?_) #[true,true,true,true,true,true,false,false,false,false,false,false,false,false,false,false,false,false,false,false,false,false,false,false,false,false,false,false,false,false,false,false] rfl rfl (any_of HT_.out (by kernel_rfl)) (fun _ _ _ h => h) (Or.inl ⟨by rfl,?_⟩) ?_ ?_
                   rotate_left;·intro w';go_simp;with_reducible rfl
                   rotate_left;·simp only [Act.put,setIfInBounds_toArray,set_cons_zero,set_cons_succ,i64_w,i32_w];rfl
                   refine pure_ (i := 6) (N := some 42) (v := ?_) (a' := ?_) #[true,true,true,true,true,true,true,false,false,false,false,false,false,false,false,false,false,false,false,false,false,false,false,false,false,false,false,false,false,false,false,false] rfl rfl (any_of HT_.out (by kernel_rfl)) (fun _ _ _ h => h) (Or.inl ⟨by rfl,?_⟩) ?_ ?_
                   rotate_left;·intro w';go_simp;with_reducible rfl
                   rotate_left;·simp only [Act.put,setIfInBounds_toArray,set_cons_zero,set_cons_succ,i64_w,i32_w];rfl
                   refine pure_ (i := 7) (N := some 43) (v := ?_) (a' := ?_) #[true,true,true,true,true,true,true,true,false,false,false,false,false,false,false,false,false,false,false,false,false,false,false,false,false,false,false,false,false,false,false,false] rfl rfl (any_of HT_.out (by kernel_rfl)) (fun _ _ _ h => h) (Or.inl ⟨by rfl,?_⟩) ?_ ?_
                   rotate_left;·intro w';go_simp;with_reducible rfl
                   rotate_left;·simp only [Act.put,setIfInBounds_toArray,set_cons_zero,set_cons_succ,i64_w,i32_w];rfl
                   refine pure_ (i := 8) (N := some 44) (v := ?_) (a' := ?_) #[true,true,true,true,true,true,true,true,true,false,false,false,false,false,false,false,false,false,false,false,false,false,false,false,false,false,false,false,false,false,false,false] rfl rfl (any_of HT_.out (by kernel_rfl)) (fun _ _ _ h => h) (Or.inl ⟨by rfl,?_⟩) ?_ ?_
                   rotate_left;·intro w';go_simp;with_reducible rfl
                   rotate_left;·simp only [Act.put,setIfInBounds_toArray,set_cons_zero,set_cons_succ,i64_w,i32_w];rfl
                   refine pure_ (i := 9) (N := some 45) (v := ?_) (a' := ?_) #[true,true,true,true,true,true,true,true,true,true,false,false,false,false,false,false,false,false,false,false,false,false,false,false,false,false,false,false,false,false,false,false] rfl rfl (any_of HT_.out (by kernel_rfl)) (fun _ _ _ h => h) (Or.inl ⟨by rfl,?_⟩) ?_ ?_
                   rotate_left;·intro w';go_simp;with_reducible rfl
                   rotate_left;·simp only [Act.put,setIfInBounds_toArray,set_cons_zero,set_cons_succ,i64_w,i32_w];rfl
                   refine pure_ (i := 11) (N := some 47) (v := ?_) (a' := ?_) #[true,true,true,true,true,true,true,true,true,true,false,true,false,false,false,false,false,false,false,false,false,false,false,false,false,false,false,false,false,false,false,false] rfl rfl (any_of HT_.out (by kernel_rfl)) (fun _ _ _ h => h) (Or.inl ⟨by rfl,?_⟩) ?_ ?_
                   rotate_left;·intro w';go_simp;with_reducible rfl
                   rotate_left;·simp only [Act.put,setIfInBounds_toArray,set_cons_zero,set_cons_succ,i64_w,i32_w];rfl
                   refine pure_ (i := 12) (N := some 48) (v := ?_) (a' := ?_) #[true,true,true,true,true,true,true,true,true,true,false,true,true,false,false,false,false,false,false,false,false,false,false,false,false,false,false,false,false,false,false,false] rfl rfl (any_of HT_.out (by kernel_rfl)) (fun _ _ _ h => h) (Or.inl ⟨by rfl,?_⟩) ?_ ?_
                   rotate_left;·intro w';go_simp;with_reducible rfl
                   rotate_left;·simp only [Act.put,setIfInBounds_toArray,set_cons_zero,set_cons_succ,i64_w,i32_w];rfl
                   refine take_ (i := 10) (N := some 46) (v := ?_) (a' := ?_) #[true,true,true,true,true,true,true,true,true,true,true,true,true,false,false,false,false,false,false,false,false,false,false,false,false,false,false,false,false,false,false,false] rfl rfl (take_ofW HT_.out HW_.out (by kernel_rfl)) (fun _ _ _ h => h) (Or.inl ⟨by rfl,?_⟩) hHeld ?_ ?_
                   rotate_left;·rintro w' ⟨s0,s1,s2,s3⟩;go_simp;with_reducible rfl
                   rotate_left;·simp only [Act.put,setIfInBounds_toArray,set_cons_zero,set_cons_succ,i64_w,i32_w];rfl
                   refine take_ (i := 13) (N := some 49) (v := ?_) (a' := ?_) #[true,true,true,true,true,true,true,true,true,true,true,true,true,true,false,false,false,false,false,false,false,false,false,false,false,false,false,false,false,false,false,false] rfl rfl (take_ofW HT_.out HW_.out (by kernel_rfl)) (fun _ _ _ h => h) (Or.inl ⟨by rfl,?_⟩) hHeld ?_ ?_
                   rotate_left;·rintro w' ⟨s0,s1,s2,s3⟩;go_simp;with_reducible rfl
                   rotate_left;·simp only [Act.put,setIfInBounds_toArray,set_cons_zero,set_cons_succ,i64_w,i32_w];rfl
                   refine one_ (i := 14) (N := some 50) #[true,true,true,true,true,true,true,true,true,true,true,true,true,true,true,false,false,false,false,false,false,false,false,false,false,false,false,false,false,false,false,false] rfl rfl (one_of HT_.out (by kernel_rfl)) (by decide) (fun K hK => ?_)
                   refine goes_ Try.func62 (by kernel_rfl) rfl #[.int .u8 (rd l0 0),.int .u8 (rd l0 1)] (by rfl) rfl rfl (by (try simp only [List.map_toArray,List.map_cons,List.map_nil]);first | done | rfl | (simp only [List.length_drop,List.length_take];rfl)) ?_
                   with_reducible refine (glyphcutterref02_second.calls (rd l0 0) (rd l0 1) true _ A19.out).mono ?_
                   rintro e w' ⟨rfl,⟨nd,rfl⟩⟩
                   refine ⟨_,rfl,?_⟩
                   refine hK.out _ _ ⟨((HB.out.cell (World.block_lt_of_cell? w _ hw303_0)).trans hw303_0),((HB.out.cell (World.block_lt_of_cell? w _ hw304_0)).trans hw304_0),((HB.out.cell (World.block_lt_of_cell? w _ hw306_0)).trans hw306_0),((HB.out.cell (World.block_lt_of_cell? w _ hw307_0)).trans hw307_0)⟩ (fun hHeld => ?_)
                   clear hK K
                   refine norm_ (a' := ?_) ?_ ?_
                   rotate_left;·show Act.put _ (some 50) _ = _;simp only [Act.put,setIfInBounds_toArray,set_cons_zero,set_cons_succ,i64_w,i32_w];rfl
                   refine pure_ (i := 15) (N := some 51) (v := ?_) (a' := ?_) #[true,true,true,true,true,true,true,true,true,true,true,true,true,true,true,true,false,false,false,false,false,false,false,false,false,false,false,false,false,false,false,false] rfl rfl (any_of HT_.out (by kernel_rfl)) (fun _ _ _ h => h) (Or.inl ⟨by rfl,?_⟩) ?_ ?_
                   rotate_left;·intro w';go_simp;with_reducible rfl
                   rotate_left;·simp only [Act.put,setIfInBounds_toArray,set_cons_zero,set_cons_succ,i64_w,i32_w];rfl
                   refine pure_ (i := 16) (N := some 52) (v := ?_) (a' := ?_) #[true,true,true,true,true,true,true,true,true,true,true,true,true,true,true,true,true,false,false,false,false,false,false,false,false,false,false,false,false,false,false,false] rfl rfl (any_of HT_.out (by kernel_rfl)) (fun _ _ _ h => h) (Or.inl ⟨by rfl,?_⟩) ?_ ?_
                   rotate_left;·intro w';go_simp;with_reducible rfl
                   rotate_left;·simp only [Act.put,setIfInBounds_toArray,set_cons_zero,set_cons_succ,i64_w,i32_w];rfl
                   refine pure_ (i := 17) (N := some 53) (v := ?_) (a' := ?_) #[true,true,true,true,true,true,true,true,true,true,true,true,true,true,true,true,true,true,false,false,false,false,false,false,false,false,false,false,false,false,false,false] rfl rfl (any_of HT_.out (by kernel_rfl)) (fun _ _ _ h => h) (Or.inl ⟨by rfl,?_⟩) ?_ ?_
                   rotate_left;·intro w';go_simp;with_reducible rfl
                   rotate_left;·simp only [Act.put,setIfInBounds_toArray,set_cons_zero,set_cons_succ,i64_w,i32_w];rfl
                   refine pure_ (i := 18) (N := some 54) (v := ?_) (a' := ?_) #[true,true,true,true,true,true,true,true,true,true,true,true,true,true,true,true,true,true,true,false,false,false,false,false,false,false,false,false,false,false,false,false] rfl rfl (any_of HT_.out (by kernel_rfl)) (fun _ _ _ h => h) (Or.inl ⟨by rfl,?_⟩) ?_ ?_
                   rotate_left;·intro w';go_simp;with_reducible rfl
                   rotate_left;·simp only [Act.put,setIfInBounds_toArray,set_cons_zero,set_cons_succ,i64_w,i32_w];rfl
                   refine pure_ (i := 19) (N := some 55) (v := ?_) (a' := ?_) #[true,true,true,true,true,true,true,true,true,true,true,true,true,true,true,true,true,true,true,true,false,false,false,false,false,false,false,false,false,false,false,false] rfl rfl (any_of HT_.out (by kernel_rfl)) (fun _ _ _ h => h) (Or.inl ⟨by rfl,?_⟩) ?_ ?_
                   rotate_left;·intro w';go_simp;with_reducible rfl
                   rotate_left;·simp only [Act.put,setIfInBounds_toArray,set_cons_zero,set_cons_succ,i64_w,i32_w];rfl
                   refine pure_ (i := 20) (N := some 56) (v := ?_) (a' := ?_) #[true,true,true,true,true,true,true,true,true,true,true,true,true,true,true,true,true,true,true,true,true,false,false,false,false,false,false,false,false,false,false,false] rfl rfl (any_of HT_.out (by kernel_rfl)) (fun _ _ _ h => h) (Or.inl ⟨by rfl,?_⟩) ?_ ?_
                   rotate_left;·intro w';go_simp;with_reducible rfl
                   rotate_left;·simp only [Act.put,setIfInBounds_toArray,set_cons_zero,set_cons_succ,i64_w,i32_w];rfl
                   refine pure_ (i := 21) (N := some 57) (v := ?_) (a' := ?_) #[true,true,true,true,true,true,true,true,true,true,true,true,true,true,true,true,true,true,true,true,true,true,false,false,false,false,false,false,false,false,false,false] rfl rfl (any_of HT_.out (by kernel_rfl)) (fun _ _ _ h => h) (Or.inl ⟨by rfl,?_⟩) ?_ ?_
                   rotate_left;·intro w';go_simp;with_reducible rfl
                   rotate_left;·simp only [Act.put,setIfInBounds_toArray,set_cons_zero,set_cons_succ,i64_w,i32_w];rfl
                   refine take_ (i := 22) (N := some 58) (v := ?_) (a' := ?_) #[true,true,true,true,true,true,true,true,true,true,true,true,true,true,true,true,true,true,true,true,true,true,true,false,false,false,false,false,false,false,false,false] rfl rfl (take_ofW HT_.out HW_.out (by kernel_rfl)) (fun _ _ _ h => h) (Or.inl ⟨by rfl,?_⟩) hHeld ?_ ?_
                   rotate_left;·rintro w' ⟨s0,s1,s2,s3⟩;go_simp;with_reducible rfl
                   rotate_left;·simp only [Act.put,setIfInBounds_toArray,set_cons_zero,set_cons_succ,i64_w,i32_w];rfl
                   refine pure_ (i := 23) (N := some 59) (v := ?_) (a' := ?_) #[true,true,true,true,true,true,true,true,true,true,true,true,true,true,true,true,true,true,true,true,true,true,true,true,false,false,false,false,false,false,false,false] rfl rfl (any_of HT_.out (by kernel_rfl)) (fun _ _ _ h => h) (Or.inl ⟨by rfl,?_⟩) ?_ ?_
                   rotate_left;·intro w';go_simp;with_reducible rfl
                   rotate_left;·simp only [Act.put,setIfInBounds_toArray,set_cons_zero,set_cons_succ,i64_w,i32_w];rfl
                   refine pure_ (i := 24) (N := some 60) (v := ?_) (a' := ?_) #[true,true,true,true,true,true,true,true,true,true,true,true,true,true,true,true,true,true,true,true,true,true,true,true,true,false,false,false,false,false,false,false] rfl rfl (any_of HT_.out (by kernel_rfl)) (fun _ _ _ h => h) (Or.inl ⟨by rfl,?_⟩) ?_ ?_
                   rotate_left;·intro w';go_simp;with_reducible rfl
                   rotate_left;·simp only [Act.put,setIfInBounds_toArray,set_cons_zero,set_cons_succ,i64_w,i32_w];rfl
                   refine pure_ (i := 25) (N := some 61) (v := ?_) (a' := ?_) #[true,true,true,true,true,true,true,true,true,true,true,true,true,true,true,true,true,true,true,true,true,true,true,true,true,true,false,false,false,false,false,false] rfl rfl (any_of HT_.out (by kernel_rfl)) (fun _ _ _ h => h) (Or.inl ⟨by rfl,?_⟩) ?_ ?_
                   rotate_left;·intro w';go_simp;with_reducible rfl
                   rotate_left;·simp only [Act.put,setIfInBounds_toArray,set_cons_zero,set_cons_succ,i64_w,i32_w];rfl
                   refine pure_ (i := 26) (N := some 62) (v := ?_) (a' := ?_) #[true,true,true,true,true,true,true,true,true,true,true,true,true,true,true,true,true,true,true,true,true,true,true,true,true,true,true,false,false,false,false,false] rfl rfl (any_of HT_.out (by kernel_rfl)) (fun _ _ _ h => h) (Or.inl ⟨by rfl,?_⟩) ?_ ?_
                   rotate_left;·intro w';go_simp;with_reducible rfl
                   rotate_left;·simp only [Act.put,setIfInBounds_toArray,set_cons_zero,set_cons_succ,i64_w,i32_w];rfl
                   refine pure_ (i := 27) (N := some 63) (v := ?_) (a' := ?_) #[true,true,true,true,true,true,true,true,true,true,true,true,true,true,true,true,true,true,true,true,true,true,true,true,true,true,true,true,false,false,false,false] rfl rfl (any_of HT_.out (by kernel_rfl)) (fun _ _ _ h => h) (Or.inl ⟨by rfl,?_⟩) ?_ ?_
                   rotate_left;·intro w';go_simp;with_reducible rfl
                   rotate_left;·simp only [Act.put,setIfInBounds_toArray,set_cons_zero,set_cons_succ,i64_w,i32_w];rfl
                   refine pure_ (i := 28) (N := some 64) (v := ?_) (a' := ?_) #[true,true,true,true,true,true,true,true,true,true,true,true,true,true,true,true,true,true,true,true,true,true,true,true,true,true,true,true,true,false,false,false] rfl rfl (any_of HT_.out (by kernel_rfl)) (fun _ _ _ h => h) (Or.inl ⟨by rfl,?_⟩) ?_ ?_
                   rotate_left;·intro w';go_simp;with_reducible rfl
                   rotate_left;·simp only [Act.put,setIfInBounds_toArray,set_cons_zero,set_cons_succ,i64_w,i32_w];rfl
                   refine take_ (i := 29) (N := some 65) (v := ?_) (a' := ?_) #[true,true,true,true,true,true,true,true,true,true,true,true,true,true,true,true,true,true,true,true,true,true,true,true,true,true,true,true,true,true,false,false] rfl rfl (take_ofW HT_.out HW_.out (by kernel_rfl)) (fun _ _ _ h => h) (Or.inl ⟨by rfl,?_⟩) hHeld ?_ ?_
                   rotate_left;·rintro w' ⟨s0,s1,s2,s3⟩;go_simp;with_reducible rfl
                   rotate_left;·simp only [Act.put,setIfInBounds_toArray,set_cons_zero,set_cons_succ,i64_w,i32_w];rfl
                   refine pure_ (i := 30) (N := some 66) (v := ?_) (a' := ?_) #[true,true,true,true,true,true,true,true,true,true,true,true,true,true,true,true,true,true,true,true,true,true,true,true,true,true,true,true,true,true,true,false] rfl rfl (any_of HT_.out (by kernel_rfl)) (fun _ _ _ h => h) (Or.inl ⟨by rfl,?_⟩) ?_ ?_
                   rotate_left;·intro w';go_simp;with_reducible rfl
                   rotate_left;·simp only [Act.put,setIfInBounds_toArray,set_cons_zero,set_cons_succ,i64_w,i32_w];rfl
                   refine pure_ (i := 31) (N := some 67) (v := ?_) (a' := ?_) #[true,true,true,true,true,true,true,true,true,true,true,true,true,true,true,true,true,true,true,true,true,true,true,true,true,true,true,true,true,true,true,true] rfl rfl (any_of HT_.out (by kernel_rfl)) (fun _ _ _ h => h) (Or.inl ⟨by rfl,?_⟩) ?_ ?_
                   rotate_left;·intro w';go_simp;with_reducible rfl
                   rotate_left;·simp only [Act.put,setIfInBounds_toArray,set_cons_zero,set_cons_succ,i64_w,i32_w];rfl
                   refine done_ (done_of HT_.out (by kernel_rfl)) ?_
                   try go_wp2
                   go_ret2
                   exact ⟨by first | rfl | (simp [errW_none,errW_some] <;> rfl) | (simp [*,errW_none,errW_some] <;> rfl),by repeat (first | (with_reducible first | exact HB.out | apply below_alloc | apply pw_below_drewN | apply below_drew1) | exact HB.out)⟩
                  ·rw [if_neg c25] at H
                   have c25b0 : decide (191 < (rd l0 x6_1)) = false := decide_eq_false c25
                   clear c25
                   have H' := Aside0.mk H
                   clear H
                   try go_wp2
                   have n0_ := Aside0.mk (below_drew1 HB.out)
                   clear HB
                   have HB := n0_
                   clear n0_
                   have p303 : 0 ≤ (0 : Int) := (by omega)
                   have q303 : 0 < (l0.length : Int) := of_decide_eq_true (by first | (with_reducible assumption) | assumption)
                   obtain ⟨ad303,e303,hx303_0⟩ := Kd.at_int HR0.out 0 p303 q303
                   have hw303_0 := hx303_0
                   (try rw [show ((0 : Int)).toNat = 0 from rfl] at hw303_0)
                   (try rw [show 0 * 1 = 0 from rfl] at hw303_0)
                   (try rw [Addr.add_zero'] at hw303_0)
                   obtain rfl : ad295 = ad303 := (by injection e303)
                   have qi303 : (0 < l0.length) = True := eq_true (by omega)
                   (try rw [show ((0 : Int)).toNat = 0 from rfl] at hx303_0)
                   (try rw [Addr.add_zero'] at hx303_0)
                   replace hx303_0 := (HB.out.cell (World.block_lt_of_cell? w _ hx303_0)).trans hx303_0
                   replace p303 := eq_true p303
                   replace q303 := eq_true q303
                   have p304 : 0 ≤ (1 : Int) := (by omega)
                   have q304 : 1 < (l0.length : Int) := of_decide_eq_true (by first | (with_reducible assumption) | assumption)
                   obtain ⟨ad304,e304,hx304_0⟩ := Kd.at_int HR0.out 1 p304 q304
                   have hw304_0 := hx304_0
                   (try rw [show ((1 : Int)).toNat = 1 from rfl] at hw304_0)
                   (try rw [show 1 * 1 = 1 from rfl] at hw304_0)
                   (try simp only [Nat.reduceMul,Nat.reduceEqDiff,Go.Addr.add,↓reduceIte] at hw304_0)
                   obtain rfl : ad295 = ad304 := (by injection e304)
                   (try simp only [show (1 : Int).toNat = 1 from rfl,Nat.reduceMul,Nat.reduceEqDiff,Go.Addr.add,↓reduceIte] at hx304_0)
                   have qi304 : (1 < l0.length) = True := eq_true (by omega)
                   (try rw [show ((1 : Int)).toNat = 1 from rfl] at hx304_0)
                   replace hx304_0 := (HB.out.cell (World.block_lt_of_cell? w _ hx304_0)).trans hx304_0
                   replace p304 := eq_true p304
                   replace q304 := eq_true q304
                   have p306 : 0 ≤ (x6_1 : Int) := of_decide_eq_true (by first | (with_reducible assumption) | assumption)
                   have q306 : x6_1 < (l0.length : Int) := of_decide_eq_true (by first | (with_reducible assumption) | assumption)
                   obtain ⟨ad306,e306,hx306_0⟩ := Kd.at_int HR0.out x6_1 p306 q306
                   have hw306_0 := hx306_0
                   obtain rfl : ad295 = ad306 := (by injection e306)
                   replace hx306_0 := (HB.out.cell (World.block_lt_of_cell? w _ hx306_0)).trans hx306_0
                   replace p306 := eq_true p306
                   replace q306 := eq_true q306
                   have p307 : 0 ≤ (x6_1 : Int) := of_decide_eq_true (by first | (with_reducible assumption) | assumption)
                   have q307 : x6_1 < (l0.length : Int) := of_decide_eq_true (by first | (with_reducible assumption) | assumption)
                   obtain ⟨ad307,e307,hx307_0⟩ := Kd.at_int HR0.out x6_1 p307 q307
                   have hw307_0 := hx307_0
                   obtain rfl : ad295 = ad307 := (by injection e307)
                   replace hx307_0 := (HB.out.cell (World.block_lt_of_cell? w _ hx307_0)).trans hx307_0
                   replace p307 := eq_true p307
                   replace q307 := eq_true q307
                   refine start_ (n := 32) (S := fun w' => w'.cell? ad295 = some (.int .u8 (rd l0 0)) ∧ w'.cell? ⟨ad295.block,ad295.off + 1,none⟩ = some (.int .u8 (rd l0 1)) ∧ w'.cell? (ad295.add (x6_1).toNat) = some (.int .u8 (rd l0 x6_1)) ∧ w'.cell? (ad295.add (x6_1).toNat) = some (.int .u8 (rd l0 x6_1))) (ds := []) #[false,false,false,false,false,false,false,false,false,false,false,false,false,false,false,false,false,false,false,false,false,false,false,false,false,false,false,false,false,false,false,false] (by kernel_rfl) rfl rfl ⟨((HB.out.cell (World.block_lt_of_cell? w _ hw303_0)).trans hw303_0),((HB.out.cell (World.block_lt_of_cell? w _ hw304_0)).trans hw304_0),((HB.out.cell (World.block_lt_of_cell? w _ hw306_0)).trans hw306_0),((HB.out.cell (World.block_lt_of_cell? w _ hw307_0)).trans hw307_0)⟩ (fun hHeld => ?_);refine with_tabW glyphcutterref02_Decode.tab12 glyphcutterref02_Decode.bits12 (fun HT_ HW_ => ?_)
                   generalize wr.drew = w27 at HB hx303_0 hx304_0 hx306_0 hx307_0 hHeld ⊢
                   refine pure_ (i := 0) (N := some 36) (v := ?_) (a' := ?_) #[true,false,false,false,false,false,false,false,false,false,false,false,false,false,false,false,false,false,false,false,false,false,false,false,false,false,false,false,false,false,false,false] rfl rfl (any_of HT_.out (by kernel_rfl)) (fun _ _ _ h => h) (Or.inl ⟨by rfl,?_⟩) ?_ ?_
                   rotate_left;·intro w';go_simp;with_reducible rfl
                   rotate_left;·simp only [Act.put,setIfInBounds_toArray,set_cons_zero,set_cons_succ,i64_w,i32_w];rfl
                   refine pure_ (i := 1) (N := some 37) (v := ?_) (a' := ?_) #[true,true,false,false,false,false,false,false,false,false,false,false,false,false,false,false,false,false,false,false,false,false,false,false,false,false,false,false,false,false,false,false] rfl rfl (any_of HT_.out (by kernel_rfl)) (fun _ _ _ h => h) (Or.inl ⟨by rfl,?_⟩) ?_ ?_
                   rotate_left;·intro w';go_simp;with_reducible rfl
                   rotate_left;·simp only [Act.put,setIfInBounds_toArray,set_cons_zero,set_cons_succ,i64_w,i32_w];rfl
                   refine pure_ (i := 2) (N := some 38) (v := ?_) (a' := ?_) #[true,true,true,false,false,false,false,false,false,false,false,false,false,false,false,false,false,false,false,false,false,false,false,false,false,false,false,false,false,false,false,false] rfl rfl (any_of HT_.out (by kernel_rfl)) (fun _ _ _ h => h) (Or.inl ⟨by rfl,?_⟩) ?_ ?_
                   rotate_left;·intro w';go_simp;with_reducible rfl
                   rotate_left;·simp only [Act.put,setIfInBounds_toArray,set_cons_zero,set_cons_succ,i64_w,i32_w];rfl
                   refine pure_ (i := 3) (N := some 39) (v := ?_) (a' := ?_) #[true,true,true,true,false,false,false,false,false,false,false,false,false,false,false,false,false,false,false,false,false,false,false,false,false,false,false,false,false,false,false,false] rfl rfl (any_of HT_.out (by kernel_rfl)) (fun _ _ _ h => h) (Or.inl ⟨by rfl,?_⟩) ?_ ?_
                   rotate_left;·intro w';go_simp;with_reducible rfl
                   rotate_left;·simp only [Act.put,setIfInBounds_toArray,set_cons_zero,set_cons_succ,i64_w,i32_w];rfl
                   refine pure_ (i := 4) (N := some 40) (v := ?_) (a' := ?_) #[true,true,true,true,true,false,false,false,false,false,false,false,false,false,false,false,false,false,false,false,false,false,false,false,false,false,false,false,false,false,false,false] rfl rfl (any_of HT_.out (by kernel_rfl)) (fun _ _ _ h => h) (Or.inl ⟨by rfl,?_⟩) ?_ ?_
                   rotate_left;·intro w';go_simp;with_reducible rfl
                   rotate_left;·simp only [Act.put,setIfInBounds_toArray,set_cons_zero,set_cons_succ,i64_w,i32_w];rfl
                   refine pure_ (i := 5) (N := some 41) (v := ?_) (a' := ?_) #[true,true,true,true,true,true,false,false,false,false,false,false,false,false,false,false,false,false,false,false,false,false,false,false,false,false,false,false,false,false,false,false] rfl rfl (any_of HT_.out (by kernel_rfl)) (fun _ _ _ h => h) (Or.inl ⟨by rfl,?_⟩) ?_ ?_
                   rotate_left;·intro w';go_simp;with_reducible rfl
                   rotate_left;·simp only [Act.put,setIfInBounds_toArray,set_cons_zero,set_cons_succ,i64_w,i32_w];rfl
                   refine pure_ (i := 6) (N := some 42) (v := ?_) (a' := ?_) #[true,true,true,true,true,true,true,false,false,false,false,false,false,false,false,false,false,false,false,false,false,false,false,false,false,false,false,false,false,false,false,false] rfl rfl (any_of HT_.out (by kernel_rfl)) (fun _ _ _ h => h) (Or.inl ⟨by rfl,?_⟩) ?_ ?_
                   rotate_left;·intro w';go_simp;with_reducible rfl
                   rotate_left;·simp only [Act.put,setIfInBounds_toArray,set_cons_zero,set_cons_succ,i64_w,i32_w];rfl
                   refine pure_ (i := 7) (N := some 43) (v := ?_) (a' := ?_) #[true,true,true,true,true,true,true,true,false,false,false,false,false,false,false,false,false,false,false,false,false,false,false,false,false,false,false,false,false,false,false,false] rfl rfl (any_of HT_.out (by kernel_rfl)) (fun _ _ _ h => h) (Or.inl ⟨by rfl,?_⟩) ?_ ?_
                   rotate_left;·intro w';go_simp;with_reducible rfl
                   rotate_left;·simp only [Act.put,setIfInBounds_toArray,set_cons_zero,set_cons_succ,i64_w,i32_w];rfl
                   refine pure_ (i := 8) (N := some 44) (v := ?_) (a' := ?_) #[true,true,true,true,true,true,true,true,true,false,false,false,false,false,false,false,false,false,false,false,false,false,false,false,false,false,false,false,false,false,false,false] rfl rfl (any_of HT_.out (by kernel_rfl)) (fun _ _ _ h => h) (Or.inl ⟨by rfl,?_⟩) ?_ ?_
                   rotate_left;·intro w';go_simp;with_reducible rfl
                   rotate_left;·simp only [Act.put,setIfInBounds_toArray,set_cons_zero,set_cons_succ,i64_w,i32_w];rfl
                   refine pure_ (i := 9) (N := some 45) (v := ?_) (a' := ?_) #[true,true,true,true,true,true,true,true,true,true,false,false,false,false,false,false,false,false,false,false,false,false,false,false,false,false,false,false,false,false,false,false] rfl rfl (any_of HT_.out (by kernel_rfl)) (fun _ _ _ h => h) (Or.inl ⟨by rfl,?_⟩) ?_ ?_
                   rotate_left;·intro w';go_simp;with_reducible rfl
                   rotate_left;·simp only [Act.put,setIfInBounds_toArray,set_cons_zero,set_cons_succ,i64_w,i32_w];rfl
                   refine pure_ (i := 11) (N := some 47) (v := ?_) (a' := ?_) #[true,true,true,true,true,true,true,true,true,true,false,true,false,false,false,false,false,false,false,false,false,false,false,false,false,false,false,false,false,false,false,false] rfl rfl (any_of HT_.out (by kernel_rfl)) (fun _ _ _ h => h) (Or.inl ⟨by rfl,?_⟩) ?_ ?_
                   rotate_left;·intro w';go_simp;with_reducible rfl
                   rotate_left;·simp only [Act.put,setIfInBounds_toArray,set_cons_zero,set_cons_succ,i64_w,i32_w];rfl
                   refine pure_ (i := 12) (N := some 48) (v := ?_) (a' := ?_) #[true,true,true,true,true,true,true,true,true,true,false,true,true,false,false,false,false,false,false,false,false,false,false,false,false,false,false,false,false,false,false,false] rfl rfl (any_of HT_.out (by kernel_rfl)) (fun _ _ _ h => h) (Or.inl ⟨by rfl,?_⟩) ?_ ?_
                   rotate_left;·intro w';go_simp;with_reducible rfl
                   rotate_left;·simp only [Act.put,setIfInBounds_toArray,set_cons_zero,set_cons_succ,i64_w,i32_w];rfl
                   refine take_ (i := 10) (N := some 46) (v := ?_) (a' := ?_) #[true,true,true,true,true,true,true,true,true,true,true,true,true,false,false,false,false,false,false,false,false,false,false,false,false,false,false,false,false,false,false,false] rfl rfl (take_ofW HT_.out HW_.out (by kernel_rfl)) (fun _ _ _ h => h) (Or.inl ⟨by rfl,?_⟩) hHeld ?_ ?_
                   rotate_left;·rintro w' ⟨s0,s1,s2,s3⟩;go_simp;with_reducible rfl
                   rotate_left;·simp only [Act.put,setIfInBounds_toArray,set_cons_zero,set_cons_succ,i64_w,i32_w];rfl
                   refine take_ (i := 13) (N := some 49) (v := ?_) (a' := ?_) #[true,true,true,true,true,true,true,true,true,true,true,true,true,true,false,false,false,false,false,false,false,false,false,false,false,false,false,false,false,false,false,false] rfl rfl (take_ofW HT_.out HW_.out (by kernel_rfl)) (fun _ _ _ h => h) (Or.inl ⟨by rfl,?_⟩) hHeld ?_ ?_
                   rotate_left;·rintro w' ⟨s0,s1,s2,s3⟩;go_simp;with_reducible rfl
                   rotate_left;·simp only [Act.put,setIfInBounds_toArray,set_cons_zero,set_cons_succ,i64_w,i32_w];rfl
                   refine one_ (i := 14) (N := some 50) #[true,true,true,true,true,true,true,true,true,true,true,true,true,true,true,false,false,false,false,false,false,false,false,false,false,false,false,false,false,false,false,false] rfl rfl (one_of HT_.out (by kernel_rfl)) (by decide) (fun K hK => ?_)
                   refine goes_ Try.func62 (by kernel_rfl) rfl #[.int .u8 (rd l0 0),.int .u8 (rd l0 1)] (by rfl) rfl rfl (by (try simp only [List.map_toArray,List.map_cons,List.map_nil]);first | done | rfl | (simp only [List.length_drop,List.length_take];rfl)) ?_
                   with_reducible refine (glyphcutterref02_second.calls (rd l0 0) (rd l0 1) true _ A19.out).mono ?_
                   rintro e w' ⟨rfl,⟨nd,rfl⟩⟩
                   refine ⟨_,rfl,?_⟩
                   refine hK.out _ _ ⟨((HB.out.cell (World.block_lt_of_cell? w _ hw303_0)).trans hw303_0),((HB.out.cell (World.block_lt_of_cell? w _ hw304_0)).trans hw304_0),((HB.out.cell (World.block_lt_of_cell? w _ hw306_0)).trans hw306_0),((HB.out.cell (World.block_lt_of_cell? w _ hw307_0)).trans hw307_0)⟩ (fun hHeld => ?_)
                   clear hK K
                   refine norm_ (a' := ?_) ?_ ?_
                   rotate_left;·show Act.put _ (some 50) _ = _;simp only [Act.put,setIfInBounds_toArray,set_cons_zero,set_cons_succ,i64_w,i32_w];rfl
                   refine pure_ (i := 15) (N := some 51) (v := ?_) (a' := ?_) #[true,true,true,true,true,true,true,true,true,true,true,true,true,true,true,true,false,false,false,false,false,false,false,false,false,false,false,false,false,false,false,false] rfl rfl (any_of HT_.out (by kernel_rfl)) (fun _ _ _ h => h) (Or.inl ⟨by rfl,?_⟩) ?_ ?_
                   rotate_left;·intro w';go_simp;with_reducible rfl
                   rotate_left;·simp only [Act.put,setIfInBounds_toArray,set_cons_zero,set_cons_succ,i64_w,i32_w];rfl
                   refine pure_ (i := 16) (N := some 52) (v := ?_) (a' := ?_) #[true,true,true,true,true,true,true,true,true,true,true,true,true,true,true,true,true,false,false,false,false,false,false,false,false,false,false,false,false,false,false,false] rfl rfl (any_of HT_.out (by kernel_rfl)) (fun _ _ _ h => h) (Or.inl ⟨by rfl,?_⟩) ?_ ?_
                   rotate_left;·intro w';go_simp;with_reducible rfl
                   rotate_left;·simp only [Act.put,setIfInBounds_toArray,set_cons_zero,set_cons_succ,i64_w,i32_w];rfl
                   refine pure_ (i := 17) (N := some 53) (v := ?_) (a' := ?_) #[true,true,true,true,true,true,true,true,true,true,true,true,true,true,true,true,true,true,false,false,false,false,false,false,false,false,false,false,false,false,false,false] rfl rfl (any_of HT_.out (by kernel_rfl)) (fun _ _ _ h => h) (Or.inl ⟨by rfl,?_⟩) ?_ ?_
                   rotate_left;·intro w';go_simp;with_reducible rfl
                   rotate_left;·simp only [Act.put,setIfInBounds_toArray,set_cons_zero,set_cons_succ,i64_w,i32_w];rfl
                   refine pure_ (i := 18) (N := some 54) (v := ?_) (a' := ?_) #[true,true,true,true,true,true,true,true,true,true,true,true,true,true,true,true,true,true,true,false,false,false,false,false,false,false,false,false,false,false,false,false] rfl rfl (any_of HT_.out (by kernel_rfl)) (fun _ _ _ h => h) (Or.inl ⟨by rfl,?_⟩) ?_ ?_
                   rotate_left;·intro w';go_simp;with_reducible rfl
                   rotate_left;·simp only [Act.put,setIfInBounds_toArray,set_cons_zero,set_cons_succ,i64_w,i32_w];rfl
                   refine pure_ (i := 19) (N := some 55) (v := ?_) (a' := ?_) #[true,true,true,true,true,true,true,true,true,true,true,true,true,true,true,true,true,true,true,true,false,false,false,false,false,false,false,false,false,false,false,false] rfl rfl (any_of HT_.out (by kernel_rfl)) (fun _ _ _ h => h) (Or.inl ⟨by rfl,?_⟩) ?_ ?_
                   rotate_left;·intro w';go_simp;with_reducible rfl
                   rotate_left;·simp only [Act.put,setIfInBounds_toArray,set_cons_zero,set_cons_succ,i64_w,i32_w];rfl
                   refine pure_ (i := 20) (N := some 56) (v := ?_) (a' := ?_) #[true,true,true,true,true,true,true,true,true,true,true,true,true,true,true,true,true,true,true,true,true,false,false,false,false,false,false,false,false,false,false,false] rfl rfl (any_of HT_.out (by kernel_rfl)) (fun _ _ _ h => h) (Or.inl ⟨by rfl,?_⟩) ?_ ?_
                   rotate_left;·intro w';go_simp;with_reducible rfl
                   rotate_left;·simp only [Act.put,setIfInBounds_toArray,set_cons_zero,set_cons_succ,i64_w,i32_w];rfl
                   refine pure_ (i := 21) (N := some 57) (v := ?_) (a' := ?_) #[true,true,true,true,true,true,true,true,true,true,true,true,true,true,true,true,true,true,true,true,true,true,false,false,false,false,false,false,false,false,false,false] rfl rfl (any_of HT_.out (by kernel_rfl)) (fun _ _ _ h => h) (Or.inl ⟨by rfl,?_⟩) ?_ ?_
                   rotate_left;·intro w';go_simp;with_reducible rfl
                   rotate_left;·simp only [Act.put,setIfInBounds_toArray,set_cons_zero,set_cons_succ,i64_w,i32_w];rfl
                   refine take_ (i := 22) (N := some 58) (v := ?_) (a' := ?_) #[true,true,true,true,true,true,true,true,true,true,true,true,true,true,true,true,true,true,true,true,true,true,true,false,false,false,false,false,false,false,false,false] rfl rfl (take_ofW HT_.out HW_.out (by kernel_rfl)) (fun _ _ _ h => h) (Or.inl ⟨by rfl,?_⟩) hHeld ?_ ?_
                   rotate_left;·rintro w' ⟨s0,s1,s2,s3⟩;go_simp;with_reducible rfl
                   rotate_left;·simp only [Act.put,setIfInBounds_toArray,set_cons_zero,set_cons_succ,i64_w,i32_w];rfl
                   refine pure_ (i := 23) (N := some 59) (v := ?_) (a' := ?_) #[true,true,true,true,true,true,true,true,true,true,true,true,true,true,true,true,true,true,true,true,true,true,true,true,false,false,false,false,false,false,false,false] rfl rfl (any_of HT_.out (by kernel_rfl)) (fun _ _ _ h => h) (Or.inl ⟨by rfl,?_⟩) ?_ ?_
                   rotate_left;·intro w';go_simp;with_reducible rfl
                   rotate_left;·simp only [Act.put,setIfInBounds_toArray,set_cons_zero,set_cons_succ,i64_w,i32_w];rfl
                   refine pure_ (i := 24) (N := some 60) (v := ?_) (a' := ?_) #[true,true,true,true,true,true,true,true,true,true,true,true,true,true,true,true,true,true,true,true,true,true,true,true,true,false,false,false,false,false,false,false] rfl rfl (any_of HT_.out (by kernel_rfl)) (fun _ _ _ h => h) (Or.inl ⟨by rfl,?_⟩) ?_ ?_
                   rotate_left;·intro w';go_simp;with_reducible rfl
                   rotate_left;·simp only [Act.put,setIfInBounds_toArray,set_cons_zero,set_cons_succ,i64_w,i32_w];rfl
                   refine pure_ (i := 25) (N := some 61) (v := ?_) (a' := ?_) #[true,true,true,true,true,true,true,true,true,true,true,true,true,true,true,true,true,true,true,true,true,true,true,true,true,true,false,false,false,false,false,false] rfl rfl (any_of HT_.out (by kernel_rfl)) (fun _ _ _ h => h) (Or.inl ⟨by rfl,?_⟩) ?_ ?_
                   rotate_left;·intro w';go_simp;with_reducible rfl
                   rotate_left;·simp only [Act.put,setIfInBounds_toArray,set_cons_zero,set_cons_succ,i64_w,i32_w];rfl
                   refine pure_ (i := 26) (N := some 62) (v := ?_) (a' := ?_) #[true,true,true,true,true,true,true,true,true,true,true,true,true,true,true,true,true,true,true,true,true,true,true,true,true,true,true,false,false,false,false,false] rfl rfl (any_of HT_.out (by kernel_rfl)) (fun _ _ _ h => h) (Or.inl ⟨by rfl,?_⟩) ?_ ?_
                   rotate_left;·intro w';go_simp;with_reducible rfl
                   rotate_left;·simp only [Act.put,setIfInBounds_toArray,set_cons_zero,set_cons_succ,i64_w,i32_w];rfl
                   refine pure_ (i := 27) (N := some 63) (v := ?_) (a' := ?_) #[true,true,true,true,true,true,true,true,true,true,true,true,true,true,true,true,true,true,true,true,true,true,true,true,true,true,true,true,false,false,false,false] rfl rfl (any_of HT_.out (by kernel_rfl)) (fun _ _ _ h => h) (Or.inl ⟨by rfl,?_⟩) ?_ ?_
                   rotate_left;·intro w';go_simp;with_reducible rfl
                   rotate_left;·simp only [Act.put,setIfInBounds_toArray,set_cons_zero,set_cons_succ,i64_w,i32_w];rfl
                   refine pure_ (i := 28) (N := some 64) (v := ?_) (a' := ?_) #[true,true,true,true,true,true,true,true,true,true,true,true,true,true,true,true,true,true,true,true,true,true,true,true,true,true,true,true,true,false,false,false] rfl rfl (any_of HT_.out (by kernel_rfl)) (fun _ _ _ h => h) (Or.inl ⟨by rfl,?_⟩) ?_ ?_
                   rotate_left;·intro w';go_simp;with_reducible rfl
                   rotate_left;·simp only [Act.put,setIfInBounds_toArray,set_cons_zero,set_cons_succ,i64_w,i32_w];rfl
                   refine take_ (i := 29) (N := some 65) (v := ?_) (a' := ?_) #[true,true,true,true,true,true,true,true,true,true,true,true,true,true,true,true,true,true,true,true,true,true,true,true,true,true,true,true,true,true,false,false] rfl rfl (take_ofW HT_.out HW_.out (by kernel_rfl)) (fun _ _ _ h => h) (Or.inl ⟨by rfl,?_⟩) hHeld ?_ ?_
                   rotate_left;·rintro w' ⟨s0,s1,s2,s3⟩;go_simp;with_reducible rfl
                   rotate_left;·simp only [Act.put,setIfInBounds_toArray,set_cons_zero,set_cons_succ,i64_w,i32_w];rfl
                   refine pure_ (i := 30) (N := some 66) (v := ?_) (a' := ?_) #[true,true,true,true,true,true,true,true,true,true,true,true,true,true,true,true,true,true,true,true,true,true,true,true,true,true,true,true,true,true,true,false] rfl rfl (any_of HT_.out (by kernel_rfl)) (fun _ _ _ h => h) (Or.inl ⟨by rfl,?_⟩) ?_ ?_
                   rotate_left;·intro w';go_simp;with_reducible rfl
                   rotate_left;·simp only [Act.put,setIfInBounds_toArray,set_cons_zero,set_cons_succ,i64_w,i32_w];rfl
                   refine pure_ (i := 31) (N := some 67) (v := ?_) (a' := ?_) #[true,true,true,true,true,true,true,true,true,true,true,true,true,true,true,true,true,true,true,true,true,true,true,true,true,true,true,true,true,true,true,true] rfl rfl (any_of HT_.out (by kernel_rfl)) (fun _ _ _ h => h) (Or.inl ⟨by rfl,?_⟩) ?_ ?_
                   rotate_left;·intro w';go_simp;with_reducible rfl
                   rotate_left;·simp only [Act.put,setIfInBounds_toArray,set_cons_zero,set_cons_succ,i64_w,i32_w];rfl
                   refine done_ (done_of HT_.out (by kernel_rfl)) ?_
                   have p308 : 0 ≤ (x6_1 : Int) := of_decide_eq_true (by first | (with_reducible assumption) | assumption)
                   have q308 : x6_1 < (l0.length : Int) := of_decide_eq_true (by first | (with_reducible assumption) | assumption)
                   obtain ⟨ad308,e308,hx308_0⟩ := Kd.at_int HR0.out x6_1 p308 q308
                   obtain rfl : ad295 = ad308 := (by injection e308)
                   replace hx308_0 := (HB.out.cell (World.block_lt_of_cell? w _ hx308_0)).trans hx308_0
                   replace p308 := eq_true p308
                   replace q308 := eq_true q308
                   try go_wp2
                   go_roundg k1
                   case measure => have := HK1.out;omega
                   case rel => exact ⟨(wrap64 ((wrap64 ((wrap64 (64 * x5_1)) + (wrap64 (rd l0 x6_1)))) - 128)),(wrap64 (x6_1 + 1)),(by first | rfl | (simp;done) | (simp [*];done)),(by first | rfl | (simp;done) | (simp [*];done)),H',⟨by have := HK1.out;omega⟩,⟨by repeat (first | (with_reducible first | exact HB.out | apply below_alloc | apply pw_below_drewN | apply below_drew1) | exact HB.out)⟩⟩
                ·rw [if_neg c22] at H
                 exact absurd H (by simp)
               ·rw [if_neg c21] at H
                exact absurd H (by simp)
              ·replace c20 := Bool.eq_false_iff.mpr c20
               subst c20
               rw [if_neg (show ¬ (false = true) by decide)] at H
               simp only [Option.some.injEq,Prod.mk.injEq] at H
               obtain ⟨rfl,rfl⟩ := H
               try go_wp2
               have n0_ := Aside0.mk (below_drew1 HB.out)
               clear HB
               have HB := n0_
               clear n0_
               have p303 : 0 ≤ (0 : Int) := (by omega)
               have q303 : 0 < (l0.length : Int) := of_decide_eq_true (by first | (with_reducible assumption) | assumption)
               obtain ⟨ad303,e303,hx303_0⟩ := Kd.at_int HR0.out 0 p303 q303
               have hw303_0 := hx303_0
               (try rw [show ((0 : Int)).toNat = 0 from rfl] at hw303_0)
               (try rw [show 0 * 1 = 0 from rfl] at hw303_0)
               (try rw [Addr.add_zero'] at hw303_0)
               obtain rfl : ad295 = ad303 := (by injection e303)
               have qi303 : (0 < l0.length) = True := eq_true (by omega)
               (try rw [show ((0 : Int)).toNat = 0 from rfl] at hx303_0)
               (try rw [Addr.add_zero'] at hx303_0)
               replace hx303_0 := (HB.out.cell (World.block_lt_of_cell? w _ hx303_0)).trans hx303_0
               replace p303 := eq_true p303
               replace q303 := eq_true q303
               have p304 : 0 ≤ (1 : Int) := (by omega)
               have q304 : 1 < (l0.length : Int) := of_decide_eq_true (by first | (with_reducible assumption) | assumption)
               obtain ⟨ad304,e304,hx304_0⟩ := Kd.at_int HR0.out 1 p304 q304
               have hw304_0 := hx304_0
               (try rw [show ((1 : Int)).toNat = 1 from rfl] at hw304_0)
               (try rw [show 1 * 1 = 1 from rfl] at hw304_0)
               (try simp only [Nat.reduceMul,Nat.reduceEqDiff,Go.Addr.add,↓reduceIte] at hw304_0)
               obtain rfl : ad295 = ad304 := (by injection e304)
               (try simp only [show (1 : Int).toNat = 1 from rfl,Nat.reduceMul,Nat.reduceEqDiff,Go.Addr.add,↓reduceIte] at hx304_0)
               have qi304 : (1 < l0.length) = True := eq_true (by omega)
               (try rw [show ((1 : Int)).toNat = 1 from rfl] at hx304_0)
               replace hx304_0 := (HB.out.cell (World.block_lt_of_cell? w _ hx304_0)).trans hx304_0
               replace p304 := eq_true p304
               replace q304 := eq_true q304
               refine start_ (n := 32) (S := fun w' => w'.cell? ad295 = some (.int .u8 (rd l0 0)) ∧ w'.cell? ⟨ad295.block,ad295.off + 1,none⟩ = some (.int .u8 (rd l0 1))) (ds := []) #[false,false,false,false,false,false,false,false,false,false,false,false,false,false,false,false,false,false,false,false,false,false,false,false,false,false,false,false,false,false,false,false] (by kernel_rfl) rfl rfl ⟨((HB.out.cell (World.block_lt_of_cell? w _ hw303_0)).trans hw303_0),((HB.out.cell (World.block_lt_of_cell? w _ hw304_0)).trans hw304_0)⟩ (fun hHeld => ?_);refine with_tabW glyphcutterref02_Decode.tab12 glyphcutterref02_Decode.bits12 (fun HT_ HW_ => ?_)
               generalize wr.drew = w28 at HB hx303_0 hx304_0 hHeld ⊢
               refine pure_ (i := 0) (N := some 36) (v := ?_) (a' := ?_) #[true,false,false,false,false,false,false,false,false,false,false,false,false,false,false,false,false,false,false,false,false,false,false,false,false,false,false,false,false,false,false,false] rfl rfl (any_of HT_.out (by kernel_rfl)) (fun _ _ _ h => h) (Or.inl ⟨by rfl,?_⟩) ?_ ?_
               rotate_left;·intro w';go_simp;with_reducible rfl
               rotate_left;·simp only [Act.put,setIfInBounds_toArray,set_cons_zero,set_cons_succ,i64_w,i32_w];rfl
               refine pure_ (i := 1) (N := some 37) (v := ?_) (a' := ?_) #[true,true,false,false,false,false,false,false,false,false,false,false,false,false,false,false,false,false,false,false,false,false,false,false,false,false,false,false,false,false,false,false] rfl rfl (any_of HT_.out (by kernel_rfl)) (fun _ _ _ h => h) (Or.inl ⟨by rfl,?_⟩) ?_ ?_
               rotate_left;·intro w';go_simp;with_reducible rfl
               rotate_left;·simp only [Act.put,setIfInBounds_toArray,set_cons_zero,set_cons_succ,i64_w,i32_w];rfl
               refine pure_ (i := 2) (N := some 38) (v := ?_) (a' := ?_) #[true,true,true,false,false,false,false,false,false,false,false,false,false,false,false,false,false,false,false,false,false,false,false,false,false,false,false,false,false,false,false,false] rfl rfl (any_of HT_.out (by kernel_rfl)) (fun _ _ _ h => h) (Or.inl ⟨by rfl,?_⟩) ?_ ?_
               rotate_left;·intro w';go_simp;with_reducible rfl
               rotate_left;·simp only [Act.put,setIfInBounds_toArray,set_cons_zero,set_cons_succ,i64_w,i32_w];rfl
               refine pure_ (i := 3) (N := some 39) (v := ?_) (a' := ?_) #[true,true,true,true,false,false,false,false,false,false,false,false,false,false,false,false,false,false,false,false,false,false,false,false,false,false,false,false,false,false,false,false] rfl rfl (any_of HT_.out (by kernel_rfl)) (fun _ _ _ h => h) (Or.inl ⟨by rfl,?_⟩) ?_ ?_
               rotate_left;·intro w';go_simp;with_reducible rfl
               rotate_left;·simp only [Act.put,setIfInBounds_toArray,set_cons_zero,set_cons_succ,i64_w,i32_w];rfl
               refine pure_ (i := 4) (N := some 40) (v := ?_) (a' := ?_) #[true,true,true,true,true,false,false,false,false,false,false,false,false,false,false,false,false,false,false,false,false,false,false,false,false,false,false,false,false,false,false,false] rfl rfl (any_of HT_.out (by kernel_rfl)) (fun _ _ _ h => h) (Or.inl ⟨by rfl,?_⟩) ?_ ?_
               rotate_left;·intro w';go_simp;with_reducible rfl
               rotate_left;·simp only [Act.put,setIfInBounds_toArray,set_cons_zero,set_cons_succ,i64_w,i32_w];rfl
               refine pure_ (i := 5) (N := some 41) (v := ?_) (a' := ?_) #[true,true,true,true,true,true,false,false,false,false,false,false,false,false,false,false,false,false,false,false,false,false,false,false,false,false,false,false,false,false,false,false] rfl rfl (any_of HT_.out (by kernel_rfl)) (fun _ _ _ h => h) (Or.inl ⟨by rfl,?_⟩) ?_ ?_
               rotate_left;·intro w';go_simp;with_reducible rfl
               rotate_left;·simp only [Act.put,setIfInBounds_toArray,set_cons_zero,set_cons_succ,i64_w,i32_w];rfl
               refine pure_ (i := 6) (N := some 42) (v := ?_) (a' := ?_) #[true,true,true,true,true,true,true,false,false,false,false,false,false,false,false,false,false,false,false,false,false,false,false,false,false,false,false,false,false,false,false,false] rfl rfl (any_of HT_.out (by kernel_rfl)) (fun _ _ _ h => h) (Or.inl ⟨by rfl,?_⟩) ?_ ?_
               rotate_left;·intro w';go_simp;with_reducible rfl
               rotate_left;·simp only [Act.put,setIfInBounds_toArray,set_cons_zero,set_cons_succ,i64_w,i32_w];rfl
               refine pure_ (i := 7) (N := some 43) (v := ?_) (a' := ?_) #[true,true,true,true,true,true,true,true,false,false,false,false,false,false,false,false,false,false,false,false,false,false,false,false,false,false,false,false,false,false,false,false] rfl rfl (any_of HT_.out (by kernel_rfl)) (fun _ _ _ h => h) (Or.inl ⟨by rfl,?_⟩) ?_ ?_
               rotate_left;·intro w';go_simp;with_reducible rfl
               rotate_left;·simp only [Act.put,setIfInBounds_toArray,set_cons_zero,set_cons_succ,i64_w,i32_w];rfl
               refine pure_ (i := 8) (N := some 44) (v := ?_) (a' := ?_) #[true,true,true,true,true,true,true,true,true,false,false,false,false,false,false,false,false,false,false,false,false,false,false,false,false,false,false,false,false,false,false,false] rfl rfl (any_of HT_.out (by kernel_rfl)) (fun _ _ _ h => h) (Or.inl ⟨by rfl,?_⟩) ?_ ?_
               rotate_left;·intro w';go_simp;with_reducible rfl
               rotate_left;·simp only [Act.put,setIfInBounds_toArray,set_cons_zero,set_cons_succ,i64_w,i32_w];rfl
               refine pure_ (i := 9) (N := some 45) (v := ?_) (a' := ?_) #[true,true,true,true,true,true,true,true,true,true,false,false,false,false,false,false,false,false,false,false,false,false,false,false,false,false,false,false,false,false,false,false] rfl rfl (any_of HT_.out (by kernel_rfl)) (fun _ _ _ h => h) (Or.inl ⟨by rfl,?_⟩) ?_ ?_
               rotate_left;·intro w';go_simp;with_reducible rfl
               rotate_left;·simp only [Act.put,setIfInBounds_toArray,set_cons_zero,set_cons_succ,i64_w,i32_w];rfl
               refine pure_ (i := 11) (N := some 47) (v := ?_) (a' := ?_) #[true,true,true,true,true,true,true,true,true,true,false,true,false,false,false,false,false,false,false,false,false,false,false,false,false,false,false,false,false,false,false,false] rfl rfl (any_of HT_.out (by kernel_rfl)) (fun _ _ _ h => h) (Or.inl ⟨by rfl,?_⟩) ?_ ?_
               rotate_left;·intro w';go_simp;with_reducible rfl
               rotate_left;·simp only [Act.put,setIfInBounds_toArray,set_cons_zero,set_cons_succ,i64_w,i32_w];rfl
               refine pure_ (i := 12) (N := some 48) (v := ?_) (a' := ?_) #[true,true,true,true,true,true,true,true,true,true,false,true,true,false,false,false,false,false,false,false,false,false,false,false,false,false,false,false,false,false,false,false] rfl rfl (any_of HT_.out (by kernel_rfl)) (fun _ _ _ h => h) (Or.inl ⟨by rfl,?_⟩) ?_ ?_
               rotate_left;·intro w';go_simp;with_reducible rfl
               rotate_left;·simp only [Act.put,setIfInBounds_toArray,set_cons_zero,set_cons_succ,i64_w,i32_w];rfl
               refine take_ (i := 10) (N := some 46) (v := ?_) (a' := ?_) #[true,true,true,true,true,true,true,true,true,true,true,true,true,false,false,false,false,false,false,false,false,false,false,false,false,false,false,false,false,false,false,false] rfl rfl (take_ofW HT_.out HW_.out (by kernel_rfl)) (fun _ _ _ h => h) (Or.inl ⟨by rfl,?_⟩) hHeld ?_ ?_
               rotate_left;·rintro w' ⟨s0,s1⟩;go_simp;with_reducible rfl
               rotate_left;·simp only [Act.put,setIfInBounds_toArray,set_cons_zero,set_cons_succ,i64_w,i32_w];rfl
               refine take_ (i := 13) (N := some 49) (v := ?_) (a' := ?_) #[true,true,true,true,true,true,true,true,true,true,true,true,true,true,false,false,false,false,false,false,false,false,false,false,false,false,false,false,false,false,false,false] rfl rfl (take_ofW HT_.out HW_.out (by kernel_rfl)) (fun _ _ _ h => h) (Or.inl ⟨by rfl,?_⟩) hHeld ?_ ?_
               rotate_left;·rintro w' ⟨s0,s1⟩;go_simp;with_reducible rfl
               rotate_left;·simp only [Act.put,setIfInBounds_toArray,set_cons_zero,set_cons_succ,i64_w,i32_w];rfl
               refine one_ (i := 14) (N := some 50) #[true,true,true,true,true,true,true,true,true,true,true,true,true,true,true,false,false,false,false,false,false,false,false,false,false,false,false,false,false,false,false,false] rfl rfl (one_of HT_.out (by kernel_rfl)) (by decide) (fun K hK => ?_)
               refine goes_ Try.func62 (by kernel_rfl) rfl #[.int .u8 (rd l0 0),.int .u8 (rd l0 1)] (by rfl) rfl rfl (by (try simp only [List.map_toArray,List.map_cons,List.map_nil]);first | done | rfl | (simp only [List.length_drop,List.length_take];rfl)) ?_
               with_reducible refine (glyphcutterref02_second.calls (rd l0 0) (rd l0 1) false _ A19.out).mono ?_
               rintro e w' ⟨rfl,⟨nd,rfl⟩⟩
               refine ⟨_,rfl,?_⟩
               refine hK.out _ _ ⟨((HB.out.cell (World.block_lt_of_cell? w _ hw303_0)).trans hw303_0),((HB.out.cell (World.block_lt_of_cell? w _ hw304_0)).trans hw304_0)⟩ (fun hHeld => ?_)
               clear hK K
               refine norm_ (a' := ?_) ?_ ?_
               rotate_left;·show Act.put _ (some 50) _ = _;simp only [Act.put,setIfInBounds_toArray,set_cons_zero,set_cons_succ,i64_w,i32_w];rfl
               refine pure_ (i := 15) (N := some 51) (v := ?_) (a' := ?_) #[true,true,true,true,true,true,true,true,true,true,true,true,true,true,true,true,false,false,false,false,false,false,false,false,false,false,false,false,false,false,false,false] rfl rfl (any_of HT_.out (by kernel_rfl)) (fun _ _ _ h => h) (Or.inl ⟨by rfl,?_⟩) ?_ ?_
               rotate_left;·intro w';go_simp;with_reducible rfl
               rotate_left;·simp only [Act.put,setIfInBounds_toArray,set_cons_zero,set_cons_succ,i64_w,i32_w];rfl
               refine pure_ (i := 16) (N := some 52) (v := ?_) (a' := ?_) #[true,true,true,true,true,true,true,true,true,true,true,true,true,true,true,true,true,false,false,false,false,false,false,false,false,false,false,false,false,false,false,false] rfl rfl (any_of HT_.out (by kernel_rfl)) (fun _ _ _ h => h) (Or.inl ⟨by rfl,?_⟩) ?_ ?_
               rotate_left;·intro w';go_simp;with_reducible rfl
               rotate_left;·simp only [Act.put,setIfInBounds_toArray,set_cons_zero,set_cons_succ,i64_w,i32_w];rfl
               refine pure_ (i := 17) (N := some 53) (v := ?_) (a' := ?_) #[true,true,true,true,true,true,true,true,true,true,true,true,true,true,true,true,true,true,false,false,false,false,false,false,false,false,false,false,false,false,false,false] rfl rfl (any_of HT_.out (by kernel_rfl)) (fun _ _ _ h => h) (Or.inl ⟨by rfl,?_⟩) ?_ ?_
               rotate_left;·intro w';go_simp;with_reducible rfl
               rotate_left;·simp only [Act.put,setIfInBounds_toArray,set_cons_zero,set_cons_succ,i64_w,i32_w];rfl
               refine pure_ (i := 18) (N := some 54) (v := ?_) (a' := ?_) #[true,true,true,true,true,true,true,true,true,true,true,true,true,true,true,true,true,true,true,false,false,false,false,false,false,false,false,false,false,false,false,false] rfl rfl (any_of HT_.out (by kernel_rfl)) (fun _ _ _ h => h) (Or.inl ⟨by rfl,?_⟩) ?_ ?_
               rotate_left;·intro w';go_simp;with_reducible rfl
               rotate_left;·simp only [Act.put,setIfInBounds_toArray,set_cons_zero,set_cons_succ,i64_w,i32_w];rfl
               refine pure_ (i := 19) (N := some 55) (v := undef) (a' := ?_) #[true,true,true,true,true,true,true,true,true,true,true,true,true,true,true,true,true,true,true,true,false,false,false,false,false,false,false,false,false,false,false,false] rfl rfl (any_of HT_.out (by kernel_rfl)) (fun _ _ _ h => h) (Or.inr ⟨by rfl,rfl⟩) ?_ ?_
               rotate_left;·simp only [Act.put,setIfInBounds_toArray,set_cons_zero,set_cons_succ,i64_w,i32_w];rfl
               refine pure_ (i := 20) (N := some 56) (v := undef) (a' := ?_) #[true,true,true,true,true,true,true,true,true,true,true,true,true,true,true,true,true,true,true,true,true,false,false,false,false,false,false,false,false,false,false,false] rfl rfl (any_of HT_.out (by kernel_rfl)) (fun _ _ _ h => h) (Or.inr ⟨by rfl,rfl⟩) ?_ ?_
               rotate_left;·simp only [Act.put,setIfInBounds_toArray,set_cons_zero,set_cons_succ,i64_w,i32_w];rfl
               refine pure_ (i := 21) (N := some 57) (v := undef) (a' := ?_) #[true,true,true,true,true,true,true,true,true,true,true,true,true,true,true,true,true,true,true,true,true,true,false,false,false,false,false,false,false,false,false,false] rfl rfl (any_of HT_.out (by kernel_rfl)) (fun _ _ _ h => h) (Or.inr ⟨by rfl,rfl⟩) ?_ ?_
               rotate_left;·simp only [Act.put,setIfInBounds_toArray,set_cons_zero,set_cons_succ,i64_w,i32_w];rfl
               refine pure_ (i := 22) (N := some 58) (v := undef) (a' := ?_) #[true,true,true,true,true,true,true,true,true,true,true,true,true,true,true,true,true,true,true,true,true,true,true,false,false,false,false,false,false,false,false,false] rfl rfl (any_of HT_.out (by kernel_rfl)) (fun _ _ _ h => h) (Or.inr ⟨by rfl,rfl⟩) ?_ ?_
               rotate_left;·simp only [Act.put,setIfInBounds_toArray,set_cons_zero,set_cons_succ,i64_w,i32_w];rfl
               refine pure_ (i := 23) (N := some 59) (v := undef) (a' := ?_) #[true,true,true,true,true,true,true,true,true,true,true,true,true,true,true,true,true,true,true,true,true,true,true,true,false,false,false,false,false,false,false,false] rfl rfl (any_of HT_.out (by kernel_rfl)) (fun _ _ _ h => h) (Or.inr ⟨by rfl,rfl⟩) ?_ ?_
               rotate_left;·simp only [Act.put,setIfInBounds_toArray,set_cons_zero,set_cons_succ,i64_w,i32_w];rfl
               refine pure_ (i := 24) (N := some 60) (v := ?_) (a' := ?_) #[true,true,true,true,true,true,true,true,true,true,true,true,true,true,true,true,true,true,true,true,true,true,true,true,true,false,false,false,false,false,false,false] rfl rfl (any_of HT_.out (by kernel_rfl)) (fun _ _ _ h => h) (Or.inl ⟨by rfl,?_⟩) ?_ ?_
               rotate_left;·intro w';go_simp;with_reducible rfl
               rotate_left;·simp only [Act.put,setIfInBounds_toArray,set_cons_zero,set_cons_succ,i64_w,i32_w];rfl
               refine pure_ (i := 25) (N := some 61) (v := ?_) (a' := ?_) #[true,true,true,true,true,true,true,true,true,true,true,true,true,true,true,true,true,true,true,true,true,true,true,true,true,true,false,false,false,false,false,false] rfl rfl (any_of HT_.out (by kernel_rfl)) (fun _ _ _ h => h) (Or.inl ⟨by rfl,?_⟩) ?_ ?_
               rotate_left;·intro w';go_simp;with_reducible rfl
               rotate_left;·simp only [Act.put,setIfInBounds_toArray,set_cons_zero,set_cons_succ,i64_w,i32_w];rfl
               refine pure_ (i := 26) (N := some 62) (v := undef) (a' := ?_) #[true,true,true,true,true,true,true,true,true,true,true,true,true,true,true,true,true,true,true,true,true,true,true,true,true,true,true,false,false,false,false,false] rfl rfl (any_of HT_.out (by kernel_rfl)) (fun _ _ _ h => h) (Or.inr ⟨by rfl,rfl⟩) ?_ ?_
               rotate_left;·simp only [Act.put,setIfInBounds_toArray,set_cons_zero,set_cons_succ,i64_w,i32_w];rfl
               refine pure_ (i := 27) (N := some 63) (v := undef) (a' := ?_) #[true,true,true,true,true,true,true,true,true,true,true,true,true,true,true,true,true,true,true,true,true,true,true,true,true,true,true,true,false,false,false,false] rfl rfl (any_of HT_.out (by kernel_rfl)) (fun _ _ _ h => h) (Or.inr ⟨by rfl,rfl⟩) ?_ ?_
               rotate_left;·simp only [Act.put,setIfInBounds_toArray,set_cons_zero,set_cons_succ,i64_w,i32_w];rfl
               refine pure_ (i := 28) (N := some 64) (v := undef) (a' := ?_) #[true,true,true,true,true,true,true,true,true,true,true,true,true,true,true,true,true,true,true,true,true,true,true,true,true,true,true,true,true,false,false,false] rfl rfl (any_of HT_.out (by kernel_rfl)) (fun _ _ _ h => h) (Or.inr ⟨by rfl,rfl⟩) ?_ ?_
               rotate_left;·simp only [Act.put,setIfInBounds_toArray,set_cons_zero,set_cons_succ,i64_w,i32_w];rfl
               refine pure_ (i := 29) (N := some 65) (v := undef) (a' := ?_) #[true,true,true,true,true,true,true,true,true,true,true,true,true,true,true,true,true,true,true,true,true,true,true,true,true,true,true,true,true,true,false,false] rfl rfl (any_of HT_.out (by kernel_rfl)) (fun _ _ _ h => h) (Or.inr ⟨by rfl,rfl⟩) ?_ ?_
               rotate_left;·simp only [Act.put,setIfInBounds_toArray,set_cons_zero,set_cons_succ,i64_w,i32_w];rfl
               refine pure_ (i := 30) (N := some 66) (v := undef) (a' := ?_) #[true,true,true,true,true,true,true,true,true,true,true,true,true,true,true,true,true,true,true,true,true,true,true,true,true,true,true,true,true,true,true,false] rfl rfl (any_of HT_.out (by kernel_rfl)) (fun _ _ _ h => h) (Or.inr ⟨by rfl,rfl⟩) ?_ ?_
               rotate_left;·simp only [Act.put,setIfInBounds_toArray,set_cons_zero,set_cons_succ,i64_w,i32_w];rfl
               refine pure_ (i := 31) (N := some 67) (v := ?_) (a' := ?_) #[true,true,true,true,true,true,true,true,true,true,true,true,true,true,true,true,true,true,true,true,true,true,true,true,true,true,true,true,true,true,true,true] rfl rfl (any_of HT_.out (by kernel_rfl)) (fun _ _ _ h => h) (Or.inl ⟨by rfl,?_⟩) ?_ ?_
               rotate_left;·intro w';go_simp;with_reducible rfl
               rotate_left;·simp only [Act.put,setIfInBounds_toArray,set_cons_zero,set_cons_succ,i64_w,i32_w];rfl
               refine done_ (done_of HT_.out (by kernel_rfl)) ?_
               try go_wp2
               go_ret2
               exact ⟨by first | rfl | (simp [errW_none,errW_some] <;> rfl) | (simp [*,errW_none,errW_some] <;> rfl),by repeat (first | (with_reducible first | exact HB.out | apply below_alloc | apply pw_below_drewN | apply below_drew1) | exact HB.out)⟩
             ·rw [if_neg c18] at H
              exact absurd H (by simp)
            ·rw [if_neg c17] at H
             exact absurd H (by simp)
           ·rw [if_neg c16] at H
            have c16b0 : (x6_1 == 1) = false := beq_eq_false_iff_ne.mpr c16
            have c16b1 : (x6_1 != 1) = true := bne_iff_ne.mpr c16
            by_cases c29 : 0 ≤ x6_1
            ·rw [if_pos c29] at H
             have c29b0 : decide (0 ≤ x6_1) = true := decide_eq_true c29
             clear c29
             by_cases c30 : x6_1 < (l0.length : Int)
             ·rw [if_pos c30] at H
              have c30b0 : decide (x6_1 < (l0.length : Int)) = true := decide_eq_true c30
              clear c30
              by_cases c31 : (rd l0 x6_1) < 128
              ·rw [if_pos c31] at H
               have c31b0 : decide ((rd l0 x6_1) < 128) = true := decide_eq_true c31
               clear c31
               simp only [Option.some.injEq,Prod.mk.injEq] at H
               obtain ⟨rfl,rfl⟩ := H
               try go_wp2
               have n0_ := Aside0.mk (below_drew1 HB.out)
               clear HB
               have HB := n0_
               clear n0_
               have p309 : 0 ≤ (x6_1 : Int) := of_decide_eq_true (by first | (with_reducible assumption) | assumption)
               have q309 : x6_1 < (l0.length : Int) := of_decide_eq_true (by first | (with_reducible assumption) | assumption)
               obtain ⟨ad309,e309,hx309_0⟩ := Kd.at_int HR0.out x6_1 p309 q309
               have hw309_0 := hx309_0
               obtain rfl : ad295 = ad309 := (by injection e309)
               replace hx309_0 := (HB.out.cell (World.block_lt_of_cell? w _ hx309_0)).trans hx309_0
               replace p309 := eq_true p309
               replace q309 := eq_true q309
               refine start_ (n := 32) (S := fun w' => w'.cell? (ad295.add (x6_1).toNat) = some (.int .u8 (rd l0 x6_1))) (ds := []) #[false,false,false,false,false,false,false,false,false,false,false,false,false,false,false,false,false,false,false,false,false,false,false,false,false,false,false,false,false,false,false,false] (by kernel_rfl) rfl rfl (((HB.out.cell (World.block_lt_of_cell? w _ hw309_0)).trans hw309_0)) (fun hHeld => ?_);refine with_tabW glyphcutterref02_Decode.tab12 glyphcutterref02_Decode.bits12 (fun HT_ HW_ => ?_)
               generalize wr.drew = w32 at HB hx309_0 hHeld ⊢
               refine pure_ (i := 0) (N := some 36) (v := ?_) (a' := ?_) #[true,false,false,false,false,false,false,false,false,false,false,false,false,false,false,false,false,false,false,false,false,false,false,false,false,false,false,false,false,false,false,false] rfl rfl (any_of HT_.out (by kernel_rfl)) (fun _ _ _ h => h) (Or.inl ⟨by rfl,?_⟩) ?_ ?_
               rotate_left;·intro w';go_simp;with_reducible rfl
               rotate_left;·simp only [Act.put,setIfInBounds_toArray,set_cons_zero,set_cons_succ,i64_w,i32_w];rfl
               refine pure_ (i := 1) (N := some 37) (v := ?_) (a' := ?_) #[true,true,false,false,false,false,false,false,false,false,false,false,false,false,false,false,false,false,false,false,false,false,false,false,false,false,false,false,false,false,false,false] rfl rfl (any_of HT_.out (by kernel_rfl)) (fun _ _ _ h => h) (Or.inl ⟨by rfl,?_⟩) ?_ ?_
               rotate_left;·intro w';go_simp;with_reducible rfl
               rotate_left;·simp only [Act.put,setIfInBounds_toArray,set_cons_zero,set_cons_succ,i64_w,i32_w];rfl
               refine pure_ (i := 2) (N := some 38) (v := ?_) (a' := ?_) #[true,true,true,false,false,false,false,false,false,false,false,false,false,false,false,false,false,false,false,false,false,false,false,false,false,false,false,false,false,false,false,false] rfl rfl (any_of HT_.out (by kernel_rfl)) (fun _ _ _ h => h) (Or.inl ⟨by rfl,?_⟩) ?_ ?_
               rotate_left;·intro w';go_simp;with_reducible rfl
               rotate_left;·simp only [Act.put,setIfInBounds_toArray,set_cons_zero,set_cons_succ,i64_w,i32_w];rfl
               refine pure_ (i := 3) (N := some 39) (v := ?_) (a' := ?_) #[true,true,true,true,false,false,false,false,false,false,false,false,false,false,false,false,false,false,false,false,false,false,false,false,false,false,false,false,false,false,false,false] rfl rfl (any_of HT_.out (by kernel_rfl)) (fun _ _ _ h => h) (Or.inl ⟨by rfl,?_⟩) ?_ ?_
               rotate_left;·intro w';go_simp;with_reducible rfl
               rotate_left;·simp only [Act.put,setIfInBounds_toArray,set_cons_zero,set_cons_succ,i64_w,i32_w];rfl
               refine pure_ (i := 4) (N := some 40) (v := ?_) (a' := ?_) #[true,true,true,true,true,false,false,false,false,false,false,false,false,false,false,false,false,false,false,false,false,false,false,false,false,false,false,false,false,false,false,false] rfl rfl (any_of HT_.out (by kernel_rfl)) (fun _ _ _ h => h) (Or.inl ⟨by rfl,?_⟩) ?_ ?_
               rotate_left;·intro w';go_simp;with_reducible rfl
               rotate_left;·simp only [Act.put,setIfInBounds_toArray,set_cons_zero,set_cons_succ,i64_w,i32_w];rfl
               refine pure_ (i := 5) (N := some 41) (v := ?_) (a' := ?_) #[true,true,true,true,true,true,false,false,false,false,false,false,false,false,false,false,false,false,false,false,false,false,false,false,false,false,false,false,false,false,false,false] rfl rfl (any_of HT_.out (by kernel_rfl)) (fun _ _ _ h => h) (Or.inl ⟨by rfl,?_⟩) ?_ ?_
               rotate_left;·intro w';go_simp;with_reducible rfl
               rotate_left;·simp only [Act.put,setIfInBounds_toArray,set_cons_zero,set_cons_succ,i64_w,i32_w];rfl
               refine pure_ (i := 6) (N := some 42) (v := ?_) (a' := ?_) #[true,true,true,true,true,true,true,false,false,false,false,false,false,false,false,false,false,false,false,false,false,false,false,false,false,false,false,false,false,false,false,false] rfl rfl (any_of HT_.out (by kernel_rfl)) (fun _ _ _ h => h) (Or.inl ⟨by rfl,?_⟩) ?_ ?_
               rotate_left;·intro w';go_simp;with_reducible rfl
               rotate_left;·simp only [Act.put,setIfInBounds_toArray,set_cons_zero,set_cons_succ,i64_w,i32_w];rfl
               refine pure_ (i := 7) (N := some 43) (v := ?_) (a' := ?_) #[true,true,true,true,true,true,true,true,false,false,false,false,false,false,false,false,false,false,false,false,false,false,false,false,false,false,false,false,false,false,false,false] rfl rfl (any_of HT_.out (by kernel_rfl)) (fun _ _ _ h => h) (Or.inl ⟨by rfl,?_⟩) ?_ ?_
               rotate_left;·intro w';go_simp;with_reducible rfl
               rotate_left;·simp only [Act.put,setIfInBounds_toArray,set_cons_zero,set_cons_succ,i64_w,i32_w];rfl
               refine pure_ (i := 8) (N := some 44) (v := undef) (a' := ?_) #[true,true,true,true,true,true,true,true,true,false,false,false,false,false,false,false,false,false,false,false,false,false,false,false,false,false,false,false,false,false,false,false] rfl rfl (any_of HT_.out (by kernel_rfl)) (fun _ _ _ h => h) (Or.inr ⟨by rfl,rfl⟩) ?_ ?_
               rotate_left;·simp only [Act.put,setIfInBounds_toArray,set_cons_zero,set_cons_succ,i64_w,i32_w];rfl
               refine pure_ (i := 9) (N := some 45) (v := undef) (a' := ?_) #[true,true,true,true,true,true,true,true,true,true,false,false,false,false,false,false,false,false,false,false,false,false,false,false,false,false,false,false,false,false,false,false] rfl rfl (any_of HT_.out (by kernel_rfl)) (fun _ _ _ h => h) (Or.inr ⟨by rfl,rfl⟩) ?_ ?_
               rotate_left;·simp only [Act.put,setIfInBounds_toArray,set_cons_zero,set_cons_succ,i64_w,i32_w];rfl
               refine pure_ (i := 10) (N := some 46) (v := undef) (a' := ?_) #[true,true,true,true,true,true,true,true,true,true,true,false,false,false,false,false,false,false,false,false,false,false,false,false,false,false,false,false,false,false,false,false] rfl rfl (any_of HT_.out (by kernel_rfl)) (fun _ _ _ h => h) (Or.inr ⟨by rfl,rfl⟩) ?_ ?_
               rotate_left;·simp only [Act.put,setIfInBounds_toArray,set_cons_zero,set_cons_succ,i64_w,i32_w];rfl
               refine pure_ (i := 11) (N := some 47) (v := undef) (a' := ?_) #[true,true,true,true,true,true,true,true,true,true,true,true,false,false,false,false,false,false,false,false,false,false,false,false,false,false,false,false,false,false,false,false] rfl rfl (any_of HT_.out (by kernel_rfl)) (fun _ _ _ h => h) (Or.inr ⟨by rfl,rfl⟩) ?_ ?_
               rotate_left;·simp only [Act.put,setIfInBounds_toArray,set_cons_zero,set_cons_succ,i64_w,i32_w];rfl
               refine pure_ (i := 12) (N := some 48) (v := undef) (a' := ?_) #[true,true,true,true,true,true,true,true,true,true,true,true,true,false,false,false,false,false,false,false,false,false,false,false,false,false,false,false,false,false,false,false] rfl rfl (any_of HT_.out (by kernel_rfl)) (fun _ _ _ h => h) (Or.inr ⟨by rfl,rfl⟩) ?_ ?_
               rotate_left;·simp only [Act.put,setIfInBounds_toArray,set_cons_zero,set_cons_succ,i64_w,i32_w];rfl
               refine pure_ (i := 13) (N := some 49) (v := undef) (a' := ?_) #[true,true,true,true,true,true,true,true,true,true,true,true,true,true,false,false,false,false,false,false,false,false,false,false,false,false,false,false,false,false,false,false] rfl rfl (any_of HT_.out (by kernel_rfl)) (fun _ _ _ h => h) (Or.inr ⟨by rfl,rfl⟩) ?_ ?_
               rotate_left;·simp only [Act.put,setIfInBounds_toArray,set_cons_zero,set_cons_succ,i64_w,i32_w];rfl
               refine pure_ (i := 14) (N := some 50) (v := undef) (a' := ?_) #[true,true,true,true,true,true,true,true,true,true,true,true,true,true,true,false,false,false,false,false,false,false,false,false,false,false,false,false,false,false,false,false] rfl rfl (any_of HT_.out (by kernel_rfl)) (fun _ _ _ h => h) (Or.inr ⟨by rfl,rfl⟩) ?_ ?_
               rotate_left;·simp only [Act.put,setIfInBounds_toArray,set_cons_zero,set_cons_succ,i64_w,i32_w];rfl
               refine pure_ (i := 15) (N := some 51) (v := undef) (a' := ?_) #[true,true,true,true,true,true,true,true,true,true,true,true,true,true,true,true,false,false,false,false,false,false,false,false,false,false,false,false,false,false,false,false] rfl rfl (any_of HT_.out (by kernel_rfl)) (fun _ _ _ h => h) (Or.inr ⟨by rfl,rfl⟩) ?_ ?_
               rotate_left;·simp only [Act.put,setIfInBounds_toArray,set_cons_zero,set_cons_succ,i64_w,i32_w];rfl
               refine pure_ (i := 16) (N := some 52) (v := ?_) (a' := ?_) #[true,true,true,true,true,true,true,true,true,true,true,true,true,true,true,true,true,false,false,false,false,false,false,false,false,false,false,false,false,false,false,false] rfl rfl (any_of HT_.out (by kernel_rfl)) (fun _ _ _ h => h) (Or.inl ⟨by rfl,?_⟩) ?_ ?_
               rotate_left;·intro w';go_simp;with_reducible rfl
               rotate_left;·simp only [Act.put,setIfInBounds_toArray,set_cons_zero,set_cons_succ,i64_w,i32_w];rfl
               refine pure_ (i := 17) (N := some 53) (v := ?_) (a' := ?_) #[true,true,true,true,true,true,true,true,true,true,true,true,true,true,true,true,true,true,false,false,false,false,false,false,false,false,false,false,false,false,false,false] rfl rfl (any_of HT_.out (by kernel_rfl)) (fun _ _ _ h => h) (Or.inl ⟨by rfl,?_⟩) ?_ ?_
               rotate_left;·intro w';go_simp;with_reducible rfl
               rotate_left;·simp only [Act.put,setIfInBounds_toArray,set_cons_zero,set_cons_succ,i64_w,i32_w];rfl
               refine pure_ (i := 18) (N := some 54) (v := ?_) (a' := ?_) #[true,true,true,true,true,true,true,true,true,true,true,true,true,true,true,true,true,true,true,false,false,false,false,false,false,false,false,false,false,false,false,false] rfl rfl (any_of HT_.out (by kernel_rfl)) (fun _ _ _ h => h) (Or.inl ⟨by rfl,?_⟩) ?_ ?_
               rotate_left;·intro w';go_simp;with_reducible rfl
               rotate_left;·simp only [Act.put,setIfInBounds_toArray,set_cons_zero,set_cons_succ,i64_w,i32_w];rfl
               refine pure_ (i := 19) (N := some 55) (v := ?_) (a' := ?_) #[true,true,true,true,true,true,true,true,true,true,true,true,true,true,true,true,true,true,true,true,false,false,false,false,false,false,false,false,false,false,false,false] rfl rfl (any_of HT_.out (by kernel_rfl)) (fun _ _ _ h => h) (Or.inl ⟨by rfl,?_⟩) ?_ ?_
               rotate_left;·intro w';go_simp;with_reducible rfl
               rotate_left;·simp only [Act.put,setIfInBounds_toArray,set_cons_zero,set_cons_succ,i64_w,i32_w];rfl
               refine pure_ (i := 20) (N := some 56) (v := ?_) (a' := ?_) #[true,true,true,true,true,true,true,true,true,true,true,true,true,true,true,true,true,true,true,true,true,false,false,false,false,false,false,false,false,false,false,false] rfl rfl (any_of HT_.out (by kernel_rfl)) (fun _ _ _ h => h) (Or.inl ⟨by rfl,?_⟩) ?_ ?_
               rotate_left;·intro w';go_simp;with_reducible rfl
               rotate_left;·simp only [Act.put,setIfInBounds_toArray,set_cons_zero,set_cons_succ,i64_w,i32_w];rfl
               refine pure_ (i := 21) (N := some 57) (v := ?_) (a' := ?_) #[true,true,true,true,true,true,true,true,true,true,true,true,true,true,true,true,true,true,true,true,true,true,false,false,false,false,false,false,false,false,false,false] rfl rfl (any_of HT_.out (by kernel_rfl)) (fun _ _ _ h => h) (Or.inl ⟨by rfl,?_⟩) ?_ ?_
               rotate_left;·intro w';go_simp;with_reducible rfl
               rotate_left;·simp only [Act.put,setIfInBounds_toArray,set_cons_zero,set_cons_succ,i64_w,i32_w];rfl
               refine take_ (i := 22) (N := some 58) (v := ?_) (a' := ?_) #[true,true,true,true,true,true,true,true,true,true,true,true,true,true,true,true,true,true,true,true,true,true,true,false,false,false,false,false,false,false,false,false] rfl rfl (take_ofW HT_.out HW_.out (by kernel_rfl)) (fun _ _ _ h => h) (Or.inl ⟨by rfl,?_⟩) hHeld ?_ ?_
               rotate_left;·intro w' s0;go_simp;with_reducible rfl
               rotate_left;·simp only [Act.put,setIfInBounds_toArray,set_cons_zero,set_cons_succ,i64_w,i32_w];rfl
               refine pure_ (i := 23) (N := some 59) (v := ?_) (a' := ?_) #[true,true,true,true,true,true,true,true,true,true,true,true,true,true,true,true,true,true,true,true,true,true,true,true,false,false,false,false,false,false,false,false] rfl rfl (any_of HT_.out (by kernel_rfl)) (fun _ _ _ h => h) (Or.inl ⟨by rfl,?_⟩) ?_ ?_
               rotate_left;·intro w';go_simp;with_reducible rfl
               rotate_left;·simp only [Act.put,setIfInBounds_toArray,set_cons_zero,set_cons_succ,i64_w,i32_w];rfl
               refine pure_ (i := 24) (N := some 60) (v := ?_) (a' := ?_) #[true,true,true,true,true,true,true,true,true,true,true,true,true,true,true,true,true,true,true,true,true,true,true,true,true,false,false,false,false,false,false,false] rfl rfl (any_of HT_.out (by kernel_rfl)) (fun _ _ _ h => h) (Or.inl ⟨by rfl,?_⟩) ?_ ?_
               rotate_left;·intro w';go_simp;with_reducible rfl
               rotate_left;·simp only [Act.put,setIfInBounds_toArray,set_cons_zero,set_cons_succ,i64_w,i32_w];rfl
               refine pure_ (i := 25) (N := some 61) (v := ?_) (a' := ?_) #[true,true,true,true,true,true,true,true,true,true,true,true,true,true,true,true,true,true,true,true,true,true,true,true,true,true,false,false,false,false,false,false] rfl rfl (any_of HT_.out (by kernel_rfl)) (fun _ _ _ h => h) (Or.inl ⟨by rfl,?_⟩) ?_ ?_
               rotate_left;·intro w';go_simp;with_reducible rfl
               rotate_left;·simp only [Act.put,setIfInBounds_toArray,set_cons_zero,set_cons_succ,i64_w,i32_w];rfl
               refine pure_ (i := 26) (N := some 62) (v := undef) (a' := ?_) #[true,true,true,true,true,true,true,true,true,true,true,true,true,true,true,true,true,true,true,true,true,true,true,true,true,true,true,false,false,false,false,false] rfl rfl (any_of HT_.out (by kernel_rfl)) (fun _ _ _ h => h) (Or.inr ⟨by rfl,rfl⟩) ?_ ?_
               rotate_left;·simp only [Act.put,setIfInBounds_toArray,set_cons_zero,set_cons_succ,i64_w,i32_w];rfl
               refine pure_ (i := 27) (N := some 63) (v := undef) (a' := ?_) #[true,true,true,true,true,true,true,true,true,true,true,true,true,true,true,true,true,true,true,true,true,true,true,true,true,true,true,true,false,false,false,false] rfl rfl (any_of HT_.out (by kernel_rfl)) (fun _ _ _ h => h) (Or.inr ⟨by rfl,rfl⟩) ?_ ?_
               rotate_left;·simp only [Act.put,setIfInBounds_toArray,set_cons_zero,set_cons_succ,i64_w,i32_w];rfl
               refine pure_ (i := 28) (N := some 64) (v := undef) (a' := ?_) #[true,true,true,true,true,true,true,true,true,true,true,true,true,true,true,true,true,true,true,true,true,true,true,true,true,true,true,true,true,false,false,false] rfl rfl (any_of HT_.out (by kernel_rfl)) (fun _ _ _ h => h) (Or.inr ⟨by rfl,rfl⟩) ?_ ?_
               rotate_left;·simp only [Act.put,setIfInBounds_toArray,set_cons_zero,set_cons_succ,i64_w,i32_w];rfl
               refine pure_ (i := 29) (N := some 65) (v := undef) (a' := ?_) #[true,true,true,true,true,true,true,true,true,true,true,true,true,true,true,true,true,true,true,true,true,true,true,true,true,true,true,true,true,true,false,false] rfl rfl (any_of HT_.out (by kernel_rfl)) (fun _ _ _ h => h) (Or.inr ⟨by rfl,rfl⟩) ?_ ?_
               rotate_left;·simp only [Act.put,setIfInBounds_toArray,set_cons_zero,set_cons_succ,i64_w,i32_w];rfl
               refine pure_ (i := 30) (N := some 66) (v := undef) (a' := ?_) #[true,true,true,true,true,true,true,true,true,true,true,true,true,true,true,true,true,true,true,true,true,true,true,true,true,true,true,true,true,true,true,false] rfl rfl (any_of HT_.out (by kernel_rfl)) (fun _ _ _ h => h) (Or.inr ⟨by rfl,rfl⟩) ?_ ?_
               rotate_left;·simp only [Act.put,setIfInBounds_toArray,set_cons_zero,set_cons_succ,i64_w,i32_w];rfl
               refine pure_ (i := 31) (N := some 67) (v := ?_) (a' := ?_) #[true,true,true,true,true,true,true,true,true,true,true,true,true,true,true,true,true,true,true,true,true,true,true,true,true,true,true,true,true,true,true,true] rfl rfl (any_of HT_.out (by kernel_rfl)) (fun _ _ _ h => h) (Or.inl ⟨by rfl,?_⟩) ?_ ?_
               rotate_left;·intro w';go_simp;with_reducible rfl
               rotate_left;·simp only [Act.put,setIfInBounds_toArray,set_cons_zero,set_cons_succ,i64_w,i32_w];rfl
               refine done_ (done_of HT_.out (by kernel_rfl)) ?_
               try go_wp2
               go_ret2
               exact ⟨by first | rfl | (simp [errW_none,errW_some] <;> rfl) | (simp [*,errW_none,errW_some] <;> rfl),by repeat (first | (with_reducible first | exact HB.out | apply below_alloc | apply pw_below_drewN | apply below_drew1) | exact HB.out)⟩
              ·rw [if_neg c31] at H
               have c31b0 : decide ((rd l0 x6_1) < 128) = false := decide_eq_false c31
               clear c31
               by_cases c33 : (rd l0 x6_1) > 191
               ·rw [if_pos c33] at H
                have c33b0 : decide (191 < (rd l0 x6_1)) = true := decide_eq_true c33
                clear c33
                simp only [Option.some.injEq,Prod.mk.injEq] at H
                obtain ⟨rfl,rfl⟩ := H
                try go_wp2
                have n0_ := Aside0.mk (below_drew1 HB.out)
                clear HB
                have HB := n0_
                clear n0_
                have p309 : 0 ≤ (x6_1 : Int) := of_decide_eq_true (by first | (with_reducible assumption) | assumption)
                have q309 : x6_1 < (l0.length : Int) := of_decide_eq_true (by first | (with_reducible assumption) | assumption)
                obtain ⟨ad309,e309,hx309_0⟩ := Kd.at_int HR0.out x6_1 p309 q309
                have hw309_0 := hx309_0
                obtain rfl : ad295 = ad309 := (by injection e309)
                replace hx309_0 := (HB.out.cell (World.block_lt_of_cell? w _ hx309_0)).trans hx309_0
                replace p309 := eq_true p309
                replace q309 := eq_true q309
                have p310 : 0 ≤ (x6_1 : Int) := of_decide_eq_true (by first | (with_reducible assumption) | assumption)
                have q310 : x6_1 < (l0.length : Int) := of_decide_eq_true (by first | (with_reducible assumption) | assumption)
                obtain ⟨ad310,e310,hx310_0⟩ := Kd.at_int HR0.out x6_1 p310 q310
                have hw310_0 := hx310_0
                obtain rfl : ad295 = ad310 := (by injection e310)
                replace hx310_0 := (HB.out.cell (World.block_lt_of_cell? w _ hx310_0)).trans hx310_0
                replace p310 := eq_true p310
                replace q310 := eq_true q310
                refine start_ (n := 32) (S := fun w' => w'.cell? (ad295.add (x6_1).toNat) = some (.int .u8 (rd l0 x6_1)) ∧ w'.cell? (ad295.add (x6_1).toNat) = some (.int .u8 (rd l0 x6_1))) (ds := []) #[false,false,false,false,false,false,false,false,false,false,false,false,false,false,false,false,false,false,false,false,false,false,false,false,false,false,false,false,false,false,false,false] (by kernel_rfl) rfl rfl ⟨((HB.out.cell (World.block_lt_of_cell? w _ hw309_0)).trans hw309_0),((HB.out.cell (World.block_lt_of_cell? w _ hw310_0)).trans hw310_0)⟩ (fun hHeld => ?_);refine with_tabW glyphcutterref02_Decode.tab12 glyphcutterref02_Decode.bits12 (fun HT_ HW_ => ?_)
                generalize wr.drew = w34 at HB hx309_0 hx310_0 hHeld ⊢
                refine pure_ (i := 0) (N := some 36) (v := ?_) (a' := ?_) #[true,false,false,false,false,false,false,false,false,false,false,false,false,false,false,false,false,false,false,false,false,false,false,false,false,false,false,false,false,false,false,false] rfl rfl (any_of HT_.out (by kernel_rfl)) (fun _ _ _ h => h) (Or.inl ⟨by rfl,?_⟩) ?_ ?_
                rotate_left;·intro w';go_simp;with_reducible rfl
                rotate_left;·simp only [Act.put,setIfInBounds_toArray,set_cons_zero,set_cons_succ,i64_w,i32_w];rfl
                refine pure_ (i := 1) (N := some 37) (v := ?_) (a' := ?_) #[true,true,false,false,false,false,false,false,false,false,false,false,false,false,false,false,false,false,false,false,false,false,false,false,false,false,false,false,false,false,false,false] rfl rfl (any_of HT_.out (by kernel_rfl)) (fun _ _ _ h => h) (Or.inl ⟨by rfl,?_⟩) ?_ ?_
                rotate_left;·intro w';go_simp;with_reducible rfl
                rotate_left;·simp only [Act.put,setIfInBounds_toArray,set_cons_zero,set_cons_succ,i64_w,i32_w];rfl
                refine pure_ (i := 2) (N := some 38) (v := ?_) (a' := ?_) #[true,true,true,false,false,false,false,false,false,false,false,false,false,false,false,false,false,false,false,false,false,false,false,false,false,false,false,false,false,false,false,false] rfl rfl (any_of HT_.out (by kernel_rfl)) (fun _ _ _ h => h) (Or.inl ⟨by rfl,?_⟩) ?_ ?_
                rotate_left;·intro w';go_simp;with_reducible rfl
                rotate_left;·simp only [Act.put,setIfInBounds_toArray,set_cons_zero,set_cons_succ,i64_w,i32_w];rfl
                refine pure_ (i := 3) (N := some 39) (v := ?_) (a' := ?_) #[true,true,true,true,false,false,false,false,false,false,false,false,false,false,false,false,false,false,false,false,false,false,false,false,false,false,false,false,false,false,false,false] rfl rfl (any_of HT_.out (by kernel_rfl)) (fun _ _ _ h => h) (Or.inl ⟨by rfl,?_⟩) ?_ ?_
                rotate_left;·intro w';go_simp;with_reducible rfl
                rotate_left;·simp only [Act.put,setIfInBounds_toArray,set_cons_zero,set_cons_succ,i64_w,i32_w];rfl
                refine pure_ (i := 4) (N := some 40) (v := ?_) (a' := ?_) #[true,true,true,true,true,false,false,false,false,false,false,false,false,false,false,false,false,false,false,false,false,false,false,false,false,false,false,false,false,false,false,false] rfl rfl (any_of HT_.out (by kernel_rfl)) (fun _ _ _ h => h) (Or.inl ⟨by rfl,?_⟩) ?_ ?_
                rotate_left;·intro w';go_simp;with_reducible rfl
                rotate_left;·simp only [Act.put,setIfInBounds_toArray,set_cons_zero,set_cons_succ,i64_w,i32_w];rfl
                refine pure_ (i := 5) (N := some 41) (v := ?_) (a' := ?_) #[true,true,true,true,true,true,false,false,false,false,false,false,false,false,false,false,false,false,false,false,false,false,false,false,false,false,false,false,false,false,false,false] rfl rfl (any_of HT_.out (by kernel_rfl)) (fun _ _ _ h => h) (Or.inl ⟨by rfl,?_⟩) ?_ ?_
                rotate_left;·intro w';go_simp;with_reducible rfl
                rotate_left;·simp only [Act.put,setIfInBounds_toArray,set_cons_zero,set_cons_succ,i64_w,i32_w];rfl
                refine pure_ (i := 6) (N := some 42) (v := ?_) (a' := ?_) #[true,true,true,true,true,true,true,false,false,false,false,false,false,false,false,false,false,false,false,false,false,false,false,false,false,false,false,false,false,false,false,false] rfl rfl (any_of HT_.out (by kernel_rfl)) (fun _ _ _ h => h) (Or.inl ⟨by rfl,?_⟩) ?_ ?_
                rotate_left;·intro w';go_simp;with_reducible rfl
                rotate_left;·simp only [Act.put,setIfInBounds_toArray,set_cons_zero,set_cons_succ,i64_w,i32_w];rfl
                refine pure_ (i := 7) (N := some 43) (v := ?_) (a' := ?_) #[true,true,true,true,true,true,true,true,false,false,false,false,false,false,false,false,false,false,false,false,false,false,false,false,false,false,false,false,false,false,false,false] rfl rfl (any_of HT_.out (by kernel_rfl)) (fun _ _ _ h => h) (Or.inl ⟨by rfl,?_⟩) ?_ ?_
                rotate_left;·intro w';go_simp;with_reducible rfl
                rotate_left;·simp only [Act.put,setIfInBounds_toArray,set_cons_zero,set_cons_succ,i64_w,i32_w];rfl
                refine pure_ (i := 8) (N := some 44) (v := undef) (a' := ?_) #[true,true,true,true,true,true,true,true,true,false,false,false,false,false,false,false,false,false,false,false,false,false,false,false,false,false,false,false,false,false,false,false] rfl rfl (any_of HT_.out (by kernel_rfl)) (fun _ _ _ h => h) (Or.inr ⟨by rfl,rfl⟩) ?_ ?_
                rotate_left;·simp only [Act.put,setIfInBounds_toArray,set_cons_zero,set_cons_succ,i64_w,i32_w];rfl
                refine pure_ (i := 9) (N := some 45) (v := undef) (a' := ?_) #[true,true,true,true,true,true,true,true,true,true,false,false,false,false,false,false,false,false,false,false,false,false,false,false,false,false,false,false,false,false,false,false] rfl rfl (any_of HT_.out (by kernel_rfl)) (fun _ _ _ h => h) (Or.inr ⟨by rfl,rfl⟩) ?_ ?_
                rotate_left;·simp only [Act.put,setIfInBounds_toArray,set_cons_zero,set_cons_succ,i64_w,i32_w];rfl
                refine pure_ (i := 10) (N := some 46) (v := undef) (a' := ?_) #[true,true,true,true,true,true,true,true,true,true,true,false,false,false,false,false,false,false,false,false,false,false,false,false,false,false,false,false,false,false,false,false] rfl rfl (any_of HT_.out (by kernel_rfl)) (fun _ _ _ h => h) (Or.inr ⟨by rfl,rfl⟩) ?_ ?_
                rotate_left;·simp only [Act.put,setIfInBounds_toArray,set_cons_zero,set_cons_succ,i64_w,i32_w];rfl
                refine pure_ (i := 11) (N := some 47) (v := undef) (a' := ?_) #[true,true,true,true,true,true,true,true,true,true,true,true,false,false,false,false,false,false,false,false,false,false,false,false,false,false,false,false,false,false,false,false] rfl rfl (any_of HT_.out (by kernel_rfl)) (fun _ _ _ h => h) (Or.inr ⟨by rfl,rfl⟩) ?_ ?_
                rotate_left;·simp only [Act.put,setIfInBounds_toArray,set_cons_zero,set_cons_succ,i64_w,i32_w];rfl
                refine pure_ (i := 12) (N := some 48) (v := undef) (a' := ?_) #[true,true,true,true,true,true,true,true,true,true,true,true,true,false,false,false,false,false,false,false,false,false,false,false,false,false,false,false,false,false,false,false] rfl rfl (any_of HT_.out (by kernel_rfl)) (fun _ _ _ h => h) (Or.inr ⟨by rfl,rfl⟩) ?_ ?_
                rotate_left;·simp only [Act.put,setIfInBounds_toArray,set_cons_zero,set_cons_succ,i64_w,i32_w];rfl
                refine pure_ (i := 13) (N := some 49) (v := undef) (a' := ?_) #[true,true,true,true,true,true,true,true,true,true,true,true,true,true,false,false,false,false,false,false,false,false,false,false,false,false,false,false,false,false,false,false] rfl rfl (any_of HT_.out (by kernel_rfl)) (fun _ _ _ h => h) (Or.inr ⟨by rfl,rfl⟩) ?_ ?_
                rotate_left;·simp only [Act.put,setIfInBounds_toArray,set_cons_zero,set_cons_succ,i64_w,i32_w];rfl
                refine pure_ (i := 14) (N := some 50) (v := undef) (a' := ?_) #[true,true,true,true,true,true,true,true,true,true,true,true,true,true,true,false,false,false,false,false,false,false,false,false,false,false,false,false,false,false,false,false] rfl rfl (any_of HT_.out (by kernel_rfl)) (fun _ _ _ h => h) (Or.inr ⟨by rfl,rfl⟩) ?_ ?_
                rotate_left;·simp only [Act.put,setIfInBounds_toArray,set_cons_zero,set_cons_succ,i64_w,i32_w];rfl
                refine pure_ (i := 15) (N := some 51) (v := undef) (a' := ?_) #[true,true,true,true,true,true,true,true,true,true,true,true,true,true,true,true,false,false,false,false,false,false,false,false,false,false,false,false,false,false,false,false] rfl rfl (any_of HT_.out (by kernel_rfl)) (fun _ _ _ h => h) (Or.inr ⟨by rfl,rfl⟩) ?_ ?_
                rotate_left;·simp only [Act.put,setIfInBounds_toArray,set_cons_zero,set_cons_succ,i64_w,i32_w];rfl
                refine pure_ (i := 16) (N := some 52) (v := ?_) (a' := ?_) #[true,true,true,true,true,true,true,true,true,true,true,true,true,true,true,true,true,false,false,false,false,false,false,false,false,false,false,false,false,false,false,false] rfl rfl (any_of HT_.out (by kernel_rfl)) (fun _ _ _ h => h) (Or.inl ⟨by rfl,?_⟩) ?_ ?_
                rotate_left;·intro w';go_simp;with_reducible rfl
                rotate_left;·simp only [Act.put,setIfInBounds_toArray,set_cons_zero,set_cons_succ,i64_w,i32_w];rfl
                refine pure_ (i := 17) (N := some 53) (v := ?_) (a' := ?_) #[true,true,true,true,true,true,true,true,true,true,true,true,true,true,true,true,true,true,false,false,false,false,false,false,false,false,false,false,false,false,false,false] rfl rfl (any_of HT_.out (by kernel_rfl)) (fun _ _ _ h => h) (Or.inl ⟨by rfl,?_⟩) ?_ ?_
                rotate_left;·intro w';go_simp;with_reducible rfl
                rotate_left;·simp only [Act.put,setIfInBounds_toArray,set_cons_zero,set_cons_succ,i64_w,i32_w];rfl
                refine pure_ (i := 18) (N := some 54) (v := ?_) (a' := ?_) #[true,true,true,true,true,true,true,true,true,true,true,true,true,true,true,true,true,true,true,false,false,false,false,false,false,false,false,false,false,false,false,false] rfl rfl (any_of HT_.out (by kernel_rfl)) (fun _ _ _ h => h) (Or.inl ⟨by rfl,?_⟩) ?_ ?_
                rotate_left;·intro w';go_simp;with_reducible rfl
                rotate_left;·simp only [Act.put,setIfInBounds_toArray,set_cons_zero,set_cons_succ,i64_w,i32_w];rfl
                refine pure_ (i := 19) (N := some 55) (v := ?_) (a' := ?_) #[true,true,true,true,true,true,true,true,true,true,true,true,true,true,true,true,true,true,true,true,false,false,false,false,false,false,false,false,false,false,false,false] rfl rfl (any_of HT_.out (by kernel_rfl)) (fun _ _ _ h => h) (Or.inl ⟨by rfl,?_⟩) ?_ ?_
                rotate_left;·intro w';go_simp;with_reducible rfl
                rotate_left;·simp only [Act.put,setIfInBounds_toArray,set_cons_zero,set_cons_succ,i64_w,i32_w];rfl
                refine pure_ (i := 20) (N := some 56) (v := ?_) (a' := ?_) #[true,true,true,true,true,true,true,true,true,true,true,true,true,true,true,true,true,true,true,true,true,false,false,false,false,false,false,false,false,false,false,false] rfl rfl (any_of HT_.out (by kernel_rfl)) (fun _ _ _ h => h) (Or.inl ⟨by rfl,?_⟩) ?_ ?_
                rotate_left;·intro w';go_simp;with_reducible rfl
                rotate_left;·simp only [Act.put,setIfInBounds_toArray,set_cons_zero,set_cons_succ,i64_w,i32_w];rfl
                refine pure_ (i := 21) (N := some 57) (v := ?_) (a' := ?_) #[true,true,true,true,true,true,true,true,true,true,true,true,true,true,true,true,true,true,true,true,true,true,false,false,false,false,false,false,false,false,false,false] rfl rfl (any_of HT_.out (by kernel_rfl)) (fun _ _ _ h => h) (Or.inl ⟨by rfl,?_⟩) ?_ ?_
                rotate_left;·intro w';go_simp;with_reducible rfl
                rotate_left;·simp only [Act.put,setIfInBounds_toArray,set_cons_zero,set_cons_succ,i64_w,i32_w];rfl
                refine take_ (i := 22) (N := some 58) (v := ?_) (a' := ?_) #[true,true,true,true,true,true,true,true,true,true,true,true,true,true,true,true,true,true,true,true,true,true,true,false,false,false,false,false,false,false,false,false] rfl rfl (take_ofW HT_.out HW_.out (by kernel_rfl)) (fun _ _ _ h => h) (Or.inl ⟨by rfl,?_⟩) hHeld ?_ ?_
                rotate_left;·rintro w' ⟨s0,s1⟩;go_simp;with_reducible rfl
                rotate_left;·simp only [Act.put,setIfInBounds_toArray,set_cons_zero,set_cons_succ,i64_w,i32_w];rfl
                refine pure_ (i := 23) (N := some 59) (v := ?_) (a' := ?_) #[true,true,true,true,true,true,true,true,true,true,true,true,true,true,true,true,true,true,true,true,true,true,true,true,false,false,false,false,false,false,false,false] rfl rfl (any_of HT_.out (by kernel_rfl)) (fun _ _ _ h => h) (Or.inl ⟨by rfl,?_⟩) ?_ ?_
                rotate_left;·intro w';go_simp;with_reducible rfl
                rotate_left;·simp only [Act.put,setIfInBounds_toArray,set_cons_zero,set_cons_succ,i64_w,i32_w];rfl
                refine pure_ (i := 24) (N := some 60) (v := ?_) (a' := ?_) #[true,true,true,true,true,true,true,true,true,true,true,true,true,true,true,true,true,true,true,true,true,true,true,true,true,false,false,false,false,false,false,false] rfl rfl (any_of HT_.out (by kernel_rfl)) (fun _ _ _ h => h) (Or.inl ⟨by rfl,?_⟩) ?_ ?_
                rotate_left;·intro w';go_simp;with_reducible rfl
                rotate_left;·simp only [Act.put,setIfInBounds_toArray,set_cons_zero,set_cons_succ,i64_w,i32_w];rfl
                refine pure_ (i := 25) (N := some 61) (v := ?_) (a' := ?_) #[true,true,true,true,true,true,true,true,true,true,true,true,true,true,true,true,true,true,true,true,true,true,true,true,true,true,false,false,false,false,false,false] rfl rfl (any_of HT_.out (by kernel_rfl)) (fun _ _ _ h => h) (Or.inl ⟨by rfl,?_⟩) ?_ ?_
                rotate_left;·intro w';go_simp;with_reducible rfl
                rotate_left;·simp only [Act.put,setIfInBounds_toArray,set_cons_zero,set_cons_succ,i64_w,i32_w];rfl
                refine pure_ (i := 26) (N := some 62) (v := ?_) (a' := ?_) #[true,true,true,true,true,true,true,true,true,true,true,true,true,true,true,true,true,true,true,true,true,true,true,true,true,true,true,false,false,false,false,false] rfl rfl (any_of HT_.out (by kernel_rfl)) (fun _ _ _ h => h) (Or.inl ⟨by rfl,?_⟩) ?_ ?_
                rotate_left;·intro w';go_simp;with_reducible rfl
                rotate_left;·simp only [Act.put,setIfInBounds_toArray,set_cons_zero,set_cons_succ,i64_w,i32_w];rfl
                refine pure_ (i := 27) (N := some 63) (v := ?_) (a' := ?_) #[true,true,true,true,true,true,true,true,true,true,true,true,true,true,true,true,true,true,true,true,true,true,true,true,true,true,true,true,false,false,false,false] rfl rfl (any_of HT_.out (by kernel_rfl)) (fun _ _ _ h => h) (Or.inl ⟨by rfl,?_⟩) ?_ ?_
                rotate_left;·intro w';go_simp;with_reducible rfl
                rotate_left;·simp only [Act.put,setIfInBounds_toArray,set_cons_zero,set_cons_succ,i64_w,i32_w];rfl
                refine pure_ (i := 28) (N := some 64) (v := ?_) (a' := ?_) #[true,true,true,true,true,true,true,true,true,true,true,true,true,true,true,true,true,true,true,true,true,true,true,true,true,true,true,true,true,false,false,false] rfl rfl (any_of HT_.out (by kernel_rfl)) (fun _ _ _ h => h) (Or.inl ⟨by rfl,?_⟩) ?_ ?_
                rotate_left;·intro w';go_simp;with_reducible rfl
                rotate_left;·simp only [Act.put,setIfInBounds_toArray,set_cons_zero,set_cons_succ,i64_w,i32_w];rfl
                refine take_ (i := 29) (N := some 65) (v := ?_) (a' := ?_) #[true,true,true,true,true,true,true,true,true,true,true,true,true,true,true,true,true,true,true,true,true,true,true,true,true,true,true,true,true,true,false,false] rfl rfl (take_ofW HT_.out HW_.out (by kernel_rfl)) (fun _ _ _ h => h) (Or.inl ⟨by rfl,?_⟩) hHeld ?_ ?_
                rotate_left;·rintro w' ⟨s0,s1⟩;go_simp;with_reducible rfl
                rotate_left;·simp only [Act.put,setIfInBounds_toArray,set_cons_zero,set_cons_succ,i64_w,i32_w];rfl
                refine pure_ (i := 30) (N := some 66) (v := ?_) (a' := ?_) #[true,true,true,true,true,true,true,true,true,true,true,true,true,true,true,true,true,true,true,true,true,true,true,true,true,true,true,true,true,true,true,false] rfl rfl (any_of HT_.out (by kernel_rfl)) (fun _ _ _ h => h) (Or.inl ⟨by rfl,?_⟩) ?_ ?_
                rotate_left;·intro w';go_simp;with_reducible rfl
                rotate_left;·simp only [Act.put,setIfInBounds_toArray,set_cons_zero,set_cons_succ,i64_w,i32_w];rfl
                refine pure_ (i := 31) (N := some 67) (v := ?_) (a' := ?_) #[true,true,true,true,true,true,true,true,true,true,true,true,true,true,true,true,true,true,true,true,true,true,true,true,true,true,true,true,true,true,true,true] rfl rfl (any_of HT_.out (by kernel_rfl)) (fun _ _ _ h => h) (Or.inl ⟨by rfl,?_⟩) ?_ ?_
                rotate_left;·intro w';go_simp;with_reducible rfl
                rotate_left;·simp only [Act.put,setIfInBounds_toArray,set_cons_zero,set_cons_succ,i64_w,i32_w];rfl
                refine done_ (done_of HT_.out (by kernel_rfl)) ?_
                try go_wp2
                go_ret2
                exact ⟨by first | rfl | (simp [errW_none,errW_some] <;> rfl) | (simp [*,errW_none,errW_some] <;> rfl),by repeat (first | (with_reducible first | exact HB.out | apply below_alloc | apply pw_below_drewN | apply below_drew1) | exact HB.out)⟩
               ·rw [if_neg c33] at H
                have c33b0 : decide (191 < (rd l0 x6_1)) = false := decide_eq_false c33
                clear c33
                have H' := Aside0.mk H
                clear H
                try go_wp2
                have n0_ := Aside0.mk (below_drew1 HB.out)
                clear HB
                have HB := n0_
                clear n0_
                have p309 : 0 ≤ (x6_1 : Int) := of_decide_eq_true (by first | (with_reducible assumption) | assumption)
                have q309 : x6_1 < (l0.length : Int) := of_decide_eq_true (by first | (with_reducible assumption) | assumption)
                obtain ⟨ad309,e309,hx309_0⟩ := Kd.at_int HR0.out x6_1 p309 q309
                have hw309_0 := hx309_0
                obtain rfl : ad295 = ad309 := (by injection e309)
                replace hx309_0 := (HB.out.cell (World.block_lt_of_cell? w _ hx309_0)).trans hx309_0
                replace p309 := eq_true p309
                replace q309 := eq_true q309
                have p310 : 0 ≤ (x6_1 : Int) := of_decide_eq_true (by first | (with_reducible assumption) | assumption)
                have q310 : x6_1 < (l0.length : Int) := of_decide_eq_true (by first | (with_reducible assumption) | assumption)
                obtain ⟨ad310,e310,hx310_0⟩ := Kd.at_int HR0.out x6_1 p310 q310
                have hw310_0 := hx310_0
                obtain rfl : ad295 = ad310 := (by injection e310)
                replace hx310_0 := (HB.out.cell (World.block_lt_of_cell? w _ hx310_0)).trans hx310_0
                replace p310 := eq_true p310
                replace q310 := eq_true q310
                refine start_ (n := 32) (S := fun w' => w'.cell? (ad295.add (x6_1).toNat) = some (.int .u8 (rd l0 x6_1)) ∧ w'.cell? (ad295.add (x6_1).toNat) = some (.int .u8 (rd l0 x6_1))) (ds := []) #[false,false,false,false,false,false,false,false,false,false,false,false,false,false,false,false,false,false,false,false,false,false,false,false,false,false,false,false,false,false,false,false] (by kernel_rfl) rfl rfl ⟨((HB.out.cell (World.block_lt_of_cell? w _ hw309_0)).trans hw309_0),((HB.out.cell (World.block_lt_of_cell? w _ hw310_0)).trans hw310_0)⟩ (fun hHeld => ?_);refine with_tabW glyphcutterref02_Decode.tab12 glyphcutterref02_Decode.bits12 (fun HT_ HW_ => ?_)
                generalize wr.drew = w35 at HB hx309_0 hx310_0 hHeld ⊢
                refine pure_ (i := 0) (N := some 36) (v := ?_) (a' := ?_) #[true,false,false,false,false,false,false,false,false,false,false,false,false,false,false,false,false,false,false,false,false,false,false,false,false,false,false,false,false,false,false,false] rfl rfl (any_of HT_.out (by kernel_rfl)) (fun _ _ _ h => h) (Or.inl ⟨by rfl,?_⟩) ?_ ?_
                rotate_left;·intro w';go_simp;with_reducible rfl
                rotate_left;·simp only [Act.put,setIfInBounds_toArray,set_cons_zero,set_cons_succ,i64_w,i32_w];rfl
                refine pure_ (i := 1) (N := some 37) (v := ?_) (a' := ?_) #[true,true,false,false,false,false,false,false,false,false,false,false,false,false,false,false,false,false,false,false,false,false,false,false,false,false,false,false,false,false,false,false] rfl rfl (any_of HT_.out (by kernel_rfl)) (fun _ _ _ h => h) (Or.inl ⟨by rfl,?_⟩) ?_ ?_
                rotate_left;·intro w';go_simp;with_reducible rfl
                rotate_left;·simp only [Act.put,setIfInBounds_toArray,set_cons_zero,set_cons_succ,i64_w,i32_w];rfl
                refine pure_ (i := 2) (N := some 38) (v := ?_) (a' := ?_) #[true,true,true,false,false,false,false,false,false,false,false,false,false,false,false,false,false,false,false,false,false,false,false,false,false,false,false,false,false,false,false,false] rfl rfl (any_of HT_.out (by kernel_rfl)) (fun _ _ _ h => h) (Or.inl ⟨by rfl,?_⟩) ?_ ?_
                rotate_left;·intro w';go_simp;with_reducible rfl
                rotate_left;·simp only [Act.put,setIfInBounds_toArray,set_cons_zero,set_cons_succ,i64_w,i32_w];rfl
                refine pure_ (i := 3) (N := some 39) (v := ?_) (a' := ?_) #[true,true,true,true,false,false,false,false,false,false,false,false,false,false,false,false,false,false,false,false,false,false,false,false,false,false,false,false,false,false,false,false] rfl rfl (any_of HT_.out (by kernel_rfl)) (fun _ _ _ h => h) (Or.inl ⟨by rfl,?_⟩) ?_ ?_
                rotate_left;·intro w';go_simp;with_reducible rfl
                rotate_left;·simp only [Act.put,setIfInBounds_toArray,set_cons_zero,set_cons_succ,i64_w,i32_w];rfl
                refine pure_ (i := 4) (N := some 40) (v := ?_) (a' := ?_) #[true,true,true,true,true,false,false,false,false,false,false,false,false,false,false,false,false,false,false,false,false,false,false,false,false,false,false,false,false,false,false,false] rfl rfl (any_of HT_.out (by kernel_rfl)) (fun _ _ _ h => h) (Or.inl ⟨by rfl,?_⟩) ?_ ?_
                rotate_left;·intro w';go_simp;with_reducible rfl
                rotate_left;·simp only [Act.put,setIfInBounds_toArray,set_cons_zero,set_cons_succ,i64_w,i32_w];rfl
                refine pure_ (i := 5) (N := some 41) (v := ?_) (a' := ?_) #[true,true,true,true,true,true,false,false,false,false,false,false,false,false,false,false,false,false,false,false,false,false,false,false,false,false,false,false,false,false,false,false] rfl rfl (any_of HT_.out (by kernel_rfl)) (fun _ _ _ h => h) (Or.inl ⟨by rfl,?_⟩) ?_ ?_
                rotate_left;·intro w';go_simp;with_reducible rfl
                rotate_left;·simp only [Act.put,setIfInBounds_toArray,set_cons_zero,set_cons_succ,i64_w,i32_w];rfl
                refine pure_ (i := 6) (N := some 42) (v := ?_) (a' := ?_) #[true,true,true,true,true,true,true,false,false,false,false,false,false,false,false,false,false,false,false,false,false,false,false,false,false,false,false,false,false,false,false,false] rfl rfl (any_of HT_.out (by kernel_rfl)) (fun _ _ _ h => h) (Or.inl ⟨by rfl,?_⟩) ?_ ?_
                rotate_left;·intro w';go_simp;with_reducible rfl
                rotate_left;·simp only [Act.put,setIfInBounds_toArray,set_cons_zero,set_cons_succ,i64_w,i32_w];rfl
                refine pure_ (i := 7) (N := some 43) (v := ?_) (a' := ?_) #[true,true,true,true,true,true,true,true,false,false,false,false,false,false,false,false,false,false,false,false,false,false,false,false,false,false,false,false,false,false,false,false] rfl rfl (any_of HT_.out (by kernel_rfl)) (fun _ _ _ h => h) (Or.inl ⟨by rfl,?_⟩) ?_ ?_
                rotate_left;·intro w';go_simp;with_reducible rfl
                rotate_left;·simp only [Act.put,setIfInBounds_toArray,set_cons_zero,set_cons_succ,i64_w,i32_w];rfl
                refine pure_ (i := 8) (N := some 44) (v := undef) (a' := ?_) #[true,true,true,true,true,true,true,true,true,false,false,false,false,false,false,false,false,false,false,false,false,false,false,false,false,false,false,false,false,false,false,false] rfl rfl (any_of HT_.out (by kernel_rfl)) (fun _ _ _ h => h) (Or.inr ⟨by rfl,rfl⟩) ?_ ?_
                rotate_left;·simp only [Act.put,setIfInBounds_toArray,set_cons_zero,set_cons_succ,i64_w,i32_w];rfl
                refine pure_ (i := 9) (N := some 45) (v := undef) (a' := ?_) #[true,true,true,true,true,true,true,true,true,true,false,false,false,false,false,false,false,false,false,false,false,false,false,false,false,false,false,false,false,false,false,false] rfl rfl (any_of HT_.out (by kernel_rfl)) (fun _ _ _ h => h) (Or.inr ⟨by rfl,rfl⟩) ?_ ?_
                rotate_left;·simp only [Act.put,setIfInBounds_toArray,set_cons_zero,set_cons_succ,i64_w,i32_w];rfl
                refine pure_ (i := 10) (N := some 46) (v := undef) (a' := ?_) #[true,true,true,true,true,true,true,true,true,true,true,false,false,false,false,false,false,false,false,false,false,false,false,false,false,false,false,false,false,false,false,false] rfl rfl (any_of HT_.out (by kernel_rfl)) (fun _ _ _ h => h) (Or.inr ⟨by rfl,rfl⟩) ?_ ?_
                rotate_left;·simp only [Act.put,setIfInBounds_toArray,set_cons_zero,set_cons_succ,i64_w,i32_w];rfl
                refine pure_ (i := 11) (N := some 47) (v := undef) (a' := ?_) #[true,true,true,true,true,true,true,true,true,true,true,true,false,false,false,false,false,false,false,false,false,false,false,false,false,false,false,false,false,false,false,false] rfl rfl (any_of HT_.out (by kernel_rfl)) (fun _ _ _ h => h) (Or.inr ⟨by rfl,rfl⟩) ?_ ?_
                rotate_left;·simp only [Act.put,setIfInBounds_toArray,set_cons_zero,set_cons_succ,i64_w,i32_w];rfl
                refine pure_ (i := 12) (N := some 48) (v := undef) (a' := ?_) #[true,true,true,true,true,true,true,true,true,true,true,true,true,false,false,false,false,false,false,false,false,false,false,false,false,false,false,false,false,false,false,false] rfl rfl (any_of HT_.out (by kernel_rfl)) (fun _ _ _ h => h) (Or.inr ⟨by rfl,rfl⟩) ?_ ?_
                rotate_left;·simp only [Act.put,setIfInBounds_toArray,set_cons_zero,set_cons_succ,i64_w,i32_w];rfl
                refine pure_ (i := 13) (N := some 49) (v := undef) (a' := ?_) #[true,true,true,true,true,true,true,true,true,true,true,true,true,true,false,false,false,false,false,false,false,false,false,false,false,false,false,false,false,false,false,false] rfl rfl (any_of HT_.out (by kernel_rfl)) (fun _ _ _ h => h) (Or.inr ⟨by rfl,rfl⟩) ?_ ?_
                rotate_left;·simp only [Act.put,setIfInBounds_toArray,set_cons_zero,set_cons_succ,i64_w,i32_w];rfl
                refine pure_ (i := 14) (N := some 50) (v := undef) (a' := ?_) #[true,true,true,true,true,true,true,true,true,true,true,true,true,true,true,false,false,false,false,false,false,false,false,false,false,false,false,false,false,false,false,false] rfl rfl (any_of HT_.out (by kernel_rfl)) (fun _ _ _ h => h) (Or.inr ⟨by rfl,rfl⟩) ?_ ?_
                rotate_left;·simp only [Act.put,setIfInBounds_toArray,set_cons_zero,set_cons_succ,i64_w,i32_w];rfl
                refine pure_ (i := 15) (N := some 51) (v := undef) (a' := ?_) #[true,true,true,true,true,true,true,true,true,true,true,true,true,true,true,true,false,false,false,false,false,false,false,false,false,false,false,false,false,false,false,false] rfl rfl (any_of HT_.out (by kernel_rfl)) (fun _ _ _ h => h) (Or.inr ⟨by rfl,rfl⟩) ?_ ?_
                rotate_left;·simp only [Act.put,setIfInBounds_toArray,set_cons_zero,set_cons_succ,i64_w,i32_w];rfl
                refine pure_ (i := 16) (N := some 52) (v := ?_) (a' := ?_) #[true,true,true,true,true,true,true,true,true,true,true,true,true,true,true,true,true,false,false,false,false,false,false,false,false,false,false,false,false,false,false,false] rfl rfl (any_of HT_.out (by kernel_rfl)) (fun _ _ _ h => h) (Or.inl ⟨by rfl,?_⟩) ?_ ?_
                rotate_left;·intro w';go_simp;with_reducible rfl
                rotate_left;·simp only [Act.put,setIfInBounds_toArray,set_cons_zero,set_cons_succ,i64_w,i32_w];rfl
                refine pure_ (i := 17) (N := some 53) (v := ?_) (a' := ?_) #[true,true,true,true,true,true,true,true,true,true,true,true,true,true,true,true,true,true,false,false,false,false,false,false,false,false,false,false,false,false,false,false] rfl rfl (any_of HT_.out (by kernel_rfl)) (fun _ _ _ h => h) (Or.inl ⟨by rfl,?_⟩) ?_ ?_
                rotate_left;·intro w';go_simp;with_reducible rfl
                rotate_left;·simp only [Act.put,setIfInBounds_toArray,set_cons_zero,set_cons_succ,i64_w,i32_w];rfl
                refine pure_ (i := 18) (N := some 54) (v := ?_) (a' := ?_) #[true,true,true,true,true,true,true,true,true,true,true,true,true,true,true,true,true,true,true,false,false,false,false,false,false,false,false,false,false,false,false,false] rfl rfl (any_of HT_.out (by kernel_rfl)) (fun _ _ _ h => h) (Or.inl ⟨by rfl,?_⟩) ?_ ?_
                rotate_left;·intro w';go_simp;with_reducible rfl
                rotate_left;·simp only [Act.put,setIfInBounds_toArray,set_cons_zero,set_cons_succ,i64_w,i32_w];rfl
                refine pure_ (i := 19) (N := some 55) (v := ?_) (a' := ?_) #[true,true,true,true,true,true,true,true,true,true,true,true,true,true,true,true,true,true,true,true,false,false,false,false,false,false,false,false,false,false,false,false] rfl rfl (any_of HT_.out (by kernel_rfl)) (fun _ _ _ h => h) (Or.inl ⟨by rfl,?_⟩) ?_ ?_
                rotate_left;·intro w';go_simp;with_reducible rfl
                rotate_left;·simp only [Act.put,setIfInBounds_toArray,set_cons_zero,set_cons_succ,i64_w,i32_w];rfl
                refine pure_ (i := 20) (N := some 56) (v := ?_) (a' := ?_) #[true,true,true,true,true,true,true,true,true,true,true,true,true,true,true,true,true,true,true,true,true,false,false,false,false,false,false,false,false,false,false,false] rfl rfl (any_of HT_.out (by kernel_rfl)) (fun _ _ _ h => h) (Or.inl ⟨by rfl,?_⟩) ?_ ?_
                rotate_left;·intro w';go_simp;with_reducible rfl
                rotate_left;·simp only [Act.put,setIfInBounds_toArray,set_cons_zero,set_cons_succ,i64_w,i32_w];rfl
                refine pure_ (i := 21) (N := some 57) (v := ?_) (a' := ?_) #[true,true,true,true,true,true,true,true,true,true,true,true,true,true,true,true,true,true,true,true,true,true,false,false,false,false,false,false,false,false,false,false] rfl rfl (any_of HT_.out (by kernel_rfl)) (fun _ _ _ h => h) (Or.inl ⟨by rfl,?_⟩) ?_ ?_
                rotate_left;·intro w';go_simp;with_reducible rfl
                rotate_left;·simp only [Act.put,setIfInBounds_toArray,set_cons_zero,set_cons_succ,i64_w,i32_w];rfl
                refine take_ (i := 22) (N := some 58) (v := ?_) (a' := ?_) #[true,true,true,true,true,true,true,true,true,true,true,true,true,true,true,true,true,true,true,true,true,true,true,false,false,false,false,false,false,false,false,false] rfl rfl (take_ofW HT_.out HW_.out (by kernel_rfl)) (fun _ _ _ h => h) (Or.inl ⟨by rfl,?_⟩) hHeld ?_ ?_
                rotate_left;·rintro w' ⟨s0,s1⟩;go_simp;with_reducible rfl
                rotate_left;·simp only [Act.put,setIfInBounds_toArray,set_cons_zero,set_cons_succ,i64_w,i32_w];rfl
                refine pure_ (i := 23) (N := some 59) (v := ?_) (a' := ?_) #[true,true,true,true,true,true,true,true,true,true,true,true,true,true,true,true,true,true,true,true,true,true,true,true,false,false,false,false,false,false,false,false] rfl rfl (any_of HT_.out (by kernel_rfl)) (fun _ _ _ h => h) (Or.inl ⟨by rfl,?_⟩) ?_ ?_
                rotate_left;·intro w';go_simp;with_reducible rfl
                rotate_left;·simp only [Act.put,setIfInBounds_toArray,set_cons_zero,set_cons_succ,i64_w,i32_w];rfl
                refine pure_ (i := 24) (N := some 60) (v := ?_) (a' := ?_) #[true,true,true,true,true,true,true,true,true,true,true,true,true,true,true,true,true,true,true,true,true,true,true,true,true,false,false,false,false,false,false,false] rfl rfl (any_of HT_.out (by kernel_rfl)) (fun _ _ _ h => h) (Or.inl ⟨by rfl,?_⟩) ?_ ?_
                rotate_left;·intro w';go_simp;with_reducible rfl
                rotate_left;·simp only [Act.put,setIfInBounds_toArray,set_cons_zero,set_cons_succ,i64_w,i32_w];rfl
                refine pure_ (i := 25) (N := some 61) (v := ?_) (a' := ?_) #[true,true,true,true,true,true,true,true,true,true,true,true,true,true,true,true,true,true,true,true,true,true,true,true,true,true,false,false,false,false,false,false] rfl rfl (any_of HT_.out (by kernel_rfl)) (fun _ _ _ h => h) (Or.inl ⟨by rfl,?_⟩) ?_ ?_
                rotate_left;·intro w';go_simp;with_reducible rfl
                rotate_left;·simp only [Act.put,setIfInBounds_toArray,set_cons_zero,set_cons_succ,i64_w,i32_w];rfl
                refine pure_ (i := 26) (N := some 62) (v := ?_) (a' := ?_) #[true,true,true,true,true,true,true,true,true,true,true,true,true,true,true,true,true,true,true,true,true,true,true,true,true,true,true,false,false,false,false,false] rfl rfl (any_of HT_.out (by kernel_rfl)) (fun _ _ _ h => h) (Or.inl ⟨by rfl,?_⟩) ?_ ?_
                rotate_left;·intro w';go_simp;with_reducible rfl
                rotate_left;·simp only [Act.put,setIfInBounds_toArray,set_cons_zero,set_cons_succ,i64_w,i32_w];rfl
                refine pure_ (i := 27) (N := some 63) (v := ?_) (a' := ?_) #[true,true,true,true,true,true,true,true,true,true,true,true,true,true,true,true,true,true,true,true,true,true,true,true,true,true,true,true,false,false,false,false] rfl rfl (any_of HT_.out (by kernel_rfl)) (fun _ _ _ h => h) (Or.inl ⟨by rfl,?_⟩) ?_ ?_
                rotate_left;·intro w';go_simp;with_reducible rfl
                rotate_left;·simp only [Act.put,setIfInBounds_toArray,set_cons_zero,set_cons_succ,i64_w,i32_w];rfl
                refine pure_ (i := 28) (N := some 64) (v := ?_) (a' := ?_) #[true,true,true,true,true,true,true,true,true,true,true,true,true,true,true,true,true,true,true,true,true,true,true,true,true,true,true,true,true,false,false,false] rfl rfl (any_of HT_.out (by kernel_rfl)) (fun _ _ _ h => h) (Or.inl ⟨by rfl,?_⟩) ?_ ?_
                rotate_left;·intro w';go_simp;with_reducible rfl
                rotate_left;·simp only [Act.put,setIfInBounds_toArray,set_cons_zero,set_cons_succ,i64_w,i32_w];rfl
                refine take_ (i := 29) (N := some 65) (v := ?_) (a' := ?_) #[true,true,true,true,true,true,true,true,true,true,true,true,true,true,true,true,true,true,true,true,true,true,true,true,true,true,true,true,true,true,false,false] rfl rfl (take_ofW HT_.out HW_.out (by kernel_rfl)) (fun _ _ _ h => h) (Or.inl ⟨by rfl,?_⟩) hHeld ?_ ?_
                rotate_left;·rintro w' ⟨s0,s1⟩;go_simp;with_reducible rfl
                rotate_left;·simp only [Act.put,setIfInBounds_toArray,set_cons_zero,set_cons_succ,i64_w,i32_w];rfl
                refine pure_ (i := 30) (N := some 66) (v := ?_) (a' := ?_) #[true,true,true,true,true,true,true,true,true,true,true,true,true,true,true,true,true,true,true,true,true,true,true,true,true,true,true,true,true,true,true,false] rfl rfl (any_of HT_.out (by kernel_rfl)) (fun _ _ _ h => h) (Or.inl ⟨by rfl,?_⟩) ?_ ?_
                rotate_left;·intro w';go_simp;with_reducible rfl
                rotate_left;·simp only [Act.put,setIfInBounds_toArray,set_cons_zero,set_cons_succ,i64_w,i32_w];rfl
                refine pure_ (i := 31) (N := some 67) (v := ?_) (a' := ?_) #[true,true,true,true,true,true,true,true,true,true,true,true,true,true,true,true,true,true,true,true,true,true,true,true,true,true,true,true,true,true,true,true] rfl rfl (any_of HT_.out (by kernel_rfl)) (fun _ _ _ h => h) (Or.inl ⟨by rfl,?_⟩) ?_ ?_
                rotate_left;·intro w';go_simp;with_reducible rfl
                rotate_left;·simp only [Act.put,setIfInBounds_toArray,set_cons_zero,set_cons_succ,i64_w,i32_w];rfl
                refine done_ (done_of HT_.out (by kernel_rfl)) ?_
                have p311 : 0 ≤ (x6_1 : Int) := of_decide_eq_true (by first | (with_reducible assumption) | assumption)
                have q311 : x6_1 < (l0.length : Int) := of_decide_eq_true (by first | (with_reducible assumption) | assumption)
                obtain ⟨ad311,e311,hx311_0⟩ := Kd.at_int HR0.out x6_1 p311 q311
                obtain rfl : ad295 = ad311 := (by injection e311)
                replace hx311_0 := (HB.out.cell (World.block_lt_of_cell? w _ hx311_0)).trans hx311_0
                replace p311 := eq_true p311
                replace q311 := eq_true q311
                try go_wp2
                go_roundg k1
                case measure => have := HK1.out;omega
                case rel => exact ⟨(wrap64 ((wrap64 ((wrap64 (64 * x5_1)) + (wrap64 (rd l0 x6_1)))) - 128)),(wrap64 (x6_1 + 1)),(by first | rfl | (simp;done) | (simp [*];done)),(by first | rfl | (simp;done) | (simp [*];done)),H',⟨by have := HK1.out;omega⟩,⟨by repeat (first | (with_reducible first | exact HB.out | apply below_alloc | apply pw_below_drewN | apply below_drew1) | exact HB.out)⟩⟩
             ·rw [if_neg c30] at H
              exact absurd H (by simp)
            ·rw [if_neg c29] at H
             exact absurd H (by simp)
         ·rw [if_neg c13] at H
          have c13b0 : decide (x6_1 < t296) = false := decide_eq_false c13
          clear c13
          simp only [Option.some.injEq,Prod.mk.injEq] at H
          obtain ⟨rfl,rfl⟩ := H
          go_wp2
          go_ret2
          exact ⟨by first | rfl | (simp [errW_none,errW_some] <;> rfl) | (simp [*,errW_none,errW_some] <;> rfl),by repeat (first | (with_reducible first | exact HB.out | apply below_alloc | apply pw_below_drewN | apply below_drew1) | exact HB.out)⟩
      ·rw [if_neg c8] at H
       exact absurd H (by simp)
     ·rw [if_neg c7] at H
      exact absurd H (by simp)
  ·rw [if_neg c3] at H
   exact absurd H (by simp)

end Go.Proofs.Ytfaahcgoinkmlaa.P
