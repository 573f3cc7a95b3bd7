-- WRITTEN BY A PROGRAM (hybrid.py over the kit's print.py): Lean checks it.
import Derived.Test.YtbhfaeliklaffaaPx0
namespace Go.Proofs.Ytbhfaeliklaffaa.P
open Go.RowKit Go.Proofs.YtbhfaeliklaffaaW.PrintWords Go.Proofs.YtbhfaeliklaffaaW.PrintLast Go.Proofs.YtbhfaeliklaffaaW.PrintMore
attribute [local go_sem] max2_int min2_int max_two min_two max_three min_three max_four min_four   -- for this text's walks alone
set_option linter.unusedVariables false
set_option linter.unusedSimpArgs false

/-! ### seqs_limits: function 48 -/
def seqs_limits.f  : Option (List Int) := some (([127,2047,65535,1114111] : List Int))
set_option maxHeartbeats 8000000 in
set_option maxRecDepth 100000 in
theorem seqs_limits.calls  (r : List Int) (w : World) (h : seqs_limits.f  = some r) :
  Calls Try.prog 48 #[] w fun e w' => ∃ v0_ : Value,e = .returned (v0_) ∧ Kd.R (Kd.int .i64) 3 w' w.heap.size (fun _ => True) v0_ r ∧ Below w.heap.size w w' := by
 have HB := Aside0.mk (Below.refl w.heap.size w)
 have H : (some (([127,2047,65535,1114111] : List Int))) = some r := h
 clear h
 obtain ⟨y420,hy420⟩ : ∃ y_ : List Int,y_ = (([127,2047,65535,1114111] : List Int)) := ⟨_,rfl⟩
 replace H : (some y420) = some r := by first | (rw [hy420];with_reducible exact H) | (have H2_ := (Option.bind_some _ _).symm.trans H;rw [hy420];with_reducible exact H2_) | (have H2_ := (Option.bind_some _ _).symm.trans H;with_reducible exact H2_) | with_reducible exact H | (rw [hy420];exact H) | exact H
 have Ny420 := Aside0.mk hy420
 clear hy420
 obtain rfl := Option.some.inj H
 go_enter Try.func48,Try.ntmps48
 go_wp2_with (first | ((with_reducible refine gate_dst (N := 1) rfl ?_);refine Kd.R_lit (Kd.int .i64) _ 3 ?hg (N := 1) ?hd (xs := ([127,2047,65535,1114111] : List Int)) (inner := [.int .i64 127,.int .i64 2047,.int .i64 65535,.int .i64 1114111]) (ok := fun _ => True) (okp := fun _ => True) ?hr ?hp (fun _ hk => hk) trivial (Below.refl _ _) (Nat.le_refl _) (by simp) ?_;(case hd => rfl);(case hg => rfl);(case hr => first | (go_simp;done) | (go_simp;rfl));(case hp => exact (Reps.one (show Kd.M (Kd.int .i64) _ _ _ 127 [.int .i64 127] from rfl) (Reps.one (show Kd.M (Kd.int .i64) _ _ _ 2047 [.int .i64 2047] from rfl) (Reps.one (show Kd.M (Kd.int .i64) _ _ _ 65535 [.int .i64 65535] from rfl) (Reps.one (show Kd.M (Kd.int .i64) _ _ _ 1114111 [.int .i64 1114111] from rfl) (Reps.none _ _))))));intro v421 w1 ho2 hb hg_ hnew_;clear hg_ hnew_;(first | rw [← Ny420.out] at ho2 | (simp only [Int.reduceToNat] at ho2;rw [← Ny420.out] at ho2));have n0_ := Aside0.mk (Kd.R_lower ho2 (below_size (by repeat (first | (with_reducible first | exact HB.out | apply below_alloc | apply pw_below_drewN | apply below_drew1) | exact HB.out))));have n1_ := Aside0.mk (below_step (by repeat (first | (with_reducible first | exact HB.out | apply below_alloc | apply pw_below_drewN | apply below_drew1) | exact HB.out)) hb);clear HB;have HO422 := n0_;have HB := n1_;clear n0_ n1_;clear hb ho2))
 go_ret
 exact ⟨_,by first | rfl | (simp [errW_none,errW_some] <;> rfl) | (simp [*,errW_none,errW_some] <;> rfl),by (with_reducible repeat (first | apply Kd.R_alloc | apply Kd.R_drewN | apply Kd.R_drew));exact HO422.out,by repeat (first | (with_reducible first | exact HB.out | apply below_alloc | apply pw_below_drewN | apply below_drew1) | exact HB.out)⟩

/-! ### seqs_bySize: function 30 -/
mutual
def seqs_bySize.l0 : Nat → List (S43) → List (S43) → Int → Int → Option ((List (S43)))
 | 0,_,_,_,_ => none
 | k + 1,x3,x10,x11,x12 => if x12 < x11 then (if 0 ≤ x12 then (if x12 < (x10.length : Int) then ((seqs_limits.f).bind fun t425 => (seqs_bySize.l1 k x3 0 x10 x11 x12 t425 (t425.length : Int) 0 ((rd_T43 x10 x12).f0) ((rd_T43 x10 x12).f1))) else (none)) else (none)) else (some x3)
def seqs_bySize.l1 : Nat → List (S43) → Int → List (S43) → Int → Int → List Int → Int → Int → Int → Int → Option ((List (S43)))
 | 0,_,_,_,_,_,_,_,_,_,_ => none
 | k + 1,x3,x6,x10,x11,x12,x16,x17,x18,x425000,x425001 => if x18 < x17 then (if 0 ≤ x18 then (if x18 < (x16.length : Int) then (if (mx x425000 x6) ≤ (mn x425001 (rd x16 x18)) then (if x3.length < 8796093022208 then (seqs_bySize.l1 k (x3 ++ [(⟨mx x425000 x6,mn x425001 (rd x16 x18)⟩ : S43)]) (wrap64 ((rd x16 x18) + 1)) x10 x11 x12 x16 x17 (wrap64 (x18 + 1)) x425000 x425001) else (none)) else (seqs_bySize.l1 k x3 (wrap64 ((rd x16 x18) + 1)) x10 x11 x12 x16 x17 (wrap64 (x18 + 1)) x425000 x425001)) else (none)) else (none)) else (seqs_bySize.l0 k x3 x10 x11 (wrap64 (x12 + 1)))
end
def seqs_bySize.f (k : Nat) (l0 : List (S43)) : Option ((List (S43))) := seqs_bySize.l0 k ([] : List (S43)) l0 (l0.length : Int) 0
theorem seqs_bySize.mono_l : ∀ k,(∀ y0 y1 y2 y3,LeO (seqs_bySize.l0 k y0 y1 y2 y3) (seqs_bySize.l0 (k + 1) y0 y1 y2 y3)) ∧ (∀ y0 y1 y2 y3 y4 y5 y6 y7 y8 y9,LeO (seqs_bySize.l1 k y0 y1 y2 y3 y4 y5 y6 y7 y8 y9) (seqs_bySize.l1 (k + 1) y0 y1 y2 y3 y4 y5 y6 y7 y8 y9))
 | 0 => ⟨fun _ _ _ _ r h => by simp [seqs_bySize.l0] at h,fun _ _ _ _ _ _ _ _ _ _ r h => by simp [seqs_bySize.l1] at h⟩
 | k + 1 => by
  obtain ⟨ih0,ih1⟩ := seqs_bySize.mono_l k
  refine ⟨?_,?_⟩
  ·intro y0 y1 y2 y3
   unfold seqs_bySize.l0
   repeat' first
   | (with_reducible exact ih0 _ _ _ _)
   | (with_reducible exact ih1 _ _ _ _ _ _ _ _ _ _)
   | (with_reducible exact LeO.refl _)
   | (with_reducible exact LeO.none _)
   | (with_reducible refine LeO.ite ?_ ?_)
   | (with_reducible refine LeO.bind ?_ (fun _ => ?_))
   | exact ih0 _ _ _ _
   | exact ih1 _ _ _ _ _ _ _ _ _ _
   | exact LeO.none _
   | refine LeO.ite ?_ ?_
   | refine LeO.bind ?_ (fun _ => ?_)
  ·intro y0 y1 y2 y3 y4 y5 y6 y7 y8 y9
   unfold seqs_bySize.l1
   repeat' first
   | (with_reducible exact ih0 _ _ _ _)
   | (with_reducible exact ih1 _ _ _ _ _ _ _ _ _ _)
   | (with_reducible exact LeO.refl _)
   | (with_reducible exact LeO.none _)
   | (with_reducible refine LeO.ite ?_ ?_)
   | (with_reducible refine LeO.bind ?_ (fun _ => ?_))
   | exact ih0 _ _ _ _
   | exact ih1 _ _ _ _ _ _ _ _ _ _
   | exact LeO.none _
   | refine LeO.ite ?_ ?_
   | refine LeO.bind ?_ (fun _ => ?_)
theorem seqs_bySize.mono : ∀ a0 k,LeO (seqs_bySize.f k a0) (seqs_bySize.f (k + 1) a0) := by
 intro a0 k
 obtain ⟨ih0,ih1⟩ := seqs_bySize.mono_l k
 unfold seqs_bySize.f
 repeat' first
   | (with_reducible exact ih0 _ _ _ _)
   | (with_reducible exact ih1 _ _ _ _ _ _ _ _ _ _)
   | (with_reducible exact LeO.refl _)
   | (with_reducible exact LeO.none _)
   | (with_reducible refine LeO.ite ?_ ?_)
   | (with_reducible refine LeO.bind ?_ (fun _ => ?_))
   | exact ih0 _ _ _ _
   | exact ih1 _ _ _ _ _ _ _ _ _ _
   | exact LeO.none _
   | refine LeO.ite ?_ ?_
   | refine LeO.bind ?_ (fun _ => ?_)
set_option maxHeartbeats 8000000 in
set_option maxRecDepth 100000 in
theorem seqs_bySize.calls (k : Nat) (A0 : Option Addr) (c0 : Nat) (l0 : List (S43)) (r : List (S43)) (w : World) (hr0 : Kd.C k43 w A0 l0.length l0) (hc0 : l0.length ≤ c0) (h : seqs_bySize.f k l0 = some r) :
  Calls Try.prog 30 #[.slice A0 l0.length c0] w fun e w' => ∃ v0_ : Value,e = .returned (v0_) ∧ Kd.R k43 43 w' w.heap.size (fun _ => True) v0_ r ∧ Below w.heap.size w w' := by
 have hu43 := Try.underlying43
 have HR0 := Aside0.mk hr0
 have HC0 := Aside0.mk hc0
 clear hr0 hc0
 have HB := Aside0.mk (Below.refl w.heap.size w)
 have H : (seqs_bySize.l0 k ([] : List (S43)) l0 (l0.length : Int) 0) = some r := h
 clear h
 have H' := Aside0.mk H
 clear H
 go_enter Try.func30,Try.ntmps30
 go_wp2
 go_loopg [3,12] k (fun kq v3 v12 w' => ∃ (x3_1 : List (S43)) (x12_1 : Int),v12 = .int .i64 x12_1 ∧ Aside0 (seqs_bySize.l0 kq x3_1 l0 (l0.length : Int) x12_1 = some r) ∧ Aside0 (kq ≤ k) ∧ Aside0 (Kd.R k43 43 w' w.heap.size (fun _ => True) v3 x3_1) ∧ Aside0 (Below w.heap.size w w'))
 case atStart => exact ⟨(([] : List (S43))),(0),(by first | rfl | (simp;done) | (simp [*];done)),H',⟨Nat.le_refl _⟩,⟨by first | exact Kd.R_nil _ _ _ _ _ | exact Kd.N_nil _ _ _ _ _ | exact Kd.V_nil _ _ _ _ _ | exact Kd.Q_nil _ _ _ _ _ | exact Kd.S_nil _ _ _ _ _⟩,⟨by repeat (first | (with_reducible first | exact HB.out | apply below_alloc | apply pw_below_drewN | apply below_drew1) | exact HB.out)⟩⟩
 case round =>
  clear H'
  obtain ⟨x3_1,x12_1,rfl,HA,HK1,HO_3,HB⟩ := hrel
  cases gk with
  | zero => exact absurd HA.out (by simp [seqs_bySize.l0])
  | succ k1 =>
   have H := HA.out
   clear HA
   simp only [seqs_bySize.l0] at H
   by_cases c2 : x12_1 < (l0.length : Int)
   ·rw [if_pos c2] at H
    have c2b0 : decide (x12_1 < (l0.length : Int)) = true := decide_eq_true c2
    clear c2
    by_cases c3 : 0 ≤ x12_1
    ·rw [if_pos c3] at H
     have c3b0 : decide (0 ≤ x12_1) = true := decide_eq_true c3
     clear c3
     by_cases c4 : x12_1 < (l0.length : Int)
     ·rw [if_pos c4] at H
      have c4b0 : decide (x12_1 < (l0.length : Int)) = true := decide_eq_true c4
      clear c4
      replace H := Option.bind_eq_some_iff.mp H
      obtain ⟨t425,A50,H⟩ := H
      skip
      have A5 := Aside0.mk A50
      clear A50
      have H' := Aside0.mk H
      clear H
      have p423 : 0 ≤ (x12_1 : Int) := of_decide_eq_true (by first | (with_reducible assumption) | assumption)
      have q423 : x12_1 < (l0.length : Int) := of_decide_eq_true (by first | (with_reducible assumption) | assumption)
      obtain ⟨ad423,e423,hx423_0,hx423_1⟩ := at_T43 HR0.out x12_1 p423 q423
      cases e423
      replace hx423_0 := (HB.out.cell (World.block_lt_of_cell? w _ hx423_0)).trans hx423_0
      replace hx423_1 := (HB.out.cell (World.block_lt_of_cell? w _ hx423_1)).trans hx423_1
      replace p423 := eq_true p423
      replace q423 := eq_true q423
      go_wp2_with (first | ((with_reducible refine gate_dst (N := 5) rfl ?_);refine box_event ?hg (N := 5) ?hd (cs := #[.int .i64 0,.int .i64 0]) (t := 43) ?hr ?_;(case hd => rfl);(case hg => rfl);(case hr => first | (go_simp;done) | (go_simp;rfl));intro gb424 hg w6 hbox hb;have n0_ := Aside0.mk (Kd.R_below (Kd.R_elderB (by (with_reducible repeat (first | apply Kd.R_alloc | apply Kd.R_drewN | apply Kd.R_drew));exact HO_3.out) gb424 (Nat.le_of_eq hg.symm)) hb);have n1_ := Aside0.mk (below_step (by repeat (first | (with_reducible first | exact HB.out | apply below_alloc | apply pw_below_drewN | apply below_drew1) | exact HB.out)) hb);have n2_ := Aside0.mk (hbox);have n3_ := Aside0.mk ((by rw [hg];exact (below_size (by repeat (first | (with_reducible first | exact HB.out | apply below_alloc | apply pw_below_drewN | apply below_drew1) | exact HB.out))) : w.heap.size ≤ gb424));have n4_ := Aside0.mk ((by rw [hg];exact (below_size (by repeat (first | (with_reducible first | exact HB.out | apply below_alloc | apply pw_below_drewN | apply below_drew1) | exact HB.out))) : w.heap.size ≤ gb424));clear HO_3;clear HB;have HO_3 := n0_;have HB := n1_;have BK424 := n2_;have GW424 := n3_;have GE424 := n4_;clear n0_ n1_ n2_ n3_ n4_;clear hb hbox hg;have hcz7_0 : w6.cell? ⟨gb424,0,none⟩ = some (.int .i64 0) := (blk_cell BK424.out 0).trans rfl;have hcz7_1 : w6.cell? ⟨gb424,1,none⟩ = some (.int .i64 0) := (blk_cell BK424.out 1).trans rfl;have hfz7_0 := blk_frozen BK424.out 0;have hfz7_1 := blk_frozen BK424.out 1) | ((with_reducible refine gate_callee (f := 48) rfl ?_);refine goesL_ (some 16) rfl rfl Try.func48 (by kernel_rfl) rfl #[] rfl (by (try simp only [List.map_toArray,List.map_cons,List.map_nil]);first | done | rfl | (simp only [List.length_drop,List.length_take];rfl)) ?_;(with_reducible refine (seqs_limits.calls  t425 _ A5.out).mono ?_);rintro e w8 ⟨v426,rfl,ho0,hb⟩;refine ⟨_,rfl,?_⟩;have n0_ := Aside0.mk (Kd.R_below (by (with_reducible repeat (first | apply Kd.R_alloc | apply Kd.R_drewN | apply Kd.R_drew));exact (Kd.R_mono (Kd.R_far (p := ⟨gb424,1,none⟩) (Kd.R_far (p := ⟨gb424,0,none⟩) (Kd.R_mono HO_3.out (fun k_ hk => (⟨hk,hk.2⟩ : _ ∧ k_ ≠ gb424))) (fun _ hk => hk.2) (.int .i64 ((rd_T43 l0 x12_1).f0))) (fun _ hk => hk.2) (.int .i64 ((rd_T43 l0 x12_1).f1))) (fun _ h_ => h_.1))) hb);have n1_ := Aside0.mk (Kd.R_lower ho0 (below_size (by repeat (first | (with_reducible first | exact HB.out | apply below_alloc | apply pw_below_drewN | apply below_drew1 | refine below_set ?_ GE424.out) | exact HB.out))));have n2_ := Aside0.mk (blk_below (g := gb424) (o := .cells #[.int .i64 ((rd_T43 l0 x12_1).f0),.int .i64 ((rd_T43 l0 x12_1).f1)] 43 (0,0)) (by (with_reducible repeat (first | refine blk_drewN ?_ _ | refine blk_drew ?_ | refine blk_alloc ?_ _));refine blk_put (cs := #[.int .i64 ((rd_T43 l0 x12_1).f0),.int .i64 0]) ?_ 1 _ rfl;(with_reducible repeat (first | refine blk_drewN ?_ _ | refine blk_drew ?_ | refine blk_alloc ?_ _));refine blk_put (cs := #[.int .i64 0,.int .i64 0]) ?_ 0 _ rfl;(with_reducible repeat (first | refine blk_drewN ?_ _ | refine blk_drew ?_ | refine blk_alloc ?_ _));exact BK424.out) hb);have n3_ := Aside0.mk (below_step (by repeat (first | (with_reducible first | exact HB.out | apply below_alloc | apply pw_below_drewN | apply below_drew1 | refine below_set ?_ GE424.out) | exact HB.out)) hb);clear HO_3;clear BK424;clear HB;have HO_3 := n0_;have HO427 := n1_;have BK424 := n2_;have HB := n3_;clear n0_ n1_ n2_ n3_;(try clear hb);(try clear hb2);(try clear hk);(try clear hi);(try clear ho0);obtain ⟨Ao9,co9,eo9⟩ := Kd.R_slice HO427.out;subst eo9))
      go_loopg [3,6,18] k1 (fun kq v3 v6 v18 w' => ∃ (x3_2 : List (S43)) (x6_2 : Int) (x18_2 : Int),v6 = .int .i64 x6_2 ∧ v18 = .int .i64 x18_2 ∧ Aside0 (seqs_bySize.l1 kq x3_2 x6_2 l0 (l0.length : Int) x12_1 t425 (t425.length : Int) x18_2 ((rd_T43 l0 x12_1).f0) ((rd_T43 l0 x12_1).f1) = some r) ∧ Aside0 (kq ≤ k1) ∧ Aside0 (Kd.R k43 43 w' w.heap.size (fun k_ => k_ ≠ gb424) v3 x3_2) ∧ Aside0 (Kd.R (Kd.int .i64) 3 w' w.heap.size (fun _ => True) (.slice Ao9 t425.length co9) t425) ∧ Aside0 (w'.heap[gb424]? = some (.cells #[.int .i64 ((rd_T43 l0 x12_1).f0),.int .i64 ((rd_T43 l0 x12_1).f1)] 43 (0,0))) ∧ Aside0 (Below w.heap.size w w'))
      case atStart => exact ⟨(x3_1),(0),(0),(by first | rfl | (simp;done) | (simp [*];done)),(by first | rfl | (simp;done) | (simp [*];done)),H',⟨Nat.le_refl _⟩,⟨by (with_reducible repeat (first | apply Kd.R_alloc | apply Kd.R_drewN | apply Kd.R_drew));exact Kd.R_mono HO_3.out (fun _ hk => hk.2)⟩,⟨by (with_reducible repeat (first | apply Kd.R_alloc | apply Kd.R_drewN | apply Kd.R_drew));exact HO427.out⟩,⟨by (with_reducible repeat (first | refine blk_drewN ?_ _ | refine blk_drew ?_ | refine blk_alloc ?_ _));exact BK424.out⟩,⟨by repeat (first | (with_reducible first | exact HB.out | apply below_alloc | apply pw_below_drewN | apply below_drew1 | refine below_set ?_ GE424.out) | exact HB.out)⟩⟩
      case round =>
       clear H'
       try clear c2
       try clear c2b0
       try clear p2
       try clear c3
       try clear c3b0
       try clear c4
       try clear c4b0
       try clear p4
       try clear q4
       try clear hx4
       try clear hcz7_0
       try clear hcz7_1
       try clear hfz7_0
       try clear hfz7_1
       try clear hx423_0
       try clear hx423_1
       try clear p423
       try clear q423
       obtain ⟨x3_2,x6_2,x18_2,rfl,rfl,HA,HK2,HO_3,HO_16,BK424,HB⟩ := hrel
       cases gk with
       | zero => exact absurd HA.out (by simp [seqs_bySize.l1])
       | succ k2 =>
        have H := HA.out
        clear HA
        simp only [seqs_bySize.l1] at H
        by_cases c10 : x18_2 < (t425.length : Int)
        ·rw [if_pos c10] at H
         have c10b0 : decide (x18_2 < (t425.length : Int)) = true := decide_eq_true c10
         clear c10
         by_cases c11 : 0 ≤ x18_2
         ·rw [if_pos c11] at H
          have c11b0 : decide (0 ≤ x18_2) = true := decide_eq_true c11
          clear c11
          by_cases c12 : x18_2 < (t425.length : Int)
          ·rw [if_pos c12] at H
           have c12b0 : decide (x18_2 < (t425.length : Int)) = true := decide_eq_true c12
           clear c12
           obtain ⟨ji13,hji13⟩ : ∃ j_ : Int,(mx ((rd_T43 l0 x12_1).f0) x6_2) = j_ := ⟨_,rfl⟩
           replace H : (if (ji13) ≤ (mn ((rd_T43 l0 x12_1).f1) (rd t425 x18_2)) then (if x3_2.length < 8796093022208 then (seqs_bySize.l1 k2 (x3_2 ++ [(⟨ji13,mn ((rd_T43 l0 x12_1).f1) (rd t425 x18_2)⟩ : S43)]) (wrap64 ((rd t425 x18_2) + 1)) l0 (l0.length : Int) x12_1 t425 (t425.length : Int) (wrap64 (x18_2 + 1)) ((rd_T43 l0 x12_1).f0) ((rd_T43 l0 x12_1).f1)) else (none)) else (seqs_bySize.l1 k2 x3_2 (wrap64 ((rd t425 x18_2) + 1)) l0 (l0.length : Int) x12_1 t425 (t425.length : Int) (wrap64 (x18_2 + 1)) ((rd_T43 l0 x12_1).f0) ((rd_T43 l0 x12_1).f1))) = some r := by first | (rw [hji13] at H;exact H) | (simp only [hji13] at H ⊢;exact H)
           have hji13_ : (if ((rd_T43 l0 x12_1).f0) < x6_2 then x6_2 else ((rd_T43 l0 x12_1).f0)) = ji13 := hji13
           obtain ⟨ji14,hji14⟩ : ∃ j_ : Int,(mn ((rd_T43 l0 x12_1).f1) (rd t425 x18_2)) = j_ := ⟨_,rfl⟩
           replace H : (if (ji13) ≤ (ji14) then (if x3_2.length < 8796093022208 then (seqs_bySize.l1 k2 (x3_2 ++ [(⟨ji13,ji14⟩ : S43)]) (wrap64 ((rd t425 x18_2) + 1)) l0 (l0.length : Int) x12_1 t425 (t425.length : Int) (wrap64 (x18_2 + 1)) ((rd_T43 l0 x12_1).f0) ((rd_T43 l0 x12_1).f1)) else (none)) else (seqs_bySize.l1 k2 x3_2 (wrap64 ((rd t425 x18_2) + 1)) l0 (l0.length : Int) x12_1 t425 (t425.length : Int) (wrap64 (x18_2 + 1)) ((rd_T43 l0 x12_1).f0) ((rd_T43 l0 x12_1).f1))) = some r := by first | (rw [hji14] at H;exact H) | (simp only [hji14] at H ⊢;exact H)
           have hji14_ : (if (rd t425 x18_2) < ((rd_T43 l0 x12_1).f1) then (rd t425 x18_2) else ((rd_T43 l0 x12_1).f1)) = ji14 := hji14
           by_cases c15 : (ji13) ≤ (ji14)
           ·rw [if_pos c15] at H
            have c15b0 : decide ((ji13) ≤ (ji14)) = true := decide_eq_true c15
            clear c15
            by_cases c16 : x3_2.length < 8796093022208
            ·rw [if_pos c16] at H
             have LMc16 := Aside0.mk c16
             clear c16
             obtain ⟨y430,hy430⟩ : ∃ y_ : List (S43),y_ = (x3_2 ++ [(⟨ji13,ji14⟩ : S43)]) := ⟨_,rfl⟩
             replace H : (seqs_bySize.l1 k2 y430 (wrap64 ((rd t425 x18_2) + 1)) l0 (l0.length : Int) x12_1 t425 (t425.length : Int) (wrap64 (x18_2 + 1)) ((rd_T43 l0 x12_1).f0) ((rd_T43 l0 x12_1).f1)) = some r := by first | (rw [hy430];with_reducible exact H) | (have H2_ := (Option.bind_some _ _).symm.trans H;rw [hy430];with_reducible exact H2_) | (have H2_ := (Option.bind_some _ _).symm.trans H;with_reducible exact H2_) | with_reducible exact H | (rw [hy430];exact H) | exact H
             have Ny430 := Aside0.mk hy430
             clear hy430
             have H' := Aside0.mk H
             clear H
             have p428 : 0 ≤ (x18_2 : Int) := of_decide_eq_true (by first | (with_reducible assumption) | assumption)
             have q428 : x18_2 < (t425.length : Int) := of_decide_eq_true (by first | (with_reducible assumption) | assumption)
             obtain ⟨ad428,e428,hx428_0⟩ := Kd.at_int (Kd.R_reads' HO_16.out).2.2 x18_2 p428 q428
             cases e428
             replace p428 := eq_true p428
             replace q428 := eq_true q428
             have hcz17_0 : wr.cell? ⟨gb424,0,none⟩ = some (.int .i64 ((rd_T43 l0 x12_1).f0)) := (blk_cell BK424.out 0).trans rfl
             have hcz17_1 : wr.cell? ⟨gb424,1,none⟩ = some (.int .i64 ((rd_T43 l0 x12_1).f1)) := (blk_cell BK424.out 1).trans rfl
             have hfz17_0 := blk_frozen BK424.out 0
             have hfz17_1 := blk_frozen BK424.out 1
             go_wp2_with (first | ((with_reducible refine gate_dst (N := 9) rfl ?_);refine box_event ?hg (N := 9) ?hd (cs := #[.int .i64 0,.int .i64 0]) (t := 43) ?hr ?_;(case hd => rfl);(case hg => rfl);(case hr => first | (go_simp;done) | (go_simp;rfl));intro gb429 hg w18 hbox hb;have n0_ := Aside0.mk (Kd.R_below (Kd.R_elderB (by (with_reducible repeat (first | apply Kd.R_alloc | apply Kd.R_drewN | apply Kd.R_drew));exact HO_3.out) gb429 (Nat.le_of_eq hg.symm)) hb);have n1_ := Aside0.mk (Kd.R_below (by (with_reducible repeat (first | apply Kd.R_alloc | apply Kd.R_drewN | apply Kd.R_drew));exact HO_16.out) hb);have n2_ := Aside0.mk (blk_below (g := gb424) (o := .cells #[.int .i64 ((rd_T43 l0 x12_1).f0),.int .i64 ((rd_T43 l0 x12_1).f1)] 43 (0,0)) (by (with_reducible repeat (first | refine blk_drewN ?_ _ | refine blk_drew ?_ | refine blk_alloc ?_ _));exact BK424.out) hb);have n3_ := Aside0.mk (below_step (by repeat (first | (with_reducible first | exact HB.out | apply below_alloc | apply pw_below_drewN | apply below_drew1 | refine below_set ?_ GE424.out) | exact HB.out)) hb);have n4_ := Aside0.mk (hbox);have n5_ := Aside0.mk ((by rw [hg];exact (below_size (by repeat (first | (with_reducible first | exact HB.out | apply below_alloc | apply pw_below_drewN | apply below_drew1 | refine below_set ?_ GE424.out) | exact HB.out))) : w.heap.size ≤ gb429));have n6_ := Aside0.mk ((by rw [hg];exact (below_size (by repeat (first | (with_reducible first | exact HB.out | apply below_alloc | apply pw_below_drewN | apply below_drew1 | refine below_set ?_ GE424.out) | exact HB.out))) : w.heap.size ≤ gb429));have n7_ := Aside0.mk ((by rw [hg];exact Nat.ne_of_lt (blk_lt (g := gb424) (o := .cells #[.int .i64 ((rd_T43 l0 x12_1).f0),.int .i64 ((rd_T43 l0 x12_1).f1)] 43 (0,0)) (by (with_reducible repeat (first | refine blk_drewN ?_ _ | refine blk_drew ?_ | refine blk_alloc ?_ _));exact BK424.out)) : gb424 ≠ gb429));have n8_ := Aside0.mk ((by rw [hg];exact Nat.ne_of_gt (blk_lt (g := gb424) (o := .cells #[.int .i64 ((rd_T43 l0 x12_1).f0),.int .i64 ((rd_T43 l0 x12_1).f1)] 43 (0,0)) (by (with_reducible repeat (first | refine blk_drewN ?_ _ | refine blk_drew ?_ | refine blk_alloc ?_ _));exact BK424.out)) : gb429 ≠ gb424));clear HO_3;clear HO_16;clear BK424;clear HB;have HO_3 := n0_;have HO_16 := n1_;have BK424 := n2_;have HB := n3_;have BK429 := n4_;have GW429 := n5_;have GE429 := n6_;have NB424_429 := n7_;have NB429_424 := n8_;clear n0_ n1_ n2_ n3_ n4_ n5_ n6_ n7_ n8_;clear hb hbox hg;have hnb19 := NB429_424.out;have hnc19 := NB424_429.out;have hcz20_0 : w18.cell? ⟨gb429,0,none⟩ = some (.int .i64 0) := (blk_cell BK429.out 0).trans rfl;have hcz20_1 : w18.cell? ⟨gb429,1,none⟩ = some (.int .i64 0) := (blk_cell BK429.out 1).trans rfl;have hfz20_0 := blk_frozen BK429.out 0;have hfz20_1 := blk_frozen BK429.out 1) | ((with_reducible refine gate_builtin (b := .append) (xs := #[.tmp 36,.tmp 38]) rfl ?_);at_builtin;refine Kd.R_append k43 (w0 := w) w.heap.size rfl (.tmp 36) (.tmp 38) 25 43 (.agg #[(.int .i64 0),(.int .i64 0)]) 16 rfl Try.underlying25 info43 rfl (by decide) (by omega) u3 x3_2 (⟨ji13,ji14⟩ : S43) [.int .i64 ji13,.int .i64 ji14] (fun k_ => k_ ≠ gb424 ∧ k_ ≠ gb429) (fun _ => False) rfl (by first | (go_simp;done) | (go_simp;rfl)) ?aP (fun _ hk => hk.elim) ?aF ?aO ?aB ?aS ?aL ?_;(case aP => exact k43_mkM _ _ _ (⟨ji13,ji14⟩ : S43));(case aB => exact (by repeat (first | (with_reducible first | exact HB.out | apply below_alloc | apply pw_below_drewN | apply below_drew1 | refine below_set ?_ GE424.out | refine below_set ?_ GE429.out) | exact HB.out)));(case aF => exact (fun k_ hk => ⟨Kd.freshB (g := gb424) (o := .cells #[.int .i64 ((rd_T43 l0 x12_1).f0),.int .i64 ((rd_T43 l0 x12_1).f1)] 43 (0,0)) (by (with_reducible repeat (first | refine blk_drewN ?_ _ | refine blk_drew ?_ | refine blk_alloc ?_ _));refine blk_far ?_ NB424_429.out _;(with_reducible repeat (first | refine blk_drewN ?_ _ | refine blk_drew ?_ | refine blk_alloc ?_ _));refine blk_far ?_ NB424_429.out _;(with_reducible repeat (first | refine blk_drewN ?_ _ | refine blk_drew ?_ | refine blk_alloc ?_ _));exact BK424.out) k_ hk,Kd.freshB (g := gb429) (o := .cells #[.int .i64 ji13,.int .i64 ji14] 43 (0,0)) (by (with_reducible repeat (first | refine blk_drewN ?_ _ | refine blk_drew ?_ | refine blk_alloc ?_ _));refine blk_put (cs := #[.int .i64 ji13,.int .i64 0]) ?_ 1 _ rfl;(with_reducible repeat (first | refine blk_drewN ?_ _ | refine blk_drew ?_ | refine blk_alloc ?_ _));refine blk_put (cs := #[.int .i64 0,.int .i64 0]) ?_ 0 _ rfl;(with_reducible repeat (first | refine blk_drewN ?_ _ | refine blk_drew ?_ | refine blk_alloc ?_ _));exact BK429.out) k_ hk⟩));(case aO => exact (by (with_reducible repeat (first | apply Kd.R_alloc | apply Kd.R_drewN | apply Kd.R_drew));exact Kd.R_mono (Kd.R_far (p := ⟨gb429,1,none⟩) (Kd.R_far (p := ⟨gb429,0,none⟩) (Kd.R_mono HO_3.out (fun k_ hk => (⟨hk,hk.2⟩ : _ ∧ k_ ≠ gb429))) (fun _ hk => hk.2) (.int .i64 ji13)) (fun _ hk => hk.2) (.int .i64 ji14)) (fun _ hk => ⟨hk.1.1,hk.1.2⟩)));(case aS => exact (below_size (by repeat (first | (with_reducible first | exact HB.out | apply below_alloc | apply pw_below_drewN | apply below_drew1 | refine below_set ?_ GE424.out | refine below_set ?_ GE429.out) | exact HB.out))));(case aL => have := LMc16.out;omega);intro v431 w21 ho hb hg hat;rw [← Ny430.out] at ho;have n0_ := Aside0.mk (Kd.R_over' (by (with_reducible repeat (first | apply Kd.R_alloc | apply Kd.R_drewN | apply Kd.R_drew));exact (Kd.R_mono (Kd.R_far (p := ⟨gb429,1,none⟩) (Kd.R_far (p := ⟨gb429,0,none⟩) (Kd.R_types HO_16.out BK429.out (by decide)) (fun _ hk => hk.2) (.int .i64 ji13)) (fun _ hk => hk.2) (.int .i64 ji14)) (fun _ h_ => h_.1))) (Kd.R_typed (by (with_reducible repeat (first | apply Kd.R_alloc | apply Kd.R_drewN | apply Kd.R_drew));exact (Kd.R_mono (Kd.R_far (p := ⟨gb429,1,none⟩) (Kd.R_far (p := ⟨gb429,0,none⟩) (Kd.R_mono HO_3.out (fun k_ hk => (⟨hk,hk.2⟩ : _ ∧ k_ ≠ gb429))) (fun _ hk => hk.2) (.int .i64 ji13)) (fun _ hk => hk.2) (.int .i64 ji14)) (fun _ h_ => h_.1)))) (by decide) hg);have n1_ := Aside0.mk (blk_grown (g := gb424) (o := .cells #[.int .i64 ((rd_T43 l0 x12_1).f0),.int .i64 ((rd_T43 l0 x12_1).f1)] 43 (0,0)) (by (with_reducible repeat (first | refine blk_drewN ?_ _ | refine blk_drew ?_ | refine blk_alloc ?_ _));refine blk_far ?_ NB424_429.out _;(with_reducible repeat (first | refine blk_drewN ?_ _ | refine blk_drew ?_ | refine blk_alloc ?_ _));refine blk_far ?_ NB424_429.out _;(with_reducible repeat (first | refine blk_drewN ?_ _ | refine blk_drew ?_ | refine blk_alloc ?_ _));exact BK424.out) hg (Kd.R_away HO_3.out (fun _ hk => hk.1)));have n2_ := Aside0.mk (blk_grown (g := gb429) (o := .cells #[.int .i64 ji13,.int .i64 ji14] 43 (0,0)) (by (with_reducible repeat (first | refine blk_drewN ?_ _ | refine blk_drew ?_ | refine blk_alloc ?_ _));refine blk_put (cs := #[.int .i64 ji13,.int .i64 0]) ?_ 1 _ rfl;(with_reducible repeat (first | refine blk_drewN ?_ _ | refine blk_drew ?_ | refine blk_alloc ?_ _));refine blk_put (cs := #[.int .i64 0,.int .i64 0]) ?_ 0 _ rfl;(with_reducible repeat (first | refine blk_drewN ?_ _ | refine blk_drew ?_ | refine blk_alloc ?_ _));exact BK429.out) hg (Kd.R_away HO_3.out (fun _ hk => hk.2)));have n3_ := Aside0.mk (hb);have n4_ := Aside0.mk (ho);clear HO_16;clear BK424;clear BK429;clear HB;clear HO_3;have HO_16 := n0_;have BK424 := n1_;have BK429 := n2_;have HB := n3_;have HO432 := n4_;clear n0_ n1_ n2_ n3_ n4_;clear ho hb hg hat))
             go_roundg k2
             case measure => have := HK1.out;have := HK2.out;omega
             case rel => exact ⟨(y430),(wrap64 ((rd t425 x18_2) + 1)),(wrap64 (x18_2 + 1)),(by first | rfl | (simp;done) | (simp [*];done)),(by first | rfl | (simp;done) | (simp [*];done)),H',⟨by have := HK1.out;have := HK2.out;omega⟩,⟨by (with_reducible repeat (first | apply Kd.R_alloc | apply Kd.R_drewN | apply Kd.R_drew));exact Kd.R_mono HO432.out (fun _ hk => hk.1)⟩,⟨by (with_reducible repeat (first | apply Kd.R_alloc | apply Kd.R_drewN | apply Kd.R_drew));exact HO_16.out⟩,⟨by (with_reducible repeat (first | refine blk_drewN ?_ _ | refine blk_drew ?_ | refine blk_alloc ?_ _));exact BK424.out⟩,⟨by repeat (first | (with_reducible first | exact HB.out | apply below_alloc | apply pw_below_drewN | apply below_drew1 | refine below_set ?_ GE424.out | refine below_set ?_ GE429.out) | exact HB.out)⟩⟩
            ·rw [if_neg c16] at H
             exact absurd H (by simp)
           ·rw [if_neg c15] at H
            have c15b0 : decide ((ji13) ≤ (ji14)) = false := decide_eq_false c15
            clear c15
            have H' := Aside0.mk H
            clear H
            have p428 : 0 ≤ (x18_2 : Int) := of_decide_eq_true (by first | (with_reducible assumption) | assumption)
            have q428 : x18_2 < (t425.length : Int) := of_decide_eq_true (by first | (with_reducible assumption) | assumption)
            obtain ⟨ad428,e428,hx428_0⟩ := Kd.at_int (Kd.R_reads' HO_16.out).2.2 x18_2 p428 q428
            cases e428
            replace p428 := eq_true p428
            replace q428 := eq_true q428
            have hcz22_0 : wr.cell? ⟨gb424,0,none⟩ = some (.int .i64 ((rd_T43 l0 x12_1).f0)) := (blk_cell BK424.out 0).trans rfl
            have hcz22_1 : wr.cell? ⟨gb424,1,none⟩ = some (.int .i64 ((rd_T43 l0 x12_1).f1)) := (blk_cell BK424.out 1).trans rfl
            have hfz22_0 := blk_frozen BK424.out 0
            have hfz22_1 := blk_frozen BK424.out 1
            go_wp2_with (first | ((with_reducible refine gate_dst (N := 9) rfl ?_);refine box_event ?hg (N := 9) ?hd (cs := #[.int .i64 0,.int .i64 0]) (t := 43) ?hr ?_;(case hd => rfl);(case hg => rfl);(case hr => first | (go_simp;done) | (go_simp;rfl));intro gb429 hg w23 hbox hb;have n0_ := Aside0.mk (Kd.R_below (Kd.R_elderB (by (with_reducible repeat (first | apply Kd.R_alloc | apply Kd.R_drewN | apply Kd.R_drew));exact HO_3.out) gb429 (Nat.le_of_eq hg.symm)) hb);have n1_ := Aside0.mk (Kd.R_below (by (with_reducible repeat (first | apply Kd.R_alloc | apply Kd.R_drewN | apply Kd.R_drew));exact HO_16.out) hb);have n2_ := Aside0.mk (blk_below (g := gb424) (o := .cells #[.int .i64 ((rd_T43 l0 x12_1).f0),.int .i64 ((rd_T43 l0 x12_1).f1)] 43 (0,0)) (by (with_reducible repeat (first | refine blk_drewN ?_ _ | refine blk_drew ?_ | refine blk_alloc ?_ _));exact BK424.out) hb);have n3_ := Aside0.mk (below_step (by repeat (first | (with_reducible first | exact HB.out | apply below_alloc | apply pw_below_drewN | apply below_drew1 | refine below_set ?_ GE424.out) | exact HB.out)) hb);have n4_ := Aside0.mk (hbox);have n5_ := Aside0.mk ((by rw [hg];exact (below_size (by repeat (first | (with_reducible first | exact HB.out | apply below_alloc | apply pw_below_drewN | apply below_drew1 | refine below_set ?_ GE424.out) | exact HB.out))) : w.heap.size ≤ gb429));have n6_ := Aside0.mk ((by rw [hg];exact (below_size (by repeat (first | (with_reducible first | exact HB.out | apply below_alloc | apply pw_below_drewN | apply below_drew1 | refine below_set ?_ GE424.out) | exact HB.out))) : w.heap.size ≤ gb429));have n7_ := Aside0.mk ((by rw [hg];exact Nat.ne_of_lt (blk_lt (g := gb424) (o := .cells #[.int .i64 ((rd_T43 l0 x12_1).f0),.int .i64 ((rd_T43 l0 x12_1).f1)] 43 (0,0)) (by (with_reducible repeat (first | refine blk_drewN ?_ _ | refine blk_drew ?_ | refine blk_alloc ?_ _));exact BK424.out)) : gb424 ≠ gb429));have n8_ := Aside0.mk ((by rw [hg];exact Nat.ne_of_gt (blk_lt (g := gb424) (o := .cells #[.int .i64 ((rd_T43 l0 x12_1).f0),.int .i64 ((rd_T43 l0 x12_1).f1)] 43 (0,0)) (by (with_reducible repeat (first | refine blk_drewN ?_ _ | refine blk_drew ?_ | refine blk_alloc ?_ _));exact BK424.out)) : gb429 ≠ gb424));clear HO_3;clear HO_16;clear BK424;clear HB;have HO_3 := n0_;have HO_16 := n1_;have BK424 := n2_;have HB := n3_;have BK429 := n4_;have GW429 := n5_;have GE429 := n6_;have NB424_429 := n7_;have NB429_424 := n8_;clear n0_ n1_ n2_ n3_ n4_ n5_ n6_ n7_ n8_;clear hb hbox hg;have hnb24 := NB429_424.out;have hnc24 := NB424_429.out;have hcz25_0 : w23.cell? ⟨gb429,0,none⟩ = some (.int .i64 0) := (blk_cell BK429.out 0).trans rfl;have hcz25_1 : w23.cell? ⟨gb429,1,none⟩ = some (.int .i64 0) := (blk_cell BK429.out 1).trans rfl;have hfz25_0 := blk_frozen BK429.out 0;have hfz25_1 := blk_frozen BK429.out 1))
            go_roundg k2
            case measure => have := HK1.out;have := HK2.out;omega
            case rel => exact ⟨(x3_2),(wrap64 ((rd t425 x18_2) + 1)),(wrap64 (x18_2 + 1)),(by first | rfl | (simp;done) | (simp [*];done)),(by first | rfl | (simp;done) | (simp [*];done)),H',⟨by have := HK1.out;have := HK2.out;omega⟩,⟨by (with_reducible repeat (first | apply Kd.R_alloc | apply Kd.R_drewN | apply Kd.R_drew));exact Kd.R_mono (Kd.R_far (p := ⟨gb429,1,none⟩) (Kd.R_far (p := ⟨gb429,0,none⟩) (Kd.R_mono HO_3.out (fun k_ hk => (⟨hk,hk.2⟩ : _ ∧ k_ ≠ gb429))) (fun _ hk => hk.2) (.int .i64 ji13)) (fun _ hk => hk.2) (.int .i64 ji14)) (fun _ hk => hk.1.1)⟩,⟨by (with_reducible repeat (first | apply Kd.R_alloc | apply Kd.R_drewN | apply Kd.R_drew));exact Kd.R_mono (Kd.R_far (p := ⟨gb429,1,none⟩) (Kd.R_far (p := ⟨gb429,0,none⟩) (Kd.R_types HO_16.out BK429.out (by decide)) (fun _ hk => hk.2) (.int .i64 ji13)) (fun _ hk => hk.2) (.int .i64 ji14)) (fun _ hk => trivial)⟩,⟨by (with_reducible repeat (first | refine blk_drewN ?_ _ | refine blk_drew ?_ | refine blk_alloc ?_ _));refine blk_far ?_ NB424_429.out _;(with_reducible repeat (first | refine blk_drewN ?_ _ | refine blk_drew ?_ | refine blk_alloc ?_ _));refine blk_far ?_ NB424_429.out _;(with_reducible repeat (first | refine blk_drewN ?_ _ | refine blk_drew ?_ | refine blk_alloc ?_ _));exact BK424.out⟩,⟨by repeat (first | (with_reducible first | exact HB.out | apply below_alloc | apply pw_below_drewN | apply below_drew1 | refine below_set ?_ GE424.out | refine below_set ?_ GE429.out) | exact HB.out)⟩⟩
          ·rw [if_neg c12] at H
           exact absurd H (by simp)
         ·rw [if_neg c11] at H
          exact absurd H (by simp)
        ·rw [if_neg c10] at H
         have c10b0 : decide (x18_2 < (t425.length : Int)) = false := decide_eq_false c10
         clear c10
         have H' := Aside0.mk H
         clear H
         go_wp2
         go_roundg k2
         case measure => have := HK1.out;have := HK2.out;omega
         case rel => exact ⟨(x3_2),(wrap64 (x12_1 + 1)),(by first | rfl | (simp;done) | (simp [*];done)),H',⟨by have := HK1.out;have := HK2.out;omega⟩,⟨by (with_reducible repeat (first | apply Kd.R_alloc | apply Kd.R_drewN | apply Kd.R_drew));exact Kd.R_mono HO_3.out (fun _ hk => trivial)⟩,⟨by repeat (first | (with_reducible first | exact HB.out | apply below_alloc | apply pw_below_drewN | apply below_drew1 | refine below_set ?_ GE424.out) | exact HB.out)⟩⟩
     ·rw [if_neg c4] at H
      exact absurd H (by simp)
    ·rw [if_neg c3] at H
     exact absurd H (by simp)
   ·rw [if_neg c2] at H
    have c2b0 : decide (x12_1 < (l0.length : Int)) = false := decide_eq_false c2
    clear c2
    obtain rfl := Option.some.inj H
    go_wp2
    go_ret
    exact ⟨_,by first | rfl | (simp [errW_none,errW_some] <;> rfl) | (simp [*,errW_none,errW_some] <;> rfl),by (with_reducible repeat (first | apply Kd.R_alloc | apply Kd.R_drewN | apply Kd.R_drew));exact HO_3.out,by repeat (first | (with_reducible first | exact HB.out | apply below_alloc | apply pw_below_drewN | apply below_drew1) | exact HB.out)⟩

end Go.Proofs.Ytbhfaeliklaffaa.P
