-- WRITTEN BY A PROGRAM (hybrid.py over the kit's print.py): Lean checks it.
import Derived.Test.YtfaahcgoinkmlaaPx0
import Derived.Test.YtfaahcgoinkmlaaGApply
import Derived.Test.YtfaahcgoinkmlaaGDecode
import Derived.Test.YtfaahcgoinkmlaaGEnc
namespace Go.Proofs.Ytfaahcgoinkmlaa.P
open Go.RowKit Go.Proofs.YtfaahcgoinkmlaaW.PrintWords Go.Proofs.YtfaahcgoinkmlaaW.PrintLast Go.Proofs.YtfaahcgoinkmlaaW.PrintMore
attribute [local go_sem] max2_int min2_int max_two min_two max_three min_three max_four min_four   -- for this text's walks alone
set_option linter.unusedVariables false
set_option linter.unusedSimpArgs false

/-! ### utf_Chars: function 30 -/
def utf_Chars.l0 : Nat → List Int → List (S51) → Int → Option ((List (S51)))
 | 0,_,_,_ => none
 | k + 1,x0,x3,x4 => if x4 < (x0.length : Int) then (if 0 ≤ x4 then (if x4 ≤ (x0.length : Int) then ((utf_Decode.f (x0.drop (x4 : Int).toNat)).bind fun bt124 => (if x3.length < 5864062014805 then (utf_Chars.l0 k x0 (x3 ++ [(⟨bt124.1,x4,bt124.2⟩ : S51)]) (wrap64 (x4 + bt124.2))) else (none))) else (none)) else (none)) else (some x3)
def utf_Chars.f (k : Nat) (l0 : List Int) : Option ((List (S51))) := utf_Chars.l0 k l0 ([] : List (S51)) 0
theorem utf_Chars.mono_l : ∀ k,(∀ y0 y1 y2,LeO (utf_Chars.l0 k y0 y1 y2) (utf_Chars.l0 (k + 1) y0 y1 y2))
 | 0 => fun _ _ _ r h => by simp [utf_Chars.l0] at h
 | k + 1 => by
  have ih0 := utf_Chars.mono_l k
  ·intro y0 y1 y2
   unfold utf_Chars.l0
   repeat' first
   | (with_reducible exact ih0 _ _ _)
   | (with_reducible exact LeO.refl _)
   | (with_reducible exact LeO.none _)
   | (with_reducible refine LeO.ite ?_ ?_)
   | (with_reducible refine LeO.bind ?_ (fun _ => ?_))
   | exact ih0 _ _ _
   | exact LeO.none _
   | refine LeO.ite ?_ ?_
   | refine LeO.bind ?_ (fun _ => ?_)
theorem utf_Chars.mono : ∀ a0 k,LeO (utf_Chars.f k a0) (utf_Chars.f (k + 1) a0) := by
 intro a0 k
 have ih0 := utf_Chars.mono_l k
 unfold utf_Chars.f
 repeat' first
   | (with_reducible exact ih0 _ _ _)
   | (with_reducible exact LeO.refl _)
   | (with_reducible exact LeO.none _)
   | (with_reducible refine LeO.ite ?_ ?_)
   | (with_reducible refine LeO.bind ?_ (fun _ => ?_))
   | exact ih0 _ _ _
   | exact LeO.none _
   | refine LeO.ite ?_ ?_
   | refine LeO.bind ?_ (fun _ => ?_)
set_option maxHeartbeats 8000000 in
set_option maxRecDepth 100000 in
theorem utf_Chars.calls (k : Nat) (A0 : Option Addr) (c0 : Nat) (l0 : List Int) (r : List (S51)) (w : World) (hr0 : Kd.C (Kd.int .u8) w A0 l0.length l0) (hc0 : l0.length ≤ c0) (h : utf_Chars.f k l0 = some r) :
  Calls Try.prog 30 #[.slice A0 l0.length c0] w fun e w' => ∃ v0_ : Value,e = .returned (v0_) ∧ Kd.R k51 51 w' w.heap.size (fun _ => True) v0_ r ∧ Below w.heap.size w w' := by
 have hu51 := Try.underlying51
 have HR0 := Aside0.mk hr0
 have HC0 := Aside0.mk hc0
 clear hr0 hc0
 have HB := Aside0.mk (Below.refl w.heap.size w)
 have H : (utf_Chars.l0 k l0 ([] : List (S51)) 0) = some r := h
 clear h
 have H' := Aside0.mk H
 clear H
 go_enter Try.func30,Try.ntmps30
 go_wp2
 go_loopg [3,4] k (fun kq v3 v4 w' => ∃ (x3_1 : List (S51)) (x4_1 : Int),v4 = .int .i64 x4_1 ∧ Aside0 (utf_Chars.l0 kq l0 x3_1 x4_1 = some r) ∧ Aside0 (kq ≤ k) ∧ Aside0 (Kd.R k51 51 w' w.heap.size (fun _ => True) v3 x3_1) ∧ Aside0 (Below w.heap.size w w'))
 case atStart => exact ⟨(([] : List (S51))),(0),(by first | rfl | (simp;done) | (simp [*];done)),H',⟨Nat.le_refl _⟩,⟨by first | exact Kd.R_nil _ _ _ _ _ | exact Kd.N_nil _ _ _ _ _ | exact Kd.V_nil _ _ _ _ _ | exact Kd.Q_nil _ _ _ _ _ | exact Kd.S_nil _ _ _ _ _⟩,⟨by repeat (first | (with_reducible first | exact HB.out | apply below_alloc | apply pw_below_drewN | apply below_drew1) | exact HB.out)⟩⟩
 case round =>
  clear H'
  obtain ⟨x3_1,x4_1,rfl,HA,HK1,HO_3,HB⟩ := hrel
  cases gk with
  | zero => exact absurd HA.out (by simp [utf_Chars.l0])
  | succ k1 =>
   have H := HA.out
   clear HA
   simp only [utf_Chars.l0] at H
   by_cases c2 : x4_1 < (l0.length : Int)
   ·rw [if_pos c2] at H
    have c2b0 : decide (x4_1 < (l0.length : Int)) = true := decide_eq_true c2
    clear c2
    by_cases c3 : 0 ≤ x4_1
    ·rw [if_pos c3] at H
     have c3b0 := eq_true c3
     have c3b1 : decide (0 ≤ x4_1) = true := decide_eq_true c3
     clear c3
     by_cases c4 : x4_1 ≤ (l0.length : Int)
     ·rw [if_pos c4] at H
      have c4b0 := eq_true c4
      have c4b1 : decide (x4_1 ≤ (l0.length : Int)) = true := decide_eq_true c4
      clear c4
      replace H := Option.bind_eq_some_iff.mp H
      obtain ⟨⟨t124,t125⟩,A50,H⟩ := H
      replace H : (if x3_1.length < 5864062014805 then (utf_Chars.l0 k1 l0 (x3_1 ++ [(⟨t124,x4_1,t125⟩ : S51)]) (wrap64 (x4_1 + t125))) else (none)) = some r := H
      have A5 := Aside0.mk A50
      clear A50
      by_cases c6 : x3_1.length < 5864062014805
      ·rw [if_pos c6] at H
       have LMc6 := Aside0.mk c6
       clear c6
       obtain ⟨y126,hy126⟩ : ∃ y_ : List (S51),y_ = (x3_1 ++ [(⟨t124,x4_1,t125⟩ : S51)]) := ⟨_,rfl⟩
       replace H : (utf_Chars.l0 k1 l0 y126 (wrap64 (x4_1 + t125))) = some r := by first | (rw [hy126];with_reducible exact H) | (have H2_ := (Option.bind_some _ _).symm.trans H;rw [hy126];with_reducible exact H2_) | (have H2_ := (Option.bind_some _ _).symm.trans H;with_reducible exact H2_) | with_reducible exact H | (rw [hy126];exact H) | exact H
       have Ny126 := Aside0.mk hy126
       clear hy126
       have H' := Aside0.mk H
       clear H
       obtain ⟨i07,hi07,_,hsz7,_⟩ := info_parts info5
       obtain ⟨A7,hcut7,hA7,hC7⟩ := print_drop_of (P := Try.prog) (Value.int .u8) 0 22 5 .i64 Try.underlying22 hi07 hsz7 A0 c0 l0 x4_1 (of_decide_eq_true (by first | (with_reducible assumption) | assumption)) (of_decide_eq_true (by first | (with_reducible assumption) | assumption)) HC0.out
       have HR123 := Aside0.mk (Kd.C_of_reads (h1 := fun _ => rfl) (hA7 _ (Kd.reads_of_C HR0.out)))
       have HC123 := Aside0.mk hC7
       clear hA7 hC7 hi07 hsz7
       go_wp2_with (first | ((with_reducible refine gate_callee (f := 51) rfl ?_);refine goesL_ (some 15) rfl rfl Try.func51 (by kernel_rfl) rfl #[.slice A7 (l0.drop (x4_1 : Int).toNat).length (c0 - x4_1.toNat)] rfl (by (try simp only [List.map_toArray,List.map_cons,List.map_nil]);first | done | (rw [show (l0.drop (x4_1 : Int).toNat).length = (l0.length - x4_1.toNat) from List.length_drop] <;> rfl) | rfl | (simp only [List.length_drop,List.length_take];rfl)) ?_;(with_reducible refine (utf_Decode.calls _ _ (l0.drop (x4_1 : Int).toNat) t124 t125 _ ?side1 ?side2 A5.out).mono ?_);(case side1 => repeat (first | exact (Kd.C_below HR123.out HB.out) | (with_reducible refine Kd.C_alloc ?_ _) | (with_reducible refine Kd.C_drewN ?_ _) | (with_reducible refine Kd.C_drew ?_)));(case side2 => exact HC123.out);rintro e w8 ⟨rfl,hb⟩;refine ⟨_,rfl,?_⟩;have n0_ := Aside0.mk (Kd.R_below (by (with_reducible repeat (first | apply Kd.R_alloc | apply Kd.R_drewN | apply Kd.R_drew));exact HO_3.out) hb);have n1_ := Aside0.mk (below_step (by repeat (first | (with_reducible first | exact HB.out | apply below_alloc | apply pw_below_drewN | apply below_drew1) | exact HB.out)) hb);clear HO_3;clear HB;have HO_3 := n0_;have HB := n1_;clear n0_ n1_;(try clear hb);(try clear hb2);(try clear hk);(try clear hi)) | ((with_reducible refine gate_builtin (b := .append) (xs := #[.tmp 18,.tmp 23]) rfl ?_);at_builtin;refine Kd.R_append k51 (w0 := w) w.heap.size rfl (.tmp 18) (.tmp 23) 47 51 (.agg #[(.int .i64 0),(.int .i64 0),(.int .i64 0)]) 24 rfl Try.underlying47 info51 rfl (by decide) (by omega) u3 x3_1 (⟨t124,x4_1,t125⟩ : S51) [.int .i64 t124,.int .i64 x4_1,.int .i64 t125] (fun _ => True) (fun _ => False) rfl rfl ?aP (fun _ hk => hk.elim) ?aF ?aO ?aB ?aS ?aL ?_;(case aP => exact k51_mkM _ _ _ (⟨t124,x4_1,t125⟩ : S51));(case aB => exact (by repeat (first | (with_reducible first | exact HB.out | apply below_alloc | apply pw_below_drewN | apply below_drew1) | exact HB.out)));(case aF => exact (fun _ _ => trivial));(case aO => exact (by (with_reducible repeat (first | apply Kd.R_alloc | apply Kd.R_drewN | apply Kd.R_drew));exact HO_3.out));(case aS => exact (below_size (by repeat (first | (with_reducible first | exact HB.out | apply below_alloc | apply pw_below_drewN | apply below_drew1) | exact HB.out))));(case aL => have := LMc6.out;omega);intro v127 w9 ho hb hg hat;rw [← Ny126.out] at ho;have n0_ := Aside0.mk (hb);have n1_ := Aside0.mk (ho);clear HB;clear HO_3;have HB := n0_;have HO128 := n1_;clear n0_ n1_;clear ho hb hg hat))
       go_roundg k1
       case measure => have := HK1.out;omega
       case rel => exact ⟨(y126),(wrap64 (x4_1 + t125)),(by first | rfl | (simp;done) | (simp [*];done)),H',⟨by have := HK1.out;omega⟩,⟨by (with_reducible repeat (first | apply Kd.R_alloc | apply Kd.R_drewN | apply Kd.R_drew));exact HO128.out⟩,⟨by repeat (first | (with_reducible first | exact HB.out | apply below_alloc | apply pw_below_drewN | apply below_drew1) | exact HB.out)⟩⟩
      ·rw [if_neg c6] at H
       exact absurd H (by simp)
     ·rw [if_neg c4] at H
      exact absurd H (by simp)
    ·rw [if_neg c3] at H
     exact absurd H (by simp)
   ·rw [if_neg c2] at H
    have c2b0 : decide (x4_1 < (l0.length : Int)) = false := decide_eq_false c2
    clear c2
    obtain rfl := Option.some.inj H
    go_wp2
    go_ret
    exact ⟨_,by first | rfl | (simp [errW_none,errW_some] <;> rfl) | (simp [*,errW_none,errW_some] <;> rfl),by (with_reducible repeat (first | apply Kd.R_alloc | apply Kd.R_drewN | apply Kd.R_drew));exact HO_3.out,by repeat (first | (with_reducible first | exact HB.out | apply below_alloc | apply pw_below_drewN | apply below_drew1) | exact HB.out)⟩

/-! ### norm_Text: function 14 -/
def norm_Text.l0 : Nat → List (S33) → List Int → List Int → List (S51) → Int → Int → Option (List Int)
 | 0,_,_,_,_,_,_ => none
 | k + 1,x0,x1,x5,x11,x12,x13 => if x13 < x12 then (if 0 ≤ x13 then (if x13 < (x11.length : Int) then (if 0 ≤ ((rd_T51 x11 x13).f1) then (if ((rd_T51 x11 x13).f1) ≤ (wrap64 (((rd_T51 x11 x13).f1) + ((rd_T51 x11 x13).f2))) then (if (wrap64 (((rd_T51 x11 x13).f1) + ((rd_T51 x11 x13).f2))) ≤ (x1.length : Int) then (if ((rd_T51 x11 x13).f0) = (-1) then (if x5.length + ((x1.take ((wrap64 (((rd_T51 x11 x13).f1) + ((rd_T51 x11 x13).f2))) : Int).toNat).drop (((rd_T51 x11 x13).f1) : Int).toNat).length < 140737488355328 then (norm_Text.l0 k x0 x1 (x5 ++ ((x1.take ((wrap64 (((rd_T51 x11 x13).f1) + ((rd_T51 x11 x13).f2))) : Int).toNat).drop (((rd_T51 x11 x13).f1) : Int).toNat)) x11 x12 (wrap64 (x13 + 1))) else (none)) else ((norm_Apply.f x0 ((rd_T51 x11 x13).f0)).bind fun t138 => ((utf_Encode.f t138).bind fun t139 => (if (t139.length : Int) > 0 then (if x5.length + t139.length < 140737488355328 then (norm_Text.l0 k x0 x1 (x5 ++ t139) x11 x12 (wrap64 (x13 + 1))) else (none)) else (if x5.length + ((x1.take ((wrap64 (((rd_T51 x11 x13).f1) + ((rd_T51 x11 x13).f2))) : Int).toNat).drop (((rd_T51 x11 x13).f1) : Int).toNat).length < 140737488355328 then (norm_Text.l0 k x0 x1 (x5 ++ ((x1.take ((wrap64 (((rd_T51 x11 x13).f1) + ((rd_T51 x11 x13).f2))) : Int).toNat).drop (((rd_T51 x11 x13).f1) : Int).toNat)) x11 x12 (wrap64 (x13 + 1))) else (none)))))) else (none)) else (none)) else (none)) else (none)) else (none)) else (some x5)
def norm_Text.f (k : Nat) (l0 : List (S33)) (l1 : List Int) : Option (List Int) := (utf_Chars.f k l1).bind fun t129 => (norm_Text.l0 k l0 l1 ([] : List Int) t129 (t129.length : Int) 0)
theorem norm_Text.mono_l : ∀ k,(∀ y0 y1 y2 y3 y4 y5,LeO (norm_Text.l0 k y0 y1 y2 y3 y4 y5) (norm_Text.l0 (k + 1) y0 y1 y2 y3 y4 y5))
 | 0 => fun _ _ _ _ _ _ r h => by simp [norm_Text.l0] at h
 | k + 1 => by
  have ih0 := norm_Text.mono_l k
  ·intro y0 y1 y2 y3 y4 y5
   unfold norm_Text.l0
   repeat' first
   | (with_reducible exact ih0 _ _ _ _ _ _)
   | (with_reducible exact utf_Chars.mono _ _)
   | (with_reducible exact LeO.refl _)
   | (with_reducible exact LeO.none _)
   | (with_reducible refine LeO.ite ?_ ?_)
   | (with_reducible refine LeO.bind ?_ (fun _ => ?_))
   | exact ih0 _ _ _ _ _ _
   | exact utf_Chars.mono _ _
   | exact LeO.none _
   | refine LeO.ite ?_ ?_
   | refine LeO.bind ?_ (fun _ => ?_)
theorem norm_Text.mono : ∀ a0 a1 k,LeO (norm_Text.f k a0 a1) (norm_Text.f (k + 1) a0 a1) := by
 intro a0 a1 k
 have ih0 := norm_Text.mono_l k
 unfold norm_Text.f
 repeat' first
   | (with_reducible exact ih0 _ _ _ _ _ _)
   | (with_reducible exact utf_Chars.mono _ _)
   | (with_reducible exact LeO.refl _)
   | (with_reducible exact LeO.none _)
   | (with_reducible refine LeO.ite ?_ ?_)
   | (with_reducible refine LeO.bind ?_ (fun _ => ?_))
   | exact ih0 _ _ _ _ _ _
   | exact utf_Chars.mono _ _
   | exact LeO.none _
   | refine LeO.ite ?_ ?_
   | refine LeO.bind ?_ (fun _ => ?_)
set_option maxHeartbeats 8000000 in
set_option maxRecDepth 100000 in
theorem norm_Text.calls (k : Nat) (A0 : Option Addr) (c0 : Nat) (l0 : List (S33)) (A1 : Option Addr) (c1 : Nat) (l1 : List Int) (r : List Int) (w : World) (hr0 : Kd.C k33 w A0 l0.length l0) (hc0 : l0.length ≤ c0) (hr1 : Kd.C (Kd.int .u8) w A1 l1.length l1) (hc1 : l1.length ≤ c1) (h : norm_Text.f k l0 l1 = some r) :
  Calls Try.prog 14 #[.slice A0 l0.length c0,.slice A1 l1.length c1] w fun e w' => ∃ v0_ : Value,e = .returned (v0_) ∧ Kd.R (Kd.int .u8) 5 w' w.heap.size (fun _ => True) v0_ r ∧ Below w.heap.size w w' := by
 have hu51 := Try.underlying51
 have HR0 := Aside0.mk hr0
 have HC0 := Aside0.mk hc0
 clear hr0 hc0
 have HR1 := Aside0.mk hr1
 have HC1 := Aside0.mk hc1
 clear hr1 hc1
 have HB := Aside0.mk (Below.refl w.heap.size w)
 have H : ((utf_Chars.f k l1).bind fun t129 => (norm_Text.l0 k l0 l1 ([] : List Int) t129 (t129.length : Int) 0)) = some r := h
 clear h
 replace H := Option.bind_eq_some_iff.mp H
 obtain ⟨t129,A30,H⟩ := H
 skip
 have A3 := Aside0.mk A30
 clear A30
 have H' := Aside0.mk H
 clear H
 go_enter Try.func14,Try.ntmps14
 go_wp2_with (first | ((with_reducible refine gate_callee (f := 30) rfl ?_);refine goesL_ (some 11) rfl rfl Try.func30 (by kernel_rfl) rfl #[.slice A1 l1.length c1] rfl (by (try simp only [List.map_toArray,List.map_cons,List.map_nil]);first | done | rfl | (simp only [List.length_drop,List.length_take];rfl)) ?_;(with_reducible refine (utf_Chars.calls k _ _ l1 t129 _ ?side1 ?side2 A3.out).mono ?_);(case side1 => repeat (first | exact HR1.out | (with_reducible refine Kd.C_alloc ?_ _) | (with_reducible refine Kd.C_drewN ?_ _) | (with_reducible refine Kd.C_drew ?_)));(case side2 => exact HC1.out);rintro e w4 ⟨v130,rfl,ho0,hb⟩;refine ⟨_,rfl,?_⟩;have n0_ := Aside0.mk (Kd.R_lower ho0 (below_size (by repeat (first | (with_reducible first | exact HB.out | apply below_alloc | apply pw_below_drewN | apply below_drew1) | exact HB.out))));have n1_ := Aside0.mk (below_step (by repeat (first | (with_reducible first | exact HB.out | apply below_alloc | apply pw_below_drewN | apply below_drew1) | exact HB.out)) hb);clear HB;have HO131 := n0_;have HB := n1_;clear n0_ n1_;(try clear hb);(try clear hb2);(try clear hk);(try clear hi);(try clear ho0);obtain ⟨Ao5,co5,eo5⟩ := Kd.R_slice HO131.out;subst eo5))
 go_loopg [5,13] k (fun kq v5 v13 w' => ∃ (x5_1 : List Int) (x13_1 : Int),v13 = .int .i64 x13_1 ∧ Aside0 (norm_Text.l0 kq l0 l1 x5_1 t129 (t129.length : Int) x13_1 = some r) ∧ Aside0 (kq ≤ k) ∧ Aside0 (Kd.R (Kd.int .u8) 5 w' w.heap.size (fun _ => True) v5 x5_1) ∧ Aside0 (Kd.R k51 51 w' w.heap.size (fun _ => True) (.slice Ao5 t129.length co5) t129) ∧ Aside0 (Below w.heap.size w w'))
 case atStart => exact ⟨(([] : List Int)),(0),(by first | rfl | (simp;done) | (simp [*];done)),H',⟨Nat.le_refl _⟩,⟨by first | exact Kd.R_nil _ _ _ _ _ | exact Kd.N_nil _ _ _ _ _ | exact Kd.V_nil _ _ _ _ _ | exact Kd.Q_nil _ _ _ _ _ | exact Kd.S_nil _ _ _ _ _⟩,⟨by (with_reducible repeat (first | apply Kd.R_alloc | apply Kd.R_drewN | apply Kd.R_drew));exact HO131.out⟩,⟨by repeat (first | (with_reducible first | exact HB.out | apply below_alloc | apply pw_below_drewN | apply below_drew1) | exact HB.out)⟩⟩
 case round =>
  clear H'
  try clear c1
  try clear p2
  try clear c3
  obtain ⟨x5_1,x13_1,rfl,HA,HK1,HO_5,HO_11,HB⟩ := hrel
  cases gk with
  | zero => exact absurd HA.out (by simp [norm_Text.l0])
  | succ k1 =>
   have H := HA.out
   clear HA
   simp only [norm_Text.l0] at H
   by_cases c6 : x13_1 < (t129.length : Int)
   ·rw [if_pos c6] at H
    have c6b0 : decide (x13_1 < (t129.length : Int)) = true := decide_eq_true c6
    clear c6
    by_cases c7 : 0 ≤ x13_1
    ·rw [if_pos c7] at H
     have c7b0 : decide (0 ≤ x13_1) = true := decide_eq_true c7
     clear c7
     by_cases c8 : x13_1 < (t129.length : Int)
     ·rw [if_pos c8] at H
      have c8b0 : decide (x13_1 < (t129.length : Int)) = true := decide_eq_true c8
      clear c8
      by_cases c9 : 0 ≤ ((rd_T51 t129 x13_1).f1)
      ·rw [if_pos c9] at H
       have c9b0 := eq_true c9
       have c9b1 : decide (0 ≤ ((rd_T51 t129 x13_1).f1)) = true := decide_eq_true c9
       clear c9
       by_cases c10 : ((rd_T51 t129 x13_1).f1) ≤ (wrap64 (((rd_T51 t129 x13_1).f1) + ((rd_T51 t129 x13_1).f2)))
       ·rw [if_pos c10] at H
        have c10b0 := eq_true c10
        have c10b1 : decide (((rd_T51 t129 x13_1).f1) ≤ (wrap64 (((rd_T51 t129 x13_1).f1) + ((rd_T51 t129 x13_1).f2)))) = true := decide_eq_true c10
        by_cases c11 : (wrap64 (((rd_T51 t129 x13_1).f1) + ((rd_T51 t129 x13_1).f2))) ≤ (l1.length : Int)
        ·rw [if_pos c11] at H
         have c11b0 := eq_true c11
         have c11b1 : decide ((wrap64 (((rd_T51 t129 x13_1).f1) + ((rd_T51 t129 x13_1).f2))) ≤ (l1.length : Int)) = true := decide_eq_true c11
         by_cases c12 : ((rd_T51 t129 x13_1).f0) = (-1)
         ·rw [if_pos c12] at H
          have c12b0 : (((rd_T51 t129 x13_1).f0) == (-1)) = true := beq_iff_eq.mpr c12
          have c12b1 : (((rd_T51 t129 x13_1).f0) != (-1)) = false := bne_eq_false_iff_eq.mpr c12
          clear c12
          by_cases c13 : x5_1.length + ((l1.take ((wrap64 (((rd_T51 t129 x13_1).f1) + ((rd_T51 t129 x13_1).f2))) : Int).toNat).drop (((rd_T51 t129 x13_1).f1) : Int).toNat).length < 140737488355328
          ·rw [if_pos c13] at H
           have LMc13 := Aside0.mk c13
           clear c13
           obtain ⟨y135,hy135⟩ : ∃ y_ : List Int,y_ = (x5_1 ++ ((l1.take ((wrap64 (((rd_T51 t129 x13_1).f1) + ((rd_T51 t129 x13_1).f2))) : Int).toNat).drop (((rd_T51 t129 x13_1).f1) : Int).toNat)) := ⟨_,rfl⟩
           replace H : (norm_Text.l0 k1 l0 l1 y135 t129 (t129.length : Int) (wrap64 (x13_1 + 1))) = some r := by first | (rw [hy135];with_reducible exact H) | (have H2_ := (Option.bind_some _ _).symm.trans H;rw [hy135];with_reducible exact H2_) | (have H2_ := (Option.bind_some _ _).symm.trans H;with_reducible exact H2_) | with_reducible exact H | (rw [hy135];exact H) | exact H
           have Ny135 := Aside0.mk hy135
           clear hy135
           have H' := Aside0.mk H
           clear H
           have p132 : 0 ≤ (x13_1 : Int) := of_decide_eq_true (by first | (with_reducible assumption) | assumption)
           have q132 : x13_1 < (t129.length : Int) := of_decide_eq_true (by first | (with_reducible assumption) | assumption)
           obtain ⟨ad132,e132,hx132_0,hx132_1,hx132_2⟩ := at_T51 (Kd.R_reads' HO_11.out).2.2 x13_1 p132 q132
           cases e132
           replace p132 := eq_true p132
           replace q132 := eq_true q132
           go_wp2_with (first | ((with_reducible refine gate_dst (N := 7) rfl ?_);refine box_event ?hg (N := 7) ?hd (cs := #[.int .i64 0,.int .i64 0,.int .i64 0]) (t := 51) ?hr ?_;(case hd => rfl);(case hg => rfl);(case hr => first | (go_simp;done) | (go_simp;rfl));intro gb133 hg w14 hbox hb;have n0_ := Aside0.mk (Kd.R_below (by (with_reducible repeat (first | apply Kd.R_alloc | apply Kd.R_drewN | apply Kd.R_drew));exact HO_5.out) hb);have n1_ := Aside0.mk (Kd.R_below (Kd.R_elderB (by (with_reducible repeat (first | apply Kd.R_alloc | apply Kd.R_drewN | apply Kd.R_drew));exact HO_11.out) gb133 (Nat.le_of_eq hg.symm)) hb);have n2_ := Aside0.mk (below_step (by repeat (first | (with_reducible first | exact HB.out | apply below_alloc | apply pw_below_drewN | apply below_drew1) | exact HB.out)) hb);have n3_ := Aside0.mk (hbox);have n4_ := Aside0.mk ((by rw [hg];exact (below_size (by repeat (first | (with_reducible first | exact HB.out | apply below_alloc | apply pw_below_drewN | apply below_drew1) | exact HB.out))) : w.heap.size ≤ gb133));have n5_ := Aside0.mk ((by rw [hg];exact (below_size (by repeat (first | (with_reducible first | exact HB.out | apply below_alloc | apply pw_below_drewN | apply below_drew1) | exact HB.out))) : w.heap.size ≤ gb133));clear HO_5;clear HO_11;clear HB;have HO_5 := n0_;have HO_11 := n1_;have HB := n2_;have BK133 := n3_;have GW133 := n4_;have GE133 := n5_;clear n0_ n1_ n2_ n3_ n4_ n5_;clear hb hbox hg;have hcz15_0 : w14.cell? ⟨gb133,0,none⟩ = some (.int .i64 0) := (blk_cell BK133.out 0).trans rfl;have hcz15_1 : w14.cell? ⟨gb133,1,none⟩ = some (.int .i64 0) := (blk_cell BK133.out 1).trans rfl;have hcz15_2 : w14.cell? ⟨gb133,2,none⟩ = some (.int .i64 0) := (blk_cell BK133.out 2).trans rfl;have hfz15_0 := blk_frozen BK133.out 0;have hfz15_1 := blk_frozen BK133.out 1;have hfz15_2 := blk_frozen BK133.out 2;obtain ⟨i016,hi016,_,hsz16,_⟩ := info_parts info5;obtain ⟨A16,hcut16,hA16,hC16⟩ := print_mid_of (P := Try.prog) (Value.int .u8) 0 22 5 .i64 .i64 Try.underlying22 hi016 hsz16 A1 c1 l1 ((rd_T51 t129 x13_1).f1) (wrap64 (((rd_T51 t129 x13_1).f1) + ((rd_T51 t129 x13_1).f2))) (of_decide_eq_true (by first | (with_reducible assumption) | assumption)) (by first | omega | exact of_decide_eq_true (by first | (with_reducible assumption) | assumption)) (of_decide_eq_true (by first | (with_reducible assumption) | assumption)) HC1.out;have HR134 := Aside0.mk (Kd.C_of_reads (h1 := fun _ => rfl) (hA16 _ (Kd.reads_of_C HR1.out)));have HC134 := Aside0.mk hC16;clear hA16 hC16 hi016 hsz16) | ((with_reducible refine gate_builtin (b := .append) (xs := #[.tmp 38,.tmp 39]) rfl ?_);at_builtin;refine Kd.R_append_rows (Kd.int .u8) (w0 := w) w.heap.size rfl (.tmp 38) (.tmp 39) 22 5 (.int .u8 0) 1 rfl Try.underlying22 info5 rfl (by decide) (by omega) u5 x5_1 ((l1.take ((wrap64 (((rd_T51 t129 x13_1).f1) + ((rd_T51 t129 x13_1).f2))) : Int).toNat).drop (((rd_T51 t129 x13_1).f1) : Int).toNat) _ _ _ (fun _ => True) (fun _ => False) rfl rfl ?aO ?aR (fun _ _ h => h) (fun _ h => h.elim) ?aF ?aB ?aS ?aL ?_;(case aR => first | (rw [← show ((l1.take ((wrap64 (((rd_T51 t129 x13_1).f1) + ((rd_T51 t129 x13_1).f2))) : Int).toNat).drop (((rd_T51 t129 x13_1).f1) : Int).toNat).length = ((wrap64 (((rd_T51 t129 x13_1).f1) + ((rd_T51 t129 x13_1).f2))).toNat - ((rd_T51 t129 x13_1).f1).toNat) from (by rw [List.length_drop,List.length_take];have h_ : ((wrap64 (((rd_T51 t129 x13_1).f1) + ((rd_T51 t129 x13_1).f2))) : Int) ≤ (l1.length : Int) := of_decide_eq_true (by first | (with_reducible assumption) | assumption);omega)];exact Kd.C_below HR134.out (by repeat (first | (with_reducible first | exact HB.out | apply below_alloc | apply pw_below_drewN | apply below_drew1 | refine below_set ?_ GE133.out) | exact HB.out))) | (exact Kd.C_below HR134.out (by repeat (first | (with_reducible first | exact HB.out | apply below_alloc | apply pw_below_drewN | apply below_drew1 | refine below_set ?_ GE133.out) | exact HB.out))));(case aB => exact (by repeat (first | (with_reducible first | exact HB.out | apply below_alloc | apply pw_below_drewN | apply below_drew1 | refine below_set ?_ GE133.out) | exact HB.out)));(case aF => exact (fun _ _ => trivial));(case aO => exact (by (with_reducible repeat (first | apply Kd.R_alloc | apply Kd.R_drewN | apply Kd.R_drew));exact Kd.R_mono (Kd.R_far (p := ⟨gb133,2,none⟩) (Kd.R_far (p := ⟨gb133,1,none⟩) (Kd.R_far (p := ⟨gb133,0,none⟩) (Kd.R_types HO_5.out BK133.out (by decide)) (fun _ hk => hk.2) (.int .i64 ((rd_T51 t129 x13_1).f0))) (fun _ hk => hk.2) (.int .i64 ((rd_T51 t129 x13_1).f1))) (fun _ hk => hk.2) (.int .i64 ((rd_T51 t129 x13_1).f2))) (fun _ hk => trivial)));(case aS => exact (below_size (by repeat (first | (with_reducible first | exact HB.out | apply below_alloc | apply pw_below_drewN | apply below_drew1 | refine below_set ?_ GE133.out) | exact HB.out))));(case aL => have := LMc13.out;have hlx_ := (show ((l1.take ((wrap64 (((rd_T51 t129 x13_1).f1) + ((rd_T51 t129 x13_1).f2))) : Int).toNat).drop (((rd_T51 t129 x13_1).f1) : Int).toNat).length = ((wrap64 (((rd_T51 t129 x13_1).f1) + ((rd_T51 t129 x13_1).f2))).toNat - ((rd_T51 t129 x13_1).f1).toNat) from (by rw [List.length_drop,List.length_take];have h_ : ((wrap64 (((rd_T51 t129 x13_1).f1) + ((rd_T51 t129 x13_1).f2))) : Int) ≤ (l1.length : Int) := of_decide_eq_true (by first | (with_reducible assumption) | assumption);omega));omega);intro v136 w17 ho hb hg hat;rw [← Ny135.out] at ho;have n0_ := Aside0.mk (Kd.R_over' (by (with_reducible repeat (first | apply Kd.R_alloc | apply Kd.R_drewN | apply Kd.R_drew));exact (Kd.R_mono (Kd.R_far (p := ⟨gb133,2,none⟩) (Kd.R_far (p := ⟨gb133,1,none⟩) (Kd.R_far (p := ⟨gb133,0,none⟩) (Kd.R_mono HO_11.out (fun k_ hk => (⟨hk,hk.2⟩ : _ ∧ k_ ≠ gb133))) (fun _ hk => hk.2) (.int .i64 ((rd_T51 t129 x13_1).f0))) (fun _ hk => hk.2) (.int .i64 ((rd_T51 t129 x13_1).f1))) (fun _ hk => hk.2) (.int .i64 ((rd_T51 t129 x13_1).f2))) (fun _ h_ => h_.1))) (Kd.R_typed (by (with_reducible repeat (first | apply Kd.R_alloc | apply Kd.R_drewN | apply Kd.R_drew));exact (Kd.R_mono (Kd.R_far (p := ⟨gb133,2,none⟩) (Kd.R_far (p := ⟨gb133,1,none⟩) (Kd.R_far (p := ⟨gb133,0,none⟩) (Kd.R_types HO_5.out BK133.out (by decide)) (fun _ hk => hk.2) (.int .i64 ((rd_T51 t129 x13_1).f0))) (fun _ hk => hk.2) (.int .i64 ((rd_T51 t129 x13_1).f1))) (fun _ hk => hk.2) (.int .i64 ((rd_T51 t129 x13_1).f2))) (fun _ h_ => h_.1)))) (by decide) hg);have n1_ := Aside0.mk (blk_grown (g := gb133) (o := .cells #[.int .i64 ((rd_T51 t129 x13_1).f0),.int .i64 ((rd_T51 t129 x13_1).f1),.int .i64 ((rd_T51 t129 x13_1).f2)] 51 (0,0)) (by (with_reducible repeat (first | refine blk_drewN ?_ _ | refine blk_drew ?_ | refine blk_alloc ?_ _));refine blk_put (cs := #[.int .i64 ((rd_T51 t129 x13_1).f0),.int .i64 ((rd_T51 t129 x13_1).f1),.int .i64 0]) ?_ 2 _ rfl;(with_reducible repeat (first | refine blk_drewN ?_ _ | refine blk_drew ?_ | refine blk_alloc ?_ _));refine blk_put (cs := #[.int .i64 ((rd_T51 t129 x13_1).f0),.int .i64 0,.int .i64 0]) ?_ 1 _ rfl;(with_reducible repeat (first | refine blk_drewN ?_ _ | refine blk_drew ?_ | refine blk_alloc ?_ _));refine blk_put (cs := #[.int .i64 0,.int .i64 0,.int .i64 0]) ?_ 0 _ rfl;(with_reducible repeat (first | refine blk_drewN ?_ _ | refine blk_drew ?_ | refine blk_alloc ?_ _));exact BK133.out) hg (Kd.R_ne HO_5.out BK133.out (by decide)));have n2_ := Aside0.mk (hb);have n3_ := Aside0.mk (ho);clear HO_11;clear BK133;clear HB;clear HO_5;have HO_11 := n0_;have BK133 := n1_;have HB := n2_;have HO137 := n3_;clear n0_ n1_ n2_ n3_;clear ho hb hg hat))
           go_roundg k1
           case measure => have := HK1.out;omega
           case rel => exact ⟨(y135),(wrap64 (x13_1 + 1)),(by first | rfl | (simp;done) | (simp [*];done)),H',⟨by have := HK1.out;omega⟩,⟨by (with_reducible repeat (first | apply Kd.R_alloc | apply Kd.R_drewN | apply Kd.R_drew));exact HO137.out⟩,⟨by (with_reducible repeat (first | apply Kd.R_alloc | apply Kd.R_drewN | apply Kd.R_drew));exact Kd.R_mono HO_11.out (fun _ hk => trivial)⟩,⟨by repeat (first | (with_reducible first | exact HB.out | apply below_alloc | apply pw_below_drewN | apply below_drew1 | refine below_set ?_ GE133.out) | exact HB.out)⟩⟩
          ·rw [if_neg c13] at H
           exact absurd H (by simp)
         ·rw [if_neg c12] at H
          have c12b0 : (((rd_T51 t129 x13_1).f0) == (-1)) = false := beq_eq_false_iff_ne.mpr c12
          have c12b1 : (((rd_T51 t129 x13_1).f0) != (-1)) = true := bne_iff_ne.mpr c12
          replace H := Option.bind_eq_some_iff.mp H
          obtain ⟨t138,A180,H⟩ := H
          skip
          have A18 := Aside0.mk A180
          clear A180
          replace H := Option.bind_eq_some_iff.mp H
          obtain ⟨t139,A190,H⟩ := H
          skip
          have A19 := Aside0.mk A190
          clear A190
          by_cases c20 : (t139.length : Int) > 0
          ·rw [if_pos c20] at H
           have c20b0 : decide (0 < (t139.length : Int)) = true := decide_eq_true c20
           have c20b1 : decide (0 < t139.length) = true := decide_eq_true (by omega)
           clear c20
           by_cases c21 : x5_1.length + t139.length < 140737488355328
           ·rw [if_pos c21] at H
            have LMc21 := Aside0.mk c21
            clear c21
            obtain ⟨y142,hy142⟩ : ∃ y_ : List Int,y_ = (x5_1 ++ t139) := ⟨_,rfl⟩
            replace H : (norm_Text.l0 k1 l0 l1 y142 t129 (t129.length : Int) (wrap64 (x13_1 + 1))) = some r := by first | (rw [hy142];with_reducible exact H) | (have H2_ := (Option.bind_some _ _).symm.trans H;rw [hy142];with_reducible exact H2_) | (have H2_ := (Option.bind_some _ _).symm.trans H;with_reducible exact H2_) | with_reducible exact H | (rw [hy142];exact H) | exact H
            have Ny142 := Aside0.mk hy142
            clear hy142
            have H' := Aside0.mk H
            clear H
            have p132 : 0 ≤ (x13_1 : Int) := of_decide_eq_true (by first | (with_reducible assumption) | assumption)
            have q132 : x13_1 < (t129.length : Int) := of_decide_eq_true (by first | (with_reducible assumption) | assumption)
            obtain ⟨ad132,e132,hx132_0,hx132_1,hx132_2⟩ := at_T51 (Kd.R_reads' HO_11.out).2.2 x13_1 p132 q132
            cases e132
            replace p132 := eq_true p132
            replace q132 := eq_true q132
            go_wp2_with (first | ((with_reducible refine gate_dst (N := 7) rfl ?_);refine box_event ?hg (N := 7) ?hd (cs := #[.int .i64 0,.int .i64 0,.int .i64 0]) (t := 51) ?hr ?_;(case hd => rfl);(case hg => rfl);(case hr => first | (go_simp;done) | (go_simp;rfl));intro gb133 hg w22 hbox hb;have n0_ := Aside0.mk (Kd.R_below (by (with_reducible repeat (first | apply Kd.R_alloc | apply Kd.R_drewN | apply Kd.R_drew));exact HO_5.out) hb);have n1_ := Aside0.mk (Kd.R_below (Kd.R_elderB (by (with_reducible repeat (first | apply Kd.R_alloc | apply Kd.R_drewN | apply Kd.R_drew));exact HO_11.out) gb133 (Nat.le_of_eq hg.symm)) hb);have n2_ := Aside0.mk (below_step (by repeat (first | (with_reducible first | exact HB.out | apply below_alloc | apply pw_below_drewN | apply below_drew1) | exact HB.out)) hb);have n3_ := Aside0.mk (hbox);have n4_ := Aside0.mk ((by rw [hg];exact (below_size (by repeat (first | (with_reducible first | exact HB.out | apply below_alloc | apply pw_below_drewN | apply below_drew1) | exact HB.out))) : w.heap.size ≤ gb133));have n5_ := Aside0.mk ((by rw [hg];exact (below_size (by repeat (first | (with_reducible first | exact HB.out | apply below_alloc | apply pw_below_drewN | apply below_drew1) | exact HB.out))) : w.heap.size ≤ gb133));clear HO_5;clear HO_11;clear HB;have HO_5 := n0_;have HO_11 := n1_;have HB := n2_;have BK133 := n3_;have GW133 := n4_;have GE133 := n5_;clear n0_ n1_ n2_ n3_ n4_ n5_;clear hb hbox hg;have hcz23_0 : w22.cell? ⟨gb133,0,none⟩ = some (.int .i64 0) := (blk_cell BK133.out 0).trans rfl;have hcz23_1 : w22.cell? ⟨gb133,1,none⟩ = some (.int .i64 0) := (blk_cell BK133.out 1).trans rfl;have hcz23_2 : w22.cell? ⟨gb133,2,none⟩ = some (.int .i64 0) := (blk_cell BK133.out 2).trans rfl;have hfz23_0 := blk_frozen BK133.out 0;have hfz23_1 := blk_frozen BK133.out 1;have hfz23_2 := blk_frozen BK133.out 2;obtain ⟨i024,hi024,_,hsz24,_⟩ := info_parts info5;obtain ⟨A24,hcut24,hA24,hC24⟩ := print_mid_of (P := Try.prog) (Value.int .u8) 0 22 5 .i64 .i64 Try.underlying22 hi024 hsz24 A1 c1 l1 ((rd_T51 t129 x13_1).f1) (wrap64 (((rd_T51 t129 x13_1).f1) + ((rd_T51 t129 x13_1).f2))) (of_decide_eq_true (by first | (with_reducible assumption) | assumption)) (by first | omega | exact of_decide_eq_true (by first | (with_reducible assumption) | assumption)) (of_decide_eq_true (by first | (with_reducible assumption) | assumption)) HC1.out;have HR134 := Aside0.mk (Kd.C_of_reads (h1 := fun _ => rfl) (hA24 _ (Kd.reads_of_C HR1.out)));have HC134 := Aside0.mk hC24;clear hA24 hC24 hi024 hsz24) | ((with_reducible refine gate_callee (f := 13) rfl ?_);refine goesL_ (some 32) rfl rfl Try.func13 (by kernel_rfl) rfl #[.slice A0 l0.length c0,.int .i64 ((rd_T51 t129 x13_1).f0)] rfl (by (try simp only [List.map_toArray,List.map_cons,List.map_nil]);first | done | rfl | (simp only [List.length_drop,List.length_take];rfl)) ?_;(with_reducible refine (norm_Apply.calls _ _ l0 ((rd_T51 t129 x13_1).f0) t138 _ ?side1 ?side2 A18.out).mono ?_);(case side1 => exact Kd.C_below HR0.out (by repeat (first | (with_reducible first | exact HB.out | apply below_alloc | apply pw_below_drewN | apply below_drew1 | refine below_set ?_ GE133.out) | exact HB.out)));(case side2 => exact HC0.out);rintro e w25 ⟨rfl,hb⟩;refine ⟨_,rfl,?_⟩;have n0_ := Aside0.mk (Kd.R_below (by (with_reducible repeat (first | apply Kd.R_alloc | apply Kd.R_drewN | apply Kd.R_drew));exact (Kd.R_mono (Kd.R_far (p := ⟨gb133,2,none⟩) (Kd.R_far (p := ⟨gb133,1,none⟩) (Kd.R_far (p := ⟨gb133,0,none⟩) (Kd.R_types HO_5.out BK133.out (by decide)) (fun _ hk => hk.2) (.int .i64 ((rd_T51 t129 x13_1).f0))) (fun _ hk => hk.2) (.int .i64 ((rd_T51 t129 x13_1).f1))) (fun _ hk => hk.2) (.int .i64 ((rd_T51 t129 x13_1).f2))) (fun _ h_ => h_.1))) hb);have n1_ := Aside0.mk (Kd.R_below (by (with_reducible repeat (first | apply Kd.R_alloc | apply Kd.R_drewN | apply Kd.R_drew));exact (Kd.R_mono (Kd.R_far (p := ⟨gb133,2,none⟩) (Kd.R_far (p := ⟨gb133,1,none⟩) (Kd.R_far (p := ⟨gb133,0,none⟩) (Kd.R_mono HO_11.out (fun k_ hk => (⟨hk,hk.2⟩ : _ ∧ k_ ≠ gb133))) (fun _ hk => hk.2) (.int .i64 ((rd_T51 t129 x13_1).f0))) (fun _ hk => hk.2) (.int .i64 ((rd_T51 t129 x13_1).f1))) (fun _ hk => hk.2) (.int .i64 ((rd_T51 t129 x13_1).f2))) (fun _ h_ => h_.1))) hb);have n2_ := Aside0.mk (blk_below (g := gb133) (o := .cells #[.int .i64 ((rd_T51 t129 x13_1).f0),.int .i64 ((rd_T51 t129 x13_1).f1),.int .i64 ((rd_T51 t129 x13_1).f2)] 51 (0,0)) (by (with_reducible repeat (first | refine blk_drewN ?_ _ | refine blk_drew ?_ | refine blk_alloc ?_ _));refine blk_put (cs := #[.int .i64 ((rd_T51 t129 x13_1).f0),.int .i64 ((rd_T51 t129 x13_1).f1),.int .i64 0]) ?_ 2 _ rfl;(with_reducible repeat (first | refine blk_drewN ?_ _ | refine blk_drew ?_ | refine blk_alloc ?_ _));refine blk_put (cs := #[.int .i64 ((rd_T51 t129 x13_1).f0),.int .i64 0,.int .i64 0]) ?_ 1 _ rfl;(with_reducible repeat (first | refine blk_drewN ?_ _ | refine blk_drew ?_ | refine blk_alloc ?_ _));refine blk_put (cs := #[.int .i64 0,.int .i64 0,.int .i64 0]) ?_ 0 _ rfl;(with_reducible repeat (first | refine blk_drewN ?_ _ | refine blk_drew ?_ | refine blk_alloc ?_ _));exact BK133.out) hb);have n3_ := Aside0.mk (below_step (by repeat (first | (with_reducible first | exact HB.out | apply below_alloc | apply pw_below_drewN | apply below_drew1 | refine below_set ?_ GE133.out) | exact HB.out)) hb);clear HO_5;clear HO_11;clear BK133;clear HB;have HO_5 := n0_;have HO_11 := n1_;have BK133 := n2_;have HB := n3_;clear n0_ n1_ n2_ n3_;(try clear hb);(try clear hb2);(try clear hk);(try clear hi)) | ((with_reducible refine gate_callee (f := 31) rfl ?_);refine goesL_ (some 33) rfl rfl Try.func31 (by kernel_rfl) rfl #[.int .i64 t138] rfl (by (try simp only [List.map_toArray,List.map_cons,List.map_nil]);first | done | rfl | (simp only [List.length_drop,List.length_take];rfl)) ?_;(with_reducible refine (utf_Encode.calls t138 t139 _ A19.out).mono ?_);rintro e w26 ⟨v140,rfl,ho0,hb⟩;refine ⟨_,rfl,?_⟩;have n0_ := Aside0.mk (Kd.R_elder' (by (with_reducible repeat (first | apply Kd.R_alloc | apply Kd.R_drewN | apply Kd.R_drew));exact HO_5.out) (Kd.R_base ho0) hb);have n1_ := Aside0.mk (Kd.R_below (by (with_reducible repeat (first | apply Kd.R_alloc | apply Kd.R_drewN | apply Kd.R_drew));exact HO_11.out) hb);have n2_ := Aside0.mk (Kd.R_lower (Kd.R_new' ho0 (Kd.R_lt (by (with_reducible repeat (first | apply Kd.R_alloc | apply Kd.R_drewN | apply Kd.R_drew));exact HO_5.out))) (below_size (by repeat (first | (with_reducible first | exact HB.out | apply below_alloc | apply pw_below_drewN | apply below_drew1 | refine below_set ?_ GE133.out) | exact HB.out))));have n3_ := Aside0.mk (blk_below (g := gb133) (o := .cells #[.int .i64 ((rd_T51 t129 x13_1).f0),.int .i64 ((rd_T51 t129 x13_1).f1),.int .i64 ((rd_T51 t129 x13_1).f2)] 51 (0,0)) (by (with_reducible repeat (first | refine blk_drewN ?_ _ | refine blk_drew ?_ | refine blk_alloc ?_ _));exact BK133.out) hb);have n4_ := Aside0.mk (below_step (by repeat (first | (with_reducible first | exact HB.out | apply below_alloc | apply pw_below_drewN | apply below_drew1 | refine below_set ?_ GE133.out) | exact HB.out)) hb);clear HO_5;clear HO_11;clear BK133;clear HB;have HO_5 := n0_;have HO_11 := n1_;have HO141 := n2_;have BK133 := n3_;have HB := n4_;clear n0_ n1_ n2_ n3_ n4_;(try clear hb);(try clear hb2);(try clear hk);(try clear hi);(try clear ho0);obtain ⟨Ao27,co27,eo27⟩ := Kd.R_slice HO141.out;subst eo27) | ((with_reducible refine gate_builtin (b := .append) (xs := #[.tmp 38,.tmp 39]) rfl ?_);at_builtin;refine Kd.R_append_rows (Kd.int .u8) (w0 := w) w.heap.size rfl (.tmp 38) (.tmp 39) 22 5 (.int .u8 0) 1 rfl Try.underlying22 info5 rfl (by decide) (by omega) u5 x5_1 t139 _ _ _ (fun k_ => some k_ ≠ (.slice Ao27 t139.length co27 : Value).ownBlock) (fun _ => False) rfl rfl ?aO ?aR (fun _ _ h => h) (fun _ h => h.elim) ?aF ?aB ?aS ?aL ?_;(case aR => repeat (first | exact (Kd.R_reads' HO141.out).2.2 | (with_reducible refine Kd.C_alloc ?_ _) | (with_reducible refine Kd.C_drewN ?_ _) | (with_reducible refine Kd.C_drew ?_)));(case aB => exact (by repeat (first | (with_reducible first | exact HB.out | apply below_alloc | apply pw_below_drewN | apply below_drew1 | refine below_set ?_ GE133.out) | exact HB.out)));(case aF => exact (fun k_ hk => Kd.fresh' (Kd.R_lt (by (with_reducible repeat (first | apply Kd.R_alloc | apply Kd.R_drewN | apply Kd.R_drew));exact HO141.out)) k_ hk));(case aO => exact (by (with_reducible repeat (first | apply Kd.R_alloc | apply Kd.R_drewN | apply Kd.R_drew));exact Kd.R_mono HO_5.out (fun _ hk => hk.2)));(case aS => exact (below_size (by repeat (first | (with_reducible first | exact HB.out | apply below_alloc | apply pw_below_drewN | apply below_drew1 | refine below_set ?_ GE133.out) | exact HB.out))));(case aL => have := LMc21.out;omega);intro v143 w28 ho hb hg hat;rw [← Ny142.out] at ho;have n0_ := Aside0.mk (Kd.R_over' (by (with_reducible repeat (first | apply Kd.R_alloc | apply Kd.R_drewN | apply Kd.R_drew));exact HO_11.out) (Kd.R_typed (by (with_reducible repeat (first | apply Kd.R_alloc | apply Kd.R_drewN | apply Kd.R_drew));exact HO_5.out)) (by decide) hg);have n1_ := Aside0.mk (blk_grown (g := gb133) (o := .cells #[.int .i64 ((rd_T51 t129 x13_1).f0),.int .i64 ((rd_T51 t129 x13_1).f1),.int .i64 ((rd_T51 t129 x13_1).f2)] 51 (0,0)) (by (with_reducible repeat (first | refine blk_drewN ?_ _ | refine blk_drew ?_ | refine blk_alloc ?_ _));exact BK133.out) hg (Kd.R_ne HO_5.out BK133.out (by decide)));have n2_ := Aside0.mk (Kd.R_after (ok := (fun _ => True)) (by (with_reducible repeat (first | apply Kd.R_alloc | apply Kd.R_drewN | apply Kd.R_drew));exact HO141.out) hg hat);have n3_ := Aside0.mk (hb);have n4_ := Aside0.mk (ho);clear HO_11;clear BK133;clear HO141;clear HB;clear HO_5;have HO_11 := n0_;have BK133 := n1_;have HO141 := n2_;have HB := n3_;have HO144 := n4_;clear n0_ n1_ n2_ n3_ n4_;clear ho hb hg hat))
            go_roundg k1
            case measure => have := HK1.out;omega
            case rel => exact ⟨(y142),(wrap64 (x13_1 + 1)),(by first | rfl | (simp;done) | (simp [*];done)),H',⟨by have := HK1.out;omega⟩,⟨by (with_reducible repeat (first | apply Kd.R_alloc | apply Kd.R_drewN | apply Kd.R_drew));exact Kd.R_mono HO144.out (fun _ hk => trivial)⟩,⟨by (with_reducible repeat (first | apply Kd.R_alloc | apply Kd.R_drewN | apply Kd.R_drew));exact Kd.R_mono HO_11.out (fun _ hk => trivial)⟩,⟨by repeat (first | (with_reducible first | exact HB.out | apply below_alloc | apply pw_below_drewN | apply below_drew1 | refine below_set ?_ GE133.out) | exact HB.out)⟩⟩
           ·rw [if_neg c21] at H
            exact absurd H (by simp)
          ·rw [if_neg c20] at H
           have c20b0 : decide (0 < (t139.length : Int)) = false := decide_eq_false c20
           have c20b1 : decide (0 < t139.length) = false := decide_eq_false (by omega)
           clear c20
           by_cases c29 : x5_1.length + ((l1.take ((wrap64 (((rd_T51 t129 x13_1).f1) + ((rd_T51 t129 x13_1).f2))) : Int).toNat).drop (((rd_T51 t129 x13_1).f1) : Int).toNat).length < 140737488355328
           ·rw [if_pos c29] at H
            have LMc29 := Aside0.mk c29
            clear c29
            obtain ⟨y145,hy145⟩ : ∃ y_ : List Int,y_ = (x5_1 ++ ((l1.take ((wrap64 (((rd_T51 t129 x13_1).f1) + ((rd_T51 t129 x13_1).f2))) : Int).toNat).drop (((rd_T51 t129 x13_1).f1) : Int).toNat)) := ⟨_,rfl⟩
            replace H : (norm_Text.l0 k1 l0 l1 y145 t129 (t129.length : Int) (wrap64 (x13_1 + 1))) = some r := by first | (rw [hy145];with_reducible exact H) | (have H2_ := (Option.bind_some _ _).symm.trans H;rw [hy145];with_reducible exact H2_) | (have H2_ := (Option.bind_some _ _).symm.trans H;with_reducible exact H2_) | with_reducible exact H | (rw [hy145];exact H) | exact H
            have Ny145 := Aside0.mk hy145
            clear hy145
            have H' := Aside0.mk H
            clear H
            have p132 : 0 ≤ (x13_1 : Int) := of_decide_eq_true (by first | (with_reducible assumption) | assumption)
            have q132 : x13_1 < (t129.length : Int) := of_decide_eq_true (by first | (with_reducible assumption) | assumption)
            obtain ⟨ad132,e132,hx132_0,hx132_1,hx132_2⟩ := at_T51 (Kd.R_reads' HO_11.out).2.2 x13_1 p132 q132
            cases e132
            replace p132 := eq_true p132
            replace q132 := eq_true q132
            go_wp2_with (first | ((with_reducible refine gate_dst (N := 7) rfl ?_);refine box_event ?hg (N := 7) ?hd (cs := #[.int .i64 0,.int .i64 0,.int .i64 0]) (t := 51) ?hr ?_;(case hd => rfl);(case hg => rfl);(case hr => first | (go_simp;done) | (go_simp;rfl));intro gb133 hg w30 hbox hb;have n0_ := Aside0.mk (Kd.R_below (by (with_reducible repeat (first | apply Kd.R_alloc | apply Kd.R_drewN | apply Kd.R_drew));exact HO_5.out) hb);have n1_ := Aside0.mk (Kd.R_below (Kd.R_elderB (by (with_reducible repeat (first | apply Kd.R_alloc | apply Kd.R_drewN | apply Kd.R_drew));exact HO_11.out) gb133 (Nat.le_of_eq hg.symm)) hb);have n2_ := Aside0.mk (below_step (by repeat (first | (with_reducible first | exact HB.out | apply below_alloc | apply pw_below_drewN | apply below_drew1) | exact HB.out)) hb);have n3_ := Aside0.mk (hbox);have n4_ := Aside0.mk ((by rw [hg];exact (below_size (by repeat (first | (with_reducible first | exact HB.out | apply below_alloc | apply pw_below_drewN | apply below_drew1) | exact HB.out))) : w.heap.size ≤ gb133));have n5_ := Aside0.mk ((by rw [hg];exact (below_size (by repeat (first | (with_reducible first | exact HB.out | apply below_alloc | apply pw_below_drewN | apply below_drew1) | exact HB.out))) : w.heap.size ≤ gb133));clear HO_5;clear HO_11;clear HB;have HO_5 := n0_;have HO_11 := n1_;have HB := n2_;have BK133 := n3_;have GW133 := n4_;have GE133 := n5_;clear n0_ n1_ n2_ n3_ n4_ n5_;clear hb hbox hg;have hcz31_0 : w30.cell? ⟨gb133,0,none⟩ = some (.int .i64 0) := (blk_cell BK133.out 0).trans rfl;have hcz31_1 : w30.cell? ⟨gb133,1,none⟩ = some (.int .i64 0) := (blk_cell BK133.out 1).trans rfl;have hcz31_2 : w30.cell? ⟨gb133,2,none⟩ = some (.int .i64 0) := (blk_cell BK133.out 2).trans rfl;have hfz31_0 := blk_frozen BK133.out 0;have hfz31_1 := blk_frozen BK133.out 1;have hfz31_2 := blk_frozen BK133.out 2;obtain ⟨i032,hi032,_,hsz32,_⟩ := info_parts info5;obtain ⟨A32,hcut32,hA32,hC32⟩ := print_mid_of (P := Try.prog) (Value.int .u8) 0 22 5 .i64 .i64 Try.underlying22 hi032 hsz32 A1 c1 l1 ((rd_T51 t129 x13_1).f1) (wrap64 (((rd_T51 t129 x13_1).f1) + ((rd_T51 t129 x13_1).f2))) (of_decide_eq_true (by first | (with_reducible assumption) | assumption)) (by first | omega | exact of_decide_eq_true (by first | (with_reducible assumption) | assumption)) (of_decide_eq_true (by first | (with_reducible assumption) | assumption)) HC1.out;have HR134 := Aside0.mk (Kd.C_of_reads (h1 := fun _ => rfl) (hA32 _ (Kd.reads_of_C HR1.out)));have HC134 := Aside0.mk hC32;clear hA32 hC32 hi032 hsz32) | ((with_reducible refine gate_callee (f := 13) rfl ?_);refine goesL_ (some 32) rfl rfl Try.func13 (by kernel_rfl) rfl #[.slice A0 l0.length c0,.int .i64 ((rd_T51 t129 x13_1).f0)] rfl (by (try simp only [List.map_toArray,List.map_cons,List.map_nil]);first | done | rfl | (simp only [List.length_drop,List.length_take];rfl)) ?_;(with_reducible refine (norm_Apply.calls _ _ l0 ((rd_T51 t129 x13_1).f0) t138 _ ?side1 ?side2 A18.out).mono ?_);(case side1 => exact Kd.C_below HR0.out (by repeat (first | (with_reducible first | exact HB.out | apply below_alloc | apply pw_below_drewN | apply below_drew1 | refine below_set ?_ GE133.out) | exact HB.out)));(case side2 => exact HC0.out);rintro e w33 ⟨rfl,hb⟩;refine ⟨_,rfl,?_⟩;have n0_ := Aside0.mk (Kd.R_below (by (with_reducible repeat (first | apply Kd.R_alloc | apply Kd.R_drewN | apply Kd.R_drew));exact (Kd.R_mono (Kd.R_far (p := ⟨gb133,2,none⟩) (Kd.R_far (p := ⟨gb133,1,none⟩) (Kd.R_far (p := ⟨gb133,0,none⟩) (Kd.R_types HO_5.out BK133.out (by decide)) (fun _ hk => hk.2) (.int .i64 ((rd_T51 t129 x13_1).f0))) (fun _ hk => hk.2) (.int .i64 ((rd_T51 t129 x13_1).f1))) (fun _ hk => hk.2) (.int .i64 ((rd_T51 t129 x13_1).f2))) (fun _ h_ => h_.1))) hb);have n1_ := Aside0.mk (Kd.R_below (by (with_reducible repeat (first | apply Kd.R_alloc | apply Kd.R_drewN | apply Kd.R_drew));exact (Kd.R_mono (Kd.R_far (p := ⟨gb133,2,none⟩) (Kd.R_far (p := ⟨gb133,1,none⟩) (Kd.R_far (p := ⟨gb133,0,none⟩) (Kd.R_mono HO_11.out (fun k_ hk => (⟨hk,hk.2⟩ : _ ∧ k_ ≠ gb133))) (fun _ hk => hk.2) (.int .i64 ((rd_T51 t129 x13_1).f0))) (fun _ hk => hk.2) (.int .i64 ((rd_T51 t129 x13_1).f1))) (fun _ hk => hk.2) (.int .i64 ((rd_T51 t129 x13_1).f2))) (fun _ h_ => h_.1))) hb);have n2_ := Aside0.mk (blk_below (g := gb133) (o := .cells #[.int .i64 ((rd_T51 t129 x13_1).f0),.int .i64 ((rd_T51 t129 x13_1).f1),.int .i64 ((rd_T51 t129 x13_1).f2)] 51 (0,0)) (by (with_reducible repeat (first | refine blk_drewN ?_ _ | refine blk_drew ?_ | refine blk_alloc ?_ _));refine blk_put (cs := #[.int .i64 ((rd_T51 t129 x13_1).f0),.int .i64 ((rd_T51 t129 x13_1).f1),.int .i64 0]) ?_ 2 _ rfl;(with_reducible repeat (first | refine blk_drewN ?_ _ | refine blk_drew ?_ | refine blk_alloc ?_ _));refine blk_put (cs := #[.int .i64 ((rd_T51 t129 x13_1).f0),.int .i64 0,.int .i64 0]) ?_ 1 _ rfl;(with_reducible repeat (first | refine blk_drewN ?_ _ | refine blk_drew ?_ | refine blk_alloc ?_ _));refine blk_put (cs := #[.int .i64 0,.int .i64 0,.int .i64 0]) ?_ 0 _ rfl;(with_reducible repeat (first | refine blk_drewN ?_ _ | refine blk_drew ?_ | refine blk_alloc ?_ _));exact BK133.out) hb);have n3_ := Aside0.mk (below_step (by repeat (first | (with_reducible first | exact HB.out | apply below_alloc | apply pw_below_drewN | apply below_drew1 | refine below_set ?_ GE133.out) | exact HB.out)) hb);clear HO_5;clear HO_11;clear BK133;clear HB;have HO_5 := n0_;have HO_11 := n1_;have BK133 := n2_;have HB := n3_;clear n0_ n1_ n2_ n3_;(try clear hb);(try clear hb2);(try clear hk);(try clear hi)) | ((with_reducible refine gate_callee (f := 31) rfl ?_);refine goesL_ (some 33) rfl rfl Try.func31 (by kernel_rfl) rfl #[.int .i64 t138] rfl (by (try simp only [List.map_toArray,List.map_cons,List.map_nil]);first | done | rfl | (simp only [List.length_drop,List.length_take];rfl)) ?_;(with_reducible refine (utf_Encode.calls t138 t139 _ A19.out).mono ?_);rintro e w34 ⟨v140,rfl,ho0,hb⟩;refine ⟨_,rfl,?_⟩;have n0_ := Aside0.mk (Kd.R_elder' (by (with_reducible repeat (first | apply Kd.R_alloc | apply Kd.R_drewN | apply Kd.R_drew));exact HO_5.out) (Kd.R_base ho0) hb);have n1_ := Aside0.mk (Kd.R_below (by (with_reducible repeat (first | apply Kd.R_alloc | apply Kd.R_drewN | apply Kd.R_drew));exact HO_11.out) hb);have n2_ := Aside0.mk (Kd.R_lower (Kd.R_new' ho0 (Kd.R_lt (by (with_reducible repeat (first | apply Kd.R_alloc | apply Kd.R_drewN | apply Kd.R_drew));exact HO_5.out))) (below_size (by repeat (first | (with_reducible first | exact HB.out | apply below_alloc | apply pw_below_drewN | apply below_drew1 | refine below_set ?_ GE133.out) | exact HB.out))));have n3_ := Aside0.mk (blk_below (g := gb133) (o := .cells #[.int .i64 ((rd_T51 t129 x13_1).f0),.int .i64 ((rd_T51 t129 x13_1).f1),.int .i64 ((rd_T51 t129 x13_1).f2)] 51 (0,0)) (by (with_reducible repeat (first | refine blk_drewN ?_ _ | refine blk_drew ?_ | refine blk_alloc ?_ _));exact BK133.out) hb);have n4_ := Aside0.mk (below_step (by repeat (first | (with_reducible first | exact HB.out | apply below_alloc | apply pw_below_drewN | apply below_drew1 | refine below_set ?_ GE133.out) | exact HB.out)) hb);clear HO_5;clear HO_11;clear BK133;clear HB;have HO_5 := n0_;have HO_11 := n1_;have HO141 := n2_;have BK133 := n3_;have HB := n4_;clear n0_ n1_ n2_ n3_ n4_;(try clear hb);(try clear hb2);(try clear hk);(try clear hi);(try clear ho0);obtain ⟨Ao35,co35,eo35⟩ := Kd.R_slice HO141.out;subst eo35) | ((with_reducible refine gate_builtin (b := .append) (xs := #[.tmp 38,.tmp 39]) rfl ?_);at_builtin;refine Kd.R_append_rows (Kd.int .u8) (w0 := w) w.heap.size rfl (.tmp 38) (.tmp 39) 22 5 (.int .u8 0) 1 rfl Try.underlying22 info5 rfl (by decide) (by omega) u5 x5_1 ((l1.take ((wrap64 (((rd_T51 t129 x13_1).f1) + ((rd_T51 t129 x13_1).f2))) : Int).toNat).drop (((rd_T51 t129 x13_1).f1) : Int).toNat) _ _ _ (fun k_ => some k_ ≠ (.slice Ao35 t139.length co35 : Value).ownBlock) (fun _ => False) rfl rfl ?aO ?aR (fun _ _ h => h) (fun _ h => h.elim) ?aF ?aB ?aS ?aL ?_;(case aR => first | (rw [← show ((l1.take ((wrap64 (((rd_T51 t129 x13_1).f1) + ((rd_T51 t129 x13_1).f2))) : Int).toNat).drop (((rd_T51 t129 x13_1).f1) : Int).toNat).length = ((wrap64 (((rd_T51 t129 x13_1).f1) + ((rd_T51 t129 x13_1).f2))).toNat - ((rd_T51 t129 x13_1).f1).toNat) from (by rw [List.length_drop,List.length_take];have h_ : ((wrap64 (((rd_T51 t129 x13_1).f1) + ((rd_T51 t129 x13_1).f2))) : Int) ≤ (l1.length : Int) := of_decide_eq_true (by first | (with_reducible assumption) | assumption);omega)];repeat (first | exact (Kd.C_below HR134.out HB.out) | (with_reducible refine Kd.C_alloc ?_ _) | (with_reducible refine Kd.C_drewN ?_ _) | (with_reducible refine Kd.C_drew ?_))) | (repeat (first | exact (Kd.C_below HR134.out HB.out) | (with_reducible refine Kd.C_alloc ?_ _) | (with_reducible refine Kd.C_drewN ?_ _) | (with_reducible refine Kd.C_drew ?_))));(case aB => exact (by repeat (first | (with_reducible first | exact HB.out | apply below_alloc | apply pw_below_drewN | apply below_drew1 | refine below_set ?_ GE133.out) | exact HB.out)));(case aF => exact (fun k_ hk => Kd.fresh' (Kd.R_lt (by (with_reducible repeat (first | apply Kd.R_alloc | apply Kd.R_drewN | apply Kd.R_drew));exact HO141.out)) k_ hk));(case aO => exact (by (with_reducible repeat (first | apply Kd.R_alloc | apply Kd.R_drewN | apply Kd.R_drew));exact Kd.R_mono HO_5.out (fun _ hk => hk.2)));(case aS => exact (below_size (by repeat (first | (with_reducible first | exact HB.out | apply below_alloc | apply pw_below_drewN | apply below_drew1 | refine below_set ?_ GE133.out) | exact HB.out))));(case aL => have := LMc29.out;have hlx_ := (show ((l1.take ((wrap64 (((rd_T51 t129 x13_1).f1) + ((rd_T51 t129 x13_1).f2))) : Int).toNat).drop (((rd_T51 t129 x13_1).f1) : Int).toNat).length = ((wrap64 (((rd_T51 t129 x13_1).f1) + ((rd_T51 t129 x13_1).f2))).toNat - ((rd_T51 t129 x13_1).f1).toNat) from (by rw [List.length_drop,List.length_take];have h_ : ((wrap64 (((rd_T51 t129 x13_1).f1) + ((rd_T51 t129 x13_1).f2))) : Int) ≤ (l1.length : Int) := of_decide_eq_true (by first | (with_reducible assumption) | assumption);omega));omega);intro v146 w36 ho hb hg hat;rw [← Ny145.out] at ho;have n0_ := Aside0.mk (Kd.R_over' (by (with_reducible repeat (first | apply Kd.R_alloc | apply Kd.R_drewN | apply Kd.R_drew));exact HO_11.out) (Kd.R_typed (by (with_reducible repeat (first | apply Kd.R_alloc | apply Kd.R_drewN | apply Kd.R_drew));exact HO_5.out)) (by decide) hg);have n1_ := Aside0.mk (blk_grown (g := gb133) (o := .cells #[.int .i64 ((rd_T51 t129 x13_1).f0),.int .i64 ((rd_T51 t129 x13_1).f1),.int .i64 ((rd_T51 t129 x13_1).f2)] 51 (0,0)) (by (with_reducible repeat (first | refine blk_drewN ?_ _ | refine blk_drew ?_ | refine blk_alloc ?_ _));exact BK133.out) hg (Kd.R_ne HO_5.out BK133.out (by decide)));have n2_ := Aside0.mk (Kd.R_after (ok := (fun _ => True)) (by (with_reducible repeat (first | apply Kd.R_alloc | apply Kd.R_drewN | apply Kd.R_drew));exact HO141.out) hg hat);have n3_ := Aside0.mk (hb);have n4_ := Aside0.mk (ho);clear HO_11;clear BK133;clear HO141;clear HB;clear HO_5;have HO_11 := n0_;have BK133 := n1_;have HO141 := n2_;have HB := n3_;have HO147 := n4_;clear n0_ n1_ n2_ n3_ n4_;clear ho hb hg hat))
            go_roundg k1
            case measure => have := HK1.out;omega
            case rel => exact ⟨(y145),(wrap64 (x13_1 + 1)),(by first | rfl | (simp;done) | (simp [*];done)),H',⟨by have := HK1.out;omega⟩,⟨by (with_reducible repeat (first | apply Kd.R_alloc | apply Kd.R_drewN | apply Kd.R_drew));exact Kd.R_mono HO147.out (fun _ hk => trivial)⟩,⟨by (with_reducible repeat (first | apply Kd.R_alloc | apply Kd.R_drewN | apply Kd.R_drew));exact Kd.R_mono HO_11.out (fun _ hk => trivial)⟩,⟨by repeat (first | (with_reducible first | exact HB.out | apply below_alloc | apply pw_below_drewN | apply below_drew1 | refine below_set ?_ GE133.out) | exact HB.out)⟩⟩
           ·rw [if_neg c29] at H
            exact absurd H (by simp)
        ·rw [if_neg c11] at H
         exact absurd H (by simp)
       ·rw [if_neg c10] at H
        exact absurd H (by simp)
      ·rw [if_neg c9] at H
       exact absurd H (by simp)
     ·rw [if_neg c8] at H
      exact absurd H (by simp)
    ·rw [if_neg c7] at H
     exact absurd H (by simp)
   ·rw [if_neg c6] at H
    have c6b0 : decide (x13_1 < (t129.length : Int)) = false := decide_eq_false c6
    clear c6
    obtain rfl := Option.some.inj H
    go_wp2
    go_ret
    exact ⟨_,by first | rfl | (simp [errW_none,errW_some] <;> rfl) | (simp [*,errW_none,errW_some] <;> rfl),by (with_reducible repeat (first | apply Kd.R_alloc | apply Kd.R_drewN | apply Kd.R_drew));exact HO_5.out,by repeat (first | (with_reducible first | exact HB.out | apply below_alloc | apply pw_below_drewN | apply below_drew1) | exact HB.out)⟩

end Go.Proofs.Ytfaahcgoinkmlaa.P
