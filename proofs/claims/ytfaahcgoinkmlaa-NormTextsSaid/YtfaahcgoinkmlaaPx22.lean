-- WRITTEN BY A PROGRAM (hybrid.py over the kit's print.py): Lean checks it.
import Derived.Test.YtfaahcgoinkmlaaPx0
import Derived.Test.YtfaahcgoinkmlaaGHas
namespace Go.Proofs.Ytfaahcgoinkmlaa.P
open Go.RowKit Go.Proofs.YtfaahcgoinkmlaaW.PrintWords Go.Proofs.YtfaahcgoinkmlaaW.PrintLast Go.Proofs.YtfaahcgoinkmlaaW.PrintMore
attribute [local go_sem] max2_int min2_int max_two min_two max_three min_three max_four min_four   -- for this text's walks alone
set_option linter.unusedVariables false
set_option linter.unusedSimpArgs false

/-! ### norm_scalar: function 32 -/
def norm_scalar.f (a0 : Int) : Option (Bool) := (set_Has.f (([(⟨0,1114111⟩ : S79)] : List (S79))) a0).bind fun t492 => (some t492)
set_option maxHeartbeats 8000000 in
set_option maxRecDepth 100000 in
theorem norm_scalar.calls (a0 : Int) (r : Bool) (w : World) (h : norm_scalar.f a0 = some r) :
  Calls Try.prog 32 #[.int .i64 a0] w fun e w' => e = .returned (.bool r) ∧ Below w.heap.size w w' := by
 have hu79 := Try.underlying79
 have HB := Aside0.mk (Below.refl w.heap.size w)
 have H : ((set_Has.f (([(⟨0,1114111⟩ : S79)] : List (S79))) a0).bind fun t492 => (some t492)) = some r := h
 clear h
 obtain ⟨y489,hy489⟩ : ∃ y_ : List (S79),y_ = (([(⟨0,1114111⟩ : S79)] : List (S79))) := ⟨_,rfl⟩
 replace H : ((set_Has.f y489 a0).bind fun t492 => (some t492)) = some r := by first | (rw [hy489];with_reducible exact H) | (have H2_ := (Option.bind_some _ _).symm.trans H;rw [hy489];with_reducible exact H2_) | (have H2_ := (Option.bind_some _ _).symm.trans H;with_reducible exact H2_) | with_reducible exact H | (rw [hy489];exact H) | exact H
 have Ny489 := Aside0.mk hy489
 clear hy489
 replace H := Option.bind_eq_some_iff.mp H
 obtain ⟨t492,A20,H⟩ := H
 skip
 have A2 := Aside0.mk A20
 clear A20
 obtain rfl := Option.some.inj H
 go_enter Try.func32,Try.ntmps32
 go_wp2_with (first | ((with_reducible refine gate_dst (N := 4) rfl ?_);refine Kd.R_lit k79 _ 79 ?hg (N := 4) ?hd (xs := ([(⟨0,1114111⟩ : S79)] : List (S79))) (inner := [.int .i64 0,.int .i64 1114111]) (ok := fun _ => True) (okp := fun _ => True) ?hr ?hp (fun _ hk => hk) trivial (Below.refl _ _) (Nat.le_refl _) (by simp) ?_;(case hd => rfl);(case hg => rfl);(case hr => first | (go_simp;done) | (go_simp;rfl));(case hp => exact (Reps.c2 (show Kd.M k79 _ _ _ (⟨0,1114111⟩ : S79) [.int .i64 0,.int .i64 1114111] from (k79_mkM _ _ _ (⟨0,1114111⟩ : S79) )) (Reps.none _ _)));intro v490 w3 ho4 hb hg_ hnew_;clear hg_ hnew_;(first | rw [← Ny489.out] at ho4 | (simp only [Int.reduceToNat] at ho4;rw [← Ny489.out] at ho4));have n0_ := Aside0.mk (Kd.R_lower ho4 (below_size (by repeat (first | (with_reducible first | exact HB.out | apply below_alloc | apply pw_below_drewN | apply below_drew1) | exact HB.out))));have n1_ := Aside0.mk (below_step (by repeat (first | (with_reducible first | exact HB.out | apply below_alloc | apply pw_below_drewN | apply below_drew1) | exact HB.out)) hb);clear HB;have HO491 := n0_;have HB := n1_;clear n0_ n1_;clear hb ho4;obtain ⟨Ao5,co5,eo5⟩ := Kd.R_slice HO491.out;subst eo5) | ((with_reducible refine gate_callee (f := 54) rfl ?_);refine goesL_ (some 6) rfl rfl Try.func54 (by kernel_rfl) rfl #[.slice Ao5 y489.length co5,.int .i64 a0] rfl (by (try simp only [List.map_toArray,List.map_cons,List.map_nil]);first | done | rfl | (simp only [List.length_drop,List.length_take];rfl)) ?_;(with_reducible refine (set_Has.calls _ _ y489 a0 t492 _ ?side1 ?side2 A2.out).mono ?_);(case side1 => repeat (first | exact (Kd.R_reads' HO491.out).2.2 | (with_reducible refine Kd.C_alloc ?_ _) | (with_reducible refine Kd.C_drewN ?_ _) | (with_reducible refine Kd.C_drew ?_)));(case side2 => exact (Kd.R_reads' HO491.out).2.1);rintro e w6 ⟨rfl,hb⟩;refine ⟨_,rfl,?_⟩;have n0_ := Aside0.mk (Kd.R_below (by (with_reducible repeat (first | apply Kd.R_alloc | apply Kd.R_drewN | apply Kd.R_drew));exact HO491.out) hb);have n1_ := Aside0.mk (below_step (by repeat (first | (with_reducible first | exact HB.out | apply below_alloc | apply pw_below_drewN | apply below_drew1) | exact HB.out)) hb);clear HO491;clear HB;have HO491 := n0_;have HB := n1_;clear n0_ n1_;(try clear hb);(try clear hb2);(try clear hk);(try clear hi)))
 go_ret
 exact ⟨by first | rfl | (simp [errW_none,errW_some] <;> rfl) | (simp [*,errW_none,errW_some] <;> rfl),by repeat (first | (with_reducible first | exact HB.out | apply below_alloc | apply pw_below_drewN | apply below_drew1) | exact HB.out)⟩

end Go.Proofs.Ytfaahcgoinkmlaa.P
