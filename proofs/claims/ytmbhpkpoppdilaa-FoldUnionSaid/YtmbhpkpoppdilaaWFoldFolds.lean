/- The law FoldFolds: the walk and the plain law together. -/
import Derived.Test.YtmbhpkpoppdilaaPx0
import Derived.Test.YtmbhpkpoppdilaaPx10
import Derived.Test.YtmbhpkpoppdilaaPx5
import Derived.Test.YtmbhpkpoppdilaaPx6
import Derived.Test.YtmbhpkpoppdilaaGClose
import Derived.Test.YtmbhpkpoppdilaaGConcat
import Derived.Test.YtmbhpkpoppdilaaGFold
import Derived.Test.YtmbhpkpoppdilaaGHas
import Derived.Test.YtmbhpkpoppdilaaGNorm
import Derived.Test.YtmbhpkpoppdilaaPBase
import Derived.Test.YtmbhpkpoppdilaaPLaw4
import Derived.Test.YtmbhpkpoppdilaaPLaw4b
namespace Go.Proofs.Ytmbhpkpoppdilaa.P
set_option linter.unusedVariables false
set_option linter.unusedSimpArgs false
section
open Go.RowKit Go.Proofs.YtmbhpkpoppdilaaW.PrintWords Go.Proofs.YtmbhpkpoppdilaaW.PrintLast Go.Proofs.YtmbhpkpoppdilaaW.PrintMore
def Out1 (x : Int) : Prop := ¬ (65 ≤ x ∧ x ≤ 90) ∧ ¬ (192 ≤ x ∧ x ≤ 222 ∧ x ≠ 215) ∧ ¬ (913 ≤ x ∧ x ≤ 937 ∧ x ≠ 930) ∧ ¬ (1040 ≤ x ∧ x ≤ 1071)
theorem ref_fold3 {x : Int} (h : Out1 x) (h2 : ¬ (1024 ≤ x ∧ x ≤ 1039)) : Ev (fun k => glyphcutterref04_Fold.j3 k x false) (foldF x) := by
  have hc := fold_cases x
  generalize foldF x = p at hc ⊢
  unfold Out1 at h
  refine Ev.step (fun k => by rw [glyphcutterref04_Fold.j3]) (Ev.neg (by simp) ?_)
  by_cases c1 : x = 181
  · refine Ev.pos c1 ?_; rw [show p = 956 by omega]; exact Ev.now _
  refine Ev.neg c1 ?_
  by_cases c2 : x = 962
  · refine Ev.pos c2 ?_; rw [show p = 963 by omega]; exact Ev.now _
  refine Ev.neg c2 ?_
  by_cases c3 : x = 7838
  · refine Ev.pos c3 ?_; rw [show p = 223 by omega]; exact Ev.now _
  refine Ev.neg c3 ?_
  by_cases c4 : x = 8486
  · refine Ev.pos c4 ?_; rw [show p = 969 by omega]; exact Ev.now _
  refine Ev.neg c4 ?_
  by_cases c5 : x = 8490
  · refine Ev.pos c5 ?_; rw [show p = 107 by omega]; exact Ev.now _
  refine Ev.neg c5 ?_
  by_cases c6 : x = 8491
  · refine Ev.pos c6 ?_; rw [show p = 229 by omega]; exact Ev.now _
  refine Ev.neg c6 ?_
  rw [show p = x by omega]; exact Ev.now _
theorem ref_fold2f {x : Int} (h : Out1 x) : Ev (fun k => glyphcutterref04_Fold.j2 k x false) (foldF x) := by
  refine Ev.step (fun k => by rw [glyphcutterref04_Fold.j2]) (Ev.neg (by simp) ?_)
  by_cases c1 : x ≥ 1024
  · refine Ev.pos c1 ?_
    by_cases c2 : x ≤ 1039
    · rw [decide_eq_true c2]
      refine Ev.step (fun k => by rw [glyphcutterref04_Fold.j3]) (Ev.pos rfl ?_)
      have hc := fold_cases x
      generalize foldF x = p at hc ⊢
      rw [wrap_in (by omega) (by omega), show p = x + 80 by omega]
      exact Ev.now _
    · rw [decide_eq_false c2]
      exact ref_fold3 h (by omega)
  · exact Ev.neg c1 (ref_fold3 h (by omega))
theorem ref_fold2t {x : Int} (h : ¬ Out1 x) : Ev (fun k => glyphcutterref04_Fold.j2 k x true) (foldF x) := by
  refine Ev.step (fun k => by rw [glyphcutterref04_Fold.j2]) (Ev.pos rfl ?_)
  have hc := fold_cases x
  generalize foldF x = p at hc ⊢
  unfold Out1 at h
  rw [wrap_in (by omega) (by omega), show p = x + 32 by omega]
  exact Ev.now _
theorem ref_fold1f {x : Int} (h1 : ¬ (65 ≤ x ∧ x ≤ 90)) (h2 : ¬ (192 ≤ x ∧ x ≤ 222 ∧ x ≠ 215)) : Ev (fun k => glyphcutterref04_Fold.j1 k x false) (foldF x) := by
  have h3 : (¬ (913 ≤ x ∧ x ≤ 937 ∧ x ≠ 930)) → Ev (fun k => if x ≥ 1040 then glyphcutterref04_Fold.j2 k x (decide (x ≤ 1071)) else glyphcutterref04_Fold.j2 k x false) (foldF x) := by
    intro h3
    by_cases c1 : x ≥ 1040
    · refine Ev.pos c1 ?_
      by_cases c2 : x ≤ 1071
      · rw [decide_eq_true c2]; exact ref_fold2t (by unfold Out1; omega)
      · rw [decide_eq_false c2]; exact ref_fold2f (by unfold Out1; omega)
    · exact Ev.neg c1 (ref_fold2f (by unfold Out1; omega))
  refine Ev.step (fun k => by rw [glyphcutterref04_Fold.j1]) (Ev.neg (by simp) ?_)
  by_cases c1 : x ≥ 913
  · refine Ev.pos c1 ?_
    by_cases c2 : x ≤ 937
    · refine Ev.pos c2 ?_
      by_cases c3 : x = 930
      · exact Ev.pos c3 (h3 (by omega))
      · refine Ev.neg c3 ?_
        rw [show (x != 930) = true from bne_iff_ne.2 c3]
        exact ref_fold2t (by unfold Out1; omega)
    · exact Ev.neg c2 (h3 (by omega))
  · exact Ev.neg c1 (h3 (by omega))
theorem ref_fold1t {x : Int} (h : ¬ Out1 x) : Ev (fun k => glyphcutterref04_Fold.j1 k x true) (foldF x) :=
  Ev.step (fun k => by rw [glyphcutterref04_Fold.j1]) (Ev.pos rfl (ref_fold2t h))
theorem ref_fold0f {x : Int} (h1 : ¬ (65 ≤ x ∧ x ≤ 90)) : Ev (fun k => glyphcutterref04_Fold.j0 k x false) (foldF x) := by
  refine Ev.step (fun k => by rw [glyphcutterref04_Fold.j0]) (Ev.neg (by simp) ?_)
  by_cases c1 : x ≥ 192
  · refine Ev.pos c1 ?_
    by_cases c2 : x ≤ 222
    · refine Ev.pos c2 ?_
      by_cases c3 : x = 215
      · rw [show (x != 215) = false from bne_eq_false_iff_eq.2 c3]
        exact ref_fold1f h1 (by omega)
      · rw [show (x != 215) = true from bne_iff_ne.2 c3]
        exact ref_fold1t (by unfold Out1; omega)
    · exact Ev.neg c2 (ref_fold1f h1 (by omega))
  · exact Ev.neg c1 (ref_fold1f h1 (by omega))
theorem ref_fold (x : Int) : Ev (fun k => glyphcutterref04_Fold.f k x) (foldF x) := by
  unfold glyphcutterref04_Fold.f
  by_cases c1 : x ≥ 65
  · refine Ev.pos c1 ?_
    by_cases c2 : x ≤ 90
    · rw [decide_eq_true c2]
      exact Ev.step (fun k => by rw [glyphcutterref04_Fold.j0]) (Ev.pos rfl (ref_fold2t (by unfold Out1; omega)))
    · rw [decide_eq_false c2]; exact ref_fold0f (by omega)
  · exact Ev.neg c1 (ref_fold0f (by omega))
def filtF (f : Int) (i : Nat) : List Int := ((List.range i).filter fun (t : Nat) => foldF (t : Int) == f).map fun (t : Nat) => (t : Int)
theorem filtF_succ (f : Int) (i : Nat) : filtF f (i + 1) = if foldF (i : Int) = f then filtF f i ++ [(i : Int)] else filtF f i := by
  unfold filtF
  rw [List.range_succ, List.filter_append, List.map_append]
  split
  · rename_i h; simp [h]
  · rename_i h; simp [h]
theorem filtF_len (f : Int) (i : Nat) : (filtF f i).length ≤ i := by
  unfold filtF
  rw [List.length_map]
  have := List.length_filter_le (fun t : Nat => foldF (t : Int) == f) (List.range i)
  rwa [List.length_range] at this
theorem mem_filtF (f : Int) (i : Nat) (x : Int) : x ∈ filtF f i ↔ 0 ≤ x ∧ x < i ∧ foldF x = f := by
  unfold filtF
  rw [List.mem_map]
  constructor
  · rintro ⟨t, ht, rfl⟩
    obtain ⟨h1, h2⟩ := List.mem_filter.1 ht
    have := List.mem_range.1 h1
    exact ⟨by omega, by omega, by simpa using h2⟩
  · rintro ⟨h1, h2, h3⟩
    refine ⟨x.toNat, List.mem_filter.2 ⟨List.mem_range.2 (by omega), ?_⟩, by omega⟩
    rw [show ((x.toNat : Nat) : Int) = x by omega]; simpa using h3
theorem filtF_up (f : Int) : ∀ i : Nat, (filtF f i).Pairwise (· < ·)
  | 0 => List.Pairwise.nil
  | i + 1 => by
    rw [filtF_succ]
    split
    · refine List.pairwise_append.2 ⟨filtF_up f i, List.pairwise_singleton _ _, fun a ha b hb => ?_⟩
      have := (mem_filtF f i a).1 ha
      rw [List.mem_singleton.1 hb]; omega
    · exact filtF_up f i
theorem fold_low {o : Int} (h : 0 ≤ foldF o) (h2 : foldF o < 12288) : 0 ≤ o ∧ o < 12288 := by
  have hc := fold_cases o
  generalize foldF o = p at *
  omega
theorem fold_lt {o : Int} (h : 0 ≤ o) (h2 : o < 12288) : 0 ≤ foldF o ∧ foldF o < 12288 := by
  have hc := fold_cases o
  generalize foldF o = p at *
  omega
theorem orbit_filt {r : Int} (h : Scal r) : orbitP r = if r ≥ 12288 then filtF (foldF r) 12288 ++ [r] else filtF (foldF r) 12288 := by
  have hr0 : 0 ≤ r := h.1
  split
  · rename_i hr
    have fr := fold_big (show 8492 ≤ r by omega)
    refine lt_ext (orbit_up r) (List.pairwise_append.2 ⟨filtF_up _ _, List.pairwise_singleton _ _, fun a ha b hb => ?_⟩) fun x => ?_
    · have := (mem_filtF _ _ a).1 ha
      rw [List.mem_singleton.1 hb]; omega
    · rw [mem_orbit, List.mem_append, mem_filtF, List.mem_singleton, fr]
      constructor
      · rintro ⟨_, h2⟩
        right
        have hc := fold_cases x
        rw [h2] at hc
        omega
      · rintro (⟨h1, h2, h3⟩ | rfl)
        · have := fold_lt h1 (by omega); omega
        · exact ⟨h, fr⟩
  · rename_i hr
    refine lt_ext (orbit_up r) (filtF_up _ _) fun x => ?_
    rw [mem_orbit, mem_filtF]
    have hf := fold_lt hr0 (by omega)
    constructor
    · rintro ⟨_, h2⟩
      have := fold_low (o := x) (by omega) (by omega)
      exact ⟨this.1, by omega, h2⟩
    · rintro ⟨_, _, h3⟩
      exact ⟨h, h3⟩
theorem ref_orbit (r : Int) : Ev (fun k => glyphcutterref04_Orbit.f k r) (orbitP r) := by
  unfold glyphcutterref04_Orbit.f
  refine Ev.bind (ref_has [⟨0, 1114111⟩] r (by simp [Sm])) ?_
  have hh := has_all r
  unfold allS at hh
  rw [hh]
  by_cases hs : Scal r
  · rw [decide_eq_true hs]
    refine Ev.pos rfl ?_
    have l0 : ∀ (d i : Nat), 12288 - i = d → i ≤ 12288 → Ev (fun k => glyphcutterref04_Orbit.l0 k r (filtF (foldF r) i) (i : Int)) (orbitP r) := by
      intro d
      induction d with
      | zero =>
        intro i hd hi
        have : i = 12288 := by omega
        subst this
        refine Ev.step (fun k => by rw [glyphcutterref04_Orbit.l0]) (Ev.neg (by omega) ?_)
        rw [orbit_filt hs]
        have hl := filtF_len (foldF r) 12288
        split
        · rename_i hr
          exact Ev.pos (by omega) (Ev.now _)
        · rename_i hr
          exact Ev.now _
      | succ d ih =>
        intro i hd hi
        have hl := filtF_len (foldF r) i
        have ihn := ih (i + 1) (by omega) (by omega)
        rw [filtF_succ] at ihn
        refine Ev.step (fun k => by rw [glyphcutterref04_Orbit.l0]) (Ev.pos (by omega) (Ev.bind (ref_fold _) (Ev.bind (ref_fold r) ?_)))
        rw [wrap_in (by omega) (by omega)]
        by_cases c : foldF (i : Int) = foldF r
        · rw [if_pos c] at ihn
          exact Ev.pos c (Ev.pos (by omega) ihn)
        · rw [if_neg c] at ihn
          exact Ev.neg c ihn
    exact l0 12288 0 rfl (by omega)
  · rw [decide_eq_false hs]
    refine Ev.neg (by simp) ?_
    rw [show orbitP r = [] by unfold orbitP; rw [if_neg hs]]
    exact Ev.now _
theorem law_same4 (a : List Int) (ha : a.length ≤ 1000000) : Ev (fun k => glyphcutterlaw04_same.f k a a) true := by
  unfold glyphcutterlaw04_same.f
  refine Ev.pos rfl ?_
  have l0 : ∀ (d n : Nat), a.length - n = d → n ≤ a.length → Ev (fun k => glyphcutterlaw04_same.l0 k a a (n : Int)) true := by
    intro d
    induction d with
    | zero =>
      intro n hd hn
      exact Ev.step (fun k => by rw [glyphcutterlaw04_same.l0]) (Ev.neg (by omega) (Ev.now true))
    | succ d ih =>
      intro n hd hn
      refine Ev.step (fun k => by rw [glyphcutterlaw04_same.l0]) (Ev.pos (by omega) (Ev.pos (by omega) (Ev.pos (by omega) (Ev.pos rfl ?_))))
      rw [wrap_in (by omega) (by omega)]
      exact ih (n + 1) (by omega) (by omega)
  exact l0 a.length 0 (by omega) (by omega)
theorem fold_f (x : Int) : fold_Fold.f x = some (foldF x) := rfl
theorem orbit_f (x : Int) : fold_Orbit.f x = some (orbitP x) := rfl
theorem law_folds (r a : Int) (h0 : 0 ≤ a) (h1 : a ≤ 65535) : Ev (fun k => glyphcutterlaw04_FoldFolds.f k r a) true := by
  obtain ⟨v, hv, v0, v1⟩ := near_f a h0 h1
  have o1 := orbit_len r
  have o2 := orbit_len v
  unfold glyphcutterlaw04_FoldFolds.f
  refine Ev.bindc known_f (Ev.pos rfl (Ev.bindc (fold_f r) (Ev.bind (ref_fold r) (Ev.pos rfl (Ev.bindc hv (Ev.bindc (fold_f v) (Ev.bindc hv (Ev.bind (ref_fold v) (Ev.pos rfl (Ev.bindc (orbit_f r) (Ev.bind (ref_orbit r) (Ev.bind (law_same4 _ (by omega)) (Ev.pos rfl (Ev.bindc hv (Ev.bindc (orbit_f v) (Ev.bindc hv (Ev.bind (ref_orbit v) (Ev.bind (law_same4 _ (by omega)) (Ev.now true)))))))))))))))))))
end
section
open Go.RowKit Go.Proofs.YtmbhpkpoppdilaaW.PrintWords Go.Proofs.YtmbhpkpoppdilaaW.PrintLast Go.Proofs.YtmbhpkpoppdilaaW.PrintMore
theorem u16_in {x : Int} (h : (Lit.int .u16 x).wf = true) : 0 ≤ x ∧ x ≤ 65535 := by
  simp [Lit.wf, IntKind.min, IntKind.max, IntKind.bits, IntKind.signed] at h
  omega
theorem FoldFolds.calls (W : World) (a0 : Int) (w0 : (Lit.int .i64 a0).wf = true) (a1 : Int) (w1 : (Lit.int .u16 a1).wf = true) :
    Calls Try.prog 5 #[.int .i64 a0, .int .u16 a1] W fun e W' => e = .returned (.bool true) ∧ Below W.heap.size W W' := by
  obtain ⟨k, hk⟩ := (law_folds a0 a1 (u16_in w1).1 (u16_in w1).2).rounds
  exact glyphcutterlaw04_FoldFolds.calls k a0 a1 true W hk
end
end Go.Proofs.Ytmbhpkpoppdilaa.P
