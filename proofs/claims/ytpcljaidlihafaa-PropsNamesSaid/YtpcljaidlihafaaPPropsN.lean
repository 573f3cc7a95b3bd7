/- The law PropsNames: the plain side. -/
import Derived.Test.YtpcljaidlihafaaPx0
import Derived.Test.YtpcljaidlihafaaPx13
import Derived.Test.YtpcljaidlihafaaPx2
import Derived.Test.YtpcljaidlihafaaPx5
import Derived.Test.YtpcljaidlihafaaGMapH
import Derived.Test.YtpcljaidlihafaaGNames
import Derived.Test.YtpcljaidlihafaaGNorm
import Derived.Test.YtpcljaidlihafaaGProps
import Derived.Test.YtpcljaidlihafaaGProps2
import Derived.Test.YtpcljaidlihafaaGPropsOf
import Derived.Test.YtpcljaidlihafaaPBase
import Derived.Test.YtpcljaidlihafaaPLoose
import Derived.Test.YtpcljaidlihafaaPProps
import Derived.Test.YtpcljaidlihafaaPSpec
namespace Go.Proofs.Ytpcljaidlihafaa.P
set_option linter.unusedVariables false
set_option linter.unusedSimpArgs false
section
open Go.RowKit Go.Proofs.YtpcljaidlihafaaW.PrintWords Go.Proofs.YtpcljaidlihafaaW.PrintLast Go.Proofs.YtpcljaidlihafaaW.PrintMore
def nameAt (i : Int) : ByteArray := rdOf ByteArray.empty namesB i
theorem idx_in (a : Int) (h0 : 0 ≤ a) (h1 : a ≤ 255) : 0 ≤ Int.tmod (wrap64 a) (namesB.length : Int) ∧ Int.tmod (wrap64 a) (namesB.length : Int) < 13 := by
  rw [wrap_in (by omega) (by omega), Int.tmod_eq_emod_of_nonneg h0]
  exact ⟨Int.emod_nonneg _ (by decide), Int.emod_lt_of_pos _ (by decide)⟩
theorem allL_some {q : List UInt8 × List S39} (h : q ∈ allL) : normP q.2 ≠ [] := by
  have hd : allL.all (fun q => q.2.any fun x => scalB x.f0 && decide (x.f0 ≤ x.f1)) = true := by decide
  have h1 := List.all_eq_true.1 hd q h
  obtain ⟨x, hx, h2⟩ := List.any_eq_true.1 h1
  simp only [Bool.and_eq_true, decide_eq_true_eq] at h2
  intro hn
  have hm : mem (normP q.2) x.f0 := (normP_mem _ _).2 ⟨by have := h2.1; unfold scalB at this; simpa [Scal] using this, x, hx, by omega, h2.2⟩
  rw [hn] at hm
  exact mem_nil _ hm
theorem names_facts (i : Int) (h0 : 0 ≤ i) (h1 : i < 13) : looseB (nameAt i) = nameAt i ∧ (0 < i → Op.bytesLess (nameAt (i - 1)).toList (nameAt i).toList = true) ∧ classP (nameAt i ++ (⟨#[120]⟩ : ByteArray)) = none ∧ (nameAt i ++ (⟨#[120]⟩ : ByteArray)).size ≤ 9 := by
  rcases (by omega : i = 0 ∨ i = 1 ∨ i = 2 ∨ i = 3 ∨ i = 4 ∨ i = 5 ∨ i = 6 ∨ i = 7 ∨ i = 8 ∨ i = 9 ∨ i = 10 ∨ i = 11 ∨ i = 12) with rfl | rfl | rfl | rfl | rfl | rfl | rfl | rfl | rfl | rfl | rfl | rfl | rfl
  · exact ⟨by kernel_rfl, fun h => absurd h (by decide), by kernel_rfl, by decide +kernel⟩
  all_goals exact ⟨by kernel_rfl, fun _ => by kernel_rfl, by kernel_rfl, by decide +kernel⟩
theorem law_names (a : Int) (h0 : 0 ≤ a) (h1 : a ≤ 255) : Ev (fun k => glyphcutterlaw05_PropsNames.f k a) true := by
  have hm := idx_in a h0 h1
  have fin : Ev (fun k => glyphcutterlaw05_PropsNames.l0 k a namesB 13) true := by
    obtain ⟨hs, q, hq⟩ := names_class _ hm.1 hm.2
    obtain ⟨-, -, f1, f2⟩ := names_facts _ hm.1 hm.2
    unfold nameAt at f1 f2
    have f3 := of_none f1 (by omega)
    refine Ev.step (fun k => by rw [glyphcutterlaw05_PropsNames.l0]) ?_
    refine Ev.neg (show ¬ (13 : Int) < (namesB.length : Int) by decide) ?_
    refine Ev.neg (show ¬ (namesB.length : Int) = 0 by decide) ?_
    refine Ev.pos hm.1 (Ev.pos (by have := hm.2; exact this) (Ev.pos (by omega) ?_))
    refine Ev.bindc f3 (Ev.bind known_ev (Ev.pos rfl ?_))
    exact Ev.now true
  have loop : ∀ (d i : Nat), 13 - i = d → i ≤ 13 → Ev (fun k => glyphcutterlaw05_PropsNames.l0 k a namesB (i : Int)) true := by
    intro d
    induction d with
    | zero =>
      intro i hd hi
      obtain rfl : i = 13 := by omega
      exact fin
    | succ d ih =>
      intro i hd hi
      have n := ih (i + 1) (by omega) (by omega)
      obtain ⟨hs, q, hq⟩ := names_class (i : Int) (by omega) (by omega)
      obtain ⟨f1, f2, -, -⟩ := names_facts (i : Int) (by omega) (by omega)
      unfold nameAt at f1 f2
      have l1 := normP_len q.2
      have l2 := allL_small (class_mem hq)
      have l3 := allL_some (class_mem hq)
      have hlo := loose_ev (rdOf ByteArray.empty namesB (i : Int)) (by omega)
      rw [f1] at hlo
      have rn := ref_norm (normP q.2) (by omega) (normP_nf _).wf
      rw [normP_of_nf (normP_nf _)] at rn
      have ra := ref_alike (normP q.2) (normP q.2) (by omega)
      rw [eqS_rfl] at ra
      have rest : Ev (fun k => (glyphcutterref01_Norm.f k (normP q.2)).bind fun t435 => ((glyphcutterref01_Alike.f k t435 (normP q.2)).bind fun t438 => (if t438 = true then (glyphcutterlaw05_PropsNames.l0 k a namesB (wrap64 ((i : Int) + 1))) else (some false)))) true := by
        refine Ev.bind rn (Ev.bind ra (Ev.pos rfl ?_))
        rw [wrap_in (by omega) (by omega)]
        exact n
      have h13 : (namesB.length : Int) = 13 := rfl
      have hof := of_f hq (by omega)
      have hne : ¬ ((normP q.2).length : Int) = 0 := fun h => l3 (List.eq_nil_of_length_eq_zero (by omega))
      refine Ev.step (fun k => by rw [glyphcutterlaw05_PropsNames.l0]) ?_
      refine Ev.pos (show (i : Int) < (namesB.length : Int) by omega) (Ev.pos (by omega) ?_)
      refine Ev.bindc hof (Ev.pos rfl ?_)
      refine Ev.neg hne (Ev.bind hlo (Ev.pos rfl ?_))
      by_cases hi0 : (i : Int) > 0
      · refine Ev.pos hi0 ?_
        have hw : wrap64 ((i : Int) - 1) = (i : Int) - 1 := wrap_in (by omega) (by omega)
        rw [hw]
        exact Ev.pos (by omega) (Ev.pos (show (i : Int) - 1 < (namesB.length : Int) by have : (namesB.length : Int) = 13 := rfl; omega) (Ev.pos (f2 hi0) rest))
      · exact Ev.neg hi0 rest
  unfold glyphcutterlaw05_PropsNames.f
  exact Ev.bindc (a := namesB) rfl (Ev.neg (by decide) (loop 13 0 rfl (by omega)))
end
end Go.Proofs.Ytpcljaidlihafaa.P
