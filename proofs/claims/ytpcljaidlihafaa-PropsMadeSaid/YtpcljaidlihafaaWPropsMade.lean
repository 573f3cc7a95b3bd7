/- The law PropsMade: the walk and the plain law together. -/
import Derived.Test.YtpcljaidlihafaaPx0
import Derived.Test.YtpcljaidlihafaaPx13
import Derived.Test.YtpcljaidlihafaaGNames
import Derived.Test.YtpcljaidlihafaaGNorm
import Derived.Test.YtpcljaidlihafaaGProps
import Derived.Test.YtpcljaidlihafaaGProps2
import Derived.Test.YtpcljaidlihafaaGPropsOf
import Derived.Test.YtpcljaidlihafaaPBase
import Derived.Test.YtpcljaidlihafaaPLoose
import Derived.Test.YtpcljaidlihafaaPProps
namespace Go.Proofs.Ytpcljaidlihafaa.P
set_option linter.unusedVariables false
set_option linter.unusedSimpArgs false
section
open Go.RowKit Go.Proofs.YtpcljaidlihafaaW.PrintWords Go.Proofs.YtpcljaidlihafaaW.PrintLast Go.Proofs.YtpcljaidlihafaaW.PrintMore
theorem has_letter (r : Int) : hasP letterL r = (hasP latinL r || hasP greekL r || hasP cyrL r || hasP hanL r) := hasP_eq (by
  simp only [Bool.or_eq_true, hasP_iff]
  have h := (mem3 r).1
  constructor
  · rintro (((h1 | h1) | h1) | h1)
    · exact ⟨h1.1, h.2 (.inl h1.2)⟩
    · exact ⟨h1.1, h.2 (.inr (.inl h1.2))⟩
    · exact ⟨h1.1, h.2 (.inr (.inr (.inl h1.2)))⟩
    · exact ⟨h1.1, h.2 (.inr (.inr (.inr h1.2)))⟩
  · rintro ⟨h0, h1⟩
    rcases h.1 h1 with h1 | h1 | h1 | h1
    · exact .inl (.inl (.inl ⟨h0, h1⟩))
    · exact .inl (.inl (.inr ⟨h0, h1⟩))
    · exact .inl (.inr ⟨h0, h1⟩)
    · exact .inr ⟨h0, h1⟩)
theorem law_made (r : Int) : Ev (fun k => glyphcutterlaw05_PropsMade.f k r) true := by
  obtain ⟨K0, h0⟩ := known_ev
  obtain ⟨K1, h1⟩ := of_ev class_upper (by decide) r
  obtain ⟨K2, h2⟩ := of_ev class_lower (by decide) r
  obtain ⟨K3, h3⟩ := of_ev class_letter (by decide) r
  obtain ⟨K4, h4⟩ := of_ev class_digit (by decide) r
  obtain ⟨K5, h5⟩ := of_ev class_word (by decide) r
  obtain ⟨K6, h6⟩ := of_ev class_hex (by decide) r
  obtain ⟨K7, h7⟩ := of_ev class_ascii (by decide) r
  obtain ⟨K8, h8⟩ := of_ev class_latin (by decide) r
  obtain ⟨K9, h9⟩ := of_ev class_greek (by decide) r
  obtain ⟨K10, h10⟩ := of_ev class_cyrillic (by decide) r
  obtain ⟨K11, h11⟩ := of_ev class_han (by decide) r
  have J : ∀ k, K0 + K1 + K2 + K3 + K4 + K5 + K6 + K7 ≤ k → glyphcutterlaw05_PropsMade.j0 (k + 1) r (hasP letterL r) = some true := by
    intro k hk
    unfold glyphcutterlaw05_PropsMade.j0
    simp only [h0 k (by omega), h1 k (by omega), h2 k (by omega), h3 k (by omega), h4 k (by omega), h5 k (by omega), h6 k (by omega), h7 k (by omega), Option.bind_some]
    obtain ⟨-, -, m1, m2, m3⟩ := mem3 r
    have n1 : hasP hexL r = true → hasP asciiL r = true := fun a => (hasP_iff _ _).2 ⟨((hasP_iff _ _).1 a).1, m1 ((hasP_iff _ _).1 a).2⟩
    have n2 : hasP upperL r = true → hasP letterL r = true := fun a => (hasP_iff _ _).2 ⟨((hasP_iff _ _).1 a).1, m2 ((hasP_iff _ _).1 a).2⟩
    have n3 : hasP lowerL r = true → hasP letterL r = true := fun a => (hasP_iff _ _).2 ⟨((hasP_iff _ _).1 a).1, m3 ((hasP_iff _ _).1 a).2⟩
    have n4 := has_word r
    clear h0 h1 h2 h3 h4 h5 h6 h7 h8 h9 h10 h11 m1 m2 m3 hk
    generalize hasP wordL r = b5 at *
    subst n4
    generalize hasP upperL r = b1 at *
    generalize hasP lowerL r = b2 at *
    generalize hasP letterL r = b3 at *
    generalize hasP digitL r = b4 at *
    generalize hasP hexL r = b6 at *
    generalize hasP asciiL r = b7 at *
    generalize (r == 95) = b8 at *
    revert b1 b2 b3 b4 b6 b7 b8
    decide
  refine ⟨K0 + K1 + K2 + K3 + K4 + K5 + K6 + K7 + K8 + K9 + K10 + K11 + 1, fun k hk => ?_⟩
  obtain ⟨m, rfl⟩ : ∃ m, k = m + 1 := ⟨k - 1, by omega⟩
  have hJ := J m (by omega)
  unfold glyphcutterlaw05_PropsMade.f
  simp only [h8 (m + 1) (by omega), h9 (m + 1) (by omega), h10 (m + 1) (by omega), h11 (m + 1) (by omega), Option.bind_some]
  rw [has_letter] at hJ
  clear J
  cases e1 : hasP latinL r <;> cases e2 : hasP greekL r <;> cases e3 : hasP cyrL r <;> cases e4 : hasP hanL r <;> rw [e1, e2, e3, e4] at hJ <;> simpa using hJ
end
section
open Go.RowKit Go.Proofs.YtpcljaidlihafaaW.PrintWords Go.Proofs.YtpcljaidlihafaaW.PrintLast Go.Proofs.YtpcljaidlihafaaW.PrintMore
theorem PropsMade.calls (W : World) (a0 : Int) (w0 : (Lit.int .i64 a0).wf = true) :
    Calls Try.prog 8 #[.int .i64 a0] W fun e W' => e = .returned (.bool true) ∧ Below W.heap.size W W' := by
  obtain ⟨k, hk⟩ := (law_made a0).rounds
  exact glyphcutterlaw05_PropsMade.calls k a0 true W hk
end
end Go.Proofs.Ytpcljaidlihafaa.P
