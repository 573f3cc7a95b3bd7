/- '<=' of strings. -/
import Derived.Test.YtpcljaidlihafaaPx0
namespace Go.Proofs.Ytpcljaidlihafaa.P
set_option linter.unusedVariables false
set_option linter.unusedSimpArgs false
section
open Go.RowKit Go.Proofs.YtpcljaidlihafaaW.PrintWords Go.Proofs.YtpcljaidlihafaaW.PrintLast Go.Proofs.YtpcljaidlihafaaW.PrintMore
theorem bytesLess_total : ∀ a b : List UInt8, (Op.bytesLess a b || a == b) = !Op.bytesLess b a
  | [], [] => by simp [Op.bytesLess]
  | [], y :: b => by simp [Op.bytesLess]
  | x :: a, [] => by simp [Op.bytesLess]
  | x :: a, y :: b => by
    have ih := bytesLess_total a b
    have h1 : (x :: a == y :: b) = ((x == y) && (a == b)) := rfl
    rw [h1]
    unfold Op.bytesLess
    by_cases e : x = y
    · subst e
      simp
      simpa using ih
    · have e3 : ¬ y = x := fun h => e h.symm
      have e' : (x == y) = false := beq_eq_false_iff_ne.2 e
      have e2 : ¬ x.toNat = y.toNat := fun h => e (UInt8.toNat_inj.1 h)
      simp only [e', Bool.false_and, Bool.or_false]
      rcases Nat.lt_or_ge x.toNat y.toNat with h | h
      · have a1 : x < y := UInt8.lt_iff_toNat_lt.2 h
        have a2 : ¬ y < x := fun h2 => by have := UInt8.lt_iff_toNat_lt.1 h2; omega
        simp [a1, a2, e, e3]
      · have a1 : y < x := UInt8.lt_iff_toNat_lt.2 (by omega)
        have a2 : ¬ x < y := fun h2 => by have := UInt8.lt_iff_toNat_lt.1 h2; omega
        simp [a1, a2, e, e3]
theorem binOp_string_leq2 (t : TypeId) (a b : ByteArray) : binOp .leq t (.string a) (.string b) = pure (.bool (!Op.bytesLess b.toList a.toList)) := by
  rw [← bytesLess_total]
  simp [binOp, Op.stringOp]
end
end Go.Proofs.Ytpcljaidlihafaa.P
