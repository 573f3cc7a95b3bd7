/- The law FoldSmall: the walk and the plain law together. -/
import Derived.Test.YtmbhpkpoppdilaaPx0
import Derived.Test.YtmbhpkpoppdilaaPx8
import Derived.Test.YtmbhpkpoppdilaaGClose
import Derived.Test.YtmbhpkpoppdilaaGConcat
import Derived.Test.YtmbhpkpoppdilaaGFold
import Derived.Test.YtmbhpkpoppdilaaGHas
import Derived.Test.YtmbhpkpoppdilaaGNorm
import Derived.Test.YtmbhpkpoppdilaaPBase
import Derived.Test.YtmbhpkpoppdilaaPLaw4
import Derived.Test.YtmbhpkpoppdilaaPLaw4b
namespace Go.Proofs.Ytmbhpkpoppdilaa.P
set_option linter.unusedVariables false
set_option linter.unusedSimpArgs false
section
open Go.RowKit Go.Proofs.YtmbhpkpoppdilaaW.PrintWords Go.Proofs.YtmbhpkpoppdilaaW.PrintLast Go.Proofs.YtmbhpkpoppdilaaW.PrintMore
theorem law_small (a : Int) (h0 : 0 ≤ a) : glyphcutterlaw04_FoldSmall.f a = some true := by
  have hx : wrap64 (Int.tmod a 128) = a % 128 := by rw [Int.tmod_eq_emod_of_nonneg h0, wrap_in (by omega) (by omega)]
  have hx0 : 0 ≤ a % 128 := by omega
  have hx1 : a % 128 < 128 := by omega
  unfold glyphcutterlaw04_FoldSmall.f
  rw [hx]
  generalize a % 128 = x at *
  by_cases c1 : x ≥ 65
  · by_cases c2 : x ≤ 90
    · have f1 : foldF x = x + 32 := by have := fold_cases x; generalize foldF x = p at *; omega
      have f2 : foldF (x + 32) = x + 32 := by have := fold_cases (x + 32); generalize foldF (x + 32) = p at *; omega
      show (some (foldF x)).bind _ = _
      rw [f1, Option.bind_some, if_pos c1, known_f, Option.bind_some, if_pos rfl, if_pos c2, if_pos (by rw [wrap_in (by omega) (by omega)])]
      show (some (foldF (x + 32))).bind _ = _
      rw [f2, Option.bind_some, beq_self_eq_true]
    · have f1 : foldF x = x := by have := fold_cases x; generalize foldF x = p at *; omega
      show (some (foldF x)).bind _ = _
      rw [f1, Option.bind_some, if_pos c1, known_f, Option.bind_some, if_pos rfl, if_neg c2, if_neg c2, if_pos rfl]
      show (some (foldF x)).bind _ = _
      rw [f1, Option.bind_some, beq_self_eq_true]
  · have f1 : foldF x = x := by have := fold_cases x; generalize foldF x = p at *; omega
    show (some (foldF x)).bind _ = _
    rw [f1, Option.bind_some, if_neg c1, known_f, Option.bind_some, if_pos rfl, if_pos rfl]
    show (some (foldF x)).bind _ = _
    rw [f1, Option.bind_some, beq_self_eq_true]
end
section
open Go.RowKit Go.Proofs.YtmbhpkpoppdilaaW.PrintWords Go.Proofs.YtmbhpkpoppdilaaW.PrintLast Go.Proofs.YtmbhpkpoppdilaaW.PrintMore
theorem u8_in {x : Int} (h : (Lit.int .u8 x).wf = true) : 0 ≤ x ∧ x ≤ 255 := by
  simp [Lit.wf, IntKind.min, IntKind.max, IntKind.bits, IntKind.signed] at h
  omega
theorem FoldSmall.calls (W : World) (a0 : Int) (w0 : (Lit.int .u8 a0).wf = true) :
    Calls Try.prog 3 #[.int .u8 a0] W fun e W' => e = .returned (.bool true) ∧ Below W.heap.size W W' :=
  glyphcutterlaw04_FoldSmall.calls a0 true W (law_small a0 (u8_in w0).1)
end
end Go.Proofs.Ytmbhpkpoppdilaa.P
