/- A name by its number. -/
import Derived.Test.YtpcljaidlihafaaPx0
import Derived.Test.YtpcljaidlihafaaGNames
import Derived.Test.YtpcljaidlihafaaPBase
namespace Go.Proofs.Ytpcljaidlihafaa.P
set_option linter.unusedVariables false
set_option linter.unusedSimpArgs false
section
open Go.RowKit Go.Proofs.YtpcljaidlihafaaW.PrintWords Go.Proofs.YtpcljaidlihafaaW.PrintLast Go.Proofs.YtpcljaidlihafaaW.PrintMore
def nameAt (i : Int) : ByteArray := rdOf ByteArray.empty namesB i
theorem idx_in (a : Int) (h0 : 0 ≤ a) (h1 : a ≤ 255) : 0 ≤ Int.tmod (wrap64 a) (namesB.length : Int) ∧ Int.tmod (wrap64 a) (namesB.length : Int) < 13 := by
  rw [wrap_in (by omega) (by omega), Int.tmod_eq_emod_of_nonneg h0]
  exact ⟨Int.emod_nonneg _ (by decide), Int.emod_lt_of_pos _ (by decide)⟩
end
end Go.Proofs.Ytpcljaidlihafaa.P
