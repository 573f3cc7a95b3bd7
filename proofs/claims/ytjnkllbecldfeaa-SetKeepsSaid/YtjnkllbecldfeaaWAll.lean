/- What all laws of the chapter use. -/
import Derived.Test.YtjnkllbecldfeaaPx0
import Derived.Test.YtjnkllbecldfeaaPx11
import Derived.Test.YtjnkllbecldfeaaPx6
import Derived.Test.YtjnkllbecldfeaaPx8
import Derived.Test.YtjnkllbecldfeaaGBase
import Derived.Test.YtjnkllbecldfeaaGConcat
import Derived.Test.YtjnkllbecldfeaaGNorm
import Derived.Test.YtjnkllbecldfeaaPBase
import Derived.Test.YtjnkllbecldfeaaPLaw3
namespace Go.Proofs.Ytjnkllbecldfeaa.P
set_option linter.unusedVariables false
set_option linter.unusedSimpArgs false
section
open Go.RowKit Go.Proofs.YtjnkllbecldfeaaW.PrintWords Go.Proofs.YtjnkllbecldfeaaW.PrintLast Go.Proofs.YtjnkllbecldfeaaW.PrintMore
theorem mk_ex {c : List Int} (uc : U16 c) (sc : Sm c) : ∃ a k, Aside0 (glyphcutterlaw01_Make.f k c = some a) ∧ a.length ≤ 30 ∧ Wf a := by
  obtain ⟨m, h, h1, h2⟩ := law_make c uc sc
  obtain ⟨k, h⟩ := h.rounds
  exact ⟨m, k, ⟨h⟩, h1, h2⟩
theorem un_len (a b : List S27) : (normP [a, b].flatten).length ≤ 2 * (a.length + b.length) := by
  have := normP_len [a, b].flatten
  simp at this ⊢; omega
theorem set_union2 (a b : List S27) (h : a.length + b.length ≤ 20000) : set_Union.f [a, b] = some (normP [a, b].flatten) := set_union _ (by simp; omega) (by simp)
theorem size_at (l : List S27) (hl : l.length ≤ 20000) : Ev (fun k => set_Size.f k l) (sizeP l : Int) := by
  have h := set_size l hl
  rwa [(sizeW_norm l).1] at h
theorem size_ex (l : List S27) (hl : l.length ≤ 20000) : ∃ s k, Aside0 (set_Size.f k l = some s) ∧ s = (sizeP l : Int) := by
  obtain ⟨k, h⟩ := (size_at l hl).rounds
  exact ⟨_, k, ⟨h⟩, rfl⟩
theorem u16_of {l : List Int} (h : ∀ x ∈ l, (Lit.int .u16 x).wf = true) : U16 l := fun x hx => by
  have := h x hx
  simp [Lit.wf, IntKind.min, IntKind.max, IntKind.bits, IntKind.signed] at this
  omega
theorem sm_of {n : Nat} {l : List Int} (h : l.length * n ≤ 140737488351232) (hn : 0 < n := by decide) : Sm l := by
  have := Nat.le_mul_of_pos_right l.length hn
  unfold Sm; omega
theorem mem_un (a b : List S27) (r : Int) : mem (normP [a, b].flatten) r ↔ Scal r ∧ (mem a r ∨ mem b r) := by
  rw [normP_mem, mem_flatten]
  simp
end
end Go.Proofs.Ytjnkllbecldfeaa.P
