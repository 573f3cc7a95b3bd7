/- Scalars as bytes: the plain side. -/
import Derived.Test.YtbhfaeliklaffaaPx0
import Derived.Laws.BitsLemmas
namespace Go.Proofs.Ytbhfaeliklaffaa.P
set_option linter.unusedVariables false
set_option linter.unusedSimpArgs false
section
open Go.RowKit Go.Proofs.YtbhfaeliklaffaaW.PrintWords Go.Proofs.YtbhfaeliklaffaaW.PrintLast Go.Proofs.YtbhfaeliklaffaaW.PrintMore
/-- A scalar as bytes; nothing of what is none. -/
def encP (r : Int) : List Int :=
  if 0 ≤ r ∧ r ≤ 1114111 ∧ (r < 55296 ∨ 57343 < r) then
    if r < 128 then [r] else if r < 2048 then [192 + r / 64, 128 + r % 64]
    else if r < 65536 then [224 + r / 4096, 128 + r / 64 % 64, 128 + r % 64]
    else [240 + r / 262144, 128 + r / 4096 % 64, 128 + r / 64 % 64, 128 + r % 64]
  else []
theorem enc_none {r : Int} (h : ¬ (0 ≤ r ∧ r ≤ 1114111 ∧ (r < 55296 ∨ 57343 < r))) : encP r = [] := if_neg h
theorem enc_1 {r : Int} (h0 : 0 ≤ r) (h1 : r < 128) : encP r = [r] := by unfold encP; rw [if_pos (by omega), if_pos h1]
theorem enc_2 {r : Int} (h0 : 128 ≤ r) (h1 : r < 2048) : encP r = [192 + r / 64, 128 + r % 64] := by unfold encP; rw [if_pos (by omega), if_neg (by omega), if_pos h1]
theorem enc_3 {r : Int} (h0 : 2048 ≤ r) (h1 : r < 65536) (h2 : r < 55296 ∨ 57343 < r) : encP r = [224 + r / 4096, 128 + r / 64 % 64, 128 + r % 64] := by unfold encP; rw [if_pos (by omega), if_neg (by omega), if_neg (by omega), if_pos h1]
theorem enc_4 {r : Int} (h0 : 65536 ≤ r) (h1 : r ≤ 1114111) : encP r = [240 + r / 262144, 128 + r / 4096 % 64, 128 + r / 64 % 64, 128 + r % 64] := by unfold encP; rw [if_pos (by omega), if_neg (by omega), if_neg (by omega), if_neg (by omega)]
theorem enc_len (r : Int) : (encP r).length ≤ 4 := by
  unfold encP
  repeat' split
  all_goals simp
theorem enc_u8 (r : Int) : ∀ x ∈ encP r, 0 ≤ x ∧ x < 256 := by
  intro x hx
  unfold encP at hx
  split at hx
  · split at hx
    · simp at hx; omega
    · split at hx
      · simp at hx; omega
      · split at hx
        · simp at hx; omega
        · simp at hx; omega
  · simp at hx
end
end Go.Proofs.Ytbhfaeliklaffaa.P
