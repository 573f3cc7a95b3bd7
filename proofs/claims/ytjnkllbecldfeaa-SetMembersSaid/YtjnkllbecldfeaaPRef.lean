/- What the references of layer 1 answer: the plain side. -/
import Derived.Test.YtjnkllbecldfeaaPNf
import Derived.Test.YtjnkllbecldfeaaGHas
import Derived.Test.YtjnkllbecldfeaaPx8
namespace Go.Proofs.Ytjnkllbecldfeaa.P
set_option linter.unusedVariables false
set_option linter.unusedSimpArgs false
open Go.RowKit Go.Proofs.YtjnkllbecldfeaaW.PrintWords Go.Proofs.YtjnkllbecldfeaaW.PrintLast Go.Proofs.YtjnkllbecldfeaaW.PrintMore

theorem Ev.pos {α : Type} {c : Prop} [Decidable c] {A B : Nat → Option α} {r : α} (hc : c) (h : Ev A r) : Ev (fun k => if c then A k else B k) r := by
  simp only [if_pos hc]; exact h
theorem Ev.neg {α : Type} {c : Prop} [Decidable c] {A B : Nat → Option α} {r : α} (hc : ¬ c) (h : Ev B r) : Ev (fun k => if c then A k else B k) r := by
  simp only [if_neg hc]; exact h
theorem Ev.bindc {α β : Type} {g : Option α} {f : Nat → α → Option β} {a : α} {r : β} (h : g = some a) (k : Ev (fun n => f n a) r) : Ev (fun n => g.bind (f n)) r := by
  subst h; exact k
theorem wrap_in {i : Int} (h0 : -9223372036854775808 ≤ i) (h1 : i ≤ 9223372036854775807) : wrap64 i = i := by unfold wrap64; omega
/-- A row that came in: no longer than memory. -/
def Sm {α : Type} (l : List α) : Prop := l.length ≤ 140737488355328
/-- Its numbers are int64. -/
def Wf (l : List S27) : Prop := ∀ s ∈ l, -9223372036854775808 ≤ s.f0 ∧ s.f0 ≤ 9223372036854775807 ∧ -9223372036854775808 ≤ s.f1 ∧ s.f1 ≤ 9223372036854775807

def scalB (r : Int) : Bool := decide (0 ≤ r ∧ r ≤ 1114111 ∧ (r < 55296 ∨ 57343 < r))
theorem scalB_iff (r : Int) : scalB r = true ↔ Scal r := by unfold scalB Scal; exact decide_eq_true_iff
theorem ref_scalar (r : Int) : glyphcutterref01_scalar.f r = some (scalB r) := by
  unfold glyphcutterref01_scalar.f scalB
  by_cases h0 : 0 ≤ r
  · rw [if_pos (by omega)]
    by_cases h1 : r ≤ 1114111
    · rw [if_pos h1]
      by_cases h2 : r < 55296
      · rw [if_pos h2, decide_eq_true (by omega)]
      · rw [if_neg h2]; congr 1; rw [decide_eq_decide]; omega
    · rw [if_neg h1, decide_eq_false (by omega)]
  · rw [if_neg (by omega), decide_eq_false (by omega)]
theorem hasP_iff (l : List S27) (r : Int) : hasP l r = true ↔ Scal r ∧ mem l r := by
  unfold hasP Scal mem
  simp only [Bool.and_eq_true, decide_eq_true_eq, List.any_eq_true]
  constructor
  · rintro ⟨h1, h2⟩; exact ⟨by omega, h2⟩
  · rintro ⟨h1, h2⟩; exact ⟨by omega, h2⟩
theorem rd_get (l : List S27) (i : Nat) (h : i < l.length) : rd_T27 l (i : Int) = l[i] := by
  unfold rd_T27
  rw [Int.toNat_natCast, List.getD_eq_getElem?_getD, List.getElem?_eq_getElem h]; rfl
theorem rdi_get (l : List Int) (i : Nat) (h : i < l.length) : rd l (i : Int) = l[i] := by
  unfold rd
  rw [Int.toNat_natCast, List.getD_eq_getElem?_getD, List.getElem?_eq_getElem h]; rfl

theorem ref_has_at (l : List S27) (r : Int) (hl : Sm l) : ∀ (d i : Nat), l.length - i = d → i ≤ l.length → Ev (fun k => glyphcutterref01_Has.l0 k l r (i : Int)) (scalB r && (l.drop i).any fun s => decide (s.f0 ≤ r) && decide (r ≤ s.f1)) := by
  intro d
  unfold Sm at hl
  induction d with
  | zero =>
    intro i hd hi
    refine Ev.step (fun k => by rw [glyphcutterref01_Has.l0]) (Ev.neg (by omega) ?_)
    rw [List.drop_of_length_le (by omega)]
    simpa using Ev.now false
  | succ d ih =>
    intro i hd hi
    have hlt : i < l.length := by omega
    refine Ev.step (fun k => by rw [glyphcutterref01_Has.l0]) (Ev.pos (by omega) (Ev.pos (by omega) ?_))
    rw [rd_get l i hlt, List.drop_eq_getElem_cons hlt, List.any_cons, wrap_in (by omega) (by omega)]
    have ihn := ih (i + 1) (by omega) (by omega)
    by_cases h1 : r ≥ l[i].f0
    · refine Ev.pos h1 ?_
      by_cases h2 : r ≤ l[i].f1
      · refine Ev.pos h2 (Ev.bindc (ref_scalar r) ?_)
        rw [decide_eq_true (show l[i].f0 ≤ r from h1), decide_eq_true h2]
        simpa using Ev.now (scalB r)
      · refine Ev.neg h2 ?_
        rw [decide_eq_false h2, Bool.and_false, Bool.false_or]
        exact ihn
    · refine Ev.neg h1 ?_
      rw [decide_eq_false (show ¬ l[i].f0 ≤ r from h1), Bool.false_and, Bool.false_or]
      exact ihn
theorem ref_has (l : List S27) (r : Int) (hl : Sm l) : Ev (fun k => glyphcutterref01_Has.f k l r) (hasP l r) := by
  have h := ref_has_at l r hl l.length 0 (by omega) (by omega)
  have e : hasP l r = (scalB r && (l.drop 0).any fun s => decide (s.f0 ≤ r) && decide (r ≤ s.f1)) := by
    unfold hasP
    rw [List.drop_zero]
    congr 1
    unfold scalB
    rw [decide_eq_decide]
    omega
  rw [e]
  exact h

/-- One more number, in its place. -/
def layP : List Int → Int → List Int
  | [], x => [x]
  | a :: l, x => if a < x then a :: layP l x else if a = x then x :: l else x :: a :: l
theorem layP_len (l : List Int) (x : Int) : (layP l x).length ≤ l.length + 1 := by
  induction l with
  | nil => simp [layP]
  | cons a l ih => unfold layP; split; · simp; omega
                   · split <;> simp
theorem ref_lay_at (l : List Int) (x : Int) (hl : l.length ≤ 1000000000) : ∀ (d i : Nat) (out : List Int), l.length - i = d → i ≤ l.length → out.length ≤ i → Ev (fun k => glyphcutterref01_lay.l0 k l x out (i : Int)) (out ++ layP (l.drop i) x) := by
  intro d
  induction d with
  | zero =>
    intro i out hd hi ho
    rw [List.drop_of_length_le (by omega)]
    refine Ev.step (fun k => by rw [glyphcutterref01_lay.l0]) (Ev.neg (by omega) (Ev.pos (by omega) ?_))
    refine Ev.bindc rfl (Ev.pos (by omega) (Ev.pos (by omega) (Ev.pos (by simp; omega) ?_)))
    have : l.drop (i : Int).toNat = [] := by rw [Int.toNat_natCast]; exact List.drop_of_length_le (by omega)
    rw [this]
    simpa [layP] using Ev.now (out ++ [x])
  | succ d ih =>
    intro i out hd hi ho
    have hlt : i < l.length := by omega
    rw [List.drop_eq_getElem_cons hlt]
    refine Ev.step (fun k => by rw [glyphcutterref01_lay.l0]) (Ev.pos (by omega) (Ev.pos (by omega) ?_))
    rw [rdi_get l i hlt, wrap_in (by omega) (by omega)]
    unfold layP
    by_cases h1 : l[i] < x
    · refine Ev.pos h1 (Ev.pos (by omega) ?_)
      rw [if_pos h1]
      have := ih (i + 1) (out ++ [l[i]]) (by omega) (by omega) (by simp; omega)
      simpa using this
    · refine Ev.neg h1 ?_
      rw [if_neg h1]
      by_cases h2 : l[i] = x
      · refine Ev.pos h2 (Ev.pos (by omega) (Ev.bindc rfl (Ev.pos (by omega) (Ev.pos (by omega) (Ev.pos ?_ ?_)))))
        · simp; omega
        · have e : ((i : Int) + 1).toNat = i + 1 := by omega
          rw [e, if_pos h2]
          simpa using Ev.now (out ++ [x] ++ l.drop (i + 1))
      · refine Ev.neg h2 (Ev.pos (by omega) (Ev.bindc rfl (Ev.pos (by omega) (Ev.pos ?_ ?_))))
        · simp; omega
        · rw [Int.toNat_natCast, if_neg h2]
          simpa using Ev.now (out ++ [x] ++ l.drop i)
theorem ref_lay (l : List Int) (x : Int) (hl : l.length ≤ 1000000000) : Ev (fun k => glyphcutterref01_lay.f k l x) (layP l x) := by
  have := ref_lay_at l x hl l.length 0 [] (by omega) (by omega) (by simp)
  simpa [glyphcutterref01_lay.f] using this
end Go.Proofs.Ytjnkllbecldfeaa.P
