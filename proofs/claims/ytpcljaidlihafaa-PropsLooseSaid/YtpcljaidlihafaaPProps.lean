/- The laws of chapter 5: the plain side. -/
import Derived.Test.YtpcljaidlihafaaPx0
import Derived.Test.YtpcljaidlihafaaPx9
import Derived.Test.YtpcljaidlihafaaPx2
import Derived.Test.YtpcljaidlihafaaGNames
import Derived.Test.YtpcljaidlihafaaGNorm
import Derived.Test.YtpcljaidlihafaaGProps
import Derived.Test.YtpcljaidlihafaaGProps2
import Derived.Test.YtpcljaidlihafaaGPropsOf
import Derived.Test.YtpcljaidlihafaaPBase
import Derived.Test.YtpcljaidlihafaaPLoose
namespace Go.Proofs.Ytpcljaidlihafaa.P
set_option linter.unusedVariables false
set_option linter.unusedSimpArgs false
section
open Go.RowKit Go.Proofs.YtpcljaidlihafaaW.PrintWords Go.Proofs.YtpcljaidlihafaaW.PrintLast Go.Proofs.YtpcljaidlihafaaW.PrintMore
def scalB (r : Int) : Bool := decide (0 ≤ r ∧ r ≤ 1114111 ∧ (r < 55296 ∨ 57343 < r))
theorem ref_scalar (r : Int) : glyphcutterref01_scalar.f r = some (scalB r) := by
  unfold glyphcutterref01_scalar.f scalB
  by_cases h0 : 0 ≤ r
  · rw [if_pos (by omega)]
    by_cases h1 : r ≤ 1114111
    · rw [if_pos h1]
      by_cases h2 : r < 55296
      · rw [if_pos h2, decide_eq_true (by omega)]
      · rw [if_neg h2]; congr 1; rw [decide_eq_decide]; omega
    · rw [if_neg h1, decide_eq_false (by omega)]
  · rw [if_neg (by omega), decide_eq_false (by omega)]
theorem ref_has_at (l : List S39) (r : Int) (hl : Sm l) : ∀ (d i : Nat), l.length - i = d → i ≤ l.length → Ev (fun k => glyphcutterref01_Has.l0 k l r (i : Int)) (scalB r && (l.drop i).any fun s => decide (s.f0 ≤ r) && decide (r ≤ s.f1)) := by
  intro d
  unfold Sm at hl
  induction d with
  | zero =>
    intro i hd hi
    refine Ev.step (fun k => by rw [glyphcutterref01_Has.l0]) (Ev.neg (by omega) ?_)
    rw [List.drop_of_length_le (by omega)]
    simpa using Ev.now false
  | succ d ih =>
    intro i hd hi
    have hlt : i < l.length := by omega
    refine Ev.step (fun k => by rw [glyphcutterref01_Has.l0]) (Ev.pos (by omega) (Ev.pos (by omega) ?_))
    rw [rd_get l i hlt, List.drop_eq_getElem_cons hlt, List.any_cons, wrap_in (by omega) (by omega)]
    have ihn := ih (i + 1) (by omega) (by omega)
    by_cases h1 : r ≥ l[i].f0
    · refine Ev.pos h1 ?_
      by_cases h2 : r ≤ l[i].f1
      · refine Ev.pos h2 (Ev.bindc (ref_scalar r) ?_)
        rw [decide_eq_true (show l[i].f0 ≤ r from h1), decide_eq_true h2]
        simpa using Ev.now (scalB r)
      · refine Ev.neg h2 ?_
        rw [decide_eq_false h2, Bool.and_false, Bool.false_or]
        exact ihn
    · refine Ev.neg h1 ?_
      rw [decide_eq_false (show ¬ l[i].f0 ≤ r from h1), Bool.false_and, Bool.false_or]
      exact ihn
theorem ref_has (l : List S39) (r : Int) (hl : Sm l) : Ev (fun k => glyphcutterref01_Has.f k l r) (hasP l r) := by
  have h := ref_has_at l r hl l.length 0 (by omega) (by omega)
  have e : hasP l r = (scalB r && (l.drop 0).any fun s => decide (s.f0 ≤ r) && decide (r ≤ s.f1)) := by
    unfold hasP
    rw [List.drop_zero]
    congr 1
    unfold scalB
    rw [decide_eq_decide]
    omega
  rw [e]
  exact h
end
section
open Go.RowKit Go.Proofs.YtpcljaidlihafaaW.PrintWords Go.Proofs.YtpcljaidlihafaaW.PrintLast Go.Proofs.YtpcljaidlihafaaW.PrintMore
theorem Nf.wf {l : List S39} (h : Nf l) : Wf l := fun s hs => by have := h.1 s hs; unfold Ok at this; omega
end
section
open Go.RowKit Go.Proofs.YtpcljaidlihafaaW.PrintWords Go.Proofs.YtpcljaidlihafaaW.PrintLast Go.Proofs.YtpcljaidlihafaaW.PrintMore
def anyL : List S39 := [⟨0, 1114111⟩]
def asciiL : List S39 := [⟨0, 127⟩]
def blankL : List S39 := [⟨9, 9⟩, ⟨32, 32⟩, ⟨160, 160⟩, ⟨12288, 12288⟩]
def hexL : List S39 := [⟨48, 57⟩, ⟨65, 70⟩, ⟨97, 102⟩]
def lowerL : List S39 := [⟨97, 122⟩, ⟨223, 246⟩, ⟨248, 255⟩, ⟨945, 969⟩, ⟨1072, 1119⟩]
def upperL : List S39 := [⟨65, 90⟩, ⟨192, 214⟩, ⟨216, 222⟩, ⟨913, 929⟩, ⟨931, 937⟩, ⟨1024, 1071⟩]
theorem class_any : classP (⟨#[97, 110, 121]⟩ : ByteArray) = some ([97, 110, 121], anyL) := by kernel_rfl
theorem class_ascii : classP (⟨#[97, 115, 99, 105, 105]⟩ : ByteArray) = some ([97, 115, 99, 105, 105], asciiL) := by kernel_rfl
theorem class_blank : classP (⟨#[98, 108, 97, 110, 107]⟩ : ByteArray) = some ([98, 108, 97, 110, 107], blankL) := by kernel_rfl
theorem class_cyrillic : classP (⟨#[99, 121, 114, 105, 108, 108, 105, 99]⟩ : ByteArray) = some ([99, 121, 114, 105, 108, 108, 105, 99], cyrL) := by kernel_rfl
theorem class_digit : classP (⟨#[100, 105, 103, 105, 116]⟩ : ByteArray) = some ([100, 105, 103, 105, 116], digitL) := by kernel_rfl
theorem class_greek : classP (⟨#[103, 114, 101, 101, 107]⟩ : ByteArray) = some ([103, 114, 101, 101, 107], greekL) := by kernel_rfl
theorem class_han : classP (⟨#[104, 97, 110]⟩ : ByteArray) = some ([104, 97, 110], hanL) := by kernel_rfl
theorem class_hex : classP (⟨#[104, 101, 120]⟩ : ByteArray) = some ([104, 101, 120], hexL) := by kernel_rfl
theorem class_latin : classP (⟨#[108, 97, 116, 105, 110]⟩ : ByteArray) = some ([108, 97, 116, 105, 110], latinL) := by kernel_rfl
theorem class_lower : classP (⟨#[108, 111, 119, 101, 114]⟩ : ByteArray) = some ([108, 111, 119, 101, 114], lowerL) := by kernel_rfl
theorem class_upper : classP (⟨#[117, 112, 112, 101, 114]⟩ : ByteArray) = some ([117, 112, 112, 101, 114], upperL) := by kernel_rfl
theorem class_letter : classP (⟨#[108, 101, 116, 116, 101, 114]⟩ : ByteArray) = some ([108, 101, 116, 116, 101, 114], letterL) := by kernel_rfl
theorem class_word : classP (⟨#[119, 111, 114, 100]⟩ : ByteArray) = some ([119, 111, 114, 100], wordL) := by kernel_rfl
theorem hasP_norm (l : List S39) (r : Int) : hasP (normP l) r = hasP l r := by
  rw [Bool.eq_iff_iff, hasP_iff, hasP_iff, normP_mem]
  exact ⟨fun h => h.2, fun h => ⟨h.1, h⟩⟩
theorem of_f {name : ByteArray} {q : List UInt8 × List S39} (hq : classP name = some q) (hs : name.size ≤ 1000000) : props_Of.f name = some (normP q.2, true) := by
  unfold props_Of.f
  rw [if_pos hs, hq]
theorem of_none {name : ByteArray} (hq : classP name = none) (hs : name.size ≤ 1000000) : props_Of.f name = some ([], false) := by
  unfold props_Of.f
  rw [if_pos hs, hq]
theorem class_mem {name : ByteArray} {q : List UInt8 × List S39} (hq : classP name = some q) : q ∈ allL := List.mem_of_find?_eq_some hq
theorem of_ev {name : ByteArray} {q : List UInt8 × List S39} (hq : classP name = some q) (hs : name.size ≤ 1000000) (r : Int) : Ev (fun k => glyphcutterlaw05_of.f k name r) (hasP q.2 r) := by
  have h1 := normP_len q.2
  have h2 := allL_small (class_mem hq)
  unfold glyphcutterlaw05_of.f
  refine Ev.bindc (of_f hq hs) (Ev.bind (ref_has (normP q.2) r (by unfold Sm; omega)) ?_)
  rw [hasP_norm]
  exact Ev.now _
theorem ascii_nf : normP asciiL = asciiL := normP_of_nf ⟨by simp [asciiL, Ok], by simp [asciiL]⟩
theorem known_ev : Ev (fun k => glyphcutterlaw05_known.f k) true := by
  have c1 : classP (⟨#[73, 115, 95, 65, 83, 67, 73, 73]⟩ : ByteArray) = some ([97, 115, 99, 105, 105], asciiL) := by kernel_rfl
  have c2 : classP (⟨#[110, 111, 116, 104, 105, 110, 103]⟩ : ByteArray) = none := by kernel_rfl
  have c3 : looseB (⟨#[73, 115, 45, 72, 97, 110]⟩ : ByteArray) = ⟨#[104, 97, 110]⟩ := by kernel_rfl
  have h3 := loose_ev (⟨#[73, 115, 45, 72, 97, 110]⟩ : ByteArray) (by decide)
  rw [c3] at h3
  unfold glyphcutterlaw05_known.f
  refine Ev.bindc (of_f c1 (by decide)) (Ev.bindc (of_none c2 (by decide)) ?_)
  refine Ev.pos rfl (Ev.neg (by decide) ?_)
  rw [ascii_nf]
  refine Ev.pos rfl (Ev.pos (by decide) (Ev.pos rfl (Ev.bindc (a := namesB) rfl (Ev.pos rfl (Ev.bind h3 ?_)))))
  exact ⟨0, fun k _ => by kernel_rfl⟩
theorem mem2 (r : Int) : (mem upperL r → mem lowerL r → False) ∧ (mem letterL r → mem digitL r → False) ∧ (mem wordL r → mem blankL r → False) := by
  unfold wordL letterL upperL lowerL digitL blankL latinL greekL cyrL hanL
  simp only [mem_append, mem_cons, mem_nil, or_false]
  refine ⟨fun h1 h2 => ?_, fun h1 h2 => ?_, fun h1 h2 => ?_⟩ <;> omega
theorem mem3 (r : Int) : (mem letterL r ↔ mem latinL r ∨ mem greekL r ∨ mem cyrL r ∨ mem hanL r) ∧ (mem wordL r ↔ mem letterL r ∨ mem digitL r ∨ r = 95) ∧ (mem hexL r → mem asciiL r) ∧ (mem upperL r → mem letterL r) ∧ (mem lowerL r → mem letterL r) := by
  refine ⟨?_, ?_, ?_, ?_, ?_⟩
  · unfold letterL; simp only [mem_append, or_assoc]
  · unfold wordL; simp only [mem_append, mem_one, or_assoc]
    constructor
    · rintro (h | h | h)
      · exact .inl h
      · exact .inr (.inl h)
      · exact .inr (.inr (by omega))
    · rintro (h | h | h)
      · exact .inl h
      · exact .inr (.inl h)
      · exact .inr (.inr (by omega))
  · unfold hexL asciiL; simp only [mem_append, mem_cons, mem_nil, or_false]; intro h; omega
  · unfold upperL letterL latinL greekL cyrL hanL; simp only [mem_append, mem_cons, mem_nil, or_false]; omega
  · unfold lowerL letterL latinL greekL cyrL hanL; simp only [mem_append, mem_cons, mem_nil, or_false]; omega
theorem hasP_eq {l : List S39} {r : Int} {b : Bool} (h : b = true ↔ Scal r ∧ mem l r) : hasP l r = b := by
  rw [Bool.eq_iff_iff, hasP_iff]; exact h.symm
theorem has_word (r : Int) : hasP wordL r = (hasP letterL r || hasP digitL r || (r == 95)) := hasP_eq (by
  simp only [Bool.or_eq_true, hasP_iff, beq_iff_eq]
  have h := (mem3 r).2.1
  constructor
  · rintro ((h1 | h1) | h1)
    · exact ⟨h1.1, h.2 (.inl h1.2)⟩
    · exact ⟨h1.1, h.2 (.inr (.inl h1.2))⟩
    · exact ⟨by unfold Scal; omega, h.2 (.inr (.inr h1))⟩
  · rintro ⟨h0, h1⟩
    rcases h.1 h1 with h1 | h1 | h1
    · exact .inl (.inl ⟨h0, h1⟩)
    · exact .inl (.inr ⟨h0, h1⟩)
    · exact .inr h1)
theorem names_class (i : Int) (h0 : 0 ≤ i) (h1 : i < 13) : (rdOf ByteArray.empty namesB i).size ≤ 8 ∧ ∃ q, classP (rdOf ByteArray.empty namesB i) = some q := by
  rcases (by omega : i = 0 ∨ i = 1 ∨ i = 2 ∨ i = 3 ∨ i = 4 ∨ i = 5 ∨ i = 6 ∨ i = 7 ∨ i = 8 ∨ i = 9 ∨ i = 10 ∨ i = 11 ∨ i = 12) with rfl | rfl | rfl | rfl | rfl | rfl | rfl | rfl | rfl | rfl | rfl | rfl | rfl
  · exact ⟨by decide, _, class_any⟩
  · exact ⟨by decide, _, class_ascii⟩
  · exact ⟨by decide, _, class_blank⟩
  · exact ⟨by decide, _, class_cyrillic⟩
  · exact ⟨by decide, _, class_digit⟩
  · exact ⟨by decide, _, class_greek⟩
  · exact ⟨by decide, _, class_han⟩
  · exact ⟨by decide, _, class_hex⟩
  · exact ⟨by decide, _, class_latin⟩
  · exact ⟨by decide, _, class_letter⟩
  · exact ⟨by decide, _, class_lower⟩
  · exact ⟨by decide, _, class_upper⟩
  · exact ⟨by decide, _, class_word⟩
end
end Go.Proofs.Ytpcljaidlihafaa.P
