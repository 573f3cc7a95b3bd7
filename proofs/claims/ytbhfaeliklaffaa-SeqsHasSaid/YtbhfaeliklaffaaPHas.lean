/- The law SeqsHas: the plain side. -/
import Derived.Test.YtbhfaeliklaffaaPx0
import Derived.Test.YtbhfaeliklaffaaPx2
import Derived.Test.YtbhfaeliklaffaaPx17
import Derived.Test.YtbhfaeliklaffaaGBase
import Derived.Test.YtbhfaeliklaffaaGDec
import Derived.Test.YtbhfaeliklaffaaGMatch
import Derived.Test.YtbhfaeliklaffaaGParts
import Derived.Test.YtbhfaeliklaffaaPBase
import Derived.Test.YtbhfaeliklaffaaPLaw3
import Derived.Test.YtbhfaeliklaffaaPMat
import Derived.Test.YtbhfaeliklaffaaPRow
import Derived.Test.YtbhfaeliklaffaaPRowAll
import Derived.Test.YtbhfaeliklaffaaPSeq
namespace Go.Proofs.Ytbhfaeliklaffaa.P
set_option linter.unusedVariables false
set_option linter.unusedSimpArgs false
section
open Go.RowKit Go.Proofs.YtbhfaeliklaffaaW.PrintWords Go.Proofs.YtbhfaeliklaffaaW.PrintLast Go.Proofs.YtbhfaeliklaffaaW.PrintMore
def longP (a : Int) : Int := if a < 128 then 1 else if 194 ≤ a ∧ a ≤ 223 then 2 else if 224 ≤ a ∧ a ≤ 239 then 3 else if 240 ≤ a ∧ a ≤ 244 then 4 else 0
theorem long_ev (a : Int) : Ev (fun k => Dec.glyphcutterref02_long.f k a) (longP a) := by
  have j1 : ∀ b : Bool, (b = true ↔ 224 ≤ a ∧ a ≤ 239) → ¬ a < 128 → ¬ (194 ≤ a ∧ a ≤ 223) → Ev (fun k => Dec.glyphcutterref02_long.j1 k a b) (longP a) := by
    intro b hb h1 h2
    refine Ev.step (fun k => by rw [Dec.glyphcutterref02_long.j1]) ?_
    unfold longP
    rw [if_neg h1, if_neg h2]
    by_cases hc : b = true
    · refine Ev.pos hc ?_
      rw [if_pos (hb.1 hc)]
      exact Ev.now _
    · refine Ev.neg hc ?_
      rw [if_neg (fun h => hc (hb.2 h))]
      by_cases h3 : a ≥ 240
      · refine Ev.pos h3 ?_
        by_cases h4 : a ≤ 244
        · refine Ev.pos h4 ?_
          rw [if_pos ⟨by omega, h4⟩]
          exact Ev.now _
        · refine Ev.neg h4 ?_
          rw [if_neg (by omega)]
          exact Ev.now _
      · refine Ev.neg h3 ?_
        rw [if_neg (by omega)]
        exact Ev.now _
  have j0 : ∀ b : Bool, (b = true ↔ 194 ≤ a ∧ a ≤ 223) → ¬ a < 128 → Ev (fun k => Dec.glyphcutterref02_long.j0 k a b) (longP a) := by
    intro b hb h1
    refine Ev.step (fun k => by rw [Dec.glyphcutterref02_long.j0]) ?_
    by_cases hc : b = true
    · refine Ev.pos hc ?_
      unfold longP
      rw [if_neg h1, if_pos (hb.1 hc)]
      exact Ev.now _
    · refine Ev.neg hc ?_
      have h2 : ¬ (194 ≤ a ∧ a ≤ 223) := fun h => hc (hb.2 h)
      by_cases h3 : a ≥ 224
      · exact Ev.pos h3 (j1 _ (by rw [decide_eq_true_iff]; omega) h1 h2)
      · exact Ev.neg h3 (j1 _ (by constructor; (intro h; cases h); (intro h; omega)) h1 h2)
  unfold Dec.glyphcutterref02_long.f
  by_cases h1 : a < 128
  · refine Ev.pos h1 ?_
    unfold longP
    rw [if_pos h1]
    exact Ev.now _
  · refine Ev.neg h1 ?_
    by_cases h3 : a ≥ 194
    · exact Ev.pos h3 (j0 _ (by rw [decide_eq_true_iff]; omega) h1)
    · exact Ev.neg h3 (j0 _ (by constructor; (intro h; cases h); (intro h; omega)) h1)
def secP (a b : Int) : Bool := if a = 224 then decide (160 ≤ b ∧ b ≤ 191) else if a = 237 then decide (128 ≤ b ∧ b ≤ 159) else if a = 240 then decide (144 ≤ b ∧ b ≤ 191) else if a = 244 then decide (128 ≤ b ∧ b ≤ 143) else decide (128 ≤ b ∧ b ≤ 191)
theorem sec_f (a b : Int) : Dec.glyphcutterref02_second.f a b = some (secP a b) := by
  unfold Dec.glyphcutterref02_second.f secP
  by_cases h1 : a = 224
  · rw [if_pos h1, if_pos h1]; by_cases h : b ≥ 160 <;> simp [h] <;> omega
  rw [if_neg h1, if_neg h1]
  by_cases h2 : a = 237
  · rw [if_pos h2, if_pos h2]; by_cases h : b ≥ 128 <;> simp [h] <;> omega
  rw [if_neg h2, if_neg h2]
  by_cases h3 : a = 240
  · rw [if_pos h3, if_pos h3]; by_cases h : b ≥ 144 <;> simp [h] <;> omega
  rw [if_neg h3, if_neg h3]
  by_cases h4 : a = 244
  · rw [if_pos h4, if_pos h4]; by_cases h : b ≥ 128 <;> simp [h] <;> omega
  rw [if_neg h4, if_neg h4]
  by_cases h : b ≥ 128 <;> simp [h] <;> omega
theorem sec_in {a b : Int} (h : secP a b = true) : 128 ≤ b ∧ b ≤ 191 ∧ (a = 224 → 160 ≤ b) ∧ (a = 237 → b ≤ 159) ∧ (a = 240 → 144 ≤ b) ∧ (a = 244 → b ≤ 143) := by
  unfold secP at h
  split at h
  · simp at h; omega
  split at h
  · simp at h; omega
  split at h
  · simp at h; omega
  split at h
  · simp at h; omega
  · simp at h; omega
theorem sec_of {a b : Int} (h : 128 ≤ b ∧ b ≤ 191 ∧ (a = 224 → 160 ≤ b) ∧ (a = 237 → b ≤ 159) ∧ (a = 240 → 144 ≤ b) ∧ (a = 244 → b ≤ 143)) : secP a b = true := by
  unfold secP
  split
  · simp; omega
  split
  · simp; omega
  split
  · simp; omega
  split
  · simp; omega
  · simp; omega
/-- One round. -/
theorem dl_end (l : List Int) (n r i : Int) (h : ¬ i < n) : Ev (fun k => Dec.glyphcutterref02_Decode.l0 k l n r i) (r, n) := Ev.step (fun k => by rw [Dec.glyphcutterref02_Decode.l0]) (Ev.neg h (Ev.now _))
theorem dl_short (l : List Int) (n r i : Int) (h : i < n) (h2 : i ≥ (l.length : Int)) : Ev (fun k => Dec.glyphcutterref02_Decode.l0 k l n r i) (-1, i) := Ev.step (fun k => by rw [Dec.glyphcutterref02_Decode.l0]) (Ev.pos h (Ev.pos h2 (Ev.now _)))
theorem dl_two (l : List Int) (n r : Int) (h : 1 < n) (h2 : 1 < l.length) (hs : ¬ secP (rd l 0) (rd l 1) = true) : Ev (fun k => Dec.glyphcutterref02_Decode.l0 k l n r 1) (-1, 1) := by
  refine Ev.step (fun k => by rw [Dec.glyphcutterref02_Decode.l0]) (Ev.pos h (Ev.neg (by omega) (Ev.pos rfl (Ev.pos (by omega) (Ev.pos (by omega) (Ev.bindc (sec_f _ _) (Ev.neg hs ?_)))))))
  exact Ev.now _
theorem dl_bad (l : List Int) (n r i : Int) (h : i < n) (h2 : 1 < i) (h3 : i < (l.length : Int)) (hb : ¬ (128 ≤ rd l i ∧ rd l i ≤ 191)) : Ev (fun k => Dec.glyphcutterref02_Decode.l0 k l n r i) (-1, i) := by
  refine Ev.step (fun k => by rw [Dec.glyphcutterref02_Decode.l0]) (Ev.pos h (Ev.neg (by omega) (Ev.neg (by omega) (Ev.pos (by omega) (Ev.pos h3 ?_)))))
  by_cases hc : rd l i < 128
  · exact Ev.pos hc (Ev.now _)
  · exact Ev.neg hc (Ev.pos (by omega) (Ev.now _))
theorem dl_next (l : List Int) (n r i : Int) (h : i < n) (h1 : 1 ≤ i) (hi : i < 100) (h3 : i < (l.length : Int)) (h4 : i = 1 → secP (rd l 0) (rd l 1) = true) (hb : 128 ≤ rd l i ∧ rd l i ≤ 191) (r0 : 0 ≤ r) (r1 : r ≤ 100000000) {p : Int × Int} (n1 : Ev (fun k => Dec.glyphcutterref02_Decode.l0 k l n (64 * r + rd l i - 128) (i + 1)) p) : Ev (fun k => Dec.glyphcutterref02_Decode.l0 k l n r i) p := by
  have e1 : wrap64 ((wrap64 ((wrap64 (64 * r)) + (wrap64 (rd l i)))) - 128) = 64 * r + rd l i - 128 := by
    rw [wrap_in (i := 64 * r) (by omega) (by omega), wrap_in (i := rd l i) (by omega) (by omega), wrap_in (i := 64 * r + rd l i) (by omega) (by omega), wrap_in (by omega) (by omega)]
  have e2 : wrap64 (i + 1) = i + 1 := wrap_in (by omega) (by omega)
  refine Ev.step (fun k => by rw [Dec.glyphcutterref02_Decode.l0]) (Ev.pos h (Ev.neg (by omega) ?_))
  rw [e1, e2]
  by_cases hc : i = 1
  · exact Ev.pos hc (Ev.pos (by omega) (Ev.pos (by omega) (Ev.bindc (sec_f _ _) (Ev.pos (h4 hc) (Ev.pos (by omega) (Ev.pos h3 (Ev.neg (by omega) (Ev.neg (by omega) n1))))))))
  · exact Ev.neg hc (Ev.pos (by omega) (Ev.pos h3 (Ev.neg (by omega) (Ev.neg (by omega) n1))))
theorem dl_1 (a b : Int) (t : List Int) (n r : Int) (h : 1 < n) (s : secP a b = true) (hb : 128 ≤ b ∧ b ≤ 191) (r0 : 0 ≤ r) (r1 : r ≤ 100000000) {p : Int × Int} (n1 : Ev (fun k => Dec.glyphcutterref02_Decode.l0 k (a :: b :: t) n (64 * r + b - 128) 2) p) : Ev (fun k => Dec.glyphcutterref02_Decode.l0 k (a :: b :: t) n r 1) p :=
  dl_next (a :: b :: t) n r 1 h (by omega) (by omega) (by simp <;> omega) (fun _ => s) hb r0 r1 n1
theorem dl_2 (a b c : Int) (t : List Int) (n r : Int) (h : 2 < n) (hb : 128 ≤ c ∧ c ≤ 191) (r0 : 0 ≤ r) (r1 : r ≤ 100000000) {p : Int × Int} (n1 : Ev (fun k => Dec.glyphcutterref02_Decode.l0 k (a :: b :: c :: t) n (64 * r + c - 128) 3) p) : Ev (fun k => Dec.glyphcutterref02_Decode.l0 k (a :: b :: c :: t) n r 2) p :=
  dl_next (a :: b :: c :: t) n r 2 h (by omega) (by omega) (by simp <;> omega) (fun h => absurd h (by decide)) hb r0 r1 n1
theorem dl_3 (a b c d : Int) (t : List Int) (n r : Int) (h : 3 < n) (hb : 128 ≤ d ∧ d ≤ 191) (r0 : 0 ≤ r) (r1 : r ≤ 100000000) {p : Int × Int} (n1 : Ev (fun k => Dec.glyphcutterref02_Decode.l0 k (a :: b :: c :: d :: t) n (64 * r + d - 128) 4) p) : Ev (fun k => Dec.glyphcutterref02_Decode.l0 k (a :: b :: c :: d :: t) n r 3) p :=
  dl_next (a :: b :: c :: d :: t) n r 3 h (by omega) (by omega) (by simp <;> omega) (fun h => absurd h (by decide)) hb r0 r1 n1
theorem dec_start (a : Int) (t : List Int) (ha : 0 ≤ a ∧ a ≤ 255) (n : Int) (hn : longP a = n) (hn2 : 2 ≤ n ∧ n ≤ 4) {p : Int × Int} (h : Ev (fun k => Dec.glyphcutterref02_Decode.l0 k (a :: t) n (a - (if n = 2 then 192 else if n = 3 then 224 else 240)) 1) p) : Ev (fun k => Dec.glyphcutterref02_Decode.f k (a :: t)) p := by
  have hl := long_ev a
  rw [hn] at hl
  have e0 : rd (a :: t) 0 = a := rfl
  unfold Dec.glyphcutterref02_Decode.f
  refine Ev.neg (by simp <;> omega) (Ev.pos (by simp <;> omega) ?_)
  rw [e0]
  refine Ev.bind hl (Ev.neg (by omega) (Ev.neg (by omega) (Ev.bindc rfl (Ev.pos (by omega) (Ev.pos (by simp <;> omega) ?_)))))
  have e1 : wrap64 ((wrap64 a) - (rd ([0, 0, 192, 224, 240] : List Int) n)) = a - (if n = 2 then 192 else if n = 3 then 224 else 240) := by
    rcases (by omega : n = 2 ∨ n = 3 ∨ n = 4) with rfl | rfl | rfl
    · show wrap64 (wrap64 a - 192) = a - 192
      rw [wrap_in (i := a) (by omega) (by omega), wrap_in (by omega) (by omega)]
    · show wrap64 (wrap64 a - 224) = a - 224
      rw [wrap_in (i := a) (by omega) (by omega), wrap_in (by omega) (by omega)]
    · show wrap64 (wrap64 a - 240) = a - 240
      rw [wrap_in (i := a) (by omega) (by omega), wrap_in (by omega) (by omega)]
  rw [e1]
  exact h
theorem dec_one (a : Int) (t : List Int) (ha : 0 ≤ a ∧ a < 128) : Ev (fun k => Dec.glyphcutterref02_Decode.f k (a :: t)) (a, 1) := by
  have hl := long_ev a
  rw [show longP a = 1 by unfold longP; rw [if_pos ha.2]] at hl
  have e0 : rd (a :: t) 0 = a := rfl
  unfold Dec.glyphcutterref02_Decode.f
  refine Ev.neg (by simp <;> omega) (Ev.pos (by simp <;> omega) ?_)
  rw [e0]
  refine Ev.bind hl (Ev.neg (by omega) (Ev.pos rfl ?_))
  rw [wrap_in (by omega) (by omega)]
  exact Ev.now _
theorem dec_zero (a : Int) (t : List Int) (hl0 : longP a = 0) : Ev (fun k => Dec.glyphcutterref02_Decode.f k (a :: t)) (-1, 1) := by
  have hl := long_ev a
  rw [hl0] at hl
  have e0 : rd (a :: t) 0 = a := rfl
  unfold Dec.glyphcutterref02_Decode.f
  refine Ev.neg (by simp <;> omega) (Ev.pos (by simp <;> omega) ?_)
  rw [e0]
  exact Ev.bind hl (Ev.pos rfl (Ev.now _))
theorem dec_back (l : List Int) (hu : ∀ x ∈ l, 0 ≤ x ∧ x ≤ 255) (hz : l.length ≤ 1000) : ∃ p : Int × Int, Ev (fun k => Dec.glyphcutterref02_Decode.f k l) p ∧ (0 ≤ p.1 → p.2 = (l.length : Int) → Scal p.1 ∧ encP p.1 = l) := by
  match l with
  | [] =>
    refine ⟨(-1, 0), ?_, fun h => absurd h (by decide)⟩
    unfold Dec.glyphcutterref02_Decode.f
    exact Ev.pos rfl (Ev.now _)
  | a :: t =>
    have ha := hu a List.mem_cons_self
    by_cases c1 : a < 128
    · refine ⟨(a, 1), dec_one a t ⟨ha.1, c1⟩, fun _ h => ?_⟩
      obtain rfl : t = [] := List.eq_nil_of_length_eq_zero (by simp at h; omega)
      exact ⟨by unfold Scal; simp only; omega, enc_1 ha.1 c1⟩
    by_cases c2 : 194 ≤ a ∧ a ≤ 223
    · have hl : longP a = 2 := by unfold longP; rw [if_neg c1, if_pos c2]
      match t with
      | [] => exact ⟨(-1, 1), dec_start a [] ha 2 hl (by omega) (dl_short _ _ _ _ (by omega) (by simp)), fun h => absurd h (by decide)⟩
      | b :: t =>
        by_cases s : secP a b = true
        · obtain ⟨b0, b1, -⟩ := sec_in s
          refine ⟨(64 * (a - 192) + b - 128, 2), dec_start a (b :: t) ha 2 hl (by omega) (dl_1 a b _ _ _ (by omega) s ⟨b0, b1⟩ (by simp <;> omega) (by simp <;> omega) (dl_end _ _ _ _ (by omega))), fun _ h => ?_⟩
          obtain rfl : t = [] := List.eq_nil_of_length_eq_zero (by simp at h; omega)
          refine ⟨by unfold Scal; simp only; omega, ?_⟩
          rw [enc_2 (by simp only; omega) (by simp only; omega)]
          simp only [List.cons.injEq, and_true]
          omega
        · exact ⟨(-1, 1), dec_start a (b :: t) ha 2 hl (by omega) (dl_two _ _ _ (by omega) (by simp) s), fun h => absurd h (by decide)⟩
    by_cases c3 : 224 ≤ a ∧ a ≤ 239
    · have hl : longP a = 3 := by unfold longP; rw [if_neg c1, if_neg c2, if_pos c3]
      match t with
      | [] => exact ⟨(-1, 1), dec_start a [] ha 3 hl (by omega) (dl_short _ _ _ _ (by omega) (by simp)), fun h => absurd h (by decide)⟩
      | b :: t =>
        by_cases s : secP a b = true
        · obtain ⟨b0, b1, b2, b3, -⟩ := sec_in s
          match t with
          | [] => exact ⟨(-1, 2), dec_start a [b] ha 3 hl (by omega) (dl_1 a b _ _ _ (by omega) s ⟨b0, b1⟩ (by simp <;> omega) (by simp <;> omega) (dl_short _ _ _ _ (by omega) (by simp))), fun h => absurd h (by decide)⟩
          | c :: t =>
            by_cases sc : 128 ≤ c ∧ c ≤ 191
            · refine ⟨(64 * (64 * (a - 224) + b - 128) + c - 128, 3), dec_start a (b :: c :: t) ha 3 hl (by omega) (dl_1 a b _ _ _ (by omega) s ⟨b0, b1⟩ (by simp <;> omega) (by simp <;> omega) (dl_2 a b c _ _ _ (by omega) sc (show 0 ≤ 64 * (a - 224) + b - 128 by omega) (show 64 * (a - 224) + b - 128 ≤ _ by omega) (dl_end _ _ _ _ (by omega)))), fun _ h => ?_⟩
              obtain rfl : t = [] := List.eq_nil_of_length_eq_zero (by simp at h; omega)
              refine ⟨by unfold Scal; simp only; omega, ?_⟩
              rw [enc_3 (by simp only; omega) (by simp only; omega) (by simp only; omega)]
              simp only [List.cons.injEq, and_true]
              omega
            · exact ⟨(-1, 2), dec_start a (b :: c :: t) ha 3 hl (by omega) (dl_1 a b _ _ _ (by omega) s ⟨b0, b1⟩ (by simp <;> omega) (by simp <;> omega) (dl_bad _ _ _ _ (by omega) (by omega) (by simp <;> omega) sc)), fun h => absurd h (by decide)⟩
        · exact ⟨(-1, 1), dec_start a (b :: t) ha 3 hl (by omega) (dl_two _ _ _ (by omega) (by simp) s), fun h => absurd h (by decide)⟩
    by_cases c4 : 240 ≤ a ∧ a ≤ 244
    · have hl : longP a = 4 := by unfold longP; rw [if_neg c1, if_neg c2, if_neg c3, if_pos c4]
      match t with
      | [] => exact ⟨(-1, 1), dec_start a [] ha 4 hl (by omega) (dl_short _ _ _ _ (by omega) (by simp)), fun h => absurd h (by decide)⟩
      | b :: t =>
        by_cases s : secP a b = true
        · obtain ⟨b0, b1, b2, b3, b4, b5⟩ := sec_in s
          match t with
          | [] => exact ⟨(-1, 2), dec_start a [b] ha 4 hl (by omega) (dl_1 a b _ _ _ (by omega) s ⟨b0, b1⟩ (by simp <;> omega) (by simp <;> omega) (dl_short _ _ _ _ (by omega) (by simp))), fun h => absurd h (by decide)⟩
          | c :: t =>
            by_cases sc : 128 ≤ c ∧ c ≤ 191
            · match t with
              | [] => exact ⟨(-1, 3), dec_start a [b, c] ha 4 hl (by omega) (dl_1 a b _ _ _ (by omega) s ⟨b0, b1⟩ (by simp <;> omega) (by simp <;> omega) (dl_2 a b c _ _ _ (by omega) sc (show 0 ≤ 64 * (a - 240) + b - 128 by omega) (show 64 * (a - 240) + b - 128 ≤ _ by omega) (dl_short _ _ _ _ (by omega) (by simp)))), fun h => absurd h (by decide)⟩
              | d :: t =>
                by_cases sd : 128 ≤ d ∧ d ≤ 191
                · refine ⟨(64 * (64 * (64 * (a - 240) + b - 128) + c - 128) + d - 128, 4), dec_start a (b :: c :: d :: t) ha 4 hl (by omega) (dl_1 a b _ _ _ (by omega) s ⟨b0, b1⟩ (by simp <;> omega) (by simp <;> omega) (dl_2 a b c _ _ _ (by omega) sc (show 0 ≤ 64 * (a - 240) + b - 128 by omega) (show 64 * (a - 240) + b - 128 ≤ _ by omega) (dl_3 a b c d _ _ _ (by omega) sd (show 0 ≤ 64 * (64 * (a - 240) + b - 128) + c - 128 by omega) (show 64 * (64 * (a - 240) + b - 128) + c - 128 ≤ _ by omega) (dl_end _ _ _ _ (by omega))))), fun _ h => ?_⟩
                  obtain rfl : t = [] := List.eq_nil_of_length_eq_zero (by simp at h; omega)
                  refine ⟨by unfold Scal; simp only; omega, ?_⟩
                  rw [enc_4 (by simp only; omega) (by simp only; omega)]
                  simp only [List.cons.injEq, and_true]
                  omega
                · exact ⟨(-1, 3), dec_start a (b :: c :: d :: t) ha 4 hl (by omega) (dl_1 a b _ _ _ (by omega) s ⟨b0, b1⟩ (by simp <;> omega) (by simp <;> omega) (dl_2 a b c _ _ _ (by omega) sc (show 0 ≤ 64 * (a - 240) + b - 128 by omega) (show 64 * (a - 240) + b - 128 ≤ _ by omega) (dl_bad _ _ _ _ (by omega) (by omega) (by simp <;> omega) sd))), fun h => absurd h (by decide)⟩
            · exact ⟨(-1, 2), dec_start a (b :: c :: t) ha 4 hl (by omega) (dl_1 a b _ _ _ (by omega) s ⟨b0, b1⟩ (by simp <;> omega) (by simp <;> omega) (dl_bad _ _ _ _ (by omega) (by omega) (by simp <;> omega) sc)), fun h => absurd h (by decide)⟩
        · exact ⟨(-1, 1), dec_start a (b :: t) ha 4 hl (by omega) (dl_two _ _ _ (by omega) (by simp) s), fun h => absurd h (by decide)⟩
    · exact ⟨(-1, 1), dec_zero a t (by unfold longP; rw [if_neg c1, if_neg c2, if_neg c3, if_neg c4]), fun h => absurd h (by decide)⟩
theorem dec_fwd {x : Int} (h : Scal x) : Ev (fun k => Dec.glyphcutterref02_Decode.f k (encP x)) (x, ((encP x).length : Int)) := by
  have hs := h
  unfold Scal at hs
  by_cases c1 : x < 128
  · rw [enc_1 hs.1 c1]; exact dec_one x [] ⟨hs.1, c1⟩
  by_cases c2 : x < 2048
  · rw [enc_2 (by omega) c2]
    obtain ⟨a, ha⟩ : ∃ a, 192 + x / 64 = a := ⟨_, rfl⟩
    obtain ⟨b, hb⟩ : ∃ b, 128 + x % 64 = b := ⟨_, rfl⟩
    rw [ha, hb]
    have e : 64 * (a - 192) + b - 128 = x := by omega
    refine dec_start a [b] (by omega) 2 (by unfold longP; rw [if_neg (by omega), if_pos (by omega)]) (by omega) ?_
    refine dl_1 a b [] 2 _ (by omega) (sec_of (by omega)) (by omega) (by simp <;> omega) (by simp <;> omega) ?_
    have := dl_end [a, b] 2 x 2 (by omega)
    rw [← e] at this
    rw [← e]
    exact this
  by_cases c3 : x < 65536
  · rw [enc_3 (by omega) c3 (by omega)]
    obtain ⟨a, ha⟩ : ∃ a, 224 + x / 4096 = a := ⟨_, rfl⟩
    obtain ⟨b, hb⟩ : ∃ b, 128 + x / 64 % 64 = b := ⟨_, rfl⟩
    obtain ⟨c, hc⟩ : ∃ c, 128 + x % 64 = c := ⟨_, rfl⟩
    rw [ha, hb, hc]
    have e : 64 * (64 * (a - 224) + b - 128) + c - 128 = x := by omega
    refine dec_start a [b, c] (by omega) 3 (by unfold longP; rw [if_neg (by omega), if_neg (by omega), if_pos (by omega)]) (by omega) ?_
    refine dl_1 a b [c] 3 _ (by omega) (sec_of (by omega)) (by omega) (by simp <;> omega) (by simp <;> omega) ?_
    refine dl_2 a b c [] 3 _ (by omega) (by omega) (show 0 ≤ 64 * (a - 224) + b - 128 by omega) (show 64 * (a - 224) + b - 128 ≤ _ by omega) ?_
    have := dl_end [a, b, c] 3 x 3 (by omega)
    rw [← e] at this
    rw [← e]
    exact this
  · rw [enc_4 (by omega) (by omega)]
    obtain ⟨a, ha⟩ : ∃ a, 240 + x / 262144 = a := ⟨_, rfl⟩
    obtain ⟨b, hb⟩ : ∃ b, 128 + x / 4096 % 64 = b := ⟨_, rfl⟩
    obtain ⟨c, hc⟩ : ∃ c, 128 + x / 64 % 64 = c := ⟨_, rfl⟩
    obtain ⟨d, hd⟩ : ∃ d, 128 + x % 64 = d := ⟨_, rfl⟩
    rw [ha, hb, hc, hd]
    have e : 64 * (64 * (64 * (a - 240) + b - 128) + c - 128) + d - 128 = x := by omega
    refine dec_start a [b, c, d] (by omega) 4 (by unfold longP; rw [if_neg (by omega), if_neg (by omega), if_neg (by omega), if_pos (by omega)]) (by omega) ?_
    refine dl_1 a b [c, d] 4 _ (by omega) (sec_of (by omega)) (by omega) (by simp <;> omega) (by simp <;> omega) ?_
    refine dl_2 a b c [d] 4 _ (by omega) (by omega) (show 0 ≤ 64 * (a - 240) + b - 128 by omega) (show 64 * (a - 240) + b - 128 ≤ _ by omega) ?_
    refine dl_3 a b c d [] 4 _ (by omega) (by omega) (show 0 ≤ 64 * (64 * (a - 240) + b - 128) + c - 128 by omega) (show 64 * (64 * (a - 240) + b - 128) + c - 128 ≤ _ by omega) ?_
    have := dl_end [a, b, c, d] 4 x 4 (by omega)
    rw [← e] at this
    rw [← e]
    exact this
end
section
open Go.RowKit Go.Proofs.YtbhfaeliklaffaaW.PrintWords Go.Proofs.YtbhfaeliklaffaaW.PrintLast Go.Proofs.YtbhfaeliklaffaaW.PrintMore
theorem Ev.unique {α : Type} {g : Nat → Option α} {a b : α} (h1 : Ev g a) (h2 : Ev g b) : a = b := by
  obtain ⟨K1, h1⟩ := h1
  obtain ⟨K2, h2⟩ := h2
  have a1 := h1 (K1 + K2) (by omega)
  have a2 := h2 (K1 + K2) (by omega)
  rw [a1] at a2
  exact Option.some.inj a2
theorem make_len : ∀ (k : Nat) (c : List Int) (acc : List S43) (i : Int) (m : List S43), glyphcutterlaw01_Make.l0 k c acc i = some m → acc.length ≤ m.length := by
  intro k
  induction k with
  | zero => intro c acc i m h; simp [glyphcutterlaw01_Make.l0] at h
  | succ k ih =>
    intro c acc i m h
    rw [glyphcutterlaw01_Make.l0] at h
    split at h
    · split at h
      · split at h
        · split at h
          · obtain ⟨t, -, h⟩ := Option.bind_eq_some_iff.1 h
            split at h
            · split at h
              · have := ih _ _ _ _ h
                rw [List.length_append] at this
                omega
              · cases h
            · cases h
          · cases h
        · cases h
      · obtain rfl := Option.some.inj h; exact Nat.le_refl _
    · obtain rfl := Option.some.inj h; exact Nat.le_refl _
theorem make_pos {c : List Int} {m : List S43} (hm : Ev (fun k => glyphcutterlaw01_Make.f k c) m) (hc : 1 < c.length) : 0 < m.length := by
  obtain ⟨K, hK⟩ := hm
  have h : glyphcutterlaw01_Make.f (K + 1) c = some m := hK (K + 1) (by omega)
  unfold glyphcutterlaw01_Make.f at h
  rw [glyphcutterlaw01_Make.l0] at h
  rw [show wrap64 ((0 : Int) + 1) = 1 from wrap_in (by decide) (by decide), if_pos (by omega), if_pos (by decide), if_pos (by decide), if_pos (by omega)] at h
  obtain ⟨t, -, h⟩ := Option.bind_eq_some_iff.1 h
  rw [if_pos (by decide), if_pos (by simp)] at h
  have := make_len _ _ _ _ _ h
  rw [List.length_append, List.length_singleton] at this
  omega
theorem law_has (c : List Int) (r : Int) (b : List Int) (hc : U16 c) (hs : Sm c) (h0 : 0 ≤ r) (h1 : r ≤ 4294967295) (hb : ∀ x ∈ b, 0 ≤ x ∧ x ≤ 255) : Ev (fun k => glyphcutterlaw03_SeqsHas.f k c r b) true := by
  have jt : Ev (fun k => glyphcutterlaw03_SeqsHas.j0 k c r b true) true := Ev.step (fun k => by rw [glyphcutterlaw03_SeqsHas.j0]) (Ev.pos rfl (Ev.bind known_f (Ev.now true)))
  unfold glyphcutterlaw03_SeqsHas.f
  by_cases c1 : (c.length : Int) > 60
  · exact Ev.pos c1 jt
  refine Ev.neg c1 ?_
  by_cases c2 : (b.length : Int) > 20
  · exact Ev.pos c2 jt
  refine Ev.neg c2 (Ev.bind known_f ?_)
  obtain ⟨m, hm, hm1, hm2⟩ := law_make c hc hs
  have hmz : Sm m := by unfold Sm; omega
  obtain ⟨p, hp, hpb⟩ := dec_back b hb (by omega)
  have hdec : glyphcutterref02_Decode.f b = some p := by
    obtain ⟨K, hK⟩ := hp
    exact decode_f (hK K (Nat.le_refl _))
  have hnot : (p.1 < 0 ∨ p.2 ≠ (b.length : Int)) → matchP (ofP m) b = false := by
    intro h
    cases hmt : matchP (ofP m) b with
    | false => rfl
    | true =>
      exfalso
      obtain ⟨x, hx, rfl⟩ := (of_match m b).1 hmt
      have hsx : Scal x := ((normP_mem _ _).1 hx).1
      have := Ev.unique hp (dec_fwd hsx)
      subst this
      have := hsx.1
      rcases h with h | h
      · simp only at h; omega
      · exact h rfl
  have j4t : matchP (ofP m) b = false → Ev (fun k => glyphcutterlaw03_SeqsHas.j4 k b m (ofP m) p.1 true) true := by
    intro h
    refine Ev.step (fun k => by rw [glyphcutterlaw03_SeqsHas.j4]) ?_
    refine Ev.pos rfl (Ev.bindc (a := matchP (ofP m) b) rfl ?_)
    rw [h]
    exact Ev.now true
  have j4f : 0 ≤ p.1 → p.2 = (b.length : Int) → Ev (fun k => glyphcutterlaw03_SeqsHas.j4 k b m (ofP m) p.1 false) true := by
    intro h2 h3
    obtain ⟨hsc, he⟩ := hpb h2 h3
    refine Ev.step (fun k => by rw [glyphcutterlaw03_SeqsHas.j4]) ?_
    refine Ev.neg (by decide) (Ev.bindc (a := matchP (ofP m) b) rfl (Ev.bind (ref_has m p.1 hmz) ?_))
    have : matchP (ofP m) b = hasP m p.1 := by
      have := of_has m hsc
      rw [he] at this
      exact this
    rw [this, beq_self_eq_true]
    exact Ev.now true
  have j3 : Ev (fun k => glyphcutterlaw03_SeqsHas.j3 k b m (ofP m) false) true := by
    refine Ev.step (fun k => by rw [glyphcutterlaw03_SeqsHas.j3]) ?_
    refine Ev.neg (by decide) (Ev.bindc hdec ?_)
    by_cases hn : p.1 < 0
    · exact Ev.pos hn (j4t (hnot (.inl hn)))
    · refine Ev.neg hn ?_
      by_cases hl : p.2 = (b.length : Int)
      · rw [show (p.2 != (b.length : Int)) = false by rw [hl]; simp]
        exact j4f (by omega) hl
      · rw [show (p.2 != (b.length : Int)) = true by simpa using hl]
        exact j4t (hnot (.inr hl))
  have j2 : ∀ x : Int, Ev (fun k => glyphcutterlaw03_SeqsHas.j2 k b m (ofP m) x) true := by
    intro x
    refine Ev.step (fun k => by rw [glyphcutterlaw03_SeqsHas.j2]) ?_
    refine Ev.bind (ref_encode x) ?_
    by_cases hsx : Scal x
    · have hne := enc_ne hsx
      refine Ev.pos (by omega) (Ev.bindc (a := matchP (ofP m) (encP x)) rfl (Ev.bind (ref_has m x hmz) ?_))
      rw [of_has m hsx, show (hasP m x != hasP m x) = false by simp]
      exact j3
    · have he : encP x = [] := enc_none (by unfold Scal at hsx; exact hsx)
      rw [he]
      exact Ev.neg (by simp) j3
  have j1 : ∀ (x : Int) (q : Bool), (q = true → 0 < m.length) → Ev (fun k => glyphcutterlaw03_SeqsHas.j1 k r b m (ofP m) x q) true := by
    intro x q hq
    refine Ev.step (fun k => by rw [glyphcutterlaw03_SeqsHas.j1]) ?_
    by_cases hc : q = true
    · exact Ev.pos hc (Ev.pos (by have := hq hc; omega) (j2 _))
    · exact Ev.neg hc (j2 _)
  refine Ev.step (fun k => by rw [glyphcutterlaw03_SeqsHas.j0]) ?_
  refine Ev.neg (by decide) (Ev.bind hm (Ev.bindc (of_f m (by omega)) ?_))
  by_cases c3 : (c.length : Int) > 1
  · exact Ev.pos c3 (j1 _ _ (fun _ => make_pos hm (by omega)))
  · exact Ev.neg c3 (j1 _ _ (fun h => by cases h))
end
end Go.Proofs.Ytbhfaeliklaffaa.P
