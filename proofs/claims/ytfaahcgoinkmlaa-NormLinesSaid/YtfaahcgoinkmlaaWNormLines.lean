/- The law NormLines: the walk and the plain law together. -/
import Derived.Test.YtfaahcgoinkmlaaPx0
import Derived.Test.YtfaahcgoinkmlaaPx15
import Derived.Test.YtfaahcgoinkmlaaGApply
import Derived.Test.YtfaahcgoinkmlaaGCheck
import Derived.Test.YtfaahcgoinkmlaaGDecode
import Derived.Test.YtfaahcgoinkmlaaGEnc
import Derived.Test.YtfaahcgoinkmlaaGFold
import Derived.Test.YtfaahcgoinkmlaaGKnown
import Derived.Test.YtfaahcgoinkmlaaGMapP
import Derived.Test.YtfaahcgoinkmlaaPBase
import Derived.Test.YtfaahcgoinkmlaaPLaw0
import Derived.Test.YtfaahcgoinkmlaaPPairs16
import Derived.Test.YtfaahcgoinkmlaaPText16
namespace Go.Proofs.Ytfaahcgoinkmlaa.P
set_option linter.unusedVariables false
set_option linter.unusedSimpArgs false
section
open Go.RowKit Go.Proofs.YtfaahcgoinkmlaaW.PrintWords Go.Proofs.YtfaahcgoinkmlaaW.PrintLast Go.Proofs.YtfaahcgoinkmlaaW.PrintMore
theorem enc_ne {r : Int} (h : Scal r) : 0 < (encP r).length := by
  unfold Scal at h
  unfold encP
  rw [if_pos (by omega)]
  repeat' split
  all_goals simp
end
section
open Go.RowKit Go.Proofs.YtfaahcgoinkmlaaW.PrintWords Go.Proofs.YtfaahcgoinkmlaaW.PrintLast Go.Proofs.YtfaahcgoinkmlaaW.PrintMore
/-- Bytes that begin a scalar are its bytes. -/
theorem decP_scal {l : List Int} (hu : U8B l) (hv : (decP l).1 ≠ -1) : Scal (decP l).1 ∧ l.take (decN l) = encP (decP l).1 := by
  match l, hu with
  | [], _ => exact absurd rfl hv
  | a :: t, hu =>
    have ha := hu a List.mem_cons_self
    unfold decN
    rw [decP_cons] at hv ⊢
    rcases longB_cases a with h | ⟨h, h1⟩ | ⟨h, h1⟩ | ⟨h, h1⟩ | ⟨h, h1⟩
    · rw [if_pos h] at hv; exact absurd rfl hv
    · rw [if_neg (by omega), h]
      have e : bitsB a = a := by unfold bitsB; rw [if_pos h1]
      show Scal (bitsB a) ∧ _ = encP (bitsB a)
      rw [e, enc_1 ha.1 h1]
      exact ⟨by unfold Scal; omega, rfl⟩
    · rw [if_neg (by omega), h] at hv ⊢
      have eb : bitsB a = a - 192 := by unfold bitsB; rw [if_neg (by omega), if_pos (by omega)]; omega
      have el : loB a = 128 := by unfold loB; rw [if_neg (by omega), if_neg (by omega), if_neg (by omega)]
      have eh : hiB a = 191 := by unfold hiB; rw [if_neg (by omega), if_neg (by omega), if_neg (by omega)]
      rw [eb, el, eh] at hv ⊢
      match t with
      | [] => exact absurd rfl hv
      | b :: t =>
        have e1 : decL (a :: b :: t) 2 ((2 : Int) - 1).toNat 1 (a - 192) 128 191 = if 128 ≤ b ∧ b ≤ 191 then ((a - 192) * 64 + b % 64, 2) else (-1, 1) := by
          show decL (a :: b :: t) 2 1 1 (a - 192) 128 191 = _
          rw [decL, if_neg (by simp; omega)]; rfl
        rw [e1] at hv ⊢
        by_cases hb : 128 ≤ b ∧ b ≤ 191
        · rw [if_pos hb] at hv ⊢
          show Scal ((a - 192) * 64 + b % 64) ∧ [a, b] = encP ((a - 192) * 64 + b % 64)
          rw [enc_2 (by omega) (by omega)]
          refine ⟨by unfold Scal; omega, ?_⟩
          simp only [List.cons.injEq, and_true]; omega
        · rw [if_neg hb] at hv; exact absurd rfl hv
    · rw [if_neg (by omega), h] at hv ⊢
      have eb : bitsB a = a - 224 := by unfold bitsB; rw [if_neg (by omega), if_neg (by omega), if_pos (by omega)]; omega
      rw [eb] at hv ⊢
      have hlo : loB a = if a = 224 then 160 else 128 := by unfold loB; rw [if_neg (by omega)]; split; rfl; rw [if_neg (by omega)]
      have hhi : hiB a = if a = 237 then 159 else 191 := by unfold hiB; rw [if_neg (by omega)]; split; rfl; rw [if_neg (by omega)]
      match t with
      | [] => exact absurd rfl hv
      | [b] =>
        have e1 : (decL [a, b] 3 ((3 : Int) - 1).toNat 1 (a - 224) (loB a) (hiB a)).1 = -1 := by
          show (decL [a, b] 3 2 1 (a - 224) (loB a) (hiB a)).1 = _
          rw [decL, if_neg (by simp)]
          split
          · rw [decL, if_pos (by simp)]
          · rfl
        exact absurd e1 hv
      | b :: c :: t =>
        have e1 : decL (a :: b :: c :: t) 3 ((3 : Int) - 1).toNat 1 (a - 224) (loB a) (hiB a) = if loB a ≤ b ∧ b ≤ hiB a then (if 128 ≤ c ∧ c ≤ 191 then (((a - 224) * 64 + b % 64) * 64 + c % 64, 3) else (-1, 2)) else (-1, 1) := by
          show decL (a :: b :: c :: t) 3 2 1 (a - 224) (loB a) (hiB a) = _
          rw [decL, if_neg (by simp; omega)]
          have e2 : decL (a :: b :: c :: t) 3 1 2 ((a - 224) * 64 + b % 64) 128 191 = if 128 ≤ c ∧ c ≤ 191 then (((a - 224) * 64 + b % 64) * 64 + c % 64, 3) else (-1, 2) := by
            rw [decL, if_neg (by simp; omega)]; rfl
          show (if loB a ≤ b ∧ b ≤ hiB a then decL (a :: b :: c :: t) 3 1 2 ((a - 224) * 64 + b % 64) 128 191 else _) = _
          rw [e2]
        rw [e1] at hv ⊢
        by_cases hb : loB a ≤ b ∧ b ≤ hiB a
        · rw [if_pos hb] at hv ⊢
          by_cases hc : 128 ≤ c ∧ c ≤ 191
          · rw [if_pos hc] at hv ⊢
            show Scal (((a - 224) * 64 + b % 64) * 64 + c % 64) ∧ [a, b, c] = encP (((a - 224) * 64 + b % 64) * 64 + c % 64)
            have hbb : 128 ≤ b ∧ b ≤ 191 ∧ (a = 224 → 160 ≤ b) ∧ (a = 237 → b ≤ 159) := by
              obtain ⟨h2, h3⟩ := hb
              rw [hlo] at h2; rw [hhi] at h3
              refine ⟨?_, ?_, fun e => ?_, fun e => ?_⟩
              · split at h2 <;> omega
              · split at h3 <;> omega
              · rwa [if_pos e] at h2
              · rwa [if_pos e] at h3
            rw [enc_3 (by omega) (by omega) (by omega)]
            refine ⟨by unfold Scal; omega, ?_⟩
            simp only [List.cons.injEq, and_true]; omega
          · rw [if_neg hc] at hv; exact absurd rfl hv
        · rw [if_neg hb] at hv; exact absurd rfl hv
    · rw [if_neg (by omega), h] at hv ⊢
      have eb : bitsB a = a - 240 := by unfold bitsB; rw [if_neg (by omega), if_neg (by omega), if_neg (by omega)]; omega
      rw [eb] at hv ⊢
      have hlo : loB a = if a = 240 then 144 else 128 := by unfold loB; rw [if_neg (by omega), if_neg (by omega)]
      have hhi : hiB a = if a = 244 then 143 else 191 := by unfold hiB; rw [if_neg (by omega), if_neg (by omega)]
      match t with
      | [] => exact absurd rfl hv
      | [b] =>
        have e1 : (decL [a, b] 4 ((4 : Int) - 1).toNat 1 (a - 240) (loB a) (hiB a)).1 = -1 := by
          show (decL [a, b] 4 3 1 (a - 240) (loB a) (hiB a)).1 = _
          rw [decL, if_neg (by simp)]
          split
          · rw [decL, if_pos (by simp)]
          · rfl
        exact absurd e1 hv
      | [b, c] =>
        have e1 : (decL [a, b, c] 4 ((4 : Int) - 1).toNat 1 (a - 240) (loB a) (hiB a)).1 = -1 := by
          show (decL [a, b, c] 4 3 1 (a - 240) (loB a) (hiB a)).1 = _
          rw [decL, if_neg (by simp)]
          split
          · rw [decL, if_neg (by simp)]
            split
            · rw [decL, if_pos (by simp)]
            · rfl
          · rfl
        exact absurd e1 hv
      | b :: c :: d :: t =>
        have e1 : decL (a :: b :: c :: d :: t) 4 ((4 : Int) - 1).toNat 1 (a - 240) (loB a) (hiB a) = if loB a ≤ b ∧ b ≤ hiB a then (if 128 ≤ c ∧ c ≤ 191 then (if 128 ≤ d ∧ d ≤ 191 then ((((a - 240) * 64 + b % 64) * 64 + c % 64) * 64 + d % 64, 4) else (-1, 3)) else (-1, 2)) else (-1, 1) := by
          show decL (a :: b :: c :: d :: t) 4 3 1 (a - 240) (loB a) (hiB a) = _
          rw [decL, if_neg (by simp; omega)]
          have e3 : decL (a :: b :: c :: d :: t) 4 1 3 (((a - 240) * 64 + b % 64) * 64 + c % 64) 128 191 = if 128 ≤ d ∧ d ≤ 191 then ((((a - 240) * 64 + b % 64) * 64 + c % 64) * 64 + d % 64, 4) else (-1, 3) := by
            rw [decL, if_neg (by simp; omega)]; rfl
          have e2 : decL (a :: b :: c :: d :: t) 4 2 2 ((a - 240) * 64 + b % 64) 128 191 = if 128 ≤ c ∧ c ≤ 191 then decL (a :: b :: c :: d :: t) 4 1 3 (((a - 240) * 64 + b % 64) * 64 + c % 64) 128 191 else (-1, 2) := by
            rw [decL, if_neg (by simp; omega)]; rfl
          show (if loB a ≤ b ∧ b ≤ hiB a then decL (a :: b :: c :: d :: t) 4 2 2 ((a - 240) * 64 + b % 64) 128 191 else _) = _
          rw [e2, e3]
        rw [e1] at hv ⊢
        by_cases hb : loB a ≤ b ∧ b ≤ hiB a
        · rw [if_pos hb] at hv ⊢
          by_cases hc : 128 ≤ c ∧ c ≤ 191
          · rw [if_pos hc] at hv ⊢
            by_cases hdd : 128 ≤ d ∧ d ≤ 191
            · rw [if_pos hdd] at hv ⊢
              show Scal ((((a - 240) * 64 + b % 64) * 64 + c % 64) * 64 + d % 64) ∧ [a, b, c, d] = encP ((((a - 240) * 64 + b % 64) * 64 + c % 64) * 64 + d % 64)
              have hbb : 128 ≤ b ∧ b ≤ 191 ∧ (a = 240 → 144 ≤ b) ∧ (a = 244 → b ≤ 143) := by
                obtain ⟨h2, h3⟩ := hb
                rw [hlo] at h2; rw [hhi] at h3
                refine ⟨?_, ?_, fun e => ?_, fun e => ?_⟩
                · split at h2 <;> omega
                · split at h3 <;> omega
                · rwa [if_pos e] at h2
                · rwa [if_pos e] at h3
              rw [enc_4 (by omega) (by omega)]
              refine ⟨by unfold Scal; omega, ?_⟩
              simp only [List.cons.injEq, and_true]; omega
            · rw [if_neg hdd] at hv; exact absurd rfl hv
          · rw [if_neg hc] at hv; exact absurd rfl hv
        · rw [if_neg hb] at hv; exact absurd rfl hv
end
section
open Go.RowKit Go.Proofs.YtfaahcgoinkmlaaW.PrintWords Go.Proofs.YtfaahcgoinkmlaaW.PrintLast Go.Proofs.YtfaahcgoinkmlaaW.PrintMore
theorem decL_bytes (l : List Int) (n : Nat) : ∀ (m i : Nat) (r lo hi : Int), i + m = n → i ≤ l.length → 128 ≤ lo → ∀ j : Nat, i ≤ j → (j : Int) < (decL l n m (i : Int) r lo hi).2 → (decL l n m (i : Int) r lo hi).1 = -1 → 128 ≤ rd l (j : Int)
  | 0, i, r, lo, hi, hn, hl, _, j, h1, h2, _ => by
    exfalso
    have : (j : Int) < (n : Int) := h2
    omega
  | m + 1, i, r, lo, hi, hn, hl, hlo, j, h1, h2, h3 => by
    rw [decL] at h2 h3
    by_cases he : (i : Int) = (l.length : Int)
    · rw [if_pos he] at h2; simp only at h2; omega
    · rw [if_neg he] at h2 h3
      by_cases hb : lo ≤ rd l (i : Int) ∧ rd l (i : Int) ≤ hi
      · rw [if_pos hb] at h2 h3
        by_cases hj : j = i
        · subst hj; omega
        · exact decL_bytes l n m (i + 1) _ _ _ (by omega) (by omega) (by omega) j (by omega) h2 h3
      · rw [if_neg hb] at h2; simp only at h2; omega
/-- Bytes that begin no scalar are none of ascii. -/
theorem bad_bytes {l : List Int} (hu : U8B l) (hl : l ≠ []) (hb : (decP l).1 = -1) : ∀ x ∈ l.take (decN l), 128 ≤ x := by
  have hd := decN_bd hl
  match l, hl with
  | a :: t, hl =>
    have ha := hu a List.mem_cons_self
    have hn128 : 128 ≤ a := by
      rcases Int.lt_or_le a 128 with h | h
      · exfalso
        rw [decP_cons] at hb
        have e : longB a = 1 := by unfold longB; rw [if_pos h]
        rw [e, if_neg (by omega)] at hb
        have hb2 : bitsB a = -1 := hb
        unfold bitsB at hb2
        rw [if_pos h] at hb2
        omega
      · exact h
    intro x hx
    obtain ⟨j, hj, he⟩ := List.mem_take_iff_getElem.1 hx
    have hjl : j < (a :: t).length := by omega
    rcases Nat.eq_zero_or_pos j with h0 | h0
    · subst h0; simp at he; omega
    · have hrd : rd (a :: t) (j : Int) = x := by rw [rdi_get _ j hjl]; exact he
      rw [← hrd]
      have hjn : (j : Int) < (decP (a :: t)).2 := by rw [hd.1]; omega
      rw [decP_cons] at hb hjn
      rcases longB_cases a with h | ⟨h, h1⟩ | h
      · rw [if_pos h] at hjn; simp only at hjn; omega
      · omega
      · obtain ⟨n, hn, h2, h4⟩ : ∃ n : Nat, longB a = (n : Int) ∧ 2 ≤ n ∧ n ≤ 4 := by
          rcases h with ⟨h, _⟩ | ⟨h, _⟩ | ⟨h, _⟩
          · exact ⟨2, h, by omega, by omega⟩
          · exact ⟨3, h, by omega, by omega⟩
          · exact ⟨4, h, by omega, by omega⟩
        rw [hn, if_neg (by omega), show ((n : Int) - 1).toNat = n - 1 by omega] at hb hjn
        have hlo : 128 ≤ loB a := by unfold loB; rw [if_neg (by omega)]; split; omega; split <;> omega
        exact decL_bytes (a :: t) n (n - 1) 1 (bitsB a) (loB a) (hiB a) (by omega) (by simp) hlo j h0 hjn hb
def lineS : List S33 := [⟨2, []⟩]
def lineB (x : Int) : Int := if x = 13 then 10 else x
theorem apply_line (r : Int) : applyP lineS r = lineB r := by
  show stepP ⟨2, []⟩ r = lineB r
  unfold stepP lineB
  rw [if_neg (by decide), if_pos rfl]
theorem enc_bytes {r : Int} (h : Scal r) (h13 : r ≠ 13) : (encP r).map lineB = encP r := by
  have hs := h
  unfold Scal at hs
  have key : ∀ l : List Int, (∀ x ∈ l, x ≠ 13) → l.map lineB = l := by
    intro l hl
    calc l.map lineB = l.map id := List.map_congr_left fun x hx => by unfold lineB; rw [if_neg (hl x hx)]; rfl
      _ = l := List.map_id l
  apply key
  intro x hx
  by_cases c1 : r < 128
  · rw [enc_1 hs.1 c1] at hx; simp at hx; omega
  by_cases c2 : r < 2048
  · rw [enc_2 (by omega) c2] at hx; simp at hx; omega
  by_cases c3 : r < 65536
  · rw [enc_3 (by omega) c3 (by omega)] at hx; simp at hx; omega
  · rw [enc_4 (by omega) (by omega)] at hx; simp at hx; omega
theorem enc_nn {r : Int} (h : Scal r) : encP r ≠ [] := fun he => by have := enc_ne h; rw [he] at this; simp at this
theorem piece_line {l : List Int} (hu : U8B l) (hl : l ≠ []) : pieceP lineS l = (l.take (decN l)).map lineB := by
  unfold pieceP
  by_cases hb : (decP l).1 = -1
  · rw [if_pos hb]
    have := bad_bytes hu hl hb
    symm
    calc (l.take (decN l)).map lineB = (l.take (decN l)).map id := List.map_congr_left fun x hx => by have := this x hx; unfold lineB; rw [if_neg (by omega)]; rfl
      _ = l.take (decN l) := List.map_id _
  · obtain ⟨hs, ht⟩ := decP_scal hu hb
    rw [if_neg hb, apply_line, ht]
    by_cases h13 : (decP l).1 = 13
    · rw [h13]; decide +kernel
    · have e : lineB (decP l).1 = (decP l).1 := by unfold lineB; rw [if_neg h13]
      rw [e, if_neg (enc_nn hs), enc_bytes hs h13]
theorem text_line : ∀ (n : Nat) (b : List Int), b.length ≤ n → U8B b → textP lineS b = b.map lineB
  | 0, b, h, _ => by
    obtain rfl : b = [] := List.eq_nil_of_length_eq_zero (by omega)
    rfl
  | n + 1, b, h, hu => by
    by_cases hb : b = []
    · subst hb; rfl
    · have hd := decN_bd hb
      rw [text_cons lineS hb, piece_line hu hb, text_line n (b.drop (decN b)) (by rw [List.length_drop]; omega) (u8_drop hu _), ← List.map_append, List.take_append_drop]
theorem law_lines (b : List Int) (hu : U8B b) : Ev (fun k => glyphcutterlaw16_NormLines.f k b) true := by
  unfold glyphcutterlaw16_NormLines.f
  by_cases h : (b.length : Int) > 200
  · refine Ev.pos h ?_
    refine Ev.step (fun k => by rw [glyphcutterlaw16_NormLines.j0]) ?_
    exact Ev.pos rfl (Ev.bindc known_f16 (Ev.now _))
  refine Ev.neg h (Ev.bindc known_f16 ?_)
  refine Ev.step (fun k => by rw [glyphcutterlaw16_NormLines.j0]) ?_
  have ht := ev_text lineS hu (by omega)
  rw [text_line b.length b (Nat.le_refl _) hu] at ht
  refine Ev.neg (by simp) (Ev.bind ht (Ev.pos (by rw [List.length_map]) ?_))
  have loop : ∀ (d i : Nat), b.length - i = d → i ≤ b.length → Ev (fun k => glyphcutterlaw16_NormLines.l0 k b (b.map lineB) (i : Int)) true := by
    intro d
    induction d with
    | zero =>
      intro i hd hi
      refine Ev.step (fun k => by rw [glyphcutterlaw16_NormLines.l0]) ?_
      exact Ev.neg (by omega) (Ev.now _)
    | succ d ih =>
      intro i hd hi
      have hil : i < b.length := by omega
      have nx := ih (i + 1) (by omega) (by omega)
      have hr : rd (b.map lineB) (i : Int) = lineB b[i] := by rw [rdi_get _ i (by rw [List.length_map]; exact hil), List.getElem_map]
      refine Ev.step (fun k => by rw [glyphcutterlaw16_NormLines.l0]) ?_
      refine Ev.pos (by omega) (Ev.pos (by omega) (Ev.pos (by rw [List.length_map]; omega) ?_))
      rw [hr, rdi_get b i hil, wr1N (by omega) (by omega)]
      by_cases h13 : b[i] = 13
      · have e : lineB b[i] = 10 := by unfold lineB; rw [if_pos h13]
        rw [e]
        exact Ev.neg (by omega) (Ev.pos h13 (Ev.pos rfl nx))
      · have e : lineB b[i] = b[i] := by unfold lineB; rw [if_neg h13]
        rw [e]
        exact Ev.neg h13 (Ev.neg h13 (Ev.pos rfl nx))
  exact loop b.length 0 rfl (Nat.zero_le _)
end
section
open Go.RowKit Go.Proofs.YtfaahcgoinkmlaaW.PrintWords Go.Proofs.YtfaahcgoinkmlaaW.PrintLast Go.Proofs.YtfaahcgoinkmlaaW.PrintMore
theorem NormLines.calls (W : World) (A0 : Option Addr) (c0 : Nat) (l0 : List Int) (hr0 : Kd.C (Kd.int .u8) W A0 l0.length l0) (hc0 : l0.length ≤ c0) (u0 : U8B l0) (z0 : Sm l0) :
    Calls Try.prog 4 #[.slice A0 l0.length c0] W fun e W' => e = .returned (.bool true) ∧ Below W.heap.size W W' := by
  obtain ⟨k, hk⟩ := (law_lines l0 u0).rounds
  exact glyphcutterlaw16_NormLines.calls k A0 c0 l0 true W rfl hr0 hc0 hk
end
end Go.Proofs.Ytfaahcgoinkmlaa.P
