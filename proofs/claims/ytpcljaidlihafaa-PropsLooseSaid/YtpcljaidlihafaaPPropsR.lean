/- props: the reference: the plain side. -/
import Derived.Test.YtpcljaidlihafaaPx0
import Derived.Test.YtpcljaidlihafaaPx5
import Derived.Test.YtpcljaidlihafaaPx6
import Derived.Test.YtpcljaidlihafaaPBase
import Derived.Test.YtpcljaidlihafaaPLoose
namespace Go.Proofs.Ytpcljaidlihafaa.P
set_option linter.unusedVariables false
set_option linter.unusedSimpArgs false
section
open Go.RowKit Go.Proofs.YtpcljaidlihafaaW.PrintWords Go.Proofs.YtpcljaidlihafaaW.PrintLast Go.Proofs.YtpcljaidlihafaaW.PrintMore
theorem str_app (a b : List Int) : strOfNums a ++ strOfNums b = strOfNums (a ++ b) := eq_of_data (by
  rw [ByteArray.data_append, Array.toList_append, strOfNums_data, strOfNums_data, strOfNums_data, List.map_append])
theorem ref_loose (s : ByteArray) (hs : s.size ≤ 1000000) : Ev (fun k => glyphcutterref05_Loose.f k s) (looseB s) := by
  have hn := numsS_len s
  have fin : Ev (fun k => (if ((strOfNums (stripN (numsS s))).size : Int) > 2 then (if (0 : Int) ≤ 2 then (if (2 : Int) ≤ ((strOfNums (stripN (numsS s))).size : Int) then (if ((strOfNums (stripN (numsS s))).extract 0 2).toList = ([105, 115] : List UInt8) then (some ((strOfNums (stripN (numsS s))).extract 2 (strOfNums (stripN (numsS s))).size)) else (some (strOfNums (stripN (numsS s))))) else (none)) else (none)) else (some (strOfNums (stripN (numsS s)))))) (looseB s) := by
    have hr := stripN_range s (numsS s).length
    rw [List.take_length] at hr
    unfold looseB
    generalize stripN (numsS s) = b at hr ⊢
    have hsz := strOfNums_size b
    have hd := strOfNums_data b
    have hpre : ((strOfNums b).extract 0 2).toList = (b.take 2).map fun n => UInt8.ofNat n.toNat := by
      rw [Lib.toList_data, Lib.extract_data, hd, List.drop_zero, List.map_take]
    have his : ([105, 115] : List UInt8) = ([105, 115] : List Int).map fun n => UInt8.ofNat n.toNat := by decide
    rw [hsz]
    by_cases c1 : 2 < b.length
    · refine Ev.pos (by omega) (Ev.pos (by omega) (Ev.pos (by omega) ?_))
      by_cases c2 : b.take 2 = [105, 115]
      · refine Ev.pos (by rw [hpre, c2, his]) ?_
        have hx : ((strOfNums b).extract 2 b.length).toList = (b.drop 2).map fun n => UInt8.ofNat n.toNat := by
          have := Lib.extract_to_end (strOfNums b) 2
          rw [hsz] at this
          rw [Lib.toList_data, this, hd, List.map_drop]
        rw [show (strOfNums b).extract 2 b.length = strOfNums (cutIs b) from eq_of_data (by
            rw [← Lib.toList_data, hx, strOfNums_data]; unfold cutIs; rw [if_pos ⟨c2, c1⟩])]
        exact Ev.now _
      · refine Ev.neg ?_ ?_
        · intro h
          rw [hpre, his] at h
          exact c2 (map_inj (fun x hx => hr x (List.mem_of_mem_take hx)) (fun y hy => by simp at hy; omega) h)
        · rw [show cutIs b = b by unfold cutIs; rw [if_neg (fun h => c2 h.1)]]
          exact Ev.now _
    · refine Ev.neg (by omega) ?_
      rw [show cutIs b = b by unfold cutIs; rw [if_neg (fun h => c1 h.2)]]
      exact Ev.now _
  have l0 : ∀ (d i : Nat), s.size - i = d → i ≤ s.size → Ev (fun k => glyphcutterref05_Loose.l0 k s (strOfNums (stripN ((numsS s).take i))) (i : Int)) (looseB s) := by
    intro d
    induction d with
    | zero =>
      intro i hd hi
      refine Ev.step (fun k => by rw [glyphcutterref05_Loose.l0]) (Ev.neg (by omega) ?_)
      rw [List.take_of_length_le (by omega)]
      exact fin
    | succ d ih =>
      intro i hd hi
      have hlt : i < (numsS s).length := by omega
      have ihn := ih (i + 1) (by omega) (by omega)
      rw [stripN_snoc _ i hlt, numsS_get s i hlt] at ihn
      have hl := stripN_len ((numsS s).take i)
      have hl2 : ((numsS s).take i).length ≤ i := by rw [List.length_take]; omega
      have hb := bt_range s (i : Int)
      obtain ⟨c, hbc⟩ : ∃ c, bt s (i : Int) = c := ⟨_, rfl⟩
      rw [hbc] at ihn hb
      have hz : ∀ c : Int, (strOfNums (stripN ((numsS s).take i))).size + (strOfNums [c]).size ≤ 9223372036854775807 := by
        intro c
        rw [strOfNums_size, strOfNums_size, List.length_singleton]
        omega
      have j1 : ∀ x20 : Bool, (x20 = true ↔ (c = 45 ∨ c = 95 ∨ c = 32)) → Ev (fun k => glyphcutterref05_Loose.j1 k s (strOfNums (stripN ((numsS s).take i))) (i : Int) c x20) (looseB s) := by
        intro x20 hx
        refine Ev.step (fun k => by rw [glyphcutterref05_Loose.j1]) ?_
        rw [wrap_in (by omega) (by omega)]
        by_cases h1 : c = 45 ∨ c = 95 ∨ c = 32
        · rw [show stepN c = [] by unfold stepN; rw [if_pos h1], List.append_nil] at ihn
          exact Ev.pos (hx.2 h1) ihn
        · refine Ev.neg (fun h => h1 (hx.1 h)) ?_
          by_cases h2 : 65 ≤ c
          · refine Ev.pos h2 ?_
            by_cases h3 : c ≤ 90
            · rw [show stepN c = [c + 32] by unfold stepN; rw [if_neg h1, if_pos ⟨h2, h3⟩], ← str_app] at ihn
              refine Ev.pos h3 (Ev.bindc rfl (Ev.pos (hz _) ?_))
              rw [show (c + 32) % 256 = c + 32 by omega]
              exact ihn
            · rw [show stepN c = [c] by unfold stepN; rw [if_neg h1, if_neg (fun h => h3 h.2)], ← str_app] at ihn
              exact Ev.neg h3 (Ev.bindc rfl (Ev.pos (hz _) ihn))
          · rw [show stepN c = [c] by unfold stepN; rw [if_neg h1, if_neg (fun h => h2 h.1)], ← str_app] at ihn
            exact Ev.neg h2 (Ev.bindc rfl (Ev.pos (hz _) ihn))
      refine Ev.step (fun k => by rw [glyphcutterref05_Loose.l0]) (Ev.pos (by omega) (Ev.pos (by omega) ?_))
      rw [hbc]
      by_cases h1 : c = 45
      · exact Ev.pos h1 (j1 _ (by simp [h1]))
      · refine Ev.neg h1 ?_
        by_cases h2 : c = 95
        · exact Ev.pos h2 (j1 _ (by simp [h2]))
        · exact Ev.neg h2 (j1 _ (by simp [h1, h2]))
  have h0 := l0 s.size 0 (by omega) (by omega)
  show Ev (fun k => glyphcutterref05_Loose.l0 k s (⟨#[]⟩ : ByteArray) 0) _
  have e0 : strOfNums (stripN ((numsS s).take 0)) = (⟨#[]⟩ : ByteArray) := rfl
  rw [e0] at h0
  exact h0
/-- spans: the ends two by two. -/
def spansP : List Int → List S39
  | a :: b :: xs => ⟨a, b⟩ :: spansP xs
  | _ => []
theorem spans_at (xs : List Int) (hx : xs.length ≤ 1000) : ∀ (d i : Nat) (acc : List S39), xs.length - i = d → i ≤ xs.length → acc.length ≤ i → Ev (fun k => glyphcutterref05_spans.l0 k xs acc (i : Int)) (acc ++ spansP (xs.drop i)) := by
  intro d
  induction d using Nat.strongRecOn with
  | ind d ih =>
    intro i acc hd hi ha
    refine Ev.step (fun k => by rw [glyphcutterref05_spans.l0]) ?_
    rw [wrap_in (by omega) (by omega)]
    by_cases h1 : i + 1 < xs.length
    · have h0 : i < xs.length := by omega
      have n := ih (d - 2) (by omega) (i + 2) (acc ++ [⟨xs[i], xs[i + 1]⟩]) (by omega) (by omega) (by simp; omega)
      rw [List.append_assoc] at n
      rw [List.drop_eq_getElem_cons h0, List.drop_eq_getElem_cons h1]
      refine Ev.pos (by omega) (Ev.pos (by omega) (Ev.pos (by omega) (Ev.pos (by omega) (Ev.pos (by omega) ?_))))
      have e1 := rdi_get xs i h0
      have e2 := rdi_get xs (i + 1) h1
      rw [e1, show (i : Int) + 1 = ((i + 1 : Nat) : Int) by omega, e2, wrap_in (by omega) (by omega), show (i : Int) + 2 = ((i + 2 : Nat) : Int) by omega]
      exact n
    · refine Ev.neg (by omega) ?_
      have : spansP (xs.drop i) = [] := by
        have hl : (xs.drop i).length ≤ 1 := by rw [List.length_drop]; omega
        generalize xs.drop i = ys at hl
        match ys, hl with
        | [], _ => rfl
        | [_], _ => rfl
        | _ :: _ :: _, h => simp at h
      rw [this, List.append_nil]
      exact Ev.now _
theorem ref_spans (xs : List Int) (hx : xs.length ≤ 1000) : Ev (fun k => glyphcutterref05_spans.f k xs) (spansP xs) := by
  have := spans_at xs hx _ 0 [] rfl (by omega) (by simp)
  exact this
end
end Go.Proofs.Ytpcljaidlihafaa.P
