/- props.Loose: the plain side. -/
import Derived.Test.YtpcljaidlihafaaPx0
import Derived.Test.YtpcljaidlihafaaPx2
import Derived.Test.YtpcljaidlihafaaPBase
import Derived.Lib.Strings
import Derived.Lib.IndexBytes
import Derived.Laws.BytesArg
namespace Go.Proofs.Ytpcljaidlihafaa.P
set_option linter.unusedVariables false
set_option linter.unusedSimpArgs false
section
open Go.RowKit Go.Proofs.YtpcljaidlihafaaW.PrintWords Go.Proofs.YtpcljaidlihafaaW.PrintLast Go.Proofs.YtpcljaidlihafaaW.PrintMore
def stepN (c : Int) : List Int := if c = 45 ∨ c = 95 ∨ c = 32 then [] else if 65 ≤ c ∧ c ≤ 90 then [c + 32] else [c]
def stripN (xs : List Int) : List Int := xs.flatMap stepN
def cutIs (b : List Int) : List Int := if b.take 2 = [105, 115] ∧ 2 < b.length then b.drop 2 else b
def numsS (s : ByteArray) : List Int := s.data.toList.map fun x => (x.toNat : Int)
def looseB (s : ByteArray) : ByteArray := strOfNums (cutIs (stripN (numsS s)))
theorem numsS_len (s : ByteArray) : (numsS s).length = s.size := by unfold numsS; rw [List.length_map]; rfl
theorem numsS_get (s : ByteArray) (i : Nat) (h : i < (numsS s).length) : (numsS s)[i] = bt s (i : Int) := by
  have h2 : i < s.size := by rw [← numsS_len]; exact h
  rw [← bt_at s i (by rw [Int.toNat_natCast]; exact h2)]
  simp only [numsS, List.getElem_map, Int.toNat_natCast]
  rfl
theorem stepN_len (c : Int) : (stepN c).length ≤ 1 := by
  unfold stepN
  split
  · simp
  · split <;> simp
theorem stripN_len (xs : List Int) : (stripN xs).length ≤ xs.length := by
  induction xs with
  | nil => simp [stripN]
  | cons c xs ih =>
    have h1 := stepN_len c
    unfold stripN at *
    rw [List.flatMap_cons, List.length_append, List.length_cons]
    omega
theorem stripN_snoc (xs : List Int) (i : Nat) (h : i < xs.length) : stripN (xs.take (i + 1)) = stripN (xs.take i) ++ stepN xs[i] := by
  unfold stripN
  rw [List.take_succ_eq_append_getElem h, List.flatMap_append]
  simp
theorem stepN_range {c : Int} (h : 0 ≤ c ∧ c ≤ 255) : ∀ x ∈ stepN c, 0 ≤ x ∧ x ≤ 255 := by
  intro x hx
  unfold stepN at hx
  split at hx
  · simp at hx
  · split at hx
    · simp at hx; omega
    · simp at hx; omega
theorem stripN_range (s : ByteArray) (n : Nat) : ∀ x ∈ stripN ((numsS s).take n), 0 ≤ x ∧ x ≤ 255 := by
  intro x hx
  unfold stripN at hx
  obtain ⟨c, hc, hx⟩ := List.mem_flatMap.1 hx
  have hc2 := List.mem_of_mem_take hc
  unfold numsS at hc2
  obtain ⟨u, _, rfl⟩ := List.mem_map.1 hc2
  exact stepN_range ⟨by omega, by have := u.toNat_lt; omega⟩ x hx
theorem or_32 {c : Int} (h1 : 65 ≤ c) (h2 : c ≤ 90) : Go.bits .or .u8 c 32 = c + 32 := by
  obtain ⟨n, hn, rfl⟩ : ∃ n : Nat, n < 26 ∧ c = 65 + n := ⟨(c - 65).toNat, by omega, by omega⟩
  have : ∀ n : Fin 26, Go.bits .or .u8 (65 + (n.val : Int)) 32 = 65 + (n.val : Int) + 32 := by decide
  exact this ⟨n, hn⟩
theorem ofNat_inj {a b : Int} (ha : 0 ≤ a ∧ a ≤ 255) (hb : 0 ≤ b ∧ b ≤ 255) (h : UInt8.ofNat a.toNat = UInt8.ofNat b.toNat) : a = b := by
  have h2 := congrArg UInt8.toNat h
  simp only [UInt8.toNat_ofNat'] at h2
  omega
theorem map_inj : ∀ {xs ys : List Int}, (∀ x ∈ xs, 0 ≤ x ∧ x ≤ 255) → (∀ y ∈ ys, 0 ≤ y ∧ y ≤ 255) → xs.map (fun n => UInt8.ofNat n.toNat) = ys.map (fun n => UInt8.ofNat n.toNat) → xs = ys
  | [], [], _, _, _ => rfl
  | [], y :: ys, _, _, h => by simp at h
  | x :: xs, [], _, _, h => by simp at h
  | x :: xs, y :: ys, hx, hy, h => by
    rw [List.map_cons, List.map_cons] at h
    injection h with h1 h2
    rw [ofNat_inj (hx x List.mem_cons_self) (hy y List.mem_cons_self) h1, map_inj (fun z hz => hx z (List.mem_cons_of_mem _ hz)) (fun z hz => hy z (List.mem_cons_of_mem _ hz)) h2]
theorem eq_of_data {s t : ByteArray} (h : s.data.toList = t.data.toList) : s = t := by
  cases s; cases t
  simp only at h
  congr
  exact Array.toList_inj.1 h
/-- props.Loose. -/
theorem loose_ev (s : ByteArray) (hs : s.size ≤ 1000000) : Ev (fun k => props_Loose.f k s) (looseB s) := by
  have hn := numsS_len s
  have fin : Ev (fun k => (strings_CutPrefix.f (strOfNums (stripN (numsS s))) (⟨#[105, 115]⟩ : ByteArray)).bind fun bt104 => (if bt104.2 = true then (if bt104.1.toList = ([] : List UInt8) then (some (strOfNums (stripN (numsS s)))) else (some bt104.1)) else (some (strOfNums (stripN (numsS s)))))) (looseB s) := by
    have hr := stripN_range s (numsS s).length
    rw [List.take_length] at hr
    have hl := stripN_len (numsS s)
    unfold looseB
    generalize stripN (numsS s) = b at hr hl ⊢
    have hsz := strOfNums_size b
    have hd := strOfNums_data b
    have hpre : ((strOfNums b).extract 0 2).toList = (b.take 2).map fun n => UInt8.ofNat n.toNat := by
      rw [Lib.toList_data, Lib.extract_data, hd, List.drop_zero, List.map_take]
    have his : ([105, 115] : List UInt8) = ([105, 115] : List Int).map fun n => UInt8.ofNat n.toNat := by decide
    unfold strings_CutPrefix.f stringslite_CutPrefix.f stringslite_HasPrefix.f
    have h2 : ((⟨#[105, 115]⟩ : ByteArray).size : Int) = 2 := rfl
    rw [h2, hsz]
    by_cases c1 : 2 ≤ b.length
    · rw [if_pos (show (b.length : Int) ≥ 2 by omega), if_pos (by omega), if_pos (show (2 : Int) ≤ (b.length : Int) by omega)]
      simp only [Option.bind_some]
      rw [show (2 : Int).toNat = 2 from rfl]
      by_cases c2 : b.take 2 = [105, 115]
      · have e2 : (((strOfNums b).extract 0 2).toList == (⟨#[105, 115]⟩ : ByteArray).toList) = true := by
          rw [hpre, c2, Lib.toList_data, ← his]; rfl
        rw [e2, if_pos rfl, if_pos (by omega), if_pos (by omega)]
        simp only [Option.bind_some]
        have hx : ((strOfNums b).extract 2 b.length).toList = (b.drop 2).map fun n => UInt8.ofNat n.toNat := by
          have := Lib.extract_to_end (strOfNums b) 2
          rw [hsz] at this
          rw [Lib.toList_data, this, hd, List.map_drop]
        simp only [if_true]
        rw [hx]
        by_cases c3 : 2 < b.length
        · rw [if_neg (by rw [List.map_eq_nil_iff, List.drop_eq_nil_iff]; omega)]
          rw [show (strOfNums b).extract 2 b.length = strOfNums (cutIs b) from eq_of_data (by
            rw [← Lib.toList_data, hx, strOfNums_data]; unfold cutIs; rw [if_pos ⟨c2, c3⟩])]
          exact Ev.now _
        · rw [if_pos (by rw [List.map_eq_nil_iff, List.drop_eq_nil_iff]; omega)]
          rw [show cutIs b = b by unfold cutIs; rw [if_neg (fun h => c3 h.2)]]
          exact Ev.now _
      · have e2 : (((strOfNums b).extract 0 2).toList == (⟨#[105, 115]⟩ : ByteArray).toList) = false := by
          rw [beq_eq_false_iff_ne]
          intro h
          rw [hpre, Lib.toList_data] at h
          refine c2 (map_inj (fun x hx => hr x (List.mem_of_mem_take hx)) (fun y hy => by simp at hy; omega) (h.trans ?_))
          exact his
        rw [e2, if_neg (by simp)]
        simp only [Option.bind_some, Bool.false_eq_true, if_false]
        rw [show cutIs b = b by unfold cutIs; rw [if_neg (fun h => c2 h.1)]]
        exact Ev.now _
    · rw [if_neg (by omega)]
      simp only [Option.bind_some, Bool.false_eq_true, if_false]
      rw [show cutIs b = b by unfold cutIs; rw [if_neg (fun h => c1 (by omega))]]
      exact Ev.now _
  have l0 : ∀ (d i : Nat), s.size - i = d → i ≤ s.size → Ev (fun k => props_Loose.l0 k s (stripN ((numsS s).take i)) (s.size : Int) (i : Int)) (looseB s) := by
    intro d
    induction d with
    | zero =>
      intro i hd hi
      refine Ev.step (fun k => by rw [props_Loose.l0]) (Ev.neg (by omega) ?_)
      rw [List.take_of_length_le (by omega)]
      exact fin
    | succ d ih =>
      intro i hd hi
      have hlt : i < (numsS s).length := by omega
      have ihn := ih (i + 1) (by omega) (by omega)
      rw [stripN_snoc _ i hlt, numsS_get s i hlt] at ihn
      have hl := stripN_len ((numsS s).take i)
      have hl2 : ((numsS s).take i).length ≤ i := by rw [List.length_take]; omega
      have hb := bt_range s (i : Int)
      obtain ⟨c, hbc⟩ : ∃ c, bt s (i : Int) = c := ⟨_, rfl⟩
      rw [hbc] at ihn hb
      have j1 : ∀ x20 : Bool, (x20 = true ↔ (c = 45 ∨ c = 95 ∨ c = 32)) → Ev (fun k => props_Loose.j1 k s (stripN ((numsS s).take i)) c (s.size : Int) (i : Int) x20) (looseB s) := by
        intro x20 hx
        refine Ev.step (fun k => by rw [props_Loose.j1]) ?_
        rw [wrap_in (by omega) (by omega)]
        by_cases h1 : c = 45 ∨ c = 95 ∨ c = 32
        · rw [show stepN c = [] by unfold stepN; rw [if_pos h1], List.append_nil] at ihn
          exact Ev.pos (hx.2 h1) ihn
        · refine Ev.neg (fun h => h1 (hx.1 h)) ?_
          by_cases h2 : 65 ≤ c
          · refine Ev.pos h2 ?_
            by_cases h3 : c ≤ 90
            · rw [show stepN c = [c + 32] by unfold stepN; rw [if_neg h1, if_pos ⟨h2, h3⟩]] at ihn
              refine Ev.pos h3 (Ev.pos (by omega) ?_)
              rw [or_32 h2 h3]
              exact ihn
            · rw [show stepN c = [c] by unfold stepN; rw [if_neg h1, if_neg (fun h => h3 h.2)]] at ihn
              exact Ev.neg h3 (Ev.pos (by omega) ihn)
          · rw [show stepN c = [c] by unfold stepN; rw [if_neg h1, if_neg (fun h => h2 h.1)]] at ihn
            exact Ev.neg h2 (Ev.pos (by omega) ihn)
      refine Ev.step (fun k => by rw [props_Loose.l0]) (Ev.pos (by omega) (Ev.pos (by omega) (Ev.pos (by omega) ?_)))
      rw [hbc]
      by_cases h1 : c = 45
      · exact Ev.pos h1 (j1 _ (by simp [h1]))
      · refine Ev.neg h1 ?_
        by_cases h2 : c = 95
        · exact Ev.pos h2 (j1 _ (by simp [h2]))
        · exact Ev.neg h2 (j1 _ (by simp [h1, h2]))
  have h0 := l0 s.size 0 (by omega) (by omega)
  show Ev (fun k => props_Loose.l0 k s [] (s.size : Int) 0) _
  simpa [stripN] using h0
end
end Go.Proofs.Ytpcljaidlihafaa.P
