/- The rows of spans in the sort's words. -/
import Derived.Test.YtbhfaeliklaffaaPx0
import Derived.Test.YtbhfaeliklaffaaGApp
import Derived.Test.YtbhfaeliklaffaaPNf
import Derived.Shelf.GgSortFunc.InsertionK
namespace Go.Proofs.Ytbhfaeliklaffaa.P
set_option linter.unusedVariables false
set_option linter.unusedSimpArgs false
section
open Go.RowKit Go.Shelf Go.Sort Go.Proofs.YtbhfaeliklaffaaW.PrintWords Go.Proofs.YtbhfaeliklaffaaW.PrintLast Go.Proofs.YtbhfaeliklaffaaW.PrintMore
theorem scs_get (l : List S43) : ∀ t, t < l.length * 2 → (scs l)[t]? = some ((sc l[t / 2]!)[t % 2]!) := by
  induction l with
  | nil => intro t h; simp at h
  | cons x l ih =>
    intro t h
    have e : scs (x :: l) = .int .i64 x.f0 :: .int .i64 x.f1 :: scs l := by simp [scs, sc]
    rw [e]
    match t, h with
    | 0, _ => rfl
    | 1, _ => rfl
    | t + 2, h =>
      have h' : t < l.length * 2 := by simp at h; omega
      have := ih t h'
      simp only [List.getElem?_cons_succ]
      rw [this, show (t + 2) / 2 = t / 2 + 1 by omega, show (t + 2) % 2 = t % 2 by omega]
      rfl
theorem scs_length (l : List S43) : (scs l).length = l.length * 2 := by
  induction l with
  | nil => rfl
  | cons x l ih => simp [scs, sc] at ih ⊢; omega
theorem reps_scs (w : World) (base : Nat) (ok : Nat → Prop) (xs : List S43) : Reps (k43.M w base ok) 2 xs (scs xs) := by
  refine ⟨scs_length xs, fun j p hj => ?_⟩
  obtain ⟨h1, h2⟩ := List.getElem?_eq_some_iff.1 hj
  have e : ((scs xs).drop (j * 2)).take 2 = sc p := by
    apply List.ext_getElem?
    intro t
    by_cases ht : t < 2
    · rw [List.getElem?_take, if_pos ht, List.getElem?_drop, scs_get _ _ (by omega), show (j * 2 + t) / 2 = j by omega, show (j * 2 + t) % 2 = t by omega, getElem!_pos xs j h1, h2, getElem!_pos (sc p) t (by simpa [sc] using ht), List.getElem?_eq_getElem]
    · rw [List.getElem?_eq_none (by simp; omega), List.getElem?_eq_none (by simp [sc]; omega)]
  rw [e]
  exact k43_mkM w base ok p
/-- A row of the call's own in the print's words. -/
theorem R_of_rows {w : World} {base n : Nat} {v : Value} {xs : List S43} (hn : n = xs.length) (h : w.ownsRow base 43 2 v n (scs xs)) : Kd.R k43 43 w base (fun _ => True) v xs := by
  subst hn
  exact ⟨fun _ _ => trivial, scs xs, h, reps_scs _ _ _ _⟩
theorem flat_scs (d : Array S43) : flatK sc 2 d = (scs d.toList).toArray := by
  apply Array.ext
  · simp [scs_length]
  · intro t h1 h2
    have ht : t < d.toList.length * 2 := by simpa using h1
    have := scs_get d.toList t ht
    have h3 := get_flatK sc 2 d t (by simpa using h1)
    rw [getElem!_pos _ t h1] at h3
    rw [h3]
    rw [List.getElem?_eq_getElem (by rw [scs_length]; exact ht)] at this
    have h4 := Option.some.inj this
    simp only [List.getElem_toArray]
    rw [h4]
    congr 2
    rcases d with ⟨l⟩
    simp
theorem holdsK_of_own {W : World} {n₀ g n cap : Nat} {xs : List S43} (h : W.ownsRow n₀ 43 2 (.slice (some ⟨g, 0, none⟩) n cap) n (scs xs)) : HoldsK sc 2 W g 0 xs.toArray := by
  intro j hj
  rw [flat_scs] at hj ⊢
  have hj' : j < (scs xs).length := by simpa using hj
  have hc := h.cells (g := g) rfl j _ (List.getElem?_eq_getElem hj')
  have ha : (⟨g, 0, none⟩ : Addr).add j = ⟨g, 0 + j, none⟩ := by unfold Addr.add; split <;> simp_all
  rw [ha] at hc
  refine ⟨?_, ?_⟩
  · rw [hc, getElem!_pos _ j hj]; simp
  · rcases h.2 with ⟨e, _⟩ | ⟨g', cap', cur, e, _, hg, _⟩
    · cases e
    · cases e
      simp [World.frozen?, hg]
theorem sorted_own {W : World} {n₀ g n cap q : Nat} {xs : List S43} {d : Array S43} {os : Array Obj} (h : W.ownsRow n₀ 43 2 (.slice (some ⟨g, 0, none⟩) n cap) n (scs xs)) (hn : xs.length = n) (hd : d.size = n) (hn0 : n₀ ≤ W.heap.size) :
    (sortWorldK sc 2 W g 0 q d os).ownsRow n₀ 43 2 (.slice (some ⟨g, 0, none⟩) n cap) n (scs d.toList) ∧ Below n₀ W (sortWorldK sc 2 W g 0 q d os) := by
  rcases h.2 with ⟨e, _⟩ | ⟨g', cap', cur, e, hb, hg, h1, h2, h3, h4⟩
  · cases e
  · cases e
    have hlt : g < W.heap.size := (Array.getElem?_eq_some_iff.1 hg).1
    have hheap : (sortWorldK sc 2 W g 0 q d os).heap = W.heap.modify g (onCells (putCells id 0 (flatK sc 2 d))) ++ os := rfl
    have hother : ∀ k, k < W.heap.size → k ≠ g → (sortWorldK sc 2 W g 0 q d os).heap[k]? = W.heap[k]? := by
      intro k hk hne
      rw [hheap, Array.getElem?_append_left (by simpa using hk), Array.getElem?_modify, if_neg (Ne.symm hne)]
    refine ⟨⟨by rw [scs_length]; simp [hd], .inr ⟨g, cap, putCells id 0 (flatK sc 2 d) cur, rfl, hb, ?_, h1, h2, by simp [putCells, h3], ?_⟩⟩, ?_⟩
    · rw [hheap, Array.getElem?_append_left (by simpa using hlt), Array.getElem?_modify, if_pos rfl, hg]
      rfl
    · apply List.ext_getElem?
      intro t
      by_cases ht : t < n * 2
      · rw [List.getElem?_take, if_pos ht, scs_get _ t (by simpa [hd] using ht)]
        have htc : t < cur.size := by omega
        simp only [putCells, Array.getElem?_toList, Array.getElem?_mapIdx, Array.getElem?_eq_getElem htc, Option.map_some, size_flatK, Nat.zero_le, true_and, Nat.zero_add, Nat.sub_zero, id]
        rw [if_pos (by rw [hd]; exact ht), get_flatK sc 2 d t (by rw [hd]; exact ht)]
        rcases d with ⟨l⟩
        simp only [List.getElem!_toArray]
      · rw [List.getElem?_eq_none (by simp; omega), List.getElem?_eq_none (by rw [scs_length]; simp [hd]; omega)]
    · refine ⟨rfl, rfl, rfl, ?_, ?_⟩
      · rw [hheap]; simp
      · intro k hk
        exact hother k (by omega) (by omega)
end
end Go.Proofs.Ytbhfaeliklaffaa.P
