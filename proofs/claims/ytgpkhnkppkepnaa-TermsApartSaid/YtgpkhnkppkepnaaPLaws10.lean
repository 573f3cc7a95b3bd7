/- The laws of chapter 10, one by one: the plain side. -/
import Derived.Test.YtgpkhnkppkepnaaPx0
import Derived.Test.YtgpkhnkppkepnaaPx2
import Derived.Test.YtgpkhnkppkepnaaGBase
import Derived.Test.YtgpkhnkppkepnaaGEdges
import Derived.Test.YtgpkhnkppkepnaaGHas
import Derived.Test.YtgpkhnkppkepnaaGMapH
import Derived.Test.YtgpkhnkppkepnaaGNorm
import Derived.Test.YtgpkhnkppkepnaaGRowsO
import Derived.Test.YtgpkhnkppkepnaaGTerms
import Derived.Test.YtgpkhnkppkepnaaPBase
import Derived.Test.YtgpkhnkppkepnaaPLaw10
import Derived.Test.YtgpkhnkppkepnaaPParts
import Derived.Test.YtgpkhnkppkepnaaPRef10
import Derived.Test.YtgpkhnkppkepnaaPTermsA
namespace Go.Proofs.Ytgpkhnkppkepnaa.P
set_option linter.unusedVariables false
set_option linter.unusedSimpArgs false
section
open Go.RowKit Go.Proofs.YtgpkhnkppkepnaaW.PrintWords Go.Proofs.YtgpkhnkppkepnaaW.PrintLast Go.Proofs.YtgpkhnkppkepnaaW.PrintMore
def eqS : List S42 → List S42 → Bool
  | [], [] => true
  | x :: a, y :: b => ((x.f0 == y.f0) && (x.f1 == y.f1)) && eqS a b
  | _, _ => false
theorem eqS_rfl : ∀ a : List S42, eqS a a = true
  | [] => rfl
  | x :: a => by rw [eqS, eqS_rfl a]; simp
theorem eqS_len : ∀ a b : List S42, a.length ≠ b.length → eqS a b = false
  | [], [], h => absurd rfl h
  | x :: a, y :: b, h => by rw [eqS, eqS_len a b (fun e => h (by simp [e])), Bool.and_false]
  | [], _ :: _, _ => rfl
  | _ :: _, [], _ => rfl
theorem ref_alike (a b : List S42) (ha : a.length ≤ 1000000) : Ev (fun k => glyphcutterref01_Alike.f k a b) (eqS a b) := by
  unfold glyphcutterref01_Alike.f
  by_cases hl : a.length = b.length
  · refine Ev.pos (by omega) ?_
    have l0 : ∀ (d n : Nat), a.length - n = d → n ≤ a.length → Ev (fun k => glyphcutterref01_Alike.l0 k a b (n : Int)) (eqS (a.drop n) (b.drop n)) := by
      intro d
      induction d with
      | zero =>
        intro n hd hn
        rw [List.drop_of_length_le (by omega), List.drop_of_length_le (by omega)]
        exact Ev.step (fun k => by rw [glyphcutterref01_Alike.l0]) (Ev.neg (by omega) (Ev.now true))
      | succ d ih =>
        intro n hd hn
        have h1 : n < a.length := by omega
        have h2 : n < b.length := by omega
        rw [List.drop_eq_getElem_cons h1, List.drop_eq_getElem_cons h2, eqS]
        refine Ev.step (fun k => by rw [glyphcutterref01_Alike.l0]) (Ev.pos (by omega) (Ev.pos (by omega) (Ev.pos (by omega) ?_)))
        rw [rd_get a n h1, rd_get b n h2, wrap_in (by omega) (by omega), ← Bool.not_and]
        have ihn := ih (n + 1) (by omega) (by omega)
        cases c : (a[n].f0 == b[n].f0) && (a[n].f1 == b[n].f1) with
        | false => exact Ev.pos (by rfl) (Ev.now false)
        | true => exact Ev.neg (by simp) (by rw [Bool.true_and]; exact ihn)
    exact l0 _ 0 rfl (by omega)
  · refine Ev.neg (by omega) ?_
    rw [eqS_len a b hl]
    exact Ev.now false
end
section
open Go.RowKit Go.Proofs.YtgpkhnkppkepnaaW.PrintWords Go.Proofs.YtgpkhnkppkepnaaW.PrintLast Go.Proofs.YtgpkhnkppkepnaaW.PrintMore
theorem take_flatten_len (ll : List (List S42)) (n : Nat) : (ll.take n).flatten.length ≤ ll.flatten.length := by
  have h : ll.flatten = (ll.take n).flatten ++ (ll.drop n).flatten := by rw [← List.flatten_append, List.take_append_drop]
  rw [h, List.length_append]; omega
end
section
open Go.RowKit Go.Shelf Go.Proofs.YtgpkhnkppkepnaaW.PrintWords Go.Proofs.YtgpkhnkppkepnaaW.PrintLast Go.Proofs.YtgpkhnkppkepnaaW.PrintMore
theorem set_flat : ∀ (l : List (List S42)) (k : Nat) (v : List S42), k < l.length → (l.set k v).flatten.length + (l.getD k []).length = l.flatten.length + v.length
  | [], k, v, h => by simp at h
  | a :: l, 0, v, h => by simp; omega
  | a :: l, k + 1, v, h => by
    have := set_flat l k v (by simpa using h)
    simp only [List.set_cons_succ, List.flatten_cons, List.length_append, List.getD_cons_succ] at this ⊢
    omega
theorem acc_flat (sets : List (List S42)) (es : List Int) : ∀ i, (rowsA (accA sets es i)).flatten.length ≤ i
  | 0 => by simp [accA, rowsA]
  | i + 1 => by
    have ih := acc_flat sets es i
    obtain ⟨out, ho⟩ : ∃ out, accA sets es i = out := ⟨_, rfl⟩
    rw [ho] at ih
    show (rowsA (stepA (accA sets es i) (wordP sets (rd es i)) ⟨rd es i, rd es (i + 1 : Nat) - 1⟩)).flatten.length ≤ _
    rw [ho]
    obtain ⟨w, hw⟩ : ∃ w, wordP sets (rd es i) = w := ⟨_, rfl⟩
    rw [hw]
    unfold stepA
    split
    · omega
    · split
      · rename_i k hk
        rw [List.findIdx?_eq_some_iff_getElem] at hk
        obtain ⟨hkl, _⟩ := hk
        rw [keysA_length] at hkl
        rw [rowsA_set]
        have := set_flat (rowsA out) k ((rowsA out).getD k [] ++ [⟨rd es i, rd es (i + 1 : Nat) - 1⟩]) (by rw [rowsA_length]; exact hkl)
        rw [List.length_append, List.length_singleton] at this
        omega
      · rw [rowsA_snoc, List.flatten_append, List.length_append]
        have e1 : ([[(⟨rd es i, rd es (i + 1 : Nat) - 1⟩ : S42)]] : List (List S42)).flatten.length = 1 := rfl
        omega
theorem norm_flat (l : List (List S42)) : (l.map normP).flatten.length ≤ 2 * l.flatten.length := setsA_flat l
theorem parts_flat (l : List (List S42)) : (partsA l).flatten.length ≤ 8 * l.flatten.length := by
  unfold partsA
  have h1 := norm_flat (rowsA (accA (setsA l) (edgesA l) ((edgesA l).length - 1)))
  have h2 := acc_flat (setsA l) (edgesA l) ((edgesA l).length - 1)
  have h3 := edgesA_len l
  omega
theorem parts_row (l : List (List S42)) : ∀ p ∈ partsA l, p.length ≤ 8 * l.flatten.length := fun p hp => Nat.le_trans (row_le hp) (parts_flat l)
theorem parts_len (l : List (List S42)) : (partsA l).length ≤ 4 * l.flatten.length := by
  unfold partsA
  rw [List.length_map, rowsA_length]
  have h3 := accA_len (setsA l) (edgesA l) ((edgesA l).length - 1)
  have h4 := edgesA_len l
  omega
theorem lo_get (l : List (List S42)) (i : Nat) (h : i < l.length) : (rd_T42 (rd_L2 l (i : Int)) 0).f0 = loP l[i] := by rw [rdL_get l i h]; rfl
theorem part_lo {l ps : List (List S42)} (h : IsParts l ps) (i : Nat) (hi : i < ps.length) : 0 < (ps[i]).length ∧ Least ps[i] (loP ps[i]) := by
  have hm := List.getElem_mem hi
  obtain ⟨x, hx, _⟩ := h.cls _ hm
  obtain ⟨s, t, e, hl⟩ := nf_least (h.nf _ hm) hx
  refine ⟨by rw [e]; simp, ?_⟩
  have e2 : loP ps[i] = s.f0 := by rw [e]; rfl
  rw [e2]
  exact hl
theorem apart_words {l ps : List (List S42)} (h : IsParts l ps) {i j : Nat} (hij : j < i) (hi : i < ps.length) : (l.any fun s => hasP s (loP ps[i]) != hasP s (loP (ps[j]'(by omega)))) = true := by
  have hj : j < ps.length := by omega
  have li := (part_lo h i hi).2
  have lj := (part_lo h j hj).2
  cases ha : (l.any fun s => hasP s (loP ps[i]) != hasP s (loP ps[j])) with
  | true => rfl
  | false =>
    exfalso
    rw [List.any_eq_false] at ha
    have hw : wordN l (loP ps[j]) = wordN l (loP ps[i]) := word_of_has fun s hs => by
      have := ha s hs
      cases h1 : hasP s (loP ps[i]) <;> cases h2 : hasP s (loP ps[j]) <;> rw [h1, h2] at this <;> simp at this ⊢
    obtain ⟨x, hx, _, hc⟩ := h.cls _ (List.getElem_mem hi)
    have hwx := ((hc _).1 li.1).2
    have hsc := (h.nf _ (List.getElem_mem hj)).scal lj.1
    have hm := (hc _).2 ⟨hsc, hw.trans hwx⟩
    have h1 := li.2 _ hm
    have h2 := List.pairwise_iff_getElem.1 h.up j i hj hi hij _ _ lj li
    omega
theorem small_sm {L : List (List S42)} (h : Small L) : ∀ s ∈ L, Sm s := fun s hs => by have := (h s hs).1; unfold Sm; omega
theorem list_one (c : List Int) (hu : U16 c) (hs : Sm c) : ∃ L, Ev (fun k => glyphcutterlaw10_List.f k [c]) L ∧ L.length ≤ 1 ∧ Small L ∧ Fine L := by
  have fin : ∀ out : List (List S42), Ev (fun k => glyphcutterlaw10_List.l0 k [c] out ((1 : Nat) : Int)) out := fun out => by
    refine Ev.step (fun k => by rw [glyphcutterlaw10_List.l0]) ?_
    refine Ev.neg (by simp) ?_
    refine Ev.step (fun k => by rw [glyphcutterlaw10_List.j1]) ?_
    exact Ev.neg (by decide) (Ev.now _)
  have pre : ∀ L, Ev (fun k => if ((rd_L5 [c] ((0 : Nat) : Int)).length : Int) < 12 then ((glyphcutterlaw01_Make.f k (rd_L5 [c] ((0 : Nat) : Int))).bind fun t139 => (if ([] : List (List S42)).length < 5864062014805 then (glyphcutterlaw10_List.l0 k [c] ([] ++ [t139]) (wrap64 (((0 : Nat) : Int) + 1))) else (none))) else (glyphcutterlaw10_List.l0 k [c] [] (wrap64 (((0 : Nat) : Int) + 1)))) L → Ev (fun k => glyphcutterlaw10_List.f k [c]) L := fun L h => by
    unfold glyphcutterlaw10_List.f
    refine Ev.step (fun k => by rw [glyphcutterlaw10_List.l0]) ?_
    refine Ev.pos (by simp) ?_
    refine Ev.step (fun k => by rw [glyphcutterlaw10_List.j1]) ?_
    refine Ev.pos (by decide) ?_
    refine Ev.pos (by simp) ?_
    exact Ev.pos (by simp) h
  by_cases h12 : ((rd_L5 [c] ((0 : Nat) : Int)).length : Int) < 12
  · obtain ⟨m, hm, hml, hmw⟩ := law_make c hu hs
    refine ⟨[m], pre [m] (Ev.pos h12 ?_), Nat.le_refl _, fun s h => ?_, by simp, by simp; omega, fun s h => ?_⟩
    · refine Ev.bind hm (Ev.pos (by decide) ?_)
      rw [wr1 (by omega)]
      exact fin [m]
    · rw [List.mem_singleton] at h; subst h; exact ⟨hml, hmw⟩
    · rw [List.mem_singleton] at h; subst h; exact hmw
  · refine ⟨[], pre [] (Ev.neg h12 ?_), Nat.zero_le _, fun s h => by simp at h, by simp, by simp, fun s h => by simp at h⟩
    rw [wr1 (by omega)]
    exact fin []
theorem same_ev (a : List (List S42)) (hl : a.length ≤ 1000000) (hr : ∀ p ∈ a, p.length ≤ 1000000) : Ev (fun k => glyphcutterref10_Same.f k a a) true := by
  have loop : ∀ (d i : Nat), a.length - i = d → i ≤ a.length → Ev (fun k => glyphcutterref10_Same.l0 k a a (i : Int)) true := by
    intro d
    induction d with
    | zero =>
      intro i hd hi
      refine Ev.step (fun k => by rw [glyphcutterref10_Same.l0]) ?_
      exact Ev.neg (by omega) (Ev.now _)
    | succ d ih =>
      intro i hd hi
      have hlt : i < a.length := by omega
      have nx := ih (i + 1) (by omega) (by omega)
      have ra := ref_alike a[i] a[i] (hr _ (List.getElem_mem hlt))
      rw [eqS_rfl] at ra
      refine Ev.step (fun k => by rw [glyphcutterref10_Same.l0]) ?_
      refine Ev.pos (by omega) ?_
      refine Ev.pos (by omega) ?_
      refine Ev.pos (by omega) ?_
      rw [rdL_get a i hlt, wr1 (by omega)]
      exact Ev.bind ra (Ev.pos rfl nx)
  unfold glyphcutterref10_Same.f
  exact Ev.pos rfl (loop a.length 0 rfl (Nat.zero_le _))
theorem parts_same (l : List (List S42)) (hl : Fine l) : Ev (fun k => glyphcutterref10_Same.f k (partsA l) (partsA l)) true := by
  have h1 := parts_len l
  have h2 := hl.2.1
  exact same_ev _ (by omega) (fun p hp => by have := parts_row l p hp; omega)
def sumL (l : List (List S42)) : Nat := l.length + l.flatten.length
theorem sumL_take (l : List (List S42)) (i : Nat) (h : i < l.length) : sumL (l.take (i + 1)) = sumL (l.take i) + 1 + l[i].length := by
  unfold sumL
  rw [List.take_succ_eq_append_getElem h, List.flatten_append, List.length_append, List.length_append]
  simp
  omega
theorem sumL_le (l : List (List S42)) (i : Nat) : sumL (l.take i) ≤ sumL l := by
  unfold sumL
  have := take_flatten_len l i
  have : (l.take i).length ≤ l.length := by rw [List.length_take]; omega
  omega
end
end Go.Proofs.Ytgpkhnkppkepnaa.P
