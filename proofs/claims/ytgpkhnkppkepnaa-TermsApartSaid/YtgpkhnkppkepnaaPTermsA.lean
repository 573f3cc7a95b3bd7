/- terms.Of: what it reckons, as lists. -/
import Derived.Test.YtgpkhnkppkepnaaPx0
import Derived.Test.YtgpkhnkppkepnaaPx12
import Derived.Test.YtgpkhnkppkepnaaGBase
import Derived.Test.YtgpkhnkppkepnaaGEdges
import Derived.Test.YtgpkhnkppkepnaaGHas
import Derived.Test.YtgpkhnkppkepnaaGMapH
import Derived.Test.YtgpkhnkppkepnaaGNorm
import Derived.Test.YtgpkhnkppkepnaaGRowsO
import Derived.Test.YtgpkhnkppkepnaaPBase
namespace Go.Proofs.Ytgpkhnkppkepnaa.P
set_option linter.unusedVariables false
set_option linter.unusedSimpArgs false
section
open Go.RowKit Go.Shelf Go.Proofs.YtgpkhnkppkepnaaW.PrintWords Go.Proofs.YtgpkhnkppkepnaaW.PrintLast Go.Proofs.YtgpkhnkppkepnaaW.PrintMore
/-- In which sets a number is. -/
def wordN (l : List (List S42)) (r : Int) : List Int := l.map fun s => if hasP s r then 1 else 0
def wordP (l : List (List S42)) (r : Int) : ByteArray := if l.any (fun s => hasP s r) then strOfNums (wordN l r) else ⟨#[]⟩
abbrev PartA := List (ByteArray × List S42)
def keysA (out : PartA) : List (List UInt8) := out.map fun p => p.1.data.toList
def rowsA (out : PartA) : List (List S42) := out.map fun p => p.2
/-- A span more of a word. -/
def stepA (out : PartA) (w : ByteArray) (x : S42) : PartA :=
  if w.data.toList = [] then out
  else match (keysA out).findIdx? (· == w.data.toList) with
    | some k => out.set k (w, (rowsA out).getD k [] ++ [x])
    | none => out ++ [(w, [x])]
def accA (sets : List (List S42)) (es : List Int) : Nat → PartA
  | 0 => []
  | i + 1 => stepA (accA sets es i) (wordP sets (rd es i)) ⟨rd es i, rd es (i + 1 : Nat) - 1⟩
def setsA (l : List (List S42)) : List (List S42) := l.map normP
def edgesA (l : List (List S42)) : List Int := risI (endsL (setsA l))
def partsA (l : List (List S42)) : List (List S42) := (rowsA (accA (setsA l) (edgesA l) ((edgesA l).length - 1))).map normP
def terms_Of.f (l0 : List (List S42)) : Option (List (List S42)) := if l0.length ≤ 1000 ∧ l0.flatten.length ≤ 10000 then some (partsA l0) else none
theorem keysA_length (out : PartA) : (keysA out).length = out.length := by simp [keysA]
theorem rowsA_length (out : PartA) : (rowsA out).length = out.length := by simp [rowsA]
theorem stepA_nil {out : PartA} {w : ByteArray} {x : S42} (h : w.data.toList = []) : stepA out w x = out := by unfold stepA; rw [if_pos h]
theorem stepA_old {out : PartA} {w : ByteArray} {x : S42} {k : Nat} (h : ¬ w.data.toList = []) (hk : (keysA out).findIdx? (· == w.data.toList) = some k) : stepA out w x = out.set k (w, (rowsA out).getD k [] ++ [x]) := by
  unfold stepA; rw [if_neg h, hk]
theorem stepA_new {out : PartA} {w : ByteArray} {x : S42} (h : ¬ w.data.toList = []) (hk : (keysA out).findIdx? (· == w.data.toList) = none) : stepA out w x = out ++ [(w, [x])] := by
  unfold stepA; rw [if_neg h, hk]
theorem stepA_len (out : PartA) (w : ByteArray) (x : S42) : (stepA out w x).length ≤ out.length + 1 := by
  unfold stepA
  split
  · omega
  · split <;> simp
theorem accA_len (sets : List (List S42)) (es : List Int) : ∀ i, (accA sets es i).length ≤ i
  | 0 => by simp [accA]
  | i + 1 => by have h1 := accA_len sets es i; have h2 := stepA_len (accA sets es i) (wordP sets (rd es i)) ⟨rd es i, rd es (i + 1 : Nat) - 1⟩; show (stepA _ _ _).length ≤ _; omega
theorem stepA_row {out : PartA} {w : ByteArray} {x : S42} {n : Nat} (h : ∀ p ∈ out, p.2.length ≤ n) : ∀ p ∈ stepA out w x, p.2.length ≤ n + 1 := by
  intro p hp
  unfold stepA at hp
  split at hp
  · have := h p hp; omega
  · split at hp
    · rename_i k hk
      rcases List.mem_or_eq_of_mem_set hp with hp | rfl
      · have := h p hp; omega
      · simp only [List.length_append, List.length_singleton]
        rw [List.getD_eq_getElem?_getD]
        unfold rowsA
        rw [List.getElem?_map]
        cases hq : out[k]? with
        | none => simp
        | some q => have := h q (List.mem_of_getElem? hq); simp; omega
    · rcases List.mem_append.1 hp with hp | hp
      · have := h p hp; omega
      · rw [List.mem_singleton] at hp; subst hp; simp
theorem accA_row (sets : List (List S42)) (es : List Int) : ∀ i, ∀ p ∈ accA sets es i, p.2.length ≤ i
  | 0 => by simp [accA]
  | i + 1 => stepA_row (accA_row sets es i)
theorem rowsA_row (sets : List (List S42)) (es : List Int) (i : Nat) : ∀ s ∈ rowsA (accA sets es i), s.length ≤ i := by
  intro s hs
  obtain ⟨p, hp, rfl⟩ := List.mem_map.1 hs
  exact accA_row sets es i p hp
theorem setsA_flat (l : List (List S42)) : (setsA l).flatten.length ≤ 2 * l.flatten.length := by
  induction l with
  | nil => simp [setsA]
  | cons s l ih =>
    have h1 := normP_len s
    have h2 : (setsA (s :: l)).flatten = normP s ++ (setsA l).flatten := by simp [setsA]
    rw [h2, List.flatten_cons, List.length_append, List.length_append]
    omega
theorem ends_len (l : List S42) : (l.flatMap endsP).length = 2 * l.length := by
  induction l with
  | nil => rfl
  | cons a l ih => rw [List.flatMap_cons, List.length_append, ih, List.length_cons]; simp [endsP]; omega
theorem edgesA_len (l : List (List S42)) : (edgesA l).length ≤ 4 * l.flatten.length := by
  have h1 := risI_len (endsL (setsA l))
  have h2 := ends_len (setsA l).flatten
  have h3 := setsA_flat l
  unfold edgesA endsL at *
  omega
theorem normP_bd (l : List S42) : ∀ x ∈ normP l, Bd x := by
  unfold normP
  exact bd_foldl _ [] (bd_perm (sortLo_perm (l.flatMap pieces)) rfl) (fun x hx => by simp at hx)
theorem setsA_bd (l : List (List S42)) : ∀ s ∈ setsA l, ∀ x ∈ s, Bd x := by
  intro s hs x hx
  obtain ⟨t, ht, rfl⟩ := List.mem_map.1 hs
  exact normP_bd t x hx
theorem edgesA_bd (l : List (List S42)) : ∀ x ∈ edgesA l, 0 ≤ x ∧ x ≤ 1114112 := by
  intro x hx
  unfold edgesA endsL at hx
  rw [mem_risI, List.mem_flatMap] at hx
  obtain ⟨y, hy, hx⟩ := hx
  obtain ⟨s, hs, hy⟩ := List.mem_flatten.1 hy
  obtain ⟨b1, b2, b3⟩ := setsA_bd l s hs y hy
  unfold endsP at hx
  simp only [List.mem_cons, List.not_mem_nil, or_false] at hx
  rcases hx with rfl | rfl <;> omega
theorem rd_mem (l : List Int) (j : Nat) (h : j < l.length) : rd l j ∈ l := by
  unfold rd
  rw [Int.toNat_natCast, List.getD_eq_getElem?_getD, List.getElem?_eq_getElem h]
  exact List.getElem_mem h
theorem rowsA_set (out : PartA) (k : Nat) (w : ByteArray) (ys : List S42) : rowsA (out.set k (w, ys)) = (rowsA out).set k ys := by unfold rowsA; rw [List.map_set]
theorem rowsA_snoc (out : PartA) (w : ByteArray) (ys : List S42) : rowsA (out ++ [(w, ys)]) = rowsA out ++ [ys] := by unfold rowsA; rw [List.map_append]; rfl
theorem keysA_set {out : PartA} {k : Nat} {w : ByteArray} {ys : List S42} (h : (keysA out)[k]? = some w.data.toList) : keysA (out.set k (w, ys)) = keysA out := by
  unfold keysA
  rw [List.map_set]
  apply List.ext_getElem?
  intro i
  by_cases hi : i = k
  · subst hi
    have hl : i < (out.map fun p => p.1.data.toList).length := (List.getElem?_eq_some_iff.1 h).1
    rw [List.getElem?_set_self hl]
    exact h.symm
  · rw [List.getElem?_set_ne (fun e => hi e.symm)]
theorem keysA_snoc (out : PartA) (w : ByteArray) (ys : List S42) : keysA (out ++ [(w, ys)]) = keysA out ++ [w.data.toList] := by unfold keysA; rw [List.map_append]; rfl
theorem wordN_take (l : List (List S42)) (r : Int) (i : Nat) (h : i < l.length) (b : Int) (hb : b = if hasP (rd_L2 l i) r then 1 else 0) :
    ((wordN l r).take i ++ List.replicate (l.length - i) 0).set i b = (wordN l r).take (i + 1) ++ List.replicate (l.length - (i + 1)) 0 := by
  have hl : (wordN l r).length = l.length := by simp [wordN]
  have hrep : List.replicate (l.length - i) (0 : Int) = 0 :: List.replicate (l.length - (i + 1)) 0 := by
    rw [show l.length - i = (l.length - (i + 1)) + 1 by omega]; rfl
  have hget : (wordN l r)[i]'(by omega) = b := by
    rw [hb]
    simp [wordN, rd_L2, List.getElem?_eq_getElem h]
  rw [hrep, List.take_succ_eq_append_getElem (by omega), hget, List.set_append_right _ _ (by rw [List.length_take]; omega), List.length_take, Nat.min_eq_left (by omega), Nat.sub_self, List.set_cons_zero, List.append_assoc]
  rfl
theorem word_loop (l : List (List S42)) (r : Int) (hl : l.length ≤ 1000) : ∀ d i : Nat, l.length - i = d → i ≤ l.length →
    Ev (fun k => terms_word.l0 k r ((wordN l r).take i ++ List.replicate (l.length - i) 0) ((l.take i).any fun s => hasP s r) l (l.length : Int) (i : Int)) (wordP l r) := by
  intro d
  induction d with
  | zero =>
    intro i hd hi
    obtain rfl : i = l.length := by omega
    rw [List.take_of_length_le (Nat.le_refl _), List.take_of_length_le (by simp [wordN]), Nat.sub_self, List.replicate_zero, List.append_nil]
    refine Ev.step (fun k => by rw [terms_word.l0]) ?_
    refine Ev.neg (by omega) ?_
    unfold wordP
    cases l.any (fun s => hasP s r) with
    | true => exact Ev.pos rfl (Ev.now _)
    | false => exact Ev.neg (by decide) (Ev.now _)
  | succ d ih =>
    intro i hd hi
    have hlt : i < l.length := by omega
    have nx := ih (i + 1) (by omega) (by omega)
    have hw := wordN_take l r i hlt
    have hany : ((l.take (i + 1)).any fun s => hasP s r) = (((l.take i).any fun s => hasP s r) || hasP (rd_L2 l i) r) := by
      rw [List.take_succ_eq_append_getElem hlt, List.any_append]
      simp [rd_L2, List.getElem?_eq_getElem hlt]
    have hlen : ((wordN l r).take i ++ List.replicate (l.length - i) 0).length = l.length := by
      rw [List.length_append, List.length_take, List.length_replicate]; simp [wordN]; omega
    refine Ev.step (fun k => by rw [terms_word.l0]) ?_
    refine Ev.pos (by omega) ?_
    refine Ev.pos (by omega) ?_
    refine Ev.pos (by omega) ?_
    refine Ev.bindc (a := hasP (rd_L2 l i) r) rfl ?_
    have hwr : wrap64 ((i : Int) + 1) = ((i + 1 : Nat) : Int) := by rw [wrap_in (by omega) (by omega)]; rfl
    cases hh : hasP (rd_L2 l i) r with
    | true =>
      rw [hh] at hw hany
      have h2 := hw 1 (by rw [if_pos rfl])
      refine Ev.pos rfl (Ev.pos (by rw [hlen]; omega) ?_)
      rw [Int.toNat_natCast, h2, hwr]
      rw [hany, Bool.or_true] at nx
      exact nx
    | false =>
      rw [hh] at hw hany
      have h2 := hw 0 (by rw [if_neg (by decide)])
      refine Ev.neg (by decide) ?_
      rw [hwr]
      rw [hany, Bool.or_false] at nx
      have h3 : ((wordN l r).take i ++ List.replicate (l.length - i) 0).set i 0 = (wordN l r).take i ++ List.replicate (l.length - i) 0 := by
        apply List.ext_getElem?
        intro j
        by_cases hj : j = i
        · subst hj
          rw [List.getElem?_set_self (by omega), List.getElem?_append_right (by rw [List.length_take]; omega), List.length_take, Nat.min_eq_left (by simp [wordN]; omega), Nat.sub_self, List.getElem?_replicate, if_pos (by omega)]
        · rw [List.getElem?_set_ne (fun e => hj e.symm)]
      rw [h3] at h2
      rw [h2]
      exact nx
theorem word_ev (l : List (List S42)) (r : Int) (hl : l.length ≤ 1000) : Ev (fun k => terms_word.f k l r) (wordP l r) := by
  have := word_loop l r hl l.length 0 (by omega) (by omega)
  unfold terms_word.f
  refine Ev.pos (by omega) (Ev.pos (by omega) ?_)
  simpa using this
theorem word_size (l : List (List S42)) (r : Int) (hl : l.length ≤ 1000) : (wordP l r).size ≤ 1000 := by
  unfold wordP
  split
  · rw [strOfNums_size]; simp [wordN]; exact hl
  · decide
end
end Go.Proofs.Ytgpkhnkppkepnaa.P
