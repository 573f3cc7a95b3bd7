/- props.Names, as a contract in the print's own form. -/
import Derived.Test.YtpcljaidlihafaaPx0
import Derived.Test.YtpcljaidlihafaaGBase
import Derived.Test.YtpcljaidlihafaaGConcat
import Derived.Test.YtpcljaidlihafaaGMapH
import Derived.Test.YtpcljaidlihafaaGProps
import Derived.Test.YtpcljaidlihafaaGProps2
import Derived.Test.YtpcljaidlihafaaPBase
import Derived.Test.YtpcljaidlihafaaIter
import Derived.Shelf.SlIter.Nil
import Derived.Shelf.SortM.Plain
import Derived.Shelf.SortM.SortNone
import Derived.OwnWalkIn
import Derived.TacticsInMore
import Derived.Outline
import Derived.Sort.KeysCollected
namespace Go.Proofs.Ytpcljaidlihafaa.P
set_option linter.unusedVariables false
set_option linter.unusedSimpArgs false
section
open Go.RowKit Go.Shelf Go.Maps Go.Sort Go.Proofs.YtpcljaidlihafaaW.PrintWords Go.Proofs.YtpcljaidlihafaaW.PrintLast Go.Proofs.YtpcljaidlihafaaW.PrintMore
theorem sortsM (m : Nat) : AnyZ.SortsIn Try.prog Try.sortedM_ren Fence.wide m :=
  ⟨fun blk off cap ss W hH hblk hsz => callsIn_wide.2 (AnyM.slices_Sort_string Try.sortM blk off cap ss W hH hblk hsz),
   fun p cap W => callsIn_wide.2 (AnyM.slices_Sort_string_none Try.sortM p cap W)⟩
theorem keysM_calls (mb : Option Nat) (W : World) : Calls Try.prog 25 #[.map mb] W fun e w' => e = .returned (.func (.func 36) #[] #[.pointer (some ⟨W.heap.size, 0, none⟩)]) ∧ W.alloc (.cells #[.map mb] 45) = w' :=
  (callsIn_wide.1 (AnyZ.keys_in Try.keysM Fence.wide 5 trivial rfl mb W)).mono fun e w' ⟨h1, h2⟩ => ⟨h1, h2.symm⟩
set_option maxHeartbeats 1000000 in
theorem sortedKeys_calls {H : Type} (b nn : Nat) (D0 : DataW H) (R : Value → Option (DataW H × List MemPlace)) (w : World) (hown : w.ownsMap Try.prog 9 R b nn D0) (hmax : Maps.size D0 ≤ maxLen) (hbytes : Maps.size D0 * 16 ≤ 140737488355328) :
    Calls Try.prog 24 #[.func (.func 36) #[] #[.pointer (some ⟨w.heap.size, 0, none⟩)]] (w.alloc (.cells #[.map (some b)] 45)) fun e w' => ∃ (v : Value) (ss : List (List UInt8)), e = .returned v ∧ ss.Perm (strKeys D0) ∧
      w'.ownsRow (w.alloc (.cells #[.map (some b)] 45)).heap.size 9 1 v ss.length ((ss.mergeSort (fun x y => decide (x ≤ y))).map encStr) ∧ (v = .slice none 0 0 ↔ ss = []) ∧ Below (w.alloc (.cells #[.map (some b)] 45)).heap.size (w.alloc (.cells #[.map (some b)] 45)) w' := by
  have hbl := hown.lt
  have hseq : SeqGives Fence.wide 2 Try.prog 36 #[.pointer (some ⟨w.heap.size, 0, none⟩)] encStr (fun ss => ss.Perm (strKeys D0)) (Maps.size D0) (w.alloc (.cells #[.map (some b)] 45)) :=
    AnyZ.keys_gives (ρ := Try.keysM_ren) { Try.keysM with } Fence.wide _ trivial rfl (by omega) w.heap.size b nn D0 _ (by simp) (by simp) (by
      obtain ⟨es, clock, hb, Ft, hs, hD⟩ := hown
      exact ⟨es, clock, (Below.heap_alloc _ _ b hbl).trans hb, Ft, hs, hD⟩)
  exact callsIn_wide.1 (AnyZ.sorted_in Try.sortedM Fence.wide 5 trivial trivial trivial trivial rfl (by omega) (sortsM _) (enters_of Try.func35 (by kernel_rfl) rfl) 36 #[.pointer (some ⟨w.heap.size, 0, none⟩)] trivial (enters_of Try.func36 (by kernel_rfl) rfl) _ _ hmax hbytes _ hseq)
def namesL : List (List UInt8) := [[97, 110, 121], [97, 115, 99, 105, 105], [98, 108, 97, 110, 107], [99, 121, 114, 105, 108, 108, 105, 99], [100, 105, 103, 105, 116], [103, 114, 101, 101, 107], [104, 97, 110], [104, 101, 120], [108, 97, 116, 105, 110], [108, 101, 116, 116, 101, 114], [108, 111, 119, 101, 114], [117, 112, 112, 101, 114], [119, 111, 114, 100]]
def namesB : List ByteArray := [⟨#[97, 110, 121]⟩, ⟨#[97, 115, 99, 105, 105]⟩, ⟨#[98, 108, 97, 110, 107]⟩, ⟨#[99, 121, 114, 105, 108, 108, 105, 99]⟩, ⟨#[100, 105, 103, 105, 116]⟩, ⟨#[103, 114, 101, 101, 107]⟩, ⟨#[104, 97, 110]⟩, ⟨#[104, 101, 120]⟩, ⟨#[108, 97, 116, 105, 110]⟩, ⟨#[108, 101, 116, 116, 101, 114]⟩, ⟨#[108, 111, 119, 101, 114]⟩, ⟨#[117, 112, 112, 101, 114]⟩, ⟨#[119, 111, 114, 100]⟩]
def props_Names.f : Option (List ByteArray) := some namesB
theorem keys13 (v1 v2 v3 v4 v5 v6 v7 v8 v9 v10 v11 v12 v13 : Value) : strKeys (datD (.map []) [([97, 110, 121], v1), ([97, 115, 99, 105, 105], v2), ([98, 108, 97, 110, 107], v3), ([99, 121, 114, 105, 108, 108, 105, 99], v4), ([100, 105, 103, 105, 116], v5), ([103, 114, 101, 101, 107], v6), ([104, 97, 110], v7), ([104, 101, 120], v8), ([108, 97, 116, 105, 110], v9), ([108, 111, 119, 101, 114], v10), ([117, 112, 112, 101, 114], v11), ([108, 101, 116, 116, 101, 114], v12), ([119, 111, 114, 100], v13)]) = namesL := by kernel_rfl
theorem size13 (v1 v2 v3 v4 v5 v6 v7 v8 v9 v10 v11 v12 v13 : Value) : Maps.size (datD (.map []) [([97, 110, 121], v1), ([97, 115, 99, 105, 105], v2), ([98, 108, 97, 110, 107], v3), ([99, 121, 114, 105, 108, 108, 105, 99], v4), ([100, 105, 103, 105, 116], v5), ([103, 114, 101, 101, 107], v6), ([104, 97, 110], v7), ([104, 101, 120], v8), ([108, 97, 116, 105, 110], v9), ([108, 111, 119, 101, 114], v10), ([117, 112, 112, 101, 114], v11), ([108, 101, 116, 116, 101, 114], v12), ([119, 111, 114, 100], v13)]) = 13 := by kernel_rfl
theorem thirteen {E : List (List UInt8 × Value)} {w : World} (h : RowsOk w E) : ∃ v1 v2 v3 v4 v5 v6 v7 v8 v9 v10 v11 v12 v13 : Value, E = [([97, 110, 121], v1), ([97, 115, 99, 105, 105], v2), ([98, 108, 97, 110, 107], v3), ([99, 121, 114, 105, 108, 108, 105, 99], v4), ([100, 105, 103, 105, 116], v5), ([103, 114, 101, 101, 107], v6), ([104, 97, 110], v7), ([104, 101, 120], v8), ([108, 97, 116, 105, 110], v9), ([108, 111, 119, 101, 114], v10), ([117, 112, 112, 101, 114], v11), ([108, 101, 116, 116, 101, 114], v12), ([119, 111, 114, 100], v13)] := by
  obtain ⟨h1, h2⟩ := h
  match E, h1, h2 with
  | [(n1, v1), (n2, v2), (n3, v3), (n4, v4), (n5, v5), (n6, v6), (n7, v7), (n8, v8), (n9, v9), (n10, v10), (n11, v11), (n12, v12), (n13, v13)], _, h2 =>
    have e : ∀ (i : Nat) (p : List UInt8 × Value) (q : List UInt8 × List S39), _ → allL[i]? = some q → p.1 = q.1 := fun i p q hp hq => (h2 i p q hp hq).1
    refine ⟨v1, v2, v3, v4, v5, v6, v7, v8, v9, v10, v11, v12, v13, ?_⟩
    obtain rfl : n1 = [97, 110, 121] := e 0 _ _ rfl rfl
    obtain rfl : n2 = [97, 115, 99, 105, 105] := e 1 _ _ rfl rfl
    obtain rfl : n3 = [98, 108, 97, 110, 107] := e 2 _ _ rfl rfl
    obtain rfl : n4 = [99, 121, 114, 105, 108, 108, 105, 99] := e 3 _ _ rfl rfl
    obtain rfl : n5 = [100, 105, 103, 105, 116] := e 4 _ _ rfl rfl
    obtain rfl : n6 = [103, 114, 101, 101, 107] := e 5 _ _ rfl rfl
    obtain rfl : n7 = [104, 97, 110] := e 6 _ _ rfl rfl
    obtain rfl : n8 = [104, 101, 120] := e 7 _ _ rfl rfl
    obtain rfl : n9 = [108, 97, 116, 105, 110] := e 8 _ _ rfl rfl
    obtain rfl : n10 = [108, 111, 119, 101, 114] := e 9 _ _ rfl rfl
    obtain rfl : n11 = [117, 112, 112, 101, 114] := e 10 _ _ rfl rfl
    obtain rfl : n12 = [108, 101, 116, 116, 101, 114] := e 11 _ _ rfl rfl
    obtain rfl : n13 = [119, 111, 114, 100] := e 12 _ _ rfl rfl
    rfl
theorem names_sort {ss : List (List UInt8)} (h : ss.Perm namesL) : ss.mergeSort (fun x y => decide (x ≤ y)) = namesL := by
  have h1 : ss.mergeSort leB = namesL.mergeSort leB := mergeSort_of_perm h
  show ss.mergeSort leB = namesL
  rw [h1]
  exact List.mergeSort_of_pairwise (by unfold namesL; decide)
set_option maxHeartbeats 1000000 in
theorem props_Names.calls (r : List ByteArray) (w : World) (h : props_Names.f = some r) : Calls Try.prog 11 #[] w fun e w' => ∃ v0_ : Value, e = .returned (v0_) ∧ Kd.R Kd.string 9 w' w.heap.size (fun _ => True) v0_ r ∧ Below w.heap.size w w' := by
  obtain rfl := Option.some.inj h
  clear h
  go_enter Try.func11, Try.ntmps11
  go_wp2_with (first
    | (go_at_call 26; refine (all_calls _).mono ?_; rintro e w1 ⟨E, rfl, hM, hR, hb1⟩)
    | (go_at_call 25; refine (keysM_calls _ _).mono ?_; rintro e w' ⟨rfl, rfl⟩)
    | (go_at_call 24; obtain ⟨v1, v2, v3, v4, v5, v6, v7, v8, v9, v10, v11, v12, v13, rfl⟩ := thirteen hR; refine (sortedKeys_calls w.heap.size 13 _ RH w1 hM (by rw [size13]; decide) (by rw [size13]; decide)).mono ?_; rintro e w3 ⟨v, ss, rfl, hS, hrow, hnil, hb3⟩))
  go_ret
  rw [keys13] at hS
  rw [names_sort hS, hS.length_eq] at hrow
  refine ⟨v, rfl, Kd.R_lower (Kd.R_of_own (xs := namesB) hrow (fun _ _ => trivial)) ?_, ?_⟩
  · have := hb1.size; simp; omega
  · exact (hb1.alloc hb1.size _).trans (hb3.mono (by have := hb1.size; simp; omega))
end
end Go.Proofs.Ytpcljaidlihafaa.P
