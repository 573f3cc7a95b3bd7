/- terms.edges: the walk. -/
import Derived.Test.YtgpkhnkppkepnaaPx0
import Derived.Test.YtgpkhnkppkepnaaGBase
import Derived.Test.YtgpkhnkppkepnaaGHas
import Derived.Test.YtgpkhnkppkepnaaGMapH
import Derived.Test.YtgpkhnkppkepnaaGNorm
import Derived.Test.YtgpkhnkppkepnaaPBase
import Derived.Test.YtgpkhnkppkepnaaIter
import Derived.Shelf.SlIterI.Nil
import Derived.Shelf.SortM.Plain
import Derived.Shelf.SortM.SortNone
import Derived.Maps.Own
import Derived.Maps.OwnOps
import Derived.Maps.OwnSet
import Derived.OwnWalkIn
import Derived.TacticsInMore
import Derived.Outline
import Derived.Lib.SlKeysI
namespace Go.Proofs.Ytgpkhnkppkepnaa.P
set_option linter.unusedVariables false
set_option linter.unusedSimpArgs false
section
open Go.RowKit Go.Proofs.YtgpkhnkppkepnaaW.PrintWords Go.Proofs.YtgpkhnkppkepnaaW.PrintLast Go.Proofs.YtgpkhnkppkepnaaW.PrintMore
theorem hasP_iff (l : List S42) (r : Int) : hasP l r = true ↔ Scal r ∧ mem l r := by
  unfold hasP Scal mem
  simp only [Bool.and_eq_true, decide_eq_true_eq, List.any_eq_true]
  constructor
  · rintro ⟨h1, h2⟩; exact ⟨by omega, h2⟩
  · rintro ⟨h1, h2⟩; exact ⟨by omega, h2⟩
end
section
open Go.RowKit Go.Proofs.YtgpkhnkppkepnaaW.PrintWords Go.Proofs.YtgpkhnkppkepnaaW.PrintLast Go.Proofs.YtgpkhnkppkepnaaW.PrintMore
/-- The set of those that p tells. -/
def Is (l : List S42) (p : Int → Prop) : Prop := Nf l ∧ ∀ r, mem l r ↔ Scal r ∧ p r
theorem Is.has {a : List S42} {p : Int → Prop} (ha : Is a p) (r : Int) : hasP a r = true ↔ Scal r ∧ p r := by rw [hasP_iff, ha.2]; exact ⟨fun h => h.2, fun h => ⟨h.1, h⟩⟩
end
section
open Go.RowKit Go.Shelf Go.Maps Go.Sort Go.Proofs.YtgpkhnkppkepnaaW.PrintWords Go.Proofs.YtgpkhnkppkepnaaW.PrintLast Go.Proofs.YtgpkhnkppkepnaaW.PrintMore
def insI (x : Int) : List Int → List Int
  | [] => [x]
  | y :: ys => if x < y then x :: y :: ys else if x = y then y :: ys else y :: insI x ys
theorem mem_insI (x z : Int) : ∀ l : List Int, z ∈ insI x l ↔ z = x ∨ z ∈ l
  | [] => by simp [insI]
  | y :: ys => by
    unfold insI
    split
    · simp
    · split
      · rename_i h; subst h; simp
      · rw [List.mem_cons, mem_insI x z ys, List.mem_cons]
        constructor
        · rintro (h | h | h) <;> simp [h]
        · rintro (h | h | h) <;> simp [h]
theorem insI_up (x : Int) : ∀ l : List Int, l.Pairwise (· < ·) → (insI x l).Pairwise (· < ·)
  | [], _ => by simp [insI]
  | y :: ys, h => by
    obtain ⟨h1, h2⟩ := List.pairwise_cons.1 h
    unfold insI
    split
    · rename_i hxy
      refine List.pairwise_cons.2 ⟨fun z hz => ?_, h⟩
      rcases List.mem_cons.1 hz with rfl | hz
      · exact hxy
      · have := h1 z hz; omega
    · split
      · exact h
      · refine List.pairwise_cons.2 ⟨fun z hz => ?_, insI_up x ys h2⟩
        rcases (mem_insI x z ys).1 hz with rfl | hz
        · omega
        · exact h1 z hz
def risI (l : List Int) : List Int := l.foldr insI []
theorem mem_risI (z : Int) (l : List Int) : z ∈ risI l ↔ z ∈ l := by
  induction l with
  | nil => simp [risI]
  | cons a l ih => show z ∈ insI a (risI l) ↔ _; rw [mem_insI, ih, List.mem_cons]
theorem risI_up (l : List Int) : (risI l).Pairwise (· < ·) := by
  induction l with
  | nil => exact List.Pairwise.nil
  | cons a l ih => exact insI_up a _ ih
theorem insI_len (x : Int) : ∀ l : List Int, (insI x l).length ≤ l.length + 1
  | [] => by simp [insI]
  | y :: ys => by
    have := insI_len x ys
    unfold insI
    split
    · simp
    · split <;> simp <;> omega
theorem risI_len (l : List Int) : (risI l).length ≤ l.length := by
  induction l with
  | nil => simp [risI]
  | cons a l ih => have := insI_len a (risI l); show (insI a (risI l)).length ≤ _; simp only [List.length_cons]; omega
theorem risI_sort {ss : List Int} {l : List Int} (h : ss.Perm (risI l)) : ss.mergeSort (fun x y => decide (x ≤ y)) = risI l := by
  have h1 : ss.mergeSort leI = (risI l).mergeSort leI := mergeSort_of_perm_i h
  show ss.mergeSort leI = risI l
  rw [h1]
  refine List.mergeSort_of_pairwise ((risI_up l).imp fun {a b} h => ?_)
  simp only [leI, decide_eq_true_eq]
  omega
/-- Where spans begin, or have ended. -/
def endsP (x : S42) : List Int := [x.f0, x.f1 + 1]
def endsL (l : List (List S42)) : List Int := l.flatten.flatMap endsP
/-- What the map has. -/
def HasL {H : Type} (D : DataW H) (L : List Int) : Prop := ∀ x : Int, Maps.has D (.int .i64 x) = true ↔ x ∈ L
theorem HasL.nil {H : Type} : HasL (.map [] : DataW H) [] := fun x => by simp [Maps.has_eq]
theorem lit_int (x : Int) : WideAt.IsKeyLit (.int .i64 x) := by first | trivial | simp [WideAt.IsKeyLit]
theorem HasL.put {H : Type} {D : DataW H} {L : List Int} (hD : IsMap D) (h : HasL D L) (x : Int) (d : DataW H) : HasL (D.put (.int .i64 x) d) (L ++ [x]) := fun y => by
  by_cases e : y = x
  · subst e
    rw [Maps.has_put_same hD (lit_int y)]
    simp
  · rw [Maps.has_put_other (fun e2 => e (by injection e2)), h y]
    simp [e]
theorem has_perm {H : Type} {P : Program} {k : TypeId} {R : Value → Option (DataW H × List MemPlace)} {w : World} {b n : Nat} {D : DataW H} {L : List Int} (h : HasL D L) (hown : w.ownsMap P k R b n D) (K : Keyed P k) (hk : P.underlying k = some (.int .i64)) : (risI L).Perm (intKeys D) := by
  refine CollectedI.perm (left := fun _ => false) ⟨((risI_up L).imp fun {a b} h => by omega), fun x => ?_⟩ hown K hk (fun _ => rfl)
  rw [mem_risI, h x]
  simp
theorem law_int : Keyed Try.prog 3 := int_keyed Try.underlying3
theorem zero_int (w : World) : (zeroValue 3).run Try.prog w = .ok (.int .i64 0) w := by kernel_rfl
theorem sortsI (m : Nat) : AnyZI.SortsIn Try.prog Try.sortedI_ren Fence.wide m :=
  ⟨fun blk off cap ss W hH hblk hsz => callsIn_wide.2 (AnyM.slices_Sort_int Try.sortI blk off cap ss W hH hblk hsz),
   fun p cap W => callsIn_wide.2 (AnyM.slices_Sort_int_none Try.sortI p cap W)⟩
theorem keysI_calls (mb : Option Nat) (W : World) : Calls Try.prog 46 #[.map mb] W fun e w' => e = .returned (.func (.func 57) #[] #[.pointer (some ⟨W.heap.size, 0, none⟩)]) ∧ W.alloc (.cells #[.map mb] 66) = w' :=
  (callsIn_wide.1 (AnyZI.keys_in Try.keysI Fence.wide 5 trivial rfl mb W)).mono fun e w' ⟨h1, h2⟩ => ⟨h1, h2.symm⟩
set_option maxHeartbeats 1000000 in
theorem sortedI_calls {H : Type} (b nn : Nat) (D0 : DataW H) (R : Value → Option (DataW H × List MemPlace)) (w : World) (hown : w.ownsMap Try.prog 3 R b nn D0) (hmax : Maps.size D0 ≤ maxLen) (hbytes : Maps.size D0 * 8 ≤ 140737488355328) :
    Calls Try.prog 45 #[.func (.func 57) #[] #[.pointer (some ⟨w.heap.size, 0, none⟩)]] (w.alloc (.cells #[.map (some b)] 66)) fun e w' => ∃ (v : Value) (ss : List Int), e = .returned v ∧ ss.Perm (intKeys D0) ∧
      w'.ownsRow (w.alloc (.cells #[.map (some b)] 66)).heap.size 3 1 v ss.length ((ss.mergeSort (fun x y => decide (x ≤ y))).map encZ) ∧ (v = .slice none 0 0 ↔ ss = []) ∧ Below (w.alloc (.cells #[.map (some b)] 66)).heap.size (w.alloc (.cells #[.map (some b)] 66)) w' := by
  have hbl := hown.lt
  have hseq : SeqGives Fence.wide 2 Try.prog 57 #[.pointer (some ⟨w.heap.size, 0, none⟩)] encZ (fun ss => ss.Perm (intKeys D0)) (Maps.size D0) (w.alloc (.cells #[.map (some b)] 66)) :=
    AnyZI.keys_gives (ρ := Try.keysI_ren) { Try.keysI with } Fence.wide _ trivial rfl (by omega) w.heap.size b nn D0 _ (by simp) (by simp) (by
      obtain ⟨es, clock, hb, Ft, hs, hD⟩ := hown
      exact ⟨es, clock, (Below.heap_alloc _ _ b hbl).trans hb, Ft, hs, hD⟩)
  exact callsIn_wide.1 (AnyZI.sorted_in Try.sortedI Fence.wide 5 trivial trivial trivial trivial rfl (by omega) (sortsI _) (enters_of Try.func56 (by kernel_rfl) rfl) 57 #[.pointer (some ⟨w.heap.size, 0, none⟩)] trivial (enters_of Try.func57 (by kernel_rfl) rfl) _ _ hmax hbytes _ hseq)
theorem flat_take_succ (l : List (List S42)) (k : Nat) (h : k < l.length) : (l.take (k + 1)).flatten = (l.take k).flatten ++ rd_L2 l k := by
  rw [List.take_succ_eq_append_getElem h, List.flatten_append]
  simp [rd_L2, List.getElem?_eq_getElem h]
theorem ends_snoc (a : List S42) (row : List S42) (j : Nat) (h : j < row.length) : (a ++ row.take (j + 1)).flatMap endsP = (a ++ row.take j).flatMap endsP ++ [(rd_T42 row j).f0] ++ [(rd_T42 row j).f1 + 1] := by
  rw [List.take_succ_eq_append_getElem h, ← List.append_assoc, List.flatMap_append (xs := a ++ row.take j)]
  simp [rd_T42, List.getElem?_eq_getElem h, endsP]
theorem take_flat_len (l : List (List S42)) (k : Nat) : (l.take k).flatten.length ≤ l.flatten.length := by
  have : l.flatten = (l.take k).flatten ++ (l.drop k).flatten := by rw [← List.flatten_append, List.take_append_drop]
  rw [this, List.length_append]; omega
theorem row_mem (l : List (List S42)) (k : Nat) (h : k < l.length) : rd_L2 l k ∈ l := by
  simp [rd_L2, List.getElem?_eq_getElem h]
theorem cell_mem (l : List S42) (k : Nat) (h : k < l.length) : rd_T42 l k ∈ l := by
  simp [rd_T42, List.getElem?_eq_getElem h]
set_option maxRecDepth 100000 in
set_option maxHeartbeats 2000000 in
theorem edges_calls (A0 : Option Addr) (c0 : Nat) (l0 : List (List S42)) (w : World) (hr0 : Kd.C (Kd.slice 42 k42) w A0 l0.length l0) (hc0 : l0.length ≤ c0) (hsz : l0.flatten.length ≤ 1000000) (hbd : ∀ s ∈ l0, ∀ x ∈ s, Bd x) :
    Calls Try.prog 27 #[.slice A0 l0.length c0] w fun e w' => ∃ v : Value, e = .returned v ∧ w'.ownsRow w.heap.size 3 1 v (risI (endsL l0)).length ((risI (endsL l0)).map encZ) ∧ Below w.heap.size w w' := by
  have HR0 := Aside0.mk hr0
  have HBD := Aside0.mk hbd
  have HSZ := Aside0.mk hsz
  have hbig := hr0.2.1
  clear hr0 hbd hsz
  obtain ⟨n, hn⟩ : ∃ n, l0.length = n := ⟨_, rfl⟩
  have HN := Aside0.mk hn
  rw [hn] at hbig hc0 ⊢
  clear hn
  have hmm := @run_makeMap Try.prog
  go_enter Try.func27, Try.ntmps27
  go_wp2
  go_loopw [11] (fun i wr => ∃ (k : Nat) (D : DataW Value), k ≤ n ∧ i = .int .i64 k ∧ Aside0 (wr.ownsMap Try.prog 3 (plainElem Try.prog 3) w.heap.size (2 * (l0.take k).flatten.length) D) ∧ Aside0 (HasL D ((l0.take k).flatten.flatMap endsP)) ∧ Aside0 (Below w.heap.size w wr)) (fun i _ => n - (intOf i).toNat)
  case atStart => exact ⟨0, .map [], Nat.zero_le _, rfl, ⟨World.ownsMap_made _ _ _ _⟩, ⟨HasL.nil⟩, ⟨(Below.refl _ _).alloc (Nat.le_refl _) _⟩⟩
  case round =>
    obtain ⟨k, D, hk, rfl, HM, HH, HB⟩ := hrel
    by_cases hlt : k < n
    · have hltz : (k : Int) < (n : Int) := by omega
      obtain ⟨ad, A1, c1, e1, hx0, hcl, hi0⟩ := at_L2 (by have := HR0.out; rwa [HN.out] at this) (k : Int) (by omega) (by omega)
      cases e1
      simp only [Int.toNat_natCast] at hx0
      replace hx0 := (HB.out.cell (World.block_lt_of_cell? w _ hx0)).trans hx0
      have hkl : k < l0.length := by rw [HN.out]; exact hlt
      have hfl := flat_take_succ l0 k hkl
      have hbr := HBD.out _ (row_mem l0 k hkl)
      have hle := take_flat_len l0 (k + 1)
      have hbm := hi0.2.1
      have HI0 := Aside0.mk hi0
      clear hi0 hkl
      obtain ⟨row, hrow⟩ : ∃ row, rd_L2 l0 k = row := ⟨_, rfl⟩
      rw [hrow] at hx0 hcl hfl hbr hbm HI0
      clear hrow
      obtain ⟨a, ha⟩ : ∃ a, (l0.take k).flatten = a := ⟨_, rfl⟩
      rw [ha] at HM HH hfl
      have hal : a.length + row.length ≤ 1000000 := by
        have h1 := HSZ.out
        rw [hfl, List.length_append] at hle
        omega
      have HFL := Aside0.mk hfl
      have HBRW := Aside0.mk hbr
      clear ha hfl hbr hle
      obtain ⟨m, hm⟩ : ∃ m, row.length = m := ⟨_, rfl⟩
      have HMM := Aside0.mk hm
      rw [hm] at hx0 hcl hbm hal
      clear hm
      obtain ⟨wo, hwo⟩ : ∃ wo : World, wo = wr := ⟨_, rfl⟩
      have HWO := Aside0.mk hwo
      rw [← hwo] at HM HB hx0 ⊢
      clear hwo HWO
      go_wp2
      go_loopw [17] (fun i wr => ∃ (j : Nat) (D' : DataW Value), j ≤ m ∧ i = .int .i64 j ∧ Aside0 (wr.ownsMap Try.prog 3 (plainElem Try.prog 3) w.heap.size (2 * (a.length + j)) D') ∧ Aside0 (HasL D' ((a ++ row.take j).flatMap endsP)) ∧ Aside0 (Below w.heap.size w wr)) (fun i _ => m - (intOf i).toNat)
      case atStart => exact ⟨0, D, Nat.zero_le _, rfl, HM, ⟨by have := HH.out; simpa using this⟩, HB⟩
      case round =>
        obtain ⟨j, D', hj, rfl, HM', HH', HB'⟩ := hrel
        by_cases hjt : j < m
        · have hjtz : (j : Int) < (m : Int) := by omega
          obtain ⟨ad2, e2, hy0, hy1⟩ := at_T42 (by have := HI0.out; rwa [HMM.out] at this) (j : Int) (by omega) (by omega)
          cases e2
          simp only [Int.toNat_natCast] at hy0 hy1
          replace hy0 := (HB'.out.cell (World.block_lt_of_cell? w _ hy0)).trans hy0
          replace hy1 := (HB'.out.cell (World.block_lt_of_cell? w _ hy1)).trans hy1
          have hjl : j < row.length := by rw [HMM.out]; exact hjt
          have hbx := HBRW.out _ (cell_mem row j hjl)
          have hes := ends_snoc a row j hjl
          obtain ⟨x, hx⟩ : ∃ x, rd_T42 row j = x := ⟨_, rfl⟩
          rw [hx] at hy0 hy1 hbx hes
          have HES := Aside0.mk hes
          obtain ⟨b1, b2, b3⟩ := hbx
          clear hx hes hjl
          obtain ⟨x0, x1⟩ := x
          simp only at hy0 hy1 b1 b2 b3 HES
          have hk0 : keyOf Try.prog 3 (.int .i64 x0) = some (.int .i64 x0) := keyOf_int_mk Try.underlying3 (WalkArith.wf_i64 (by omega))
          have hk1 : keyOf Try.prog 3 (.int .i64 (x1 + 1)) = some (.int .i64 (x1 + 1)) := keyOf_int_mk Try.underlying3 (WalkArith.wf_i64 (by omega))
          have hbs := HM'.out.lt
          have tok1 : True := trivial
          have HMa := Aside0.mk (HM'.out.alloc (.cells #[.int .i64 x0, .int .i64 x1] 42))
          go_wp2_with (first
            | (at_lookup; have q_ := tok1; clear q_; refine wpList_lookup_own_int _ rfl _ _ 66 rfl 3 3 .i64 law_int Try.underlying66 Try.underlying3 (zero_int _) w.heap.size _ _ rfl HMa.out _ _ rfl hk0 ?_; intro cA hatA hwA; clear tok1)
            | (at_lookup; refine wpList_lookup_own_int _ rfl _ _ 66 rfl 3 3 .i64 law_int Try.underlying66 Try.underlying3 (zero_int _) w.heap.size _ _ rfl HMb.out _ _ rfl hk1 ?_; intro cB hatB hwB)
            | (at_mapUpdate; refine wpList_mapUpdate_own _ rfl _ _ _ 66 rfl 3 3 law_int Try.underlying66 _ w.heap.size _ _ rfl HMa.out (by unfold maxLen; omega) _ _ _ rfl rfl hk0 _ [] (plainElem_int Try.underlying3 (wrap64_wf _)) ?_; intro wA hownA hgrowA; have HMb := Aside0.mk hownA; have HGA := Aside0.mk hgrowA; have hvA := hgrowA.cell_far ⟨wr.heap.size, 1, none⟩ (by simp) (by simp; omega); clear hownA hgrowA HMa)
            | (at_mapUpdate; refine wpList_mapUpdate_own _ rfl _ _ _ 66 rfl 3 3 law_int Try.underlying66 _ w.heap.size _ _ rfl HMb.out (by unfold maxLen; omega) _ _ _ rfl rfl hk1 _ [] (plainElem_int Try.underlying3 (wrap64_wf _)) ?_; intro wB hownB hgrowB; have HMc := Aside0.mk hownB; have HGB := Aside0.mk hgrowB; clear hownB hgrowB))
          go_roundw
          case rel =>
            refine ⟨j + 1, _, by omega, by go_num, ⟨HMc.out.mono (by omega)⟩, ⟨?_⟩, ⟨?_⟩⟩
            · rw [HES.out]
              exact (HH'.out.put HM'.out.isMap _ _).put HMb.out.isMap _ _
            · exact ((HB'.out.alloc (by omega) _).grown HGA.out (by simp; omega) (fun j hj => by cases hj; exact Nat.le_refl _)).grown HGB.out (by have := HGA.out.size; simp at this; omega) (fun j hj => by cases hj; exact Nat.le_refl _)
          case measure => simp [intOf]; omega
        · have : j = m := by omega
          subst this
          go_wp2
          go_roundw
          case rel =>
            refine ⟨k + 1, D', by omega, by go_num, ⟨?_⟩, ⟨?_⟩, HB'⟩
            · rw [HFL.out, List.length_append, HMM.out]; exact HM'.out
            · have := HH'.out
              rw [List.take_of_length_le (Nat.le_of_eq HMM.out)] at this
              rw [HFL.out]; exact this
          case measure => simp [intOf]; omega
    · have : k = n := by omega
      subst this
      have hM := HM.out
      have hH := HH.out
      rw [List.take_of_length_le (by rw [HN.out]; exact Nat.le_refl _)] at hM hH
      have hsz := HSZ.out
      have hsl := hM.size_le
      have hpm := has_perm hH hM law_int Try.underlying3
      have HPM := Aside0.mk hpm
      have HML := Aside0.mk hM
      have hsrt := sortedI_calls w.heap.size _ D (plainElem Try.prog 3) wr hM (by unfold maxLen; omega) (by omega)
      have HS := Aside0.mk hsrt
      clear hM hH hsl hpm hsrt HM HH
      go_wp2_with (first
        | (go_at_call 46; refine (keysI_calls _ _).mono ?_; rintro e w' ⟨rfl, rfl⟩)
        | (go_at_call 45; refine HS.out.mono ?_; rintro e w3 ⟨v, ss, rfl, hS, hrow, hnil, hb3⟩))
      go_ret
      have hbs := HB.out.size
      rw [risI_sort (hS.trans HPM.out.symm), (hS.trans HPM.out.symm).length_eq] at hrow
      refine ⟨v, rfl, ownsRow_base_a hrow (by simp; omega), (HB.out.alloc hbs _).trans (hb3.mono (by simp; omega))⟩
end
end Go.Proofs.Ytgpkhnkppkepnaa.P
