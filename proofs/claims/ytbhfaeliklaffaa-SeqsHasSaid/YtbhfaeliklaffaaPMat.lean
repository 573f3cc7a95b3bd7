/- Match and Count of rows, the references', and the chapter's examples. -/
import Derived.Test.YtbhfaeliklaffaaPx0
import Derived.Test.YtbhfaeliklaffaaPx10
import Derived.Test.YtbhfaeliklaffaaPx2
import Derived.Test.YtbhfaeliklaffaaGParts
import Derived.Test.YtbhfaeliklaffaaPBase
import Derived.Test.YtbhfaeliklaffaaPSeq
namespace Go.Proofs.Ytbhfaeliklaffaa.P
set_option linter.unusedVariables false
set_option linter.unusedSimpArgs false
section
open Go.RowKit Go.Proofs.YtbhfaeliklaffaaW.PrintWords Go.Proofs.YtbhfaeliklaffaaW.PrintLast Go.Proofs.YtbhfaeliklaffaaW.PrintMore
theorem rdr_get (l : List S57) (i : Nat) (h : i < l.length) : rd_T57 l (i : Int) = l[i] := by
  unfold rd_T57
  rw [Int.toNat_natCast, List.getD_eq_getElem?_getD, List.getElem?_eq_getElem h]; rfl
theorem rdl_get (l : List (List S57)) (i : Nat) (h : i < l.length) : rd_L5 l (i : Int) = l[i] := by
  unfold rd_L5
  rw [Int.toNat_natCast, List.getD_eq_getElem?_getD, List.getElem?_eq_getElem h]; rfl
/-- One more range of a row, counted. -/
def stepW (a : Int) (r : S57) : Int := wrap64 (a * (mx (wrap64 ((wrap64 ((wrap64 (r.f1)) - (wrap64 (r.f0)))) + 1)) 0))
def cntW (rows : List (List S57)) (n : Int) : Int := rows.foldl (fun n r => wrap64 (n + r.foldl stepW 1)) n
theorem count_1 (x3 : Int) (x9 : List (List S57)) (x10 x11 : Int) (x15 : List S57) (hl : x15.length ≤ 1000000) (r : Int) : ∀ (d j : Nat) (acc : Int), x15.length - j = d → j ≤ x15.length →
    Ev (fun k => seqs_Count.l0 k (wrap64 (x3 + (x15.drop j).foldl stepW acc)) x9 x10 (wrap64 (x11 + 1))) r → Ev (fun k => seqs_Count.l1 k x3 acc x9 x10 x11 x15 (x15.length : Int) (j : Int)) r := by
  intro d
  induction d with
  | zero =>
    intro j acc hd hj h
    rw [List.drop_of_length_le (by omega)] at h
    refine Ev.step (fun k => by rw [seqs_Count.l1]) (Ev.neg (by omega) ?_)
    exact h
  | succ d ih =>
    intro j acc hd hj h
    have hlt : j < x15.length := by omega
    refine Ev.step (fun k => by rw [seqs_Count.l1]) (Ev.pos (by omega) (Ev.pos (by omega) (Ev.pos (by omega) ?_)))
    rw [rdr_get _ j hlt, show wrap64 ((j : Int) + 1) = ((j + 1 : Nat) : Int) from wrap_in (by omega) (by omega)]
    refine ih (j + 1) _ (by omega) (by omega) ?_
    rw [List.drop_eq_getElem_cons hlt, List.foldl_cons] at h
    exact h
theorem count_f (rows : List (List S57)) (hl : rows.length ≤ 2000000) (hr : ∀ r ∈ rows, r.length ≤ 1000000) : Ev (fun k => seqs_Count.f k rows) (cntW rows 0) := by
  have h0 : ∀ (d i : Nat) (n : Int), rows.length - i = d → i ≤ rows.length → Ev (fun k => seqs_Count.l0 k n rows (rows.length : Int) (i : Int)) (cntW (rows.drop i) n) := by
    intro d
    induction d with
    | zero =>
      intro i n hd hi
      rw [List.drop_of_length_le (by omega)]
      refine Ev.step (fun k => by rw [seqs_Count.l0]) (Ev.neg (by omega) ?_)
      exact Ev.now n
    | succ d ih =>
      intro i n hd hi
      have hlt : i < rows.length := by omega
      refine Ev.step (fun k => by rw [seqs_Count.l0]) (Ev.pos (by omega) (Ev.pos (by omega) (Ev.pos (by omega) ?_)))
      rw [rdl_get _ i hlt]
      refine count_1 n rows _ _ _ (hr _ (List.getElem_mem hlt)) _ _ 0 1 rfl (Nat.zero_le _) ?_
      rw [show wrap64 ((i : Int) + 1) = ((i + 1 : Nat) : Int) from wrap_in (by omega) (by omega), List.drop_zero, List.drop_eq_getElem_cons hlt]
      exact ih (i + 1) _ (by omega) (by omega)
  simpa [seqs_Count.f] using h0 _ 0 0 rfl (Nat.zero_le _)
theorem ex_a : ofP [⟨127, 128⟩] = [[⟨127, 127⟩], [⟨194, 194⟩, ⟨128, 128⟩]] := by kernel_rfl
theorem ex_b : ofP [⟨2048, 65535⟩] = [[⟨224, 224⟩, ⟨160, 191⟩, ⟨128, 191⟩], [⟨225, 236⟩, ⟨128, 191⟩, ⟨128, 191⟩], [⟨237, 237⟩, ⟨128, 159⟩, ⟨128, 191⟩], [⟨238, 239⟩, ⟨128, 191⟩, ⟨128, 191⟩]] := by
  have e1 : (normP [⟨2048, 65535⟩]).flatMap sizesP = [⟨2048, 55295⟩, ⟨57344, 65535⟩] := by
    have e0 : ([⟨2048, 65535⟩] : List S43).flatMap pieces = [⟨2048, 55295⟩, ⟨57344, 65535⟩] := by kernel_rfl
    unfold normP sortLo
    rw [e0, List.mergeSort_of_pairwise (by simp)]
    have e2 : (([⟨2048, 55295⟩, ⟨57344, 65535⟩] : List S43).foldl mstep []).flatMap sizesP = [⟨2048, 55295⟩, ⟨57344, 65535⟩] := by kernel_rfl
    exact e2
  have p1 : placeP ⟨2048, 55295⟩ = 4096 := by kernel_rfl
  have p2 : placeP ⟨2048, 4095⟩ = 0 := by kernel_rfl
  have p3 : placeP ⟨4096, 55295⟩ = 53248 := by kernel_rfl
  have p4 : placeP ⟨4096, 53247⟩ = 0 := by kernel_rfl
  have p5 : placeP ⟨53248, 55295⟩ = 0 := by kernel_rfl
  have p6 : placeP ⟨57344, 65535⟩ = 0 := by kernel_rfl
  have cls : ∀ (a b : Int) (l : List S43), 2048 ≤ a ∧ a ≤ b ∧ b ≤ 65535 ∧ (b ≤ 55295 ∨ 57344 ≤ a) → (∀ s ∈ l, Cls s) → ∀ s ∈ (⟨a, b⟩ : S43) :: l, Cls s := fun a b l h hl s hs => by
    rcases List.mem_cons.1 hs with rfl | hs
    · unfold Cls; simp only; omega
    · exact hl s hs
  have c6 := cls 57344 65535 [] (by omega) (fun _ h => by cases h)
  have c5 := cls 53248 55295 _ (by omega) c6
  have q1 := parts_cut (cls 2048 55295 _ (by omega) c6) (by rw [p1]; omega)
  have q3 := parts_cut (cls 4096 55295 _ (by omega) c6) (by rw [p3]; omega)
  have k6 := parts_keep c6 (by rw [p6]; omega)
  have k5 := parts_keep c5 (by rw [p5]; omega)
  have k4 := parts_keep (cls 4096 53247 _ (by omega) c5) (by rw [p4]; omega)
  have k2 := parts_keep (cls 2048 4095 _ (by omega) (cls 4096 55295 _ (by omega) c6)) (by rw [p2]; omega)
  rw [p1] at q1
  rw [p3] at q3
  unfold ofP
  rw [e1]
  have : partsP [⟨2048, 55295⟩, ⟨57344, 65535⟩] = [⟨2048, 4095⟩, ⟨4096, 53247⟩, ⟨53248, 55295⟩, ⟨57344, 65535⟩] := by
    first | (rw [← q1]; simp only [Int.reduceSub] at *; rw [k2, ← q3, k4, k5, k6, parts_nil]) | (rw [q1]; simp only [Int.reduceSub] at *; rw [k2, q3, k4, k5, k6, parts_nil])
  rw [this]
  have e3 : ([⟨2048, 4095⟩, ⟨4096, 53247⟩, ⟨53248, 55295⟩, ⟨57344, 65535⟩] : List S43).map rowP = [[⟨224, 224⟩, ⟨160, 191⟩, ⟨128, 191⟩], [⟨225, 236⟩, ⟨128, 191⟩, ⟨128, 191⟩], [⟨237, 237⟩, ⟨128, 159⟩, ⟨128, 191⟩], [⟨238, 239⟩, ⟨128, 191⟩, ⟨128, 191⟩]] := by kernel_rfl
  exact e3
/-- The chapter's examples hold. -/
theorem known_f : Ev (fun k => glyphcutterlaw03_known.f k) true := by
  unfold glyphcutterlaw03_known.f
  refine Ev.bindc (a := ofP [⟨127, 128⟩]) rfl ?_
  refine Ev.bindc (a := ofP [⟨2048, 65535⟩]) rfl ?_
  rw [ex_a, ex_b]
  refine Ev.pos rfl (Ev.pos (by decide) (Ev.pos rfl (Ev.pos (by decide) (Ev.pos rfl (Ev.pos rfl ?_)))))
  refine Ev.bindc (a := true) rfl (Ev.pos rfl ?_)
  refine Ev.bindc (a := false) rfl (Ev.neg (by simp) ?_)
  refine Ev.bind (count_f _ (by decide) (by decide)) ?_
  have hq : (cntW [[⟨127, 127⟩], [⟨194, 194⟩, ⟨128, 128⟩]] 0 == 2) = true := by kernel_rfl
  rw [hq]
  exact Ev.now true
end
end Go.Proofs.Ytbhfaeliklaffaa.P
