/- ref03.Of and ref03.Same: the plain side. -/
import Derived.Test.YtbhfaeliklaffaaPx0
import Derived.Test.YtbhfaeliklaffaaPx15
import Derived.Test.YtbhfaeliklaffaaPx5
import Derived.Test.YtbhfaeliklaffaaPx11
import Derived.Test.YtbhfaeliklaffaaGCut
import Derived.Test.YtbhfaeliklaffaaGNorm
import Derived.Test.YtbhfaeliklaffaaGParts
import Derived.Test.YtbhfaeliklaffaaPBase
import Derived.Test.YtbhfaeliklaffaaPLaw3
import Derived.Test.YtbhfaeliklaffaaPMat
import Derived.Test.YtbhfaeliklaffaaPRowAll
import Derived.Test.YtbhfaeliklaffaaPSeq
namespace Go.Proofs.Ytbhfaeliklaffaa.P
set_option linter.unusedVariables false
set_option linter.unusedSimpArgs false
section
open Go.RowKit Go.Proofs.YtbhfaeliklaffaaW.PrintWords Go.Proofs.YtbhfaeliklaffaaW.PrintLast Go.Proofs.YtbhfaeliklaffaaW.PrintMore
/-- The rows of some spans. -/
def rowsP (l : List S43) : List (List S57) := (partsP l).map rowP
theorem parts_flat (l : List S43) (h : ∀ s ∈ l, Ok s) : partsP (l.flatMap sizesP) = l.flatMap fun s => partsP (sizesP s) := by
  induction l with
  | nil => rfl
  | cons s l ih =>
    have h2 : ∀ x ∈ l, Ok x := fun x hx => h x (List.mem_cons_of_mem _ hx)
    rw [List.flatMap_cons, parts_append _ _ (fun x hx => sizes_cls (h s List.mem_cons_self) hx) (flat_cls h2), ih h2, List.flatMap_cons]
theorem of_flat (l : List S43) : ofP l = (normP l).flatMap fun s => rowsP (sizesP s) := by
  unfold ofP
  rw [parts_flat _ (normP_nf l).1, List.map_flatMap]
  rfl
theorem rows_len {x : S43} (h : x.f0 ≤ x.f1 → Cls x) : (rowsP (oneP x)).length ≤ 1200000 := by
  unfold rowsP oneP
  split
  · rename_i hx
    have hc := h hx
    have h1 := parts_sum [x] (fun y hy => by rw [List.mem_singleton.1 hy]; exact hc)
    have h2 := sum_len (partsP [x]) (fun y hy => (parts_ok [x] (fun z hz => by rw [List.mem_singleton.1 hz]; exact hc) y hy).1.bd.2.1)
    have h3 := hc.bd
    simp only [sumS] at h1
    rw [List.length_map]
    omega
  · simp [partsP, partsD, wts]
theorem wrap_succ {n : Nat} (h : n < 1000000) : wrap64 ((n : Int) + 1) = ((n + 1 : Nat) : Int) := wrap_in (by omega) (by omega)
theorem sum_lt {x y : Nat} (h : x ≤ 1000000000000) (k : y ≤ 1200000) : x + y < 5864062014805 := by omega
theorem cut_f {a b n : Int} (h : Cls ⟨a, b⟩ ∧ n = ((encP a).length : Int)) : glyphcutterref03_cut.f a b n = some (rowsP [⟨a, b⟩]) := by
  unfold glyphcutterref03_cut.f rowsP
  exact if_pos h
theorem of_piece (x4 : List S43) (i : Nat) (hi : i < x4.length) (F T : List Int) (hF : F.length = 4) (hT : T.length = 4) (n : Nat) (hn : n < 4) (out : List (List S57)) (ho : out.length ≤ 1000000000000) (r : List (List S57))
    (hC : mx x4[i].f0 (F.getD n 0) ≤ mn x4[i].f1 (T.getD n 0) → Cls ⟨mx x4[i].f0 (F.getD n 0), mn x4[i].f1 (T.getD n 0)⟩ ∧ ((n + 1 : Nat) : Int) = ((encP (mx x4[i].f0 (F.getD n 0))).length : Int))
    (h : Ev (fun k => glyphcutterref03_Of.l1 k (out ++ rowsP (oneP ⟨mx x4[i].f0 (F.getD n 0), mn x4[i].f1 (T.getD n 0)⟩)) x4 (i : Int) F T ((n + 1 : Nat) : Int)) r) : Ev (fun k => glyphcutterref03_Of.l1 k out x4 (i : Int) F T (n : Int)) r := by
  have rF : rd F (n : Int) = F.getD n 0 := by unfold rd; rw [Int.toNat_natCast]
  have rT : rd T (n : Int) = T.getD n 0 := by unfold rd; rw [Int.toNat_natCast]
  have hw : wrap64 ((n : Int) + 1) = ((n + 1 : Nat) : Int) := wrap_succ (Nat.lt_trans hn (by decide))
  have a1 : (n : Int) < 4 := Int.ofNat_lt.2 hn
  have a2 : (0 : Int) ≤ (i : Int) := Int.natCast_nonneg _
  have a3 : (i : Int) < (x4.length : Int) := Int.ofNat_lt.2 hi
  have a4 : (0 : Int) ≤ (n : Int) := Int.natCast_nonneg _
  have a5 : (n : Int) < (F.length : Int) := by rw [hF]; exact Int.ofNat_lt.2 hn
  have a6 : (n : Int) < (T.length : Int) := by rw [hT]; exact Int.ofNat_lt.2 hn
  refine Ev.step (f := fun k => _) (fun k => by rw [glyphcutterref03_Of.l1, rF, rT, rd_get x4 i hi, hw]) ?_
  refine Ev.pos a1 (Ev.pos a2 (Ev.pos a3 (Ev.pos a4 (Ev.pos a5 (Ev.pos a6 ?_)))))
  have hl := rows_len (x := ⟨mx x4[i].f0 (F.getD n 0), mn x4[i].f1 (T.getD n 0)⟩) (fun hx => (hC hx).1)
  generalize mx x4[i].f0 (F.getD n 0) = a at hC h hl ⊢
  generalize mn x4[i].f1 (T.getD n 0) = b at hC h hl ⊢
  by_cases c : a ≤ b
  · have e : oneP ⟨a, b⟩ = [⟨a, b⟩] := if_pos c
    rw [e] at h hl
    exact Ev.pos c (Ev.bindc (cut_f (hC c)) (Ev.pos (sum_lt ho hl) h))
  · have e : oneP ⟨a, b⟩ = [] := if_neg c
    rw [e, show rowsP [] = [] from rfl, List.append_nil] at h
    exact Ev.neg c h
theorem ok_piece {s : S43} (h : Ok s) (lo hi : Int) (n : Int) (hlh : (lo = 0 ∧ hi = 127 ∧ n = 1) ∨ (lo = 128 ∧ hi = 2047 ∧ n = 2) ∨ (lo = 2048 ∧ hi = 65535 ∧ n = 3) ∨ (lo = 65536 ∧ hi = 1114111 ∧ n = 4)) (hab : mx s.f0 lo ≤ mn s.f1 hi) :
    Cls ⟨mx s.f0 lo, mn s.f1 hi⟩ ∧ n = ((encP (mx s.f0 lo)).length : Int) := by
  have h1 := mx_sp s.f0 lo
  have h2 := mn_sp s.f1 hi
  generalize mx s.f0 lo = a at *
  generalize mn s.f1 hi = b at *
  unfold Ok at h
  rcases hlh with ⟨rfl, rfl, rfl⟩ | ⟨rfl, rfl, rfl⟩ | ⟨rfl, rfl, rfl⟩ | ⟨rfl, rfl, rfl⟩
  · refine ⟨by unfold Cls; simp only; omega, ?_⟩
    rw [enc_1 (by omega) (by omega)]; rfl
  · refine ⟨by unfold Cls; simp only; omega, ?_⟩
    rw [enc_2 (by omega) (by omega)]; rfl
  · refine ⟨by unfold Cls; simp only; omega, ?_⟩
    rw [enc_3 (by omega) (by omega) (by omega)]; rfl
  · refine ⟨by unfold Cls; simp only; omega, ?_⟩
    rw [enc_4 (by omega) (by omega)]; rfl
theorem ref_of (l : List S43) (hl : l.length ≤ 20000) (hw : Wf l) : Ev (fun k => glyphcutterref03_Of.f k l) (ofP l) := by
  have hn := normP_nf l
  have hnl := normP_len l
  rw [of_flat]
  have hn' : Ev (fun k => glyphcutterref01_Norm.f k l) (normP l) := ref_norm l hl hw
  generalize normP l = x4 at *
  have h0 : ∀ (d i : Nat) (out : List (List S57)), x4.length - i = d → i ≤ x4.length → out.length ≤ 4800000 * i → Ev (fun k => glyphcutterref03_Of.l0 k out x4 (i : Int)) (out ++ (x4.drop i).flatMap fun s => rowsP (sizesP s)) := by
    intro d
    induction d with
    | zero =>
      intro i out hd hi ho
      rw [List.drop_of_length_le (by omega)]
      refine Ev.step (fun k => by rw [glyphcutterref03_Of.l0]) (Ev.neg (by omega) ?_)
      simpa using Ev.now out
    | succ d ih =>
      intro i out hd hi ho
      have hlt : i < x4.length := by omega
      have hs := hn.1 _ (List.getElem_mem hlt)
      refine Ev.step (fun k => by rw [glyphcutterref03_Of.l0]) (Ev.pos (by omega) ?_)
      have p0 := fun h => ok_piece hs 0 127 1 (.inl ⟨rfl, rfl, rfl⟩) h
      have p1 := fun h => ok_piece hs 128 2047 2 (.inr (.inl ⟨rfl, rfl, rfl⟩)) h
      have p2 := fun h => ok_piece hs 2048 65535 3 (.inr (.inr (.inl ⟨rfl, rfl, rfl⟩))) h
      have p3 := fun h => ok_piece hs 65536 1114111 4 (.inr (.inr (.inr ⟨rfl, rfl, rfl⟩))) h
      have n0 := rows_len (x := ⟨mx x4[i].f0 0, mn x4[i].f1 127⟩) (fun h => (p0 h).1)
      have n1 := rows_len (x := ⟨mx x4[i].f0 128, mn x4[i].f1 2047⟩) (fun h => (p1 h).1)
      have n2 := rows_len (x := ⟨mx x4[i].f0 2048, mn x4[i].f1 65535⟩) (fun h => (p2 h).1)
      have n3 := rows_len (x := ⟨mx x4[i].f0 65536, mn x4[i].f1 1114111⟩) (fun h => (p3 h).1)
      refine of_piece x4 i hlt [0, 128, 2048, 65536] [127, 2047, 65535, 1114111] rfl rfl 0 (by decide) out (by clear p0 p1 p2 p3; omega) _ p0 ?_
      refine of_piece x4 i hlt [0, 128, 2048, 65536] [127, 2047, 65535, 1114111] rfl rfl 1 (by decide) _ (by simp only [List.length_append]; simp only [List.getD_cons_zero]; clear p0 p1 p2 p3; omega) _ p1 ?_
      refine of_piece x4 i hlt [0, 128, 2048, 65536] [127, 2047, 65535, 1114111] rfl rfl 2 (by decide) _ (by simp only [List.length_append]; simp only [List.getD_cons_zero, List.getD_cons_succ]; clear p0 p1 p2 p3; omega) _ p2 ?_
      refine of_piece x4 i hlt [0, 128, 2048, 65536] [127, 2047, 65535, 1114111] rfl rfl 3 (by decide) _ (by simp only [List.length_append]; simp only [List.getD_cons_zero, List.getD_cons_succ]; clear p0 p1 p2 p3; omega) _ p3 ?_
      refine Ev.step (fun k => by rw [glyphcutterref03_Of.l1]) (Ev.neg (by decide) ?_)
      have hcl := fun s hs' => sizes_cls (x := s) hs hs'
      have e : rowsP (sizesP x4[i]) = rowsP (oneP ⟨mx x4[i].f0 0, mn x4[i].f1 127⟩) ++ rowsP (oneP ⟨mx x4[i].f0 128, mn x4[i].f1 2047⟩) ++ rowsP (oneP ⟨mx x4[i].f0 2048, mn x4[i].f1 65535⟩) ++ rowsP (oneP ⟨mx x4[i].f0 65536, mn x4[i].f1 1114111⟩) := by
        unfold sizesP at hcl ⊢
        unfold rowsP
        rw [parts_append _ _ (fun s h => hcl s (List.mem_append_left _ h)) (fun s h => hcl s (List.mem_append_right _ h)),
          parts_append _ _ (fun s h => hcl s (List.mem_append_left _ (List.mem_append_left _ h))) (fun s h => hcl s (List.mem_append_left _ (List.mem_append_right _ h))),
          parts_append _ _ (fun s h => hcl s (List.mem_append_left _ (List.mem_append_left _ (List.mem_append_left _ h)))) (fun s h => hcl s (List.mem_append_left _ (List.mem_append_left _ (List.mem_append_right _ h)))), List.map_append, List.map_append, List.map_append]
      have := ih (i + 1) (out ++ rowsP (sizesP x4[i])) (by omega) (by omega) (by rw [e]; simp only [List.length_append]; clear p0 p1 p2 p3 e; omega)
      rw [show wrap64 ((i : Int) + 1) = ((i + 1 : Nat) : Int) from wrap_in (by omega) (by omega), List.drop_eq_getElem_cons hlt, List.flatMap_cons, ← List.append_assoc]
      rw [e] at this ⊢
      simp only [List.getD_cons_zero, List.getD_cons_succ, List.append_assoc] at this ⊢
      exact this
  unfold glyphcutterref03_Of.f
  refine Ev.bind hn' ?_
  simpa using h0 _ 0 [] rfl (Nat.zero_le _) (by simp)
theorem ref_same_rows (a : List (List S57)) (hl : a.length ≤ 2000000) (hr : ∀ r ∈ a, r.length ≤ 1000000) : Ev (fun k => glyphcutterref03_Same.f k a a) true := by
  have h1 : ∀ (i : Nat) (hi : i < a.length), Ev (fun k => glyphcutterref03_Same.l0 k a a ((i + 1 : Nat) : Int)) true → ∀ (d j : Nat), a[i].length - j = d → j ≤ a[i].length → Ev (fun k => glyphcutterref03_Same.l1 k a a (i : Int) (j : Int)) true := by
    intro i hi hnext d
    have hrow := hr _ (List.getElem_mem hi)
    induction d with
    | zero =>
      intro j hd hj
      refine Ev.step (f := fun k => _) (fun k => by rw [glyphcutterref03_Same.l1, rdl_get a i hi]) (Ev.pos (by omega) (Ev.pos (by omega) (Ev.neg (by omega) ?_)))
      rw [show wrap64 ((i : Int) + 1) = ((i + 1 : Nat) : Int) from wrap_in (by omega) (by omega)]
      exact hnext
    | succ d ih =>
      intro j hd hj
      have hlt : j < a[i].length := by omega
      refine Ev.step (f := fun k => _) (fun k => by rw [glyphcutterref03_Same.l1, rdl_get a i hi]) (Ev.pos (by omega) (Ev.pos (by omega) (Ev.pos (by omega) (Ev.pos (by omega) (Ev.pos (by omega) (Ev.pos (by omega) (Ev.neg (by simp) ?_)))))))
      rw [show wrap64 ((j : Int) + 1) = ((j + 1 : Nat) : Int) from wrap_in (by omega) (by omega)]
      exact ih (j + 1) (by omega) (by omega)
  have h0 : ∀ (d i : Nat), a.length - i = d → i ≤ a.length → Ev (fun k => glyphcutterref03_Same.l0 k a a (i : Int)) true := by
    intro d
    induction d with
    | zero =>
      intro i hd hi
      refine Ev.step (fun k => by rw [glyphcutterref03_Same.l0]) (Ev.neg (by omega) ?_)
      exact Ev.now true
    | succ d ih =>
      intro i hd hi
      have hlt : i < a.length := by omega
      refine Ev.step (fun k => by rw [glyphcutterref03_Same.l0]) (Ev.pos (by omega) (Ev.pos (by omega) (Ev.pos (by omega) (Ev.pos rfl ?_))))
      exact h1 i hlt (ih (i + 1) (by omega) (by omega)) _ 0 rfl (Nat.zero_le _)
  unfold glyphcutterref03_Same.f
  exact Ev.pos rfl (h0 _ 0 rfl (Nat.zero_le _))
theorem law_of (l : List S43) (c : List Int) (wl : Wf l) (hc : U16 c) (hs : Sm c) : Ev (fun k => glyphcutterlaw03_SeqsOf.f k l c) true := by
  have jt : Ev (fun k => glyphcutterlaw03_SeqsOf.j0 k l c true) true := Ev.step (fun k => by rw [glyphcutterlaw03_SeqsOf.j0]) (Ev.pos rfl (Ev.bind known_f (Ev.now true)))
  have hsame : ∀ m : List S43, Ev (fun k => glyphcutterref03_Same.f k (ofP m) (ofP m)) true := fun m => by
    have h1 := of_len m
    exact ref_same_rows _ (by omega) (fun r hr => by have := of_row hr; omega)
  unfold glyphcutterlaw03_SeqsOf.f
  refine Ev.bindc (a := decide ((l.length : Int) > 30)) rfl ?_
  by_cases h1 : (l.length : Int) > 30
  · exact Ev.pos (decide_eq_true h1) jt
  refine Ev.neg (by simpa using h1) ?_
  by_cases h2 : (c.length : Int) > 60
  · exact Ev.pos h2 jt
  refine Ev.neg h2 (Ev.bind known_f ?_)
  obtain ⟨m, hm, hm1, hm2⟩ := law_make c hc hs
  refine Ev.step (fun k => by rw [glyphcutterlaw03_SeqsOf.j0]) (Ev.neg (by simp) ?_)
  refine Ev.bind hm (Ev.bindc (of_f l (by omega)) (Ev.bind (ref_of l (by omega) wl) (Ev.bind (hsame l) (Ev.pos rfl ?_))))
  exact Ev.bindc (of_f m (by omega)) (Ev.bind (ref_of m (by omega) hm2) (Ev.bind (hsame m) (Ev.now true)))
end
end Go.Proofs.Ytbhfaeliklaffaa.P
