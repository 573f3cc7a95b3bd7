/- fold.Fold, as a contract in the print's own form. -/
import Derived.Test.YtfaahcgoinkmlaaPx0
import Derived.Shelf.Abstract
import Derived.Outline
import Derived.Deep.QuietTactic
import Derived.BigQuiet
import Derived.Laws.Tables
import Derived.Laws.CopyOwn
namespace Go.Proofs.Ytfaahcgoinkmlaa.P
set_option linter.unusedVariables false
set_option linter.unusedSimpArgs false
section
open Go.RowKit Go.Proofs.YtfaahcgoinkmlaaW.PrintWords Go.Proofs.YtfaahcgoinkmlaaW.PrintLast Go.Proofs.YtfaahcgoinkmlaaW.PrintMore
instance : Inhabited S79 := ⟨z79⟩
/-- A scalar. -/
def Scal (r : Int) : Prop := 0 ≤ r ∧ r ≤ 1114111 ∧ (r < 55296 ∨ 57343 < r)
end
section
open Go.RowKit Go.Proofs.YtfaahcgoinkmlaaW.PrintWords Go.Proofs.YtfaahcgoinkmlaaW.PrintLast Go.Proofs.YtfaahcgoinkmlaaW.PrintMore
structure Rn where
  lo : Int
  hi : Int
  bu : Int
  st : Int
def runsL : List Rn := [⟨65,90,-1,32⟩, ⟨181,181,-1,775⟩, ⟨192,222,215,32⟩, ⟨913,937,930,32⟩, ⟨962,962,-1,1⟩, ⟨1024,1039,-1,80⟩, ⟨1040,1071,-1,32⟩, ⟨7838,7838,-1,-7615⟩, ⟨8486,8486,-1,-7517⟩, ⟨8490,8490,-1,-8383⟩, ⟨8491,8491,-1,-8262⟩]
def hitR (x : Rn) (r : Int) : Bool := decide (x.lo ≤ r ∧ r ≤ x.hi ∧ r ≠ x.bu)
def foldL : List Rn → Int → Int
  | [], r => r
  | x :: l, r => if hitR x r then r + x.st else foldL l r
def foldF (r : Int) : Int := foldL runsL r
theorem foldL_hit {x : Rn} {l : List Rn} {r : Int} (h : x.lo ≤ r ∧ r ≤ x.hi ∧ r ≠ x.bu) : foldL (x :: l) r = r + x.st := by
  unfold foldL; rw [if_pos (by unfold hitR; exact decide_eq_true h)]
theorem foldL_miss {x : Rn} {l : List Rn} {r : Int} (h : ¬ (x.lo ≤ r ∧ r ≤ x.hi ∧ r ≠ x.bu)) : foldL (x :: l) r = foldL l r := by
  rw [foldL, if_neg (by unfold hitR; simpa using h)]
theorem fold_cases (r : Int) : (65 ≤ r ∧ r ≤ 90 ∧ foldF r = r + 32) ∨ (r = 181 ∧ foldF r = 956) ∨ (192 ≤ r ∧ r ≤ 222 ∧ r ≠ 215 ∧ foldF r = r + 32) ∨ (913 ≤ r ∧ r ≤ 937 ∧ r ≠ 930 ∧ foldF r = r + 32) ∨
  (r = 962 ∧ foldF r = 963) ∨ (1024 ≤ r ∧ r ≤ 1039 ∧ foldF r = r + 80) ∨ (1040 ≤ r ∧ r ≤ 1071 ∧ foldF r = r + 32) ∨ (r = 7838 ∧ foldF r = 223) ∨ (r = 8486 ∧ foldF r = 969) ∨ (r = 8490 ∧ foldF r = 107) ∨ (r = 8491 ∧ foldF r = 229) ∨
  ((¬ (65 ≤ r ∧ r ≤ 90)) ∧ r ≠ 181 ∧ (¬ (192 ≤ r ∧ r ≤ 222 ∧ r ≠ 215)) ∧ (¬ (913 ≤ r ∧ r ≤ 937 ∧ r ≠ 930)) ∧ r ≠ 962 ∧ (¬ (1024 ≤ r ∧ r ≤ 1071)) ∧ r ≠ 7838 ∧ r ≠ 8486 ∧ r ≠ 8490 ∧ r ≠ 8491 ∧ foldF r = r) := by
  have e : foldF r = foldL runsL r := rfl
  generalize foldF r = p at e ⊢
  unfold runsL at e
  by_cases h0 : 65 ≤ r ∧ r ≤ 90 ∧ r ≠ -1
  · rw [foldL_hit h0] at e; replace e : p = r + (32) := e; exact .inl ⟨h0.1, h0.2.1, e⟩
  rw [foldL_miss h0] at e
  by_cases h1 : 181 ≤ r ∧ r ≤ 181 ∧ r ≠ -1
  · rw [foldL_hit h1] at e; replace e : p = r + (775) := e; exact .inr (.inl ⟨by omega, by omega⟩)
  rw [foldL_miss h1] at e
  by_cases h2 : 192 ≤ r ∧ r ≤ 222 ∧ r ≠ 215
  · rw [foldL_hit h2] at e; replace e : p = r + (32) := e; exact .inr (.inr (.inl ⟨h2.1, h2.2.1, h2.2.2, e⟩))
  rw [foldL_miss h2] at e
  by_cases h3 : 913 ≤ r ∧ r ≤ 937 ∧ r ≠ 930
  · rw [foldL_hit h3] at e; replace e : p = r + (32) := e; exact .inr (.inr (.inr (.inl ⟨h3.1, h3.2.1, h3.2.2, e⟩)))
  rw [foldL_miss h3] at e
  by_cases h4 : 962 ≤ r ∧ r ≤ 962 ∧ r ≠ -1
  · rw [foldL_hit h4] at e; replace e : p = r + (1) := e; exact .inr (.inr (.inr (.inr (.inl ⟨by omega, by omega⟩))))
  rw [foldL_miss h4] at e
  by_cases h5 : 1024 ≤ r ∧ r ≤ 1039 ∧ r ≠ -1
  · rw [foldL_hit h5] at e; replace e : p = r + (80) := e; exact .inr (.inr (.inr (.inr (.inr (.inl ⟨h5.1, h5.2.1, e⟩)))))
  rw [foldL_miss h5] at e
  by_cases h6 : 1040 ≤ r ∧ r ≤ 1071 ∧ r ≠ -1
  · rw [foldL_hit h6] at e; replace e : p = r + (32) := e; exact .inr (.inr (.inr (.inr (.inr (.inr (.inl ⟨h6.1, h6.2.1, e⟩))))))
  rw [foldL_miss h6] at e
  by_cases h7 : 7838 ≤ r ∧ r ≤ 7838 ∧ r ≠ -1
  · rw [foldL_hit h7] at e; replace e : p = r + (-7615) := e; exact .inr (.inr (.inr (.inr (.inr (.inr (.inr (.inl ⟨by omega, by omega⟩)))))))
  rw [foldL_miss h7] at e
  by_cases h8 : 8486 ≤ r ∧ r ≤ 8486 ∧ r ≠ -1
  · rw [foldL_hit h8] at e; replace e : p = r + (-7517) := e; exact .inr (.inr (.inr (.inr (.inr (.inr (.inr (.inr (.inl ⟨by omega, by omega⟩))))))))
  rw [foldL_miss h8] at e
  by_cases h9 : 8490 ≤ r ∧ r ≤ 8490 ∧ r ≠ -1
  · rw [foldL_hit h9] at e; replace e : p = r + (-8383) := e; exact .inr (.inr (.inr (.inr (.inr (.inr (.inr (.inr (.inr (.inl ⟨by omega, by omega⟩)))))))))
  rw [foldL_miss h9] at e
  by_cases h10 : 8491 ≤ r ∧ r ≤ 8491 ∧ r ≠ -1
  · rw [foldL_hit h10] at e; replace e : p = r + (-8262) := e; exact .inr (.inr (.inr (.inr (.inr (.inr (.inr (.inr (.inr (.inr (.inl ⟨by omega, by omega⟩))))))))))
  rw [foldL_miss h10] at e
  rw [foldL] at e
  refine .inr (.inr (.inr (.inr (.inr (.inr (.inr (.inr (.inr (.inr (.inr ?_))))))))))
  refine ⟨?_, ?_, ?_, ?_, ?_, ?_, ?_, ?_, ?_, ?_, e⟩ <;> omega
theorem fold_big {r : Int} (h : 8492 ≤ r) : foldF r = r := by
  have h1 := fold_cases r
  generalize foldF r = p at *
  omega
theorem fold_neg {r : Int} (h : r < 65) : foldF r = r := by
  have h1 := fold_cases r
  generalize foldF r = p at *
  omega
theorem fold_rng {r : Int} (h0 : 0 ≤ r) (h : r < 8492) : 0 ≤ foldF r ∧ foldF r < 8492 := by
  have h1 := fold_cases r
  generalize foldF r = p at *
  omega
theorem fold_scal {r : Int} : Scal (foldF r) ↔ Scal r := by
  have h1 := fold_cases r
  generalize foldF r = p at *
  unfold Scal
  omega
instance (r : Int) : Decidable (Scal r) := by unfold Scal; infer_instance
theorem runs_mem {x : Rn} (h : x ∈ runsL) : x = ⟨65,90,-1,32⟩ ∨ x = ⟨181,181,-1,775⟩ ∨ x = ⟨192,222,215,32⟩ ∨ x = ⟨913,937,930,32⟩ ∨ x = ⟨962,962,-1,1⟩ ∨ x = ⟨1024,1039,-1,80⟩ ∨ x = ⟨1040,1071,-1,32⟩ ∨ x = ⟨7838,7838,-1,-7615⟩ ∨ x = ⟨8486,8486,-1,-7517⟩ ∨ x = ⟨8490,8490,-1,-8383⟩ ∨ x = ⟨8491,8491,-1,-8262⟩ := by
  unfold runsL at h
  simpa only [List.mem_cons, List.not_mem_nil, or_false] using h
theorem runs_bd {x : Rn} (hx : x ∈ runsL) : -1 ≤ x.lo ∧ x.lo ≤ 9000 ∧ -1 ≤ x.hi ∧ x.hi ≤ 9000 ∧ -1 ≤ x.bu ∧ x.bu ≤ 9000 ∧ -9000 ≤ x.st ∧ x.st ≤ 9000 ∧ x.st ≠ 0 ∧ x.lo ≤ x.hi ∧ 0 ≤ x.lo := by
  rcases runs_mem hx with rfl | rfl | rfl | rfl | rfl | rfl | rfl | rfl | rfl | rfl | rfl <;> decide
end
section
open Go.RowKit Go.Shelf Go.Proofs.YtfaahcgoinkmlaaW.PrintWords Go.Proofs.YtfaahcgoinkmlaaW.PrintLast Go.Proofs.YtfaahcgoinkmlaaW.PrintMore
def rnC (x : Rn) : List Value := [.int .i64 x.lo, .int .i64 x.hi, .int .i64 x.bu, .int .i64 x.st]
def rnV (x : Rn) : Value := .agg #[.int .i64 x.lo, .int .i64 x.hi, .int .i64 x.bu, .int .i64 x.st]
def runsV : Value := .agg (runsL.flatMap rnC).toArray
theorem runs_i0 (w : World) : (Instr.index 90 runsV (.int .i64 0)).run Try.prog w = .ok (rnV ⟨65,90,-1,32⟩) w := by kernel_rfl
theorem runs_i1 (w : World) : (Instr.index 90 runsV (.int .i64 1)).run Try.prog w = .ok (rnV ⟨181,181,-1,775⟩) w := by kernel_rfl
theorem runs_i2 (w : World) : (Instr.index 90 runsV (.int .i64 2)).run Try.prog w = .ok (rnV ⟨192,222,215,32⟩) w := by kernel_rfl
theorem runs_i3 (w : World) : (Instr.index 90 runsV (.int .i64 3)).run Try.prog w = .ok (rnV ⟨913,937,930,32⟩) w := by kernel_rfl
theorem runs_i4 (w : World) : (Instr.index 90 runsV (.int .i64 4)).run Try.prog w = .ok (rnV ⟨962,962,-1,1⟩) w := by kernel_rfl
theorem runs_i5 (w : World) : (Instr.index 90 runsV (.int .i64 5)).run Try.prog w = .ok (rnV ⟨1024,1039,-1,80⟩) w := by kernel_rfl
theorem runs_i6 (w : World) : (Instr.index 90 runsV (.int .i64 6)).run Try.prog w = .ok (rnV ⟨1040,1071,-1,32⟩) w := by kernel_rfl
theorem runs_i7 (w : World) : (Instr.index 90 runsV (.int .i64 7)).run Try.prog w = .ok (rnV ⟨7838,7838,-1,-7615⟩) w := by kernel_rfl
theorem runs_i8 (w : World) : (Instr.index 90 runsV (.int .i64 8)).run Try.prog w = .ok (rnV ⟨8486,8486,-1,-7517⟩) w := by kernel_rfl
theorem runs_i9 (w : World) : (Instr.index 90 runsV (.int .i64 9)).run Try.prog w = .ok (rnV ⟨8490,8490,-1,-8383⟩) w := by kernel_rfl
theorem runs_i10 (w : World) : (Instr.index 90 runsV (.int .i64 10)).run Try.prog w = .ok (rnV ⟨8491,8491,-1,-8262⟩) w := by kernel_rfl
theorem runs_idx (k : Nat) (x : Rn) (h : runsL[k]? = some x) (w : World) : (Instr.index 90 runsV (.int .i64 k)).run Try.prog w = .ok (rnV x) w := by
  have hk : k < 11 := by have := (List.getElem?_eq_some_iff.1 h).1; exact this
  match k, hk, h with
  | 0, _, h => cases h; exact runs_i0 w
  | 1, _, h => cases h; exact runs_i1 w
  | 2, _, h => cases h; exact runs_i2 w
  | 3, _, h => cases h; exact runs_i3 w
  | 4, _, h => cases h; exact runs_i4 w
  | 5, _, h => cases h; exact runs_i5 w
  | 6, _, h => cases h; exact runs_i6 w
  | 7, _, h => cases h; exact runs_i7 w
  | 8, _, h => cases h; exact runs_i8 w
  | 9, _, h => cases h; exact runs_i9 w
  | 10, _, h => cases h; exact runs_i10 w
set_option maxRecDepth 100000 in
set_option maxHeartbeats 2000000 in
theorem runs_calls (w : World) : Calls Try.prog 63 #[] w fun e w' => e = .returned runsV ∧ Below w.heap.size w w' := by
  go_enter Try.func63, Try.ntmps63
  go_wp2_with (refine wpList_store_row (old := Array.replicate 44 (.int .i64 0)) rfl 90 _ _ rfl w.heap.size _ rfl rfl 90 (heap_alloc_new w _) (by kernel_rfl) rfl (by kernel_rfl) ?_)
  refine bodyPost_ret (v := runsV) (results_cell_row rfl _ _ w.heap.size 90 _ (0, 0) _ rfl (setRow_heap _ _ _ _ _ _ (heap_alloc_new w _)) Try.underlying90 rfl (by kernel_rfl)) rfl ⟨rfl, below_setRow ((Below.refl _ _).alloc (Nat.le_refl _) _) (Nat.le_refl _) _⟩
def fold_Fold.f (a0 : Int) : Option Int := some (foldF a0)
theorem drop_cons {α : Type} (l : List α) (k : Nat) (x : α) (h : l[k]? = some x) : l.drop k = x :: l.drop (k + 1) := by
  obtain ⟨h1, h2⟩ := List.getElem?_eq_some_iff.1 h
  rw [← h2]; exact List.drop_eq_getElem_cons h1
set_option maxRecDepth 100000 in
set_option maxHeartbeats 2000000 in
theorem fold_Fold.calls (a0 : Int) (r : Int) (w : World) (h : fold_Fold.f a0 = some r) :
    Calls Try.prog 47 #[.int .i64 a0] w fun e w' => e = .returned (.int .i64 r) ∧ Below w.heap.size w w' := by
  obtain rfl := Option.some.inj h
  clear h
  obtain ⟨q, hq⟩ : ∃ q, foldF a0 = q := ⟨_, rfl⟩
  have HQ := Aside0.mk hq
  rw [hq]
  clear hq
  go_enter Try.func47, Try.ntmps47
  go_wp2_with (go_at_call 63; refine (runs_calls _).mono ?_; rintro e w1 ⟨rfl, hb1⟩)
  have HB1 := Aside0.mk hb1
  clear hb1
  generalize hrv : runsV = rv
  have HRV := Aside0.mk hrv
  clear hrv
  go_loopw [6] (fun i wr => ∃ k : Nat, k ≤ 11 ∧ i = .int .i64 k ∧ Aside0 (foldL (runsL.drop k) a0 = q) ∧ Aside0 (Below w.heap.size w wr)) (fun i _ => 11 - (intOf i).toNat)
  case atStart => exact ⟨0, by omega, rfl, ⟨HQ.out⟩, HB1⟩
  case round =>
    obtain ⟨k, hk, rfl, HF, HB⟩ := hrel
    by_cases hlt : k < 11
    · obtain ⟨x, hx⟩ : ∃ x, runsL[k]? = some x := ⟨_, List.getElem?_eq_getElem hlt⟩
      have hidx := runs_idx k x hx
      rw [HRV.out] at hidx
      obtain ⟨b1, b2, b3, b4, b5, b6, b7, b8, _, _, _⟩ := runs_bd (List.mem_of_getElem? hx)
      have hf := HF.out
      rw [drop_cons _ _ _ hx] at hf
      have HX := Aside0.mk hx
      have HF2 := Aside0.mk hf
      clear hx hf HF
      unfold rnV at hidx
      obtain ⟨xl, xh, xb, xs⟩ := x
      simp only at hidx b1 b2 b3 b4 b5 b6 b7 b8
      have hltz : (k : Int) < 11 := by omega
      go_wp2
      all_goals first
        | (go_roundw
           case rel => exact ⟨k + 1, by omega, by go_num, ⟨by
             have := HF2.out
             rw [foldL_miss (by first | omega | (simp only; rintro ⟨z1, z2, z3⟩; simp_all))] at this
             exact this⟩, ⟨HB.out.alloc HB.out.size _⟩⟩
           case measure => simp [intOf]; omega)
        | (go_ret
           refine ⟨?_, HB.out.alloc HB.out.size _⟩
           have := HF2.out
           rw [foldL_hit (by first | omega | (simp only; simp_all))] at this
           simp only at this
           rw [← this]; rfl)
    · obtain rfl : k = 11 := by omega
      go_wp2
      go_ret
      have := HF.out
      exact ⟨by rw [← this]; rfl, HB.out⟩
end
end Go.Proofs.Ytfaahcgoinkmlaa.P
