/- fold.Fold and fold.Orbit, as contracts in the print's own form. -/
import Derived.Test.YtmbhpkpoppdilaaPx0
import Derived.Test.YtmbhpkpoppdilaaGBase
import Derived.Test.YtmbhpkpoppdilaaGHas
import Derived.Test.YtmbhpkpoppdilaaPBase
import Derived.Shelf.Abstract
import Derived.Outline
import Derived.Deep.QuietTactic
import Derived.BigQuiet
import Derived.Laws.Tables
import Derived.Laws.CopyOwn
namespace Go.Proofs.Ytmbhpkpoppdilaa.P
set_option linter.unusedVariables false
set_option linter.unusedSimpArgs false
section
open Go.RowKit Go.Proofs.YtmbhpkpoppdilaaW.PrintWords Go.Proofs.YtmbhpkpoppdilaaW.PrintLast Go.Proofs.YtmbhpkpoppdilaaW.PrintMore
theorem C_cells {α : Type} (d : Kd α) (W : World) (g : Nat) (xs : List α) (n : Nat) (hn : n = xs.length) (hlen : xs.length ≤ 1000) (h : ∀ j p, xs[j]? = some p → ∃ c, c.length = d.sz ∧ d.K W p c ∧ ∀ i u, c[i]? = some u → W.cell? ⟨g, j * d.sz + i, none⟩ = some u) : d.C W (some ⟨g, 0, none⟩) n xs := by
  subst hn
  refine ⟨rfl, by omega, fun _ => ⟨_, rfl, fun j p hj => ?_⟩⟩
  obtain ⟨c, h1, h2, h3⟩ := h j p hj
  refine ⟨c, h1, h2, fun i u hu => ?_⟩
  have e : ∀ m, (⟨g, 0, none⟩ : Addr).add m = ⟨g, m, none⟩ := fun m => by unfold Addr.add; split <;> simp_all
  rw [e]
  exact h3 i u hu
theorem sz_span : k30.sz = 2 := rfl
theorem C_spans (w : World) (xs : List S30) (n : Nat) (cells : Array Value) (hn : n = xs.length) (hlen : xs.length ≤ 1000) (h : ∀ j p, xs[j]? = some p → cells[j * 2]? = some (.int .i64 p.f0) ∧ cells[j * 2 + 1]? = some (.int .i64 p.f1)) : k30.C (w.alloc (.cells cells 30)) (some ⟨w.heap.size, 0, none⟩) n xs := by
  refine C_cells _ _ _ _ _ hn hlen fun j p hj => ⟨_, rfl, k30_mk _ p, fun i u hu => ?_⟩
  obtain ⟨h0, h1⟩ := h j p hj
  rw [sz_span, World.cell?_alloc_new]
  match i, hu with
  | 0, hu => simp at hu; subst hu; simpa using h0
  | 1, hu => simp at hu; subst hu; simpa using h1
theorem C_span1 (w : World) (x : S30) : k30.C (w.alloc (.cells #[.int .i64 x.f0, .int .i64 x.f1] 30)) (some ⟨w.heap.size, 0, none⟩) 1 [x] :=
  C_spans w [x] 1 _ rfl (by simp) fun j p hj => by
    match j, hj with
    | 0, hj => simp at hj; subst hj; exact ⟨rfl, rfl⟩
end
section
open Go.RowKit Go.Shelf Go.Proofs.YtmbhpkpoppdilaaW.PrintWords Go.Proofs.YtmbhpkpoppdilaaW.PrintLast Go.Proofs.YtmbhpkpoppdilaaW.PrintMore
def rnC (x : Rn) : List Value := [.int .i64 x.lo, .int .i64 x.hi, .int .i64 x.bu, .int .i64 x.st]
def rnV (x : Rn) : Value := .agg #[.int .i64 x.lo, .int .i64 x.hi, .int .i64 x.bu, .int .i64 x.st]
def runsV : Value := .agg (runsL.flatMap rnC).toArray
theorem runs_i0 (w : World) : (Instr.index 47 runsV (.int .i64 0)).run Try.prog w = .ok (rnV ⟨65,90,-1,32⟩) w := by kernel_rfl
theorem runs_i1 (w : World) : (Instr.index 47 runsV (.int .i64 1)).run Try.prog w = .ok (rnV ⟨181,181,-1,775⟩) w := by kernel_rfl
theorem runs_i2 (w : World) : (Instr.index 47 runsV (.int .i64 2)).run Try.prog w = .ok (rnV ⟨192,222,215,32⟩) w := by kernel_rfl
theorem runs_i3 (w : World) : (Instr.index 47 runsV (.int .i64 3)).run Try.prog w = .ok (rnV ⟨913,937,930,32⟩) w := by kernel_rfl
theorem runs_i4 (w : World) : (Instr.index 47 runsV (.int .i64 4)).run Try.prog w = .ok (rnV ⟨962,962,-1,1⟩) w := by kernel_rfl
theorem runs_i5 (w : World) : (Instr.index 47 runsV (.int .i64 5)).run Try.prog w = .ok (rnV ⟨1024,1039,-1,80⟩) w := by kernel_rfl
theorem runs_i6 (w : World) : (Instr.index 47 runsV (.int .i64 6)).run Try.prog w = .ok (rnV ⟨1040,1071,-1,32⟩) w := by kernel_rfl
theorem runs_i7 (w : World) : (Instr.index 47 runsV (.int .i64 7)).run Try.prog w = .ok (rnV ⟨7838,7838,-1,-7615⟩) w := by kernel_rfl
theorem runs_i8 (w : World) : (Instr.index 47 runsV (.int .i64 8)).run Try.prog w = .ok (rnV ⟨8486,8486,-1,-7517⟩) w := by kernel_rfl
theorem runs_i9 (w : World) : (Instr.index 47 runsV (.int .i64 9)).run Try.prog w = .ok (rnV ⟨8490,8490,-1,-8383⟩) w := by kernel_rfl
theorem runs_i10 (w : World) : (Instr.index 47 runsV (.int .i64 10)).run Try.prog w = .ok (rnV ⟨8491,8491,-1,-8262⟩) w := by kernel_rfl
theorem runs_idx (k : Nat) (x : Rn) (h : runsL[k]? = some x) (w : World) : (Instr.index 47 runsV (.int .i64 k)).run Try.prog w = .ok (rnV x) w := by
  have hk : k < 11 := by have := (List.getElem?_eq_some_iff.1 h).1; exact this
  match k, hk, h with
  | 0, _, h => cases h; exact runs_i0 w
  | 1, _, h => cases h; exact runs_i1 w
  | 2, _, h => cases h; exact runs_i2 w
  | 3, _, h => cases h; exact runs_i3 w
  | 4, _, h => cases h; exact runs_i4 w
  | 5, _, h => cases h; exact runs_i5 w
  | 6, _, h => cases h; exact runs_i6 w
  | 7, _, h => cases h; exact runs_i7 w
  | 8, _, h => cases h; exact runs_i8 w
  | 9, _, h => cases h; exact runs_i9 w
  | 10, _, h => cases h; exact runs_i10 w
set_option maxRecDepth 100000 in
set_option maxHeartbeats 2000000 in
theorem runs_calls (w : World) : Calls Try.prog 23 #[] w fun e w' => e = .returned runsV ∧ Below w.heap.size w w' := by
  go_enter Try.func23, Try.ntmps23
  go_wp2_with (refine wpList_store_row (old := Array.replicate 44 (.int .i64 0)) rfl 47 _ _ rfl w.heap.size _ rfl rfl 47 (heap_alloc_new w _) (by kernel_rfl) rfl (by kernel_rfl) ?_)
  refine bodyPost_ret (v := runsV) (results_cell_row rfl _ _ w.heap.size 47 _ (0, 0) _ rfl (setRow_heap _ _ _ _ _ _ (heap_alloc_new w _)) Try.underlying47 rfl (by kernel_rfl)) rfl ⟨rfl, below_setRow ((Below.refl _ _).alloc (Nat.le_refl _) _) (Nat.le_refl _) _⟩
def fold_Fold.f (a0 : Int) : Option Int := some (foldF a0)
theorem drop_cons {α : Type} (l : List α) (k : Nat) (x : α) (h : l[k]? = some x) : l.drop k = x :: l.drop (k + 1) := by
  obtain ⟨h1, h2⟩ := List.getElem?_eq_some_iff.1 h
  rw [← h2]; exact List.drop_eq_getElem_cons h1
set_option maxRecDepth 100000 in
set_option maxHeartbeats 2000000 in
theorem fold_Fold.calls (a0 : Int) (r : Int) (w : World) (h : fold_Fold.f a0 = some r) :
    Calls Try.prog 9 #[.int .i64 a0] w fun e w' => e = .returned (.int .i64 r) ∧ Below w.heap.size w w' := by
  obtain rfl := Option.some.inj h
  clear h
  obtain ⟨q, hq⟩ : ∃ q, foldF a0 = q := ⟨_, rfl⟩
  have HQ := Aside0.mk hq
  rw [hq]
  clear hq
  go_enter Try.func9, Try.ntmps9
  go_wp2_with (go_at_call 23; refine (runs_calls _).mono ?_; rintro e w1 ⟨rfl, hb1⟩)
  have HB1 := Aside0.mk hb1
  clear hb1
  generalize hrv : runsV = rv
  have HRV := Aside0.mk hrv
  clear hrv
  go_loopw [6] (fun i wr => ∃ k : Nat, k ≤ 11 ∧ i = .int .i64 k ∧ Aside0 (foldL (runsL.drop k) a0 = q) ∧ Aside0 (Below w.heap.size w wr)) (fun i _ => 11 - (intOf i).toNat)
  case atStart => exact ⟨0, by omega, rfl, ⟨HQ.out⟩, HB1⟩
  case round =>
    obtain ⟨k, hk, rfl, HF, HB⟩ := hrel
    by_cases hlt : k < 11
    · obtain ⟨x, hx⟩ : ∃ x, runsL[k]? = some x := ⟨_, List.getElem?_eq_getElem hlt⟩
      have hidx := runs_idx k x hx
      rw [HRV.out] at hidx
      obtain ⟨b1, b2, b3, b4, b5, b6, b7, b8, _, _, _⟩ := runs_bd (List.mem_of_getElem? hx)
      have hf := HF.out
      rw [drop_cons _ _ _ hx] at hf
      have HX := Aside0.mk hx
      have HF2 := Aside0.mk hf
      clear hx hf HF
      unfold rnV at hidx
      obtain ⟨xl, xh, xb, xs⟩ := x
      simp only at hidx b1 b2 b3 b4 b5 b6 b7 b8
      have hltz : (k : Int) < 11 := by omega
      go_wp2
      all_goals first
        | (go_roundw
           case rel => exact ⟨k + 1, by omega, by go_num, ⟨by
             have := HF2.out
             rw [foldL_miss (by first | omega | (simp only; rintro ⟨z1, z2, z3⟩; simp_all))] at this
             exact this⟩, ⟨HB.out.alloc HB.out.size _⟩⟩
           case measure => simp [intOf]; omega)
        | (go_ret
           refine ⟨?_, HB.out.alloc HB.out.size _⟩
           have := HF2.out
           rw [foldL_hit (by first | omega | (simp only; simp_all))] at this
           simp only at this
           rw [← this]; rfl)
    · obtain rfl : k = 11 := by omega
      go_wp2
      go_ret
      have := HF.out
      exact ⟨by rw [← this]; rfl, HB.out⟩
def fold_Orbit.f (a0 : Int) : Option (List Int) := some (orbitP a0)
def allS : List S30 := [⟨0, 1114111⟩]
theorem has_all (r : Int) : hasP allS r = decide (Scal r) := by
  rw [Bool.eq_iff_iff, decide_eq_true_iff]
  unfold hasP allS Scal
  rw [Bool.and_eq_true, decide_eq_true_iff]
  simp only [List.any_cons, List.any_nil, Bool.or_false, Bool.and_eq_true, decide_eq_true_iff]
  omega
theorem gs_take (f : Int) (k : Nat) (x : Rn) (h : runsL[k]? = some x) : (runsL.take (k + 1)).filterMap (gOf f) = (runsL.take k).filterMap (gOf f) ++ (gOf f x).toList := by
  obtain ⟨h1, h2⟩ := List.getElem?_eq_some_iff.1 h
  rw [List.take_succ_eq_append_getElem h1, List.filterMap_append, h2]
  cases h3 : gOf f x <;> simp [h3]
theorem gs_take_len (f : Int) (k : Nat) (hk : k ≤ 11) : ((runsL.take k).filterMap (gOf f)).length ≤ 11 :=
  Nat.le_trans (List.length_filterMap_le _ _) (by rw [List.length_take]; omega)
theorem Kd_of_ints {w : World} {base n : Nat} {v : Value} {xs : List Int} (hn : n = xs.length) (h : w.ownsRow base 3 1 v n (xs.map (Value.int .i64))) : Kd.R (Kd.int .i64) 3 w base (fun _ => True) v xs := by
  subst hn
  exact Kd.R_of_own h (fun _ _ => trivial)
set_option maxRecDepth 100000 in
set_option maxHeartbeats 2000000 in
theorem fold_Orbit.calls (a0 : Int) (r : List Int) (w : World) (h : fold_Orbit.f a0 = some r) :
    Calls Try.prog 17 #[.int .i64 a0] w fun e w' => ∃ v0_ : Value, e = .returned v0_ ∧ Kd.R (Kd.int .i64) 3 w' w.heap.size (fun _ => True) v0_ r ∧ Below w.heap.size w w' := by
  obtain rfl := Option.some.inj h
  clear h
  obtain ⟨i0, hi, hz0, hz1, hz2⟩ := info_parts info3
  by_cases hs : Scal a0
  · have ho : orbitP a0 = (foldF a0 :: gsF (foldF a0)).mergeSort fun x y => decide (x ≤ y) := by unfold orbitP; rw [if_pos hs]
    have hhas : set_Has.f [⟨0, 1114111⟩] a0 = some true := by have := has_all a0; unfold allS at this; unfold set_Has.f; rw [this, decide_eq_true hs]
    have hfs : Scal (foldF a0) := fold_scal.2 hs
    obtain ⟨f, hf⟩ : ∃ f, foldF a0 = f := ⟨_, rfl⟩
    have HF := Aside0.mk (show fold_Fold.f a0 = some f by unfold fold_Fold.f; rw [hf])
    have HH := Aside0.mk hhas
    have HO := Aside0.mk ho
    rw [hf] at hfs HO
    obtain ⟨hf0, hf1, hf2⟩ := hfs
    clear ho hhas hf hs
    go_enter Try.func17, Try.ntmps17
    go_wp2_with (first
      | (go_at_call 28; refine (set_Has.calls _ _ [⟨0, 1114111⟩] a0 true _ (C_span1 _ ⟨0, 1114111⟩) (Nat.le_refl _) HH.out).mono ?_; rintro e w1 ⟨rfl, hb1⟩)
      | (go_at_call 9; refine (fold_Fold.calls a0 f _ HF.out).mono ?_; rintro e w2 ⟨rfl, hb2⟩)
      | (go_at_call 23; refine (runs_calls _).mono ?_; rintro e w3 ⟨rfl, hb3⟩))
    have hB1 := ((Below.refl w.heap.size w).alloc (Nat.le_refl _) _).trans (hb1.mono (by simp))
    have hB2 := hB1.trans (hb2.mono hB1.size)
    have hB3 := (hB2.alloc hB2.size _).trans (hb3.mono (by have := hB2.size; simp; omega))
    have ho2 : (w2.alloc (.cells #[.int .i64 f] 3)).ownsRow w.heap.size 3 1 (.slice (some ⟨w2.heap.size, 0, none⟩) 1 1) 1 [.int .i64 f] :=
      ⟨rfl, .inr ⟨w2.heap.size, 1, #[.int .i64 f], rfl, hB2.size, heap_alloc_new _ _, Nat.le_refl _, by decide, rfl, rfl⟩⟩
    have HO3 := Aside0.mk (pw_own_below ho2 hb3)
    have HB3 := Aside0.mk hB3
    clear hb1 hb2 hb3 hB1 hB2 hB3 ho2
    generalize hrv : runsV = rv
    have HRV := Aside0.mk hrv
    clear hrv
    go_loopw [4, 18] (fun v i wr => ∃ k : Nat, k ≤ 11 ∧ i = .int .i64 k ∧ Aside0 (wr.ownsRow w.heap.size 3 1 v (1 + ((runsL.take k).filterMap (gOf f)).length) ((f :: (runsL.take k).filterMap (gOf f)).map (Value.int .i64))) ∧ Aside0 (Below w.heap.size w wr)) (fun _ i _ => 11 - (intOf i).toNat)
    case atStart => exact ⟨0, by omega, rfl, HO3, HB3⟩
    case round =>
      obtain ⟨k, hk, rfl, HR, HB⟩ := hrel
      by_cases hlt : k < 11
      · obtain ⟨x, hx⟩ : ∃ x, runsL[k]? = some x := ⟨_, List.getElem?_eq_getElem hlt⟩
        have hidx := runs_idx k x hx
        rw [HRV.out] at hidx
        obtain ⟨b1, b2, b3, b4, b5, b6, b7, b8, _, _, _⟩ := runs_bd (List.mem_of_getElem? hx)
        have hgt := gs_take f k x hx
        have hgl := gs_take_len f k hk
        have hgg : gOf f x = if foldF (f - x.st) = f ∧ x.lo ≤ f - x.st ∧ f - x.st ≤ x.hi then some (f - x.st) else none := rfl
        obtain ⟨L, hL⟩ : ∃ L, (runsL.take k).filterMap (gOf f) = L := ⟨_, rfl⟩
        rw [hL] at hgt hgl HR
        obtain ⟨g2, hg2⟩ : ∃ g2, foldF (f - x.st) = g2 := ⟨_, rfl⟩
        rw [hg2] at hgg
        have hcf := fun W => fold_Fold.calls (f - x.st) g2 W (by unfold fold_Fold.f; rw [hg2])
        have HT := Aside0.mk hgt
        have HG := Aside0.mk hgg
        clear hx hgt hgg hL hg2
        unfold rnV at hidx
        obtain ⟨xl, xh, xb, xs⟩ := x
        simp only at hidx b1 b2 b3 b4 b5 b6 b7 b8 hcf HG
        have hltz : (k : Int) < 11 := by omega
        obtain ⟨A4, c4, rfl⟩ := own_slice HR.out
        have hbs := HB.out.size
        have CF : Aside0 (∀ W, Calls Try.prog 9 #[.int .i64 (f - xs)] W fun e w' => e = .returned (.int .i64 g2) ∧ Below W.heap.size W w') := ⟨hcf⟩
        clear hcf
        by_cases c1 : g2 = f
        · have d1 : (g2 == f) = true := beq_iff_eq.2 c1
          have C1 := Aside0.mk c1
          clear c1
          by_cases c2 : xl ≤ f - xs
          · by_cases c3 : f - xs ≤ xh
            · have q_ := trivial
              go_wp2_with (first
                | (go_at_call 9; refine (CF.out _).mono ?_; rintro e w4 ⟨rfl, hb4⟩; have HR4 := Aside0.mk (pw_own_below (HR.out.alloc _) hb4); have HB4 := Aside0.mk ((HB.out.alloc hbs _).trans (hb4.mono (by simp; omega))); have hc0 : w4.cell? ⟨wr.heap.size, 0, none⟩ = some (.int .i64 xl) := (hb4.cell (p := ⟨wr.heap.size, 0, none⟩) (by simp)).trans (by rw [World.cell?_alloc_new]; rfl); have hc1 : w4.cell? ⟨wr.heap.size, 1, none⟩ = some (.int .i64 xh) := (hb4.cell (p := ⟨wr.heap.size, 1, none⟩) (by simp)).trans (by rw [World.cell?_alloc_new]; rfl); clear hb4)
                | (at_builtin; refine wpList_append_own _ rfl _ _ 37 rfl w.heap.size 3 i0 (.int .i64 0) 1 8 Try.underlying37 hi hz0 hz1 hz2 rfl (by decide) _ _ _ rfl (HR4.out.alloc _) ⟨w4.heap.size, 0, none⟩ 1 1 [.int .i64 (f - xs)] rfl rfl ?c1 ?c2 ?c3 ?c4 ?c5 ?_; (case c1 => exact World.news_of_block (cs := #[.int .i64 (f - xs)]) (t := 3) (fr := (0, 0)) (heap_alloc_new w4 _)); (case c2 => simp [Value.oneCell']); (case c3 => unfold maxLen; omega); (case c4 => omega); (case c5 => have := HB4.out.size; simp; omega); intro v' w5 hown' hgrow _; have HR5 := Aside0.mk hown'; have HG5 := Aside0.mk hgrow; clear hown' hgrow))
              go_roundw
              case rel => exact ⟨k + 1, by omega, by go_num, ⟨by rw [HT.out, HG.out, if_pos ⟨C1.out, c2, c3⟩]; have := HR5.out; simpa [Nat.add_assoc] using this⟩, ⟨(HB4.out.alloc HB4.out.size _).grown HG5.out (by have := HB4.out.size; simp; omega) (fun j hj => (HR4.out.lt j hj).1)⟩⟩
              case measure => simp [intOf]; omega
            · have q_ := trivial
              go_wp2_with (first
                | (go_at_call 9; refine (CF.out _).mono ?_; rintro e w4 ⟨rfl, hb4⟩; have HR4 := Aside0.mk (pw_own_below (HR.out.alloc _) hb4); have HB4 := Aside0.mk ((HB.out.alloc hbs _).trans (hb4.mono (by simp; omega))); have hc0 : w4.cell? ⟨wr.heap.size, 0, none⟩ = some (.int .i64 xl) := (hb4.cell (p := ⟨wr.heap.size, 0, none⟩) (by simp)).trans (by rw [World.cell?_alloc_new]; rfl); have hc1 : w4.cell? ⟨wr.heap.size, 1, none⟩ = some (.int .i64 xh) := (hb4.cell (p := ⟨wr.heap.size, 1, none⟩) (by simp)).trans (by rw [World.cell?_alloc_new]; rfl); clear hb4))
              go_roundw
              case rel => exact ⟨k + 1, by omega, by go_num, ⟨by rw [HT.out, HG.out, if_neg (by rintro ⟨z1, z2, z3⟩; first | exact C1.out z1 | omega)]; simpa using HR4.out⟩, HB4⟩
              case measure => simp [intOf]; omega
          · have q_ := trivial
            go_wp2_with (first
              | (go_at_call 9; refine (CF.out _).mono ?_; rintro e w4 ⟨rfl, hb4⟩; have HR4 := Aside0.mk (pw_own_below (HR.out.alloc _) hb4); have HB4 := Aside0.mk ((HB.out.alloc hbs _).trans (hb4.mono (by simp; omega))); have hc0 : w4.cell? ⟨wr.heap.size, 0, none⟩ = some (.int .i64 xl) := (hb4.cell (p := ⟨wr.heap.size, 0, none⟩) (by simp)).trans (by rw [World.cell?_alloc_new]; rfl); have hc1 : w4.cell? ⟨wr.heap.size, 1, none⟩ = some (.int .i64 xh) := (hb4.cell (p := ⟨wr.heap.size, 1, none⟩) (by simp)).trans (by rw [World.cell?_alloc_new]; rfl); clear hb4))
            go_roundw
            case rel => exact ⟨k + 1, by omega, by go_num, ⟨by rw [HT.out, HG.out, if_neg (by rintro ⟨z1, z2, z3⟩; first | exact C1.out z1 | omega)]; simpa using HR4.out⟩, HB4⟩
            case measure => simp [intOf]; omega
        · have d1 : (g2 == f) = false := beq_eq_false_iff_ne.2 c1
          have C1 := Aside0.mk c1
          clear c1
          go_wp2_with (first
            | (go_at_call 9; refine (CF.out _).mono ?_; rintro e w4 ⟨rfl, hb4⟩; have HR4 := Aside0.mk (pw_own_below (HR.out.alloc _) hb4); have HB4 := Aside0.mk ((HB.out.alloc hbs _).trans (hb4.mono (by simp; omega))); have hc0 : w4.cell? ⟨wr.heap.size, 0, none⟩ = some (.int .i64 xl) := (hb4.cell (p := ⟨wr.heap.size, 0, none⟩) (by simp)).trans (by rw [World.cell?_alloc_new]; rfl); have hc1 : w4.cell? ⟨wr.heap.size, 1, none⟩ = some (.int .i64 xh) := (hb4.cell (p := ⟨wr.heap.size, 1, none⟩) (by simp)).trans (by rw [World.cell?_alloc_new]; rfl); clear hb4))
          go_roundw
          case rel => exact ⟨k + 1, by omega, by go_num, ⟨by rw [HT.out, HG.out, if_neg (by rintro ⟨z1, z2, z3⟩; first | exact C1.out z1 | omega)]; simpa using HR4.out⟩, HB4⟩
          case measure => simp [intOf]; omega
      · obtain rfl : k = 11 := by omega
        have hR := HR.out
        rw [show (runsL.take 11).filterMap (gOf f) = gsF f from rfl] at hR
        have hgl := gsF_len f
        have hnd := orb_nodup f
        obtain ⟨zs, hzs⟩ : ∃ zs, f :: gsF f = zs := ⟨_, rfl⟩
        have hlz : 1 + (gsF f).length = zs.length := by rw [← hzs, List.length_cons]; omega
        have hl2 : (zs.mergeSort fun x y => decide (x ≤ y)).length = zs.length := List.length_mergeSort zs
        have hup := sort_lt (hzs ▸ hnd)
        rw [hzs] at hR HO
        rw [hlz] at hR
        have HR1 := Aside0.mk hR
        obtain ⟨m, hm⟩ : ∃ m, zs.length = m := ⟨_, rfl⟩
        have hm1 : 0 < m := by omega
        have hm2 : m ≤ 1000000 := by omega
        have hsrt := sortI_own w.heap.size m _ zs wr hm hm1 hm2 (hm ▸ hR)
        rw [hm] at hl2
        have HL2 := Aside0.mk hl2
        have HUP := Aside0.mk hup
        clear hR hgl hnd hzs hlz hl2 hup hm HR HR1
        go_wp2_with (first
          | (go_at_call 31; refine hsrt.mono ?_; rintro e w6 ⟨rfl, ho6, hb6⟩; have hcmp := compactI_own w.heap.size m _ _ w6 HL2.out hm1 hm2 HUP.out ho6; have HB6 := Aside0.mk (HB.out.trans hb6); clear hb6 ho6)
          | (go_at_call 32; refine hcmp.mono ?_; rintro e w7 ⟨rfl, ho7, hb7⟩))
        go_ret
        refine ⟨_, rfl, ?_, HB6.out.trans hb7⟩
        rw [HO.out]
        exact Kd_of_ints HL2.out.symm ho7
  · have ho : orbitP a0 = [] := by unfold orbitP; rw [if_neg hs]
    have hhas : set_Has.f [⟨0, 1114111⟩] a0 = some false := by have := has_all a0; unfold allS at this; unfold set_Has.f; rw [this, decide_eq_false hs]
    have HH := Aside0.mk hhas
    rw [ho]
    clear ho hhas hs
    go_enter Try.func17, Try.ntmps17
    go_wp2_with (go_at_call 28; refine (set_Has.calls _ _ [⟨0, 1114111⟩] a0 false _ (C_span1 _ ⟨0, 1114111⟩) (Nat.le_refl _) HH.out).mono ?_; rintro e w1 ⟨rfl, hb1⟩)
    go_ret
    exact ⟨_, rfl, Kd.R_nil _ _ _ _ _, ((Below.refl w.heap.size w).alloc (Nat.le_refl _) _).trans (hb1.mono (by simp))⟩
end
end Go.Proofs.Ytmbhpkpoppdilaa.P
