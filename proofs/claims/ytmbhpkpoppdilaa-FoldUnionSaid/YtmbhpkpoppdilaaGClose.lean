/- fold.Close, as a contract in the print's own form. -/
import Derived.Test.YtmbhpkpoppdilaaPx0
import Derived.Test.YtmbhpkpoppdilaaPx14
import Derived.Test.YtmbhpkpoppdilaaGBase
import Derived.Test.YtmbhpkpoppdilaaGFold
import Derived.Test.YtmbhpkpoppdilaaGHas
import Derived.Test.YtmbhpkpoppdilaaGNorm
import Derived.Test.YtmbhpkpoppdilaaPBase
import Derived.Shelf.Abstract
import Derived.Shelf.RegionOpen
import Derived.Outline
import Derived.RangeFuncBox
namespace Go.Proofs.Ytmbhpkpoppdilaa.P
set_option linter.unusedVariables false
set_option linter.unusedSimpArgs false
section
open Go.RowKit Go.Shelf Go.Proofs.YtmbhpkpoppdilaaW.PrintWords Go.Proofs.YtmbhpkpoppdilaaW.PrintLast Go.Proofs.YtmbhpkpoppdilaaW.PrintMore
/-- What is asked of a predicate on numbers. -/
def PredI (g : Nat) (lb : Array Value) (p : Int → Bool) (w : World) : Prop :=
  ∀ (W : World) (x : Int), Below w.heap.size w W → Calls Try.prog g (#[.int .i64 x] ++ lb) W fun e w' => e = .returned (.bool (p x)) ∧ Below w.heap.size w w'
def idxI (p : Int → Bool) (l : List Int) : Int := match l.findIdx? p with | some i => (i : Int) | none => -1
theorem idxI_nonneg (p : Int → Bool) (l : List Int) : decide (0 ≤ idxI p l) = l.any p := by
  unfold idxI
  cases h : l.findIdx? p with
  | none => rw [List.findIdx?_eq_none_iff] at h; symm; simp; exact h
  | some i => rw [List.findIdx?_eq_some_iff_getElem] at h; obtain ⟨hi, h1, _⟩ := h; symm; simp; exact ⟨_, List.getElem_mem hi, h1⟩
set_option maxHeartbeats 2000000 in
theorem indexFuncI (g : Nat) (lb : Array Value) (p : Int → Bool) (eg : ∀ args w, (callFunc g args).run Try.prog w = .ok (.enter g args) w) (A0 : Option Addr) (c0 : Nat) (l0 : List Int) (w : World) (hp : PredI g lb p w) (hr0 : Kd.C (Kd.int .i64) w A0 l0.length l0) :
    Calls Try.prog 40 #[.slice A0 l0.length c0, .func (.func g) #[] lb] w fun e w' => e = .returned (.int .i64 (idxI p l0)) ∧ Below w.heap.size w w' := by
  have HR0 := Aside0.mk hr0
  have hbig := hr0.2.1
  clear hr0
  obtain ⟨n, hn⟩ : ∃ n, l0.length = n := ⟨_, rfl⟩
  have HN := Aside0.mk hn
  rw [hn] at hbig ⊢
  clear hn
  go_enter Try.func40, Try.ntmps40
  go_wp2
  go_loopg [5, 8] n (fun gg _ s8 wr => ∃ kk : Nat, kk ≤ n ∧ n - kk ≤ gg ∧ s8 = .int .i64 kk ∧ Aside0 (Below w.heap.size w wr) ∧ Aside0 (∀ x ∈ l0.take kk, p x = false))
  case atStart => exact ⟨0, Nat.zero_le _, by omega, rfl, ⟨Below.refl _ w⟩, ⟨fun x hx => by simp at hx⟩⟩
  case round =>
    obtain ⟨kk, hkk, hg, rfl, BW, A⟩ := hrel
    by_cases hlt : kk < n
    · have hltz : (kk : Int) < (n : Int) := by omega
      obtain ⟨x, hx⟩ : ∃ x, x = rd l0 kk := ⟨_, rfl⟩
      obtain ⟨ad, e1, hx0⟩ := Kd.at_int (by have := HR0.out; rwa [HN.out] at this) (kk : Int) (by omega) (by omega)
      cases e1
      have HX := Aside0.mk hx
      rw [← hx] at hx0
      clear hx
      simp only [Int.toNat_natCast] at hx0
      replace hx0 := (BW.out.cell (World.block_lt_of_cell? w _ hx0)).trans hx0
      have hcall := hp wr x BW.out
      have hxx : l0[kk]? = some x := by
        have h1 : kk < l0.length := by rw [HN.out]; exact hlt
        rw [HX.out, rd, Int.toNat_natCast, List.getD_eq_getElem?_getD, List.getElem?_eq_getElem h1]; rfl
      have HXX := Aside0.mk hxx
      clear hxx hp
      cases hq : p x with
      | true =>
        rw [hq] at hcall
        have HQ := Aside0.mk hq
        clear hq
        go_wp2_with (go_at_fn g; refine hcall.mono ?_; rintro e w' ⟨rfl, hb'⟩)
        go_ret
        refine ⟨?_, hb'⟩
        have h1 : l0.findIdx? p = some kk := by
          rw [List.findIdx?_eq_some_iff_getElem]
          obtain ⟨h2, h3⟩ := List.getElem?_eq_some_iff.1 HXX.out
          refine ⟨h2, by rw [h3]; exact HQ.out, fun j hj => ?_⟩
          have := A.out (l0[j]'(by omega)) (List.mem_take_iff_getElem.2 ⟨j, by omega, rfl⟩)
          simpa using this
        unfold idxI
        rw [h1]
        rfl
      | false =>
        rw [hq] at hcall
        have HQ := Aside0.mk hq
        clear hq
        go_wp2_with (go_at_fn g; refine hcall.mono ?_; rintro e w' ⟨rfl, hb'⟩)
        go_roundg (n - (kk + 1))
        case measure => omega
        case rel =>
          refine ⟨kk + 1, by omega, by omega, by go_num, ⟨hb'⟩, ⟨fun y hy => ?_⟩⟩
          obtain ⟨h2, h3⟩ := List.getElem?_eq_some_iff.1 HXX.out
          rw [List.take_succ_eq_append_getElem h2, List.mem_append, List.mem_singleton] at hy
          rcases hy with hy | hy
          · exact A.out y hy
          · rw [hy, h3]; exact HQ.out
    · have hltz : ¬ (kk : Int) < (n : Int) := by omega
      have : kk = n := by omega
      subst this
      go_wp2
      go_ret
      refine ⟨?_, BW.out⟩
      have h1 : l0.findIdx? p = none := by
        rw [List.findIdx?_eq_none_iff]
        intro x hx
        exact A.out x (by rw [List.take_of_length_le (by rw [HN.out]; exact Nat.le_refl _)]; exact hx)
      unfold idxI
      rw [h1]
      rfl
set_option maxHeartbeats 2000000 in
theorem containsFuncI (g : Nat) (lb : Array Value) (p : Int → Bool) (eg : ∀ args w, (callFunc g args).run Try.prog w = .ok (.enter g args) w) (A0 : Option Addr) (c0 : Nat) (l0 : List Int) (w : World) (hp : PredI g lb p w) (hr0 : Kd.C (Kd.int .i64) w A0 l0.length l0) :
    Calls Try.prog 26 #[.slice A0 l0.length c0, .func (.func g) #[] lb] w fun e w' => e = .returned (.bool (l0.any p)) ∧ Below w.heap.size w w' := by
  have hcon := indexFuncI g lb p eg A0 c0 l0 w hp hr0
  have hany := idxI_nonneg p l0
  clear hr0 hp
  generalize idxI p l0 = r at hcon hany
  generalize l0.any p = b at hany ⊢
  generalize l0.length = n at hcon ⊢
  subst hany
  go_enter Try.func26, Try.ntmps26
  go_wp2_with (go_at_call 40; refine hcon.mono ?_; rintro e w' ⟨rfl, hb⟩)
  go_ret
  exact ⟨by simp, hb⟩
end
section
open Go.RowKit Go.Proofs.YtmbhpkpoppdilaaW.PrintWords Go.Proofs.YtmbhpkpoppdilaaW.PrintLast Go.Proofs.YtmbhpkpoppdilaaW.PrintMore
theorem C_rows (w : World) (xs : List (List S30)) (n : Nat) (cells : Array Value) (hn : n = xs.length) (hlen : xs.length ≤ 1000) (h : ∀ (j : Nat) (p : List S30), xs[j]? = some p → ∃ (A : Option Addr) (c : Nat), cells[j]? = some (Value.slice A p.length c) ∧ p.length ≤ c ∧ k30.C w A p.length p) : (Kd.slice 30 k30).C (w.alloc (.cells cells 26)) (some ⟨w.heap.size, 0, none⟩) n xs := by
  refine C_cells _ _ _ _ _ hn hlen fun j p hj => ?_
  obtain ⟨A, c, h0, h1, h2⟩ := h j p hj
  refine ⟨[.slice A p.length c], rfl, ⟨A, c, rfl, h1, Kd.C_alloc h2 _⟩, fun i u hu => ?_⟩
  match i, hu with
  | 0, hu => simp at hu; subst hu; show (w.alloc _).cell? ⟨w.heap.size, j * 1 + 0, none⟩ = _; rw [World.cell?_alloc_new]; simpa using h0
theorem C_rows2 {w : World} {a b : List S30} {A B : Option Addr} {c d : Nat} (ha : k30.C w A a.length a) (hc : a.length ≤ c) (hb : k30.C w B b.length b) (hd : b.length ≤ d) : (Kd.slice 30 k30).C (w.alloc (.cells #[.slice A a.length c, .slice B b.length d] 26)) (some ⟨w.heap.size, 0, none⟩) 2 [a, b] :=
  C_rows w [a, b] 2 _ rfl (by simp) fun j p hj => by
    match j, hj with
    | 0, hj => simp at hj; subst hj; exact ⟨_, _, rfl, hc, ha⟩
    | 1, hj => simp at hj; subst hj; exact ⟨_, _, rfl, hd, hb⟩
theorem C_rowsL2 {w : World} {a b : List S30} {A B : Option Addr} {c d : Nat} (ha : k30.C w A a.length a) (hc : a.length ≤ c) (hb : k30.C w B b.length b) (hd : b.length ≤ d) : (Kd.slice 30 k30).C (w.alloc (.cells #[.slice A a.length c, .slice B b.length d] 26)) (some ⟨w.heap.size, 0, none⟩) ([a, b] : List (List S30)).length [a, b] := C_rows2 ha hc hb hd
end
section
open Go.RowKit Go.Shelf Go.Proofs.YtmbhpkpoppdilaaW.PrintWords Go.Proofs.YtmbhpkpoppdilaaW.PrintLast Go.Proofs.YtmbhpkpoppdilaaW.PrintMore
def spanO (l : List Int) : List S30 := l.map fun x => ⟨x, x⟩
def moreR (out : List S30) (r : Int) : List S30 := if (orbitP r).any (hasP out) then spanO (orbitP r) else []
def moreX (out : List S30) (x : Rn) (j : Nat) : List S30 := (List.range j).flatMap fun (t : Nat) => moreR out (x.lo + t)
def runN (x : Rn) : Nat := (x.hi - x.lo + 1).toNat
def moreK (out : List S30) (k : Nat) : List S30 := (runsL.take k).flatMap fun x => moreX out x (runN x)
def moreP (out : List S30) : List S30 := runsL.flatMap fun x => moreX out x (runN x)
def fold_Close.f (l0 : List S30) : Option (List S30) := (set_Norm.f l0).bind fun o => set_Union.f [o, moreP o]
theorem moreR_len (out : List S30) (r : Int) : (moreR out r).length ≤ 12 := by
  unfold moreR
  split
  · unfold spanO; rw [List.length_map]; exact orbit_len r
  · simp
theorem moreX_succ (out : List S30) (x : Rn) (j : Nat) : moreX out x (j + 1) = moreX out x j ++ moreR out (x.lo + j) := by
  unfold moreX
  rw [List.range_succ, List.flatMap_append]
  simp
theorem moreX_len (out : List S30) (x : Rn) (j : Nat) : (moreX out x j).length ≤ 12 * j := by
  induction j with
  | zero => simp [moreX]
  | succ j ih => rw [moreX_succ, List.length_append]; have := moreR_len out (x.lo + j); omega
theorem moreK_succ (out : List S30) (k : Nat) (x : Rn) (h : runsL[k]? = some x) : moreK out (k + 1) = moreK out k ++ moreX out x (runN x) := by
  obtain ⟨h1, h2⟩ := List.getElem?_eq_some_iff.1 h
  unfold moreK
  rw [List.take_succ_eq_append_getElem h1, List.flatMap_append, h2]
  simp
theorem runN_le {x : Rn} (h : x ∈ runsL) : runN x ≤ 48 := by
  rcases runs_mem h with rfl | rfl | rfl | rfl | rfl | rfl | rfl | rfl | rfl | rfl | rfl <;> decide
theorem moreK_len (out : List S30) (k : Nat) : (moreK out k).length ≤ 576 * k := by
  induction k with
  | zero => simp [moreK]
  | succ k ih =>
    by_cases hk : k < 11
    · obtain ⟨x, hx⟩ : ∃ x, runsL[k]? = some x := ⟨_, List.getElem?_eq_getElem hk⟩
      rw [moreK_succ out k x hx, List.length_append]
      have h1 := moreX_len out x (runN x)
      have h2 := runN_le (List.mem_of_getElem? hx)
      omega
    · have : moreK out (k + 1) = moreK out k := by
        unfold moreK
        rw [List.take_of_length_le (show runsL.length ≤ k + 1 by show 11 ≤ k + 1; omega), List.take_of_length_le (show runsL.length ≤ k by show 11 ≤ k; omega)]
      rw [this]; omega
/-- What a call keeps that writes the block B, and a row of the call's own from n on. -/
structure Kp (n B : Nat) (w w' : World) : Prop where
  os : w'.os = w.os
  tape : w'.tape = w.tape
  output : w'.output = w.output
  size : w.heap.size ≤ w'.heap.size
  low : ∀ k, k < n → k ≠ B → w'.heap[k]? = w.heap[k]?
  box : ∀ (k : Nat) (cs : Array Value) (t : TypeId), k ≠ B → t ≠ 30 → w.heap[k]? = some (.cells cs t (0, 0)) → w'.heap[k]? = some (.cells cs t (0, 0))
theorem Kp.refl (n B : Nat) (w : World) : Kp n B w w := ⟨rfl, rfl, rfl, Nat.le_refl _, fun _ _ _ => rfl, fun _ _ _ _ _ h => h⟩
theorem Kp.trans {n B : Nat} {a b c : World} (h : Kp n B a b) (g : Kp n B b c) : Kp n B a c :=
  ⟨g.os.trans h.os, g.tape.trans h.tape, g.output.trans h.output, Nat.le_trans h.size g.size, fun k h1 h2 => (g.low k h1 h2).trans (h.low k h1 h2), fun k cs t h1 h2 h3 => g.box k cs t h1 h2 (h.box k cs t h1 h2 h3)⟩
theorem Kp.of_below {n B : Nat} {w w' : World} (h : Below w.heap.size w w') (hn : n ≤ w.heap.size) : Kp n B w w' :=
  ⟨h.os, h.tape, h.output, h.size, fun k hk _ => h.block k (by omega), fun k cs t _ _ hk => (h.block k (Array.getElem?_eq_some_iff.1 hk).1).trans hk⟩
theorem Kp.step {n B : Nat} {w w1 w2 : World} (h : Kp n B w w1) (hb : Below w1.heap.size w1 w2) (hn : n ≤ w.heap.size) : Kp n B w w2 := h.trans (Kp.of_below hb (Nat.le_trans hn h.size))
theorem Kp.grown {n B : Nat} {w w1 : World} {v : Value} {m : Nat} {xs : List Value} {o : Obj} (hr : w.ownsRow n 30 2 v m xs) (hg : (w.alloc o).grownBy w1 v.ownBlock) (hn : n ≤ w.heap.size) : Kp n B w w1 := by
  have hrow : ∀ j, v.ownBlock = some j → n ≤ j ∧ ∃ cur, w.heap[j]? = some (.cells cur 30 (0, 0)) := by
    intro j ej
    rcases hr.2 with ⟨rfl, _⟩ | ⟨g, cap, cur, rfl, hb, hgb, _⟩
    · simp [Value.ownBlock] at ej
    · obtain rfl : g = j := by simpa [Value.ownBlock] using ej
      exact ⟨hb, cur, hgb⟩
  have hB := ((Below.refl n w).alloc hn o).grown hg (by simp; omega) (fun j ej => (hrow j ej).1)
  refine ⟨hB.os, hB.tape, hB.output, hB.size, fun k hk _ => hB.block k hk, fun k cs t _ ht hk => ?_⟩
  have hlt := (Array.getElem?_eq_some_iff.1 hk).1
  have h1 : (w.alloc o).heap[k]? = some (.cells cs t (0, 0)) := (Below.heap_alloc w o k hlt).trans hk
  refine (hg.block k (by simp; omega) fun e => ?_).trans h1
  obtain ⟨_, cur, h2⟩ := hrow k e.symm
  rw [h2] at hk
  cases hk
  exact ht rfl
theorem Kp.setB (n B : Nat) (w : World) (v : Value) : Kp n B w (w.setCell ⟨B, 0, none⟩ v) := by
  have h : ∀ k, k ≠ B → (w.setCell ⟨B, 0, none⟩ v).heap[k]? = w.heap[k]? := fun k hk => Below.heap_setCell w ⟨B, 0, none⟩ v k hk
  exact ⟨rfl, rfl, rfl, by simp [World.setCell], fun k _ h2 => h k h2, fun k cs t h2 _ hk => (h k h2).trans hk⟩
theorem boxed_below {w w' : World} {B : Nat} {t : TypeId} {v : Value} (h : Boxed w B t v) (hb : Below w.heap.size w w') : Boxed w' B t v := (hb.block B h.lt).trans h
/-- A row of numbers that lies apart from what is written stands. -/
theorem own_cell_kept {n B base m c k : Nat} {w wr : World} {A : Option Addr} {xs : List Int} (ho : w.ownsRow base 3 1 (.slice A m c) m (xs.map (Value.int .i64))) (hm : m = xs.length) (hB : B < base) (kp : Kp n B w wr) (hk : k < m) :
    ∃ ad, A = some ad ∧ wr.cell? (ad.add k) = some (.int .i64 (rd xs k)) := by
  have hC := (Kd.R_reads' (Kd_of_ints hm ho)).2.2
  obtain ⟨ad, e, h⟩ := Kd.at_int (hm ▸ hC) (k : Int) (by omega) (by omega)
  refine ⟨ad, e, ?_⟩
  rw [Int.toNat_natCast] at h
  rw [← h]
  rcases ho.2 with ⟨e2, h0⟩ | ⟨g, cap, cur, e2, hb, hg, _⟩
  · omega
  · injection e2 with e3 _ _
    rw [e] at e3
    cases e3
    have ha : (⟨g, 0, none⟩ : Addr).add k = ⟨g, 0 + k, none⟩ := by unfold Addr.add; split <;> simp_all
    rw [ha]
    exact World.cell?_of_block ((kp.box g cur 3 (by omega) (by decide) hg).trans hg.symm)
theorem spanO_take (zs : List Int) (k : Nat) (h : k < zs.length) : spanO (zs.take (k + 1)) = spanO (zs.take k) ++ [⟨rd zs k, rd zs k⟩] := by
  unfold spanO
  rw [List.take_succ_eq_append_getElem h, List.map_append]
  congr 1
  simp [rd, List.getD_eq_getElem?_getD, List.getElem?_eq_getElem h]
theorem spanO_len (zs : List Int) : (spanO zs).length = zs.length := List.length_map _
set_option maxRecDepth 100000 in
set_option maxHeartbeats 2000000 in
theorem take_calls (n₁ B : Nat) (v : Value) (ms : List S30) (r : Int) (w : World) (hn₁ : n₁ ≤ w.heap.size) (hB : Boxed w B 26 v) (hrow : w.ownsRow n₁ 30 2 v ms.length (scs ms)) (hlen : ms.length ≤ 1000000) :
    Calls Try.prog 25 #[.int .i64 r, .pointer (some ⟨B, 0, none⟩)] w fun e w' => e = .returned (.tuple #[]) ∧ ∃ v', Boxed w' B 26 v' ∧ w'.ownsRow n₁ 30 2 v' (ms ++ spanO (orbitP r)).length (scs (ms ++ spanO (orbitP r))) ∧ Kp n₁ B w w' := by
  obtain ⟨i0, hi, hz0, hz1, hz2⟩ := info_parts info30
  have hol := orbit_len r
  have horb := fun W => fold_Orbit.calls r (orbitP r) W rfl
  obtain ⟨zs, hzs⟩ : ∃ zs, orbitP r = zs := ⟨_, rfl⟩
  rw [hzs] at hol horb ⊢
  have CO : Aside0 (∀ W, Calls Try.prog 17 #[.int .i64 r] W fun e w' => ∃ v0_ : Value, e = .returned v0_ ∧ Kd.R (Kd.int .i64) 3 w' W.heap.size (fun _ => True) v0_ zs ∧ Below W.heap.size W w') := ⟨horb⟩
  have BX := Aside0.mk hB
  have RW := Aside0.mk hrow
  have hBl := hB.lt
  clear horb hzs hB hrow
  go_enter Try.func25, Try.ntmps25
  go_wp2_with (go_at_call 17; refine (CO.out _).mono ?_; rintro e w1 ⟨v1, rfl, ho1, hb1⟩; obtain ⟨A1, c1, rfl⟩ := Kd.R_slice ho1)
  have ho := Kd.own_of_R ho1
  obtain ⟨n, hn⟩ : ∃ n, zs.length = n := ⟨_, rfl⟩
  have HO : Aside0 (w1.ownsRow w.heap.size 3 1 (.slice A1 n c1) n (zs.map (Value.int .i64))) := ⟨hn ▸ ho⟩
  have HN := Aside0.mk hn
  rw [hn] at hol ⊢
  have BX1 := Aside0.mk (boxed_below BX.out hb1)
  have RW1 := Aside0.mk (pw_own_below RW.out hb1)
  have KP0 := Aside0.mk (Kp.of_below (B := B) hb1 hn₁)
  have hs1 := hb1.size
  have HW1 := Aside0.mk hs1
  clear ho1 hb1 ho BX RW hn hs1
  go_loopw [8] (fun i wr => ∃ (k : Nat) (v' : Value), k ≤ n ∧ i = .int .i64 k ∧ Aside0 (Boxed wr B 26 v') ∧ Aside0 (wr.ownsRow n₁ 30 2 v' (ms ++ spanO (zs.take k)).length (scs (ms ++ spanO (zs.take k)))) ∧ Aside0 (Kp n₁ B w1 wr)) (fun i _ => n - (intOf i).toNat)
  case atStart => exact ⟨0, v, by omega, rfl, BX1, ⟨by simpa [spanO] using RW1.out⟩, ⟨Kp.refl _ _ _⟩⟩
  case round =>
    clear BX1 RW1
    obtain ⟨k, v', hk, rfl, BX, RW, KP⟩ := hrel
    by_cases hlt : k < n
    · obtain ⟨ad, e1, hx0⟩ := own_cell_kept HO.out HN.out.symm hBl KP.out hlt
      cases e1
      obtain ⟨x, hx⟩ : ∃ x, rd zs k = x := ⟨_, rfl⟩
      have hst := spanO_take zs k (by rw [HN.out]; exact hlt)
      rw [hx] at hx0 hst
      obtain ⟨S, hS⟩ : ∃ S, ms ++ spanO (zs.take k) = S := ⟨_, rfl⟩
      have hSl : S.length ≤ 2000000 := by
        have h1 : (spanO (zs.take k)).length ≤ 12 := by rw [spanO_len, List.length_take]; omega
        rw [← hS, List.length_append]; omega
      have hS2 : ms ++ spanO (zs.take (k + 1)) = S ++ [⟨x, x⟩] := by rw [hst, ← List.append_assoc, hS]
      rw [hS] at RW
      have HS2 := Aside0.mk hS2
      clear hx hst hS hS2
      have hltz : (k : Int) < (n : Int) := by omega
      have hc := BX.out.cell
      have hwl := KP.out.size
      have HWL : Aside0 (n₁ ≤ wr.heap.size) := ⟨by have := HW1.out; omega⟩
      obtain ⟨A4, c4, rfl⟩ := own_slice RW.out
      go_wp2_with (at_builtin; refine wpList_append_own _ rfl _ _ 26 rfl n₁ 30 i0 (.agg #[.int .i64 0, .int .i64 0]) 2 16 Try.underlying26 hi hz0 hz1 hz2 rfl (by decide) _ _ _ rfl (RW.out.alloc _) ⟨wr.heap.size, 0, none⟩ 1 1 [.int .i64 x, .int .i64 x] rfl rfl ?c1 ?c2 ?c3 ?c4 ?c5 ?_; (case c1 => exact World.news_of_block (heap_alloc_new wr _)); (case c2 => simp [Value.oneCell']); (case c3 => unfold maxLen; omega); (case c4 => omega); (case c5 => have := HWL.out; simp; omega); intro v5 w5 hown' hgrow _; obtain ⟨A5, c5, rfl⟩ := own_slice hown'; have hv1 := (BX.out.alloc (.cells #[.int .i64 x, .int .i64 x] 30)).kept hgrow (BX.out.not_row (by decide) RW.out); have hc5 := hv1.cell; have hf5 := hv1.frozen; have BX5 := Aside0.mk hv1; have RW5 := Aside0.mk hown'; have GR5 := Aside0.mk hgrow; clear hv1 hown' hgrow)
      go_roundw
      case rel =>
        have hr : wr.ownsRow n₁ 30 2 (.slice A4 S.length c4) S.length (scs S) := RW.out
        refine ⟨k + 1, _, by omega, by go_num, ⟨BX5.out.set _⟩, ⟨?_⟩, ⟨KP.out.trans ((Kp.grown hr GR5.out HWL.out).trans (Kp.setB _ _ _ _))⟩⟩
        have h1 := RW5.out.kept (grownBy_setCell' w5 B (.slice A5 (S.length + 1) c5)) (.inr (BX5.out.not_row (by decide) RW5.out).symm)
        rw [HS2.out, scs_append, scs_one, List.length_append]
        exact h1
      case measure => simp [intOf]; omega
    · obtain rfl : k = n := by omega
      have RW2 := RW.out
      rw [List.take_of_length_le (by rw [HN.out]; exact Nat.le_refl _)] at RW2
      have R2 := Aside0.mk RW2
      clear RW2 RW
      go_wp2
      exact bodyPost_end (results_none rfl _ _ _) rfl ⟨rfl, _, BX.out, R2.out, KP0.out.trans KP.out⟩
theorem C_kp {n₁ B : Nat} {w0 w1 wr : World} {A : Option Addr} {n : Nat} {xs : List S30} (h : Kd.C k30 w1 A n xs) (hb : Below w1.heap.size w1 w0) (kp : Kp n₁ B w0 wr) (hn : w1.heap.size ≤ n₁) (hB : w1.heap.size ≤ B) : Kd.C k30 wr A n xs :=
  Kd.C_below h ⟨kp.os.trans hb.os, kp.tape.trans hb.tape, kp.output.trans hb.output, Nat.le_trans hb.size kp.size, fun k hk => (kp.low k (by omega) (by omega)).trans (hb.block k hk)⟩
/-- What is asked of fold.Close's predicate: the box holds the set. -/
theorem close2_pred (B : Nat) (A : Option Addr) (c : Nat) (out : List S30) (w : World) (hB : Boxed w B 26 (.slice A out.length c)) (hC : Kd.C k30 w A out.length out) (hc : out.length ≤ c) :
    PredI 27 #[.pointer (some ⟨B, 0, none⟩)] (hasP out) w := by
  intro W x hb
  have hB' := boxed_below hB hb
  have hcell := hB'.cell
  have hcon := fun W' (h : Below w.heap.size w W') => set_Has.calls A c out x (hasP out x) W' (Kd.C_below hC h) hc rfl
  obtain ⟨n, hn⟩ : ∃ n, out.length = n := ⟨_, rfl⟩
  obtain ⟨b, hbb⟩ : ∃ b, hasP out x = b := ⟨_, rfl⟩
  rw [hn, hbb] at hcon
  rw [hn] at hcell
  rw [hbb]
  have HW := Aside0.mk hb
  have CC := Aside0.mk hcon
  have hs := hb.size
  clear hb hB hC hB' hcon hn hbb
  show Calls Try.prog 27 #[.int .i64 x, .pointer (some ⟨B, 0, none⟩)] W fun e w' => e = .returned (.bool b) ∧ Below w.heap.size w w'
  go_enter Try.func27, Try.ntmps27
  go_wp2_with (go_at_call 28; refine (CC.out _ HW.out).mono ?_; rintro e w' ⟨rfl, hb'⟩)
  go_ret
  exact ⟨rfl, HW.out.trans (hb'.mono hs)⟩
set_option maxRecDepth 100000 in
set_option maxHeartbeats 4000000 in
theorem fold_Close.calls (A0 : Option Addr) (c0 : Nat) (l0 : List S30) (r : List S30) (w : World) (hr0 : Kd.C k30 w A0 l0.length l0) (hc0 : l0.length ≤ c0) (h : fold_Close.f l0 = some r) :
    Calls Try.prog 13 #[.slice A0 l0.length c0] w fun e w' => ∃ v0_ : Value, e = .returned (v0_) ∧ Kd.R k30 30 w' w.heap.size (fun _ => True) v0_ r ∧ Below w.heap.size w w' := by
  obtain ⟨out, ho, hu⟩ := Option.bind_eq_some_iff.1 h
  have HO := Aside0.mk ho
  have HU := Aside0.mk hu
  have HR0 := Aside0.mk hr0
  clear ho hu h hr0
  go_enter Try.func13, Try.ntmps13
  go_wp2_with (first
    | (go_at_call 24; refine (set_Norm.calls _ _ l0 out _ HR0.out hc0 HO.out).mono ?_; rintro e w1 ⟨v1, rfl, ho1, hb1⟩; obtain ⟨A1, c1, rfl⟩ := Kd.R_slice ho1)
    | (go_at_call 23; refine (runs_calls _).mono ?_; rintro e w3 ⟨rfl, hb3⟩))
  have HC1 := Aside0.mk (Kd.R_reads' ho1).2.2
  have HL1 := Aside0.mk (Kd.R_reads' ho1).2.1
  have HB1 := Aside0.mk hb1
  have hs1 := hb1.size
  have hbx3 := (Boxed.new w1 26 (.slice A1 out.length c1)).alloc (.cells #[.slice none 0 0] 26)
  have hbx4 := Boxed.new (w1.alloc (.cells #[.slice A1 out.length c1] 26)) 26 (.slice none 0 0)
  have hbw := ((Below.refl w1.heap.size w1).alloc (Nat.le_refl _) (.cells #[.slice A1 out.length c1] 26)).alloc (by simp) (.cells #[.slice none 0 0] 26)
  have hz0 : ((w1.alloc (.cells #[.slice A1 out.length c1] 26)).alloc (.cells #[.slice none 0 0] 26)).heap.size = w1.heap.size + 2 := by simp
  rw [World.size_alloc] at hbx4
  obtain ⟨W0, hW0⟩ : ∃ W0, (w1.alloc (.cells #[.slice A1 out.length c1] 26)).alloc (.cells #[.slice none 0 0] 26) = W0 := ⟨_, rfl⟩
  rw [hW0] at hbx3 hbx4 hbw hz0 hb3
  clear hW0 ho1 hb1
  have HBX3 := Aside0.mk hbx3
  have HBW := Aside0.mk hbw
  have BX0 := Aside0.mk (boxed_below hbx4 hb3)
  have KP0 := Aside0.mk (Kp.of_below (n := w1.heap.size + 2) (B := w1.heap.size + 1) hb3 (by omega))
  have HZ0 := Aside0.mk hz0
  clear hbx3 hbx4 hbw hb3 hz0
  generalize hrv : runsV = rv
  have HRV := Aside0.mk hrv
  clear hrv
  obtain ⟨b4, hb4⟩ : ∃ b, w1.heap.size + 1 = b := ⟨_, rfl⟩
  have HB4 := Aside0.mk hb4
  obtain ⟨n4, hn4⟩ : ∃ n, w1.heap.size + 2 = n := ⟨_, rfl⟩
  have HN4 := Aside0.mk hn4
  rw [hb4] at BX0 KP0 ⊢
  rw [hn4] at KP0
  rw [hn4] at HZ0
  clear hb4 hn4
  go_loopw [13] (fun i wr => ∃ (k : Nat) (v : Value), k ≤ 11 ∧ i = .int .i64 k ∧ Aside0 (Boxed wr b4 26 v) ∧ Aside0 (wr.ownsRow n4 30 2 v (moreK out k).length (scs (moreK out k))) ∧ Aside0 (Kp n4 b4 W0 wr)) (fun i _ => 11 - (intOf i).toNat)
  case atStart => exact ⟨0, _, by omega, rfl, BX0, ⟨by have : moreK out 0 = [] := rfl; rw [this]; exact World.ownsRow_nil _ _ _ _⟩, KP0⟩
  case round =>
    clear BX0 KP0
    obtain ⟨wo, rfl⟩ : ∃ wo : World, wo = wr := ⟨_, rfl⟩
    obtain ⟨k, v, hk, rfl, BX, RW, KP⟩ := hrel
    by_cases hlt : k < 11
    · obtain ⟨x, hx⟩ : ∃ x, runsL[k]? = some x := ⟨_, List.getElem?_eq_getElem hlt⟩
      have hidx := runs_idx k x hx
      rw [HRV.out] at hidx
      obtain ⟨b1, b2, b3, b4_, b5, b6, b7, b8, _, b10, b11⟩ := runs_bd (List.mem_of_getElem? hx)
      have hms := moreK_succ out k x hx
      have hml := moreK_len out k
      have hnx := runN_le (List.mem_of_getElem? hx)
      have hrn : (runN x : Int) = x.hi - x.lo + 1 := by unfold runN; omega
      have MX := Aside0.mk (fun j => moreX_succ out x j)
      have ML := Aside0.mk (fun j => moreX_len out x j)
      have MS := Aside0.mk hms
      clear hx hms
      obtain ⟨X, hX⟩ : ∃ X : Nat → List S30, moreX out x = X := ⟨_, rfl⟩
      have hX0 : X 0 = [] := by rw [← hX]; rfl
      obtain ⟨nx, hnn⟩ : ∃ nx, runN x = nx := ⟨_, rfl⟩
      rw [hX] at MX ML MS
      rw [hnn] at hnx hrn MS
      have HX0 := Aside0.mk hX0
      clear hX hX0 hnn
      unfold rnV at hidx
      obtain ⟨xl, xh, xb, xs⟩ := x
      simp only at hidx b1 b2 b3 b4_ b5 b6 b7 b8 b10 b11 hrn MX
      have hltz : (k : Int) < 11 := by omega
      have HOW := Aside0.mk KP.out.size
      go_wp2
      go_loopw [8] (fun i wr => ∃ (j : Nat) (v : Value), j ≤ nx ∧ i = .int .i64 (xl + j) ∧ Aside0 (Boxed wr b4 26 v) ∧ Aside0 (wr.ownsRow n4 30 2 v (moreK out k ++ X j).length (scs (moreK out k ++ X j))) ∧ Aside0 (Kp n4 b4 W0 wr) ∧ Aside0 (wr.heap[wo.heap.size]? = some (.cells #[.int .i64 xl, .int .i64 xh, .int .i64 xb, .int .i64 xs] 46 (0, 0)))) (fun i _ => (xh + 1 - intOf i).toNat)
      case atStart =>
        refine ⟨0, v, by omega, by simp, ⟨BX.out.alloc _⟩, ⟨?_⟩, ⟨KP.out.step ((Below.refl _ _).alloc (Nat.le_refl _) _) (by rw [HZ0.out]; exact Nat.le_refl _)⟩, ⟨heap_alloc_new _ _⟩⟩
        rw [HX0.out, List.append_nil]
        exact RW.out.alloc _
      case round =>
        clear BX RW KP
        obtain ⟨j, v, hj, rfl, BX, RW, KP, HBX⟩ := hrel
        have hcx : wr.cell? ⟨wo.heap.size, 1, none⟩ = some (.int .i64 xh) := by simp [World.cell?, HBX.out]
        by_cases hjt : j < nx
        · have hle : xl + (j : Int) ≤ xh := by omega
          have horb := fun W => fold_Orbit.calls (xl + j) (orbitP (xl + j)) W rfl
          have hmr : moreR out (xl + j) = if (orbitP (xl + j)).any (hasP out) then spanO (orbitP (xl + j)) else [] := rfl
          have hol := orbit_len (xl + j)
          obtain ⟨zs, hzs⟩ : ∃ zs, orbitP (xl + j) = zs := ⟨_, rfl⟩
          have hmx := MX.out j
          have hmlj := ML.out j
          rw [hmr] at hmx
          rw [hzs] at horb hmx hol
          obtain ⟨M, hM⟩ : ∃ M, moreK out k ++ X j = M := ⟨_, rfl⟩
          have hMl : M.length ≤ 1000000 := by rw [← hM, List.length_append]; omega
          have hMS : moreK out k ++ X (j + 1) = M ++ if zs.any (hasP out) then spanO zs else [] := by rw [hmx, ← List.append_assoc, hM]
          rw [hM] at RW
          have CO : Aside0 (∀ W, Calls Try.prog 17 #[.int .i64 (xl + j)] W fun e w' => ∃ v0_ : Value, e = .returned v0_ ∧ Kd.R (Kd.int .i64) 3 w' W.heap.size (fun _ => True) v0_ zs ∧ Below W.heap.size W w') := ⟨horb⟩
          have HMS := Aside0.mk hMS
          have HZS := Aside0.mk hzs
          clear horb hmr hmx hM hMS hmlj hol hzs
          have hwr := KP.out.size
          have HWR : Aside0 (n4 ≤ wr.heap.size) := ⟨by rw [HZ0.out] at hwr; exact hwr⟩
          have eg := enters_of Try.func27 (by kernel_rfl) rfl
          have EG := Aside0.mk eg
          clear eg hwr
          have HNE : Aside0 (wo.heap.size ≠ b4) := ⟨by have h1 := HOW.out; rw [HZ0.out] at h1; have h2 := HN4.out; have h3 := HB4.out; omega⟩
          have HBL : Aside0 (w1.heap.size ≤ b4 ∧ w1.heap.size < b4 ∧ w1.heap.size < n4 ∧ b4 < n4) := ⟨by have h2 := HN4.out; have h3 := HB4.out; omega⟩
          cases hbb : zs.any (hasP out) with
          | true =>
            have BB := Aside0.mk hbb
            clear hbb
            go_wp2_with (first
              | (go_at_call 17; refine (CO.out _).mono ?_; rintro e w4 ⟨v4, rfl, ho4, hb4⟩; obtain ⟨A4, c4, rfl⟩ := Kd.R_slice ho4; have BX4 := Aside0.mk (boxed_below BX.out hb4); have RW4 := Aside0.mk (pw_own_below RW.out hb4); have KP4 := Aside0.mk (KP.out.step hb4 (by rw [HZ0.out]; exact Nat.le_refl _)); have HBX4 := Aside0.mk ((hb4.block _ (Array.getElem?_eq_some_iff.1 HBX.out).1).trans HBX.out); have HC4 := Aside0.mk (Kd.R_reads' ho4).2.2; have HCO := Aside0.mk (C_kp HC1.out HBW.out KP4.out (by have := HBL.out; omega) HBL.out.1); have HB34 := Aside0.mk (show Boxed w4 w1.heap.size 26 (.slice A1 out.length c1) from (KP4.out.low _ HBL.out.2.2.1 (by have := HBL.out; omega)).trans HBX3.out); clear ho4 hb4)
              | (go_at_call 26; refine (containsFuncI 27 #[.pointer (some ⟨w1.heap.size, 0, none⟩)] (hasP out) EG.out A4 c4 zs _ (close2_pred w1.heap.size A1 c1 out _ HB34.out HCO.out HL1.out) HC4.out).mono ?_; rintro e w5 ⟨he, hb5⟩; rw [BB.out] at he; subst he; have BX5 := Aside0.mk (boxed_below BX4.out hb5); have RW5 := Aside0.mk (pw_own_below RW4.out hb5); have KP5 := Aside0.mk (KP4.out.step hb5 (by rw [HZ0.out]; exact Nat.le_refl _)); have HBX5 := Aside0.mk ((hb5.block _ (Array.getElem?_eq_some_iff.1 HBX4.out).1).trans HBX4.out); clear hb5)
              | (go_at_call 25; refine (take_calls n4 b4 v M (xl + j) _ (by have := HWR.out; have h2 := KP5.out.size; rw [HZ0.out] at h2; exact h2) BX5.out RW5.out hMl).mono ?_; rintro e w6 ⟨rfl, v6, hx6, hr6, hk6⟩; rw [HZS.out] at hr6; have BX6 := Aside0.mk hx6; have RW6 := Aside0.mk hr6; have KP6 := Aside0.mk (KP5.out.trans hk6); have HBX6 := Aside0.mk (hk6.box _ _ _ HNE.out (by decide) HBX5.out); clear hx6 hr6 hk6))
            go_roundw
            case rel =>
              refine ⟨j + 1, v6, by omega, by rw [show xl + ((j + 1 : Nat) : Int) = xl + (j : Int) + 1 by omega], BX6, ⟨?_⟩, KP6, HBX6⟩
              have h1 := HMS.out
              rw [BB.out, if_pos rfl] at h1
              rw [h1]
              exact RW6.out
            case measure => simp [intOf]; omega
          | false =>
            have BB := Aside0.mk hbb
            clear hbb
            go_wp2_with (first
              | (go_at_call 17; refine (CO.out _).mono ?_; rintro e w4 ⟨v4, rfl, ho4, hb4⟩; obtain ⟨A4, c4, rfl⟩ := Kd.R_slice ho4; have BX4 := Aside0.mk (boxed_below BX.out hb4); have RW4 := Aside0.mk (pw_own_below RW.out hb4); have KP4 := Aside0.mk (KP.out.step hb4 (by rw [HZ0.out]; exact Nat.le_refl _)); have HBX4 := Aside0.mk ((hb4.block _ (Array.getElem?_eq_some_iff.1 HBX.out).1).trans HBX.out); have HC4 := Aside0.mk (Kd.R_reads' ho4).2.2; have HCO := Aside0.mk (C_kp HC1.out HBW.out KP4.out (by have := HBL.out; omega) HBL.out.1); have HB34 := Aside0.mk (show Boxed w4 w1.heap.size 26 (.slice A1 out.length c1) from (KP4.out.low _ HBL.out.2.2.1 (by have := HBL.out; omega)).trans HBX3.out); clear ho4 hb4)
              | (go_at_call 26; refine (containsFuncI 27 #[.pointer (some ⟨w1.heap.size, 0, none⟩)] (hasP out) EG.out A4 c4 zs _ (close2_pred w1.heap.size A1 c1 out _ HB34.out HCO.out HL1.out) HC4.out).mono ?_; rintro e w5 ⟨he, hb5⟩; rw [BB.out] at he; subst he; have BX5 := Aside0.mk (boxed_below BX4.out hb5); have RW5 := Aside0.mk (pw_own_below RW4.out hb5); have KP5 := Aside0.mk (KP4.out.step hb5 (by rw [HZ0.out]; exact Nat.le_refl _)); have HBX5 := Aside0.mk ((hb5.block _ (Array.getElem?_eq_some_iff.1 HBX4.out).1).trans HBX4.out); clear hb5))
            go_roundw
            case rel =>
              refine ⟨j + 1, v, by omega, by rw [show xl + ((j + 1 : Nat) : Int) = xl + (j : Int) + 1 by omega], BX5, ⟨?_⟩, KP5, HBX5⟩
              have h1 := HMS.out
              rw [BB.out, if_neg (by simp), List.append_nil] at h1
              rw [h1]
              exact RW5.out
            case measure => simp [intOf]; omega
        · obtain rfl : j = nx := by omega
          have hle : ¬ xl + (j : Int) ≤ xh := by omega
          go_wp2
          go_roundw
          case rel => exact ⟨k + 1, v, by omega, by go_num, BX, ⟨by rw [MS.out]; exact RW.out⟩, KP⟩
          case measure => simp [intOf]; omega
    · obtain rfl : k = 11 := by omega
      have hfin : moreK out 11 = moreP out := rfl
      rw [hfin] at RW
      have HBL : w1.heap.size ≤ b4 ∧ w1.heap.size < b4 ∧ w1.heap.size < n4 := by have h2 := HN4.out; have h3 := HB4.out; omega
      have hbx3 : Boxed wo w1.heap.size 26 (.slice A1 out.length c1) := (KP.out.low _ HBL.2.2 (by omega)).trans HBX3.out
      have hc3 := hbx3.cell
      have hc4 := BX.out.cell
      obtain ⟨P, hP⟩ : ∃ P, moreP out = P := ⟨_, rfl⟩
      rw [hP] at RW HU
      obtain ⟨A8, c8, rfl⟩ := own_slice RW.out
      have hR8 := R_of_rows rfl RW.out
      have C8 := Aside0.mk (Kd.R_reads' hR8).2.2
      have L8 := Aside0.mk (Kd.R_reads' hR8).2.1
      have C1 := Aside0.mk (C_kp HC1.out HBW.out KP.out (by omega) (by omega))
      have HBE : Aside0 (Below w.heap.size w wo) := ⟨HB1.out.trans ((HBW.out.mono hs1).trans ⟨KP.out.os, KP.out.tape, KP.out.output, KP.out.size, fun k hk => KP.out.low k (by omega) (by omega)⟩)⟩
      have HWS := Aside0.mk HBE.out.size
      clear hR8 hP hbx3 hfin hs1
      go_wp2_with (go_at_call 29; refine (set_Union.calls _ _ [out, P] r _ (C_rowsL2 C1.out HL1.out C8.out L8.out) (Nat.le_refl _) HU.out).mono ?_; rintro e w9 ⟨v9, rfl, ho9, hb9⟩)
      go_ret
      exact ⟨_, rfl, Kd.R_lower ho9 (by have := HWS.out; simp; omega), (HBE.out.alloc HWS.out _).trans (hb9.mono (by have := HWS.out; simp; omega))⟩
end
end Go.Proofs.Ytmbhpkpoppdilaa.P
