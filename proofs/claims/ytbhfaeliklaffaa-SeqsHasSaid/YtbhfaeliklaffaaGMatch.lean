/- seqs.Match, as a contract in the print's own form. -/
import Derived.Test.YtbhfaeliklaffaaPx0
import Derived.Test.YtbhfaeliklaffaaGBase
import Derived.Shelf.Abstract
import Derived.Shelf.RegionOpen
import Derived.Outline
import Derived.RangeFuncBox
namespace Go.Proofs.Ytbhfaeliklaffaa.P
set_option linter.unusedVariables false
set_option linter.unusedSimpArgs false
section
open Go.RowKit Go.Shelf Go.Proofs.YtbhfaeliklaffaaW.PrintWords Go.Proofs.YtbhfaeliklaffaaW.PrintLast Go.Proofs.YtbhfaeliklaffaaW.PrintMore
def inR (r : S57) (c : Int) : Bool := decide (r.f0 ≤ c) && decide (c ≤ r.f1)
def eqRow : List S57 → List Int → Bool
  | [], [] => true
  | r :: rs, c :: cs => inR r c && eqRow rs cs
  | _, _ => false
theorem eqRow_len : ∀ (a : List S57) (b : List Int), a.length ≠ b.length → eqRow a b = false
  | [], [], h => absurd rfl h
  | x :: a, y :: b, h => by rw [eqRow, eqRow_len a b (fun e => h (by simp [e])), Bool.and_false]
  | [], _ :: _, _ => rfl
  | _ :: _, [], _ => rfl
def matchP (l : List (List S57)) (b : List Int) : Bool := l.any fun r => eqRow r b
def seqs_Match.f (l0 : List (List S57)) (l1 : List Int) : Option Bool := some (matchP l0 l1)
theorem at_I {k : IntKind} {w : World} {A : Option Addr} {n : Nat} {xs : List Int} (h : Kd.C (Kd.int k) w A n xs) (i : Nat) (h1 : i < n) : ∃ ad, A = some ad ∧ w.cell? (ad.add i) = some (.int k (xs.getD i 0)) := by
  obtain ⟨ad, c, e, _, hK, hc0⟩ := Kd.C_get h (0 : Int) (i : Int) (by omega) (by omega)
  have hc : ∀ j u, c[j]? = some u → w.cell? (ad.add (i * 1 + j)) = some u := hc0
  have hK' : c = [.int k (xs.getD i 0)] := hK
  subst hK'
  exact ⟨ad, e, by have hq := hc 0 _ rfl; rwa [Nat.mul_one, Nat.add_zero] at hq⟩
set_option maxHeartbeats 1000000 in
theorem match2_calls (x : S57) (c : Int) (w : World) :
    Calls Try.prog 37 #[.agg #[.int .u8 x.f0, .int .u8 x.f1], .int .u8 c] w fun e w' => e = .returned (.bool (inR x c)) ∧ Below w.heap.size w w' := by
  unfold inR
  by_cases h1 : x.f0 ≤ c
  · have h1' : decide (x.f0 ≤ c) = true := decide_eq_true h1
    rw [h1', Bool.true_and]
    go_enter Try.func37, Try.ntmps37
    go_wp2
    go_ret
    exact ⟨by simp, (Below.refl _ _).alloc (Nat.le_refl _) _⟩
  · have h1' : decide (x.f0 ≤ c) = false := decide_eq_false h1
    rw [h1', Bool.false_and]
    go_enter Try.func37, Try.ntmps37
    go_wp2
    go_ret
    exact ⟨by simp, (Below.refl _ _).alloc (Nat.le_refl _) _⟩
set_option maxRecDepth 100000 in
set_option maxHeartbeats 4000000 in
theorem equalFuncR (A0 : Option Addr) (c0 : Nat) (l0 : List S57) (A1 : Option Addr) (c1 : Nat) (l1 : List Int) (w : World) (hr0 : Kd.C k57 w A0 l0.length l0) (hr1 : Kd.C (Kd.int .u8) w A1 l1.length l1) :
    Calls Try.prog 36 #[.slice A0 l0.length c0, .slice A1 l1.length c1, .func (.func 37) #[] #[]] w fun e w' => e = .returned (.bool (eqRow l0 l1)) ∧ Below w.heap.size w w' := by
  have hbig := hr0.2.1
  have HR0 := Aside0.mk hr0
  have HR1 := Aside0.mk hr1
  clear hr0 hr1
  obtain ⟨n, hn⟩ : ∃ n, l0.length = n := ⟨_, rfl⟩
  obtain ⟨m, hm⟩ : ∃ m, l1.length = m := ⟨_, rfl⟩
  have HN := Aside0.mk hn
  have HM := Aside0.mk hm
  rw [hn] at hbig ⊢
  rw [hm]
  clear hn hm
  have eg := enters_of Try.func37 (by kernel_rfl) rfl
  by_cases he : n = m
  · subst he
    have g0 : (((n : Int) != (n : Int))) = false := by simp
    have g1 : (n != n) = false := by simp
    go_enter Try.func36, Try.ntmps36
    go_wp2
    go_loopg [7, 8, 9, 17] n (fun gg _ _ _ s8 wr => ∃ kk : Nat, kk ≤ n ∧ n - kk ≤ gg ∧ s8 = .int .i64 kk ∧ Aside0 (Below w.heap.size w wr) ∧ Aside0 (eqRow l0 l1 = eqRow (l0.drop kk) (l1.drop kk)))
    case atStart => exact ⟨0, Nat.zero_le _, by omega, rfl, ⟨Below.refl _ w⟩, ⟨by simp⟩⟩
    case round =>
      obtain ⟨kk, hkk, hg, rfl, BW, A⟩ := hrel
      by_cases hlt : kk < n
      · have hltz : (kk : Int) < (n : Int) := by omega
        obtain ⟨x, hx⟩ : ∃ x, x = rd_T57 l0 kk := ⟨_, rfl⟩
        obtain ⟨y, hy⟩ : ∃ y, y = l1.getD kk 0 := ⟨_, rfl⟩
        obtain ⟨ad, e1, hx0, hx1⟩ := at_T57 (by have := HR0.out; rwa [HN.out] at this) (kk : Int) (by omega) (by omega)
        obtain ⟨bd, e2, hy0⟩ := at_I (by have := HR1.out; rwa [HM.out] at this) kk hlt
        cases e1
        cases e2
        have HX := Aside0.mk hx
        have HY := Aside0.mk hy
        rw [← hx] at hx0 hx1
        rw [← hy] at hy0
        clear hx hy
        simp only [Int.toNat_natCast] at hx0 hx1
        replace hx0 := (BW.out.cell (World.block_lt_of_cell? w _ hx0)).trans hx0
        replace hx1 := (BW.out.cell (World.block_lt_of_cell? w _ hx1)).trans hx1
        replace hy0 := (BW.out.cell (World.block_lt_of_cell? w _ hy0)).trans hy0
        have hl0 : kk < l0.length := by rw [HN.out]; exact hlt
        have hl1 : kk < l1.length := by rw [HM.out]; exact hlt
        have hst : eqRow (l0.drop kk) (l1.drop kk) = (inR x y && eqRow (l0.drop (kk + 1)) (l1.drop (kk + 1))) := by
          rw [List.drop_eq_getElem_cons hl0, List.drop_eq_getElem_cons hl1, eqRow, HX.out, HY.out, rd_T57, Int.toNat_natCast, List.getD_eq_getElem?_getD, List.getElem?_eq_getElem hl0, List.getD_eq_getElem?_getD, List.getElem?_eq_getElem hl1]
          rfl
        have HST := Aside0.mk hst
        clear hst hl0 hl1
        have hbx := World.block_lt_of_cell? wr _ hx0
        have hby := World.block_lt_of_cell? wr _ hy0
        cases hq : inR x y with
        | false =>
          have HQ := Aside0.mk hq
          clear hq
          have hcon := fun W => match2_calls x y W
          rw [HQ.out] at hcon
          go_wp2_with (go_at_call 37; refine (hcon _).mono ?_; rintro e w' ⟨rfl, hb'⟩)
          go_ret
          exact ⟨by rw [A.out, HST.out, HQ.out]; rfl, (BW.out.alloc BW.out.size _).trans (hb'.mono (by have := BW.out.size; simp; omega))⟩
        | true =>
          have HQ := Aside0.mk hq
          clear hq
          have hcon := fun W => match2_calls x y W
          rw [HQ.out] at hcon
          go_wp2_with (go_at_call 37; refine (hcon _).mono ?_; rintro e w' ⟨rfl, hb'⟩)
          go_roundg (n - (kk + 1))
          case measure => omega
          case rel => exact ⟨kk + 1, by omega, by omega, by go_num, ⟨(BW.out.alloc BW.out.size _).trans (hb'.mono (by have := BW.out.size; simp; omega))⟩, ⟨by rw [A.out, HST.out, HQ.out]; rfl⟩⟩
      · have hltz : ¬ (kk : Int) < (n : Int) := by omega
        have : kk = n := by omega
        subst this
        go_wp2
        go_ret
        exact ⟨by rw [A.out, List.drop_of_length_le (by rw [HN.out]; exact Nat.le_refl _), List.drop_of_length_le (by rw [HM.out]; exact Nat.le_refl _)]; rfl, BW.out⟩
  · have g0 : (((n : Int) != (m : Int))) = true := by rw [bne_iff_ne]; omega
    have g1 : (n != m) = true := by rw [bne_iff_ne]; omega
    have g2 : (n == m) = false := by rw [beq_eq_false_iff_ne]; omega
    go_enter Try.func36, Try.ntmps36
    go_wp2
    go_ret
    exact ⟨by rw [eqRow_len l0 l1 (by rw [HN.out, HM.out]; exact he)]; simp, Below.refl _ _⟩
set_option maxHeartbeats 2000000 in
theorem match1_calls (B : Nat) (A0 : Option Addr) (c0 : Nat) (l0 : List S57) (A1 : Option Addr) (c1 : Nat) (l1 : List Int) (w : World) (hr0 : Kd.C k57 w A0 l0.length l0) (hr1 : Kd.C (Kd.int .u8) w A1 l1.length l1) (hc : w.cell? ⟨B, 0, none⟩ = some (.slice A1 l1.length c1)) :
    Calls Try.prog 35 #[.slice A0 l0.length c0, .pointer (some ⟨B, 0, none⟩)] w fun e w' => e = .returned (.bool (eqRow l0 l1)) ∧ Below w.heap.size w w' := by
  have hcon := equalFuncR A0 c0 l0 A1 c1 l1 w hr0 hr1
  generalize eqRow l0 l1 = r at hcon ⊢
  clear hr0 hr1
  generalize l0.length = n at hcon ⊢
  generalize l1.length = m at hcon hc ⊢
  go_enter Try.func35, Try.ntmps35
  go_wp2_with (go_at_call 36; refine hcon.mono ?_; rintro e w' ⟨rfl, hb⟩)
  go_ret
  exact ⟨rfl, hb⟩
set_option maxRecDepth 100000 in
set_option maxHeartbeats 4000000 in
theorem indexFuncR (B : Nat) (A0 : Option Addr) (c0 : Nat) (l0 : List (List S57)) (A1 : Option Addr) (c1 : Nat) (l1 : List Int) (w : World) (hr0 : Kd.C (Kd.slice 57 k57) w A0 l0.length l0) (hr1 : Kd.C (Kd.int .u8) w A1 l1.length l1) (hB : B < w.heap.size) (hc : w.cell? ⟨B, 0, none⟩ = some (.slice A1 l1.length c1)) :
    Calls Try.prog 58 #[.slice A0 l0.length c0, .func (.func 35) #[] #[.pointer (some ⟨B, 0, none⟩)]] w fun e w' => (∃ i : Int, e = .returned (.int .i64 i) ∧ decide (0 ≤ i) = matchP l0 l1) ∧ Below w.heap.size w w' := by
  have hbig := hr0.2.1
  have HR0 := Aside0.mk hr0
  have HR1 := Aside0.mk hr1
  have HC := Aside0.mk hc
  have eg := enters_of Try.func35 (by kernel_rfl) rfl
  clear hr0 hr1 hc
  obtain ⟨n, hn⟩ : ∃ n, l0.length = n := ⟨_, rfl⟩
  have HN := Aside0.mk hn
  rw [hn] at hbig ⊢
  clear hn
  go_enter Try.func58, Try.ntmps58
  go_wp2
  go_loopg [5, 8] n (fun gg _ s8 wr => ∃ kk : Nat, kk ≤ n ∧ n - kk ≤ gg ∧ s8 = .int .i64 kk ∧ Aside0 (Below w.heap.size w wr) ∧ Aside0 (matchP l0 l1 = matchP (l0.drop kk) l1))
  case atStart => exact ⟨0, Nat.zero_le _, by omega, rfl, ⟨Below.refl _ w⟩, ⟨by simp⟩⟩
  case round =>
    obtain ⟨kk, hkk, hg, rfl, BW, A⟩ := hrel
    by_cases hlt : kk < n
    · have hltz : (kk : Int) < (n : Int) := by omega
      obtain ⟨x, hx⟩ : ∃ x, x = l0.getD kk [] := ⟨_, rfl⟩
      obtain ⟨ad, A2, c2, e1, hx0, hx1, hx2⟩ : ∃ ad A2 c2, A0 = some ad ∧ w.cell? (ad.add kk) = some (.slice A2 (l0.getD kk []).length c2) ∧ (l0.getD kk []).length ≤ c2 ∧ k57.C w A2 (l0.getD kk []).length (l0.getD kk []) := by
        obtain ⟨ad, c, e, _, hK, hc0⟩ := Kd.C_get (by have := HR0.out; rwa [HN.out] at this) ([] : List S57) (kk : Int) (by omega) (by omega)
        have hc : ∀ j u, c[j]? = some u → w.cell? (ad.add (kk * 1 + j)) = some u := hc0
        obtain ⟨A2, c2, rfl, l2, g2⟩ := hK
        exact ⟨ad, A2, c2, e, by have hq := hc 0 _ rfl; rwa [Nat.mul_one, Nat.add_zero] at hq, l2, g2⟩
      cases e1
      have HX := Aside0.mk hx
      rw [← hx] at hx0 hx1 hx2
      clear hx
      replace hx0 := (BW.out.cell (World.block_lt_of_cell? w _ hx0)).trans hx0
      have hcall := match1_calls B A2 c2 x A1 c1 l1 wr (Kd.C_below hx2 (BW.out.mono (Nat.le_refl _))) (Kd.C_below HR1.out (BW.out.mono (Nat.le_refl _))) ((BW.out.cell (p := ⟨B, 0, none⟩) hB).trans HC.out)
      clear hx1 hx2
      have hl0 : kk < l0.length := by rw [HN.out]; exact hlt
      have hst : matchP (l0.drop kk) l1 = (eqRow x l1 || matchP (l0.drop (kk + 1)) l1) := by
        rw [List.drop_eq_getElem_cons hl0, matchP, List.any_cons, HX.out, List.getD_eq_getElem?_getD, List.getElem?_eq_getElem hl0]
        rfl
      have HST := Aside0.mk hst
      clear hst hl0
      generalize x.length = xn at hx0 hcall
      have hbx := World.block_lt_of_cell? wr _ hx0
      cases hq : eqRow x l1 with
      | true =>
        rw [hq] at hcall
        have HQ := Aside0.mk hq
        clear hq
        go_wp2_with (go_at_call 35; refine hcall.mono ?_; rintro e w' ⟨rfl, hb'⟩)
        go_ret
        exact ⟨⟨_, rfl, by rw [A.out, HST.out, HQ.out]; simp⟩, BW.out.trans (hb'.mono BW.out.size)⟩
      | false =>
        rw [hq] at hcall
        have HQ := Aside0.mk hq
        clear hq
        go_wp2_with (go_at_call 35; refine hcall.mono ?_; rintro e w' ⟨rfl, hb'⟩)
        go_roundg (n - (kk + 1))
        case measure => omega
        case rel => exact ⟨kk + 1, by omega, by omega, by go_num, ⟨BW.out.trans (hb'.mono BW.out.size)⟩, ⟨by rw [A.out, HST.out, HQ.out]; rfl⟩⟩
    · have hltz : ¬ (kk : Int) < (n : Int) := by omega
      have : kk = n := by omega
      subst this
      go_wp2
      go_ret
      exact ⟨⟨_, rfl, by rw [A.out, List.drop_of_length_le (by rw [HN.out]; exact Nat.le_refl _)]; rfl⟩, BW.out⟩
set_option maxHeartbeats 2000000 in
theorem seqs_Match.calls (A0 : Option Addr) (c0 : Nat) (l0 : List (List S57)) (A1 : Option Addr) (c1 : Nat) (l1 : List Int) (r : Bool) (w : World) (hr0 : Kd.C (Kd.slice 57 k57) w A0 l0.length l0) (hc0 : l0.length ≤ c0) (hr1 : Kd.C (Kd.int .u8) w A1 l1.length l1) (hc1 : l1.length ≤ c1) (h : seqs_Match.f l0 l1 = some r) :
    Calls Try.prog 16 #[.slice A0 l0.length c0, .slice A1 l1.length c1] w fun e w' => e = .returned (.bool r) ∧ Below w.heap.size w w' := by
  obtain rfl := Option.some.inj h
  clear h
  have hcon := indexFuncR w.heap.size A0 c0 l0 A1 c1 l1 (w.alloc (.cells #[.slice A1 l1.length c1] 30)) (Kd.C_alloc hr0 _) (Kd.C_alloc hr1 _) (by simp) (Boxed.new w 30 (.slice A1 l1.length c1)).cell
  clear hr0 hr1
  generalize matchP l0 l1 = b at hcon ⊢
  generalize l0.length = n at hcon hc0 ⊢
  generalize l1.length = m at hcon hc1 ⊢
  have hcc : Calls Try.prog 34 #[.slice A0 n c0, .func (.func 35) #[] #[.pointer (some ⟨w.heap.size, 0, none⟩)]] (w.alloc (.cells #[.slice A1 m c1] 30)) fun e w' => e = .returned (.bool b) ∧ Below (w.alloc (.cells #[.slice A1 m c1] 30)).heap.size (w.alloc (.cells #[.slice A1 m c1] 30)) w' := by
    obtain ⟨W, hW⟩ : ∃ W, w.alloc (.cells #[.slice A1 m c1] 30) = W := ⟨_, rfl⟩
    rw [hW] at hcon ⊢
    clear hW
    go_enter Try.func34, Try.ntmps34
    go_wp2_with (go_at_call 58; refine hcon.mono ?_; rintro e w' ⟨⟨i, rfl, hi⟩, hb⟩; have HI := Aside0.mk hi; clear hi)
    go_ret
    exact ⟨by first | simp [HI.out] | simp, hb⟩
  clear hcon
  go_enter Try.func16, Try.ntmps16
  go_wp2_with (go_at_call 34; refine hcc.mono ?_; rintro e w' ⟨rfl, hb⟩)
  go_ret
  exact ⟨rfl, ((Below.refl _ _).alloc (Nat.le_refl _) _).trans (hb.mono (by simp))⟩
end
end Go.Proofs.Ytbhfaeliklaffaa.P
