/- slices.Concat, as a contract in the print's own form. -/
import Derived.Test.YtpcljaidlihafaaPx0
import Derived.Shelf.Abstract
import Derived.Outline
namespace Go.Proofs.Ytpcljaidlihafaa.P
set_option linter.unusedVariables false
set_option linter.unusedSimpArgs false
section
open Go.RowKit Go.Shelf Go.Proofs.YtpcljaidlihafaaW.PrintWords Go.Proofs.YtpcljaidlihafaaW.PrintLast Go.Proofs.YtpcljaidlihafaaW.PrintMore
def api_Span.f (l0 : List (List S39)) : Option (List S39) := if l0.flatten.length ≤ 100000 ∧ l0.length ≤ 100000 then some l0.flatten else none
set_option maxRecDepth 100000 in
set_option maxHeartbeats 2000000 in
theorem growS_nil (n : Nat) (w : World) (hn : n ≤ 1000000) :
    Calls Try.prog 51 #[.slice none 0 0, .int .i64 n] w fun e w' => ∃ v, e = .returned v ∧ Kd.R k39 39 w' w.heap.size (fun _ => True) v [] ∧ Below w.heap.size w w' := by
  by_cases h0 : 0 < n
  · go_enter Try.func51, Try.ntmps51
    go_wp2_with (at_builtin; refine Kd.R_append_zeros k39 (w0 := w) w.heap.size rfl (.tmp 20) (.tmp 21) 27 3 39 (.agg #[(.int .i64 0), (.int .i64 0)]) 16 rfl Try.underlying27 Try.underlying3 info39 rfl (by decide) (by omega) (.slice none 0 0) [] z39 (n : Int) (fun _ => True) rfl rfl (k39_mkM _ _ _ z39) (fun _ _ => trivial) (Kd.R_nil _ _ _ _ _) (by omega) (Below.refl _ _) (Nat.le_refl _) (by simp; omega) ?_; intro v1 w1 ho hb hg hat; obtain ⟨A1, c1, rfl⟩ := Kd.R_slice ho)
    go_ret
    exact ⟨_, rfl, by simpa using Kd.R_take ho (Nat.zero_le _), hb⟩
  · obtain rfl : n = 0 := by omega
    go_enter Try.func51, Try.ntmps51
    go_wp2
    go_ret
    exact ⟨_, rfl, Kd.R_nil _ _ _ _ _, Below.refl _ _⟩
/-- An element of a row of rows, as it lies. -/
theorem at_LL {w : World} {A : Option Addr} {n : Nat} {xs : List (List S39)} (h : Kd.C (Kd.slice 39 k39) w A n xs) (i : Nat) (h1 : i < n) : ∃ ad A0 c0, A = some ad ∧ w.cell? (ad.add i) = some (.slice A0 (xs.getD i []).length c0) ∧ (xs.getD i []).length ≤ c0 ∧ k39.C w A0 (xs.getD i []).length (xs.getD i []) := by
  obtain ⟨ad, c, e, _, hK, hc0⟩ := Kd.C_get h ([] : List S39) (i : Int) (by omega) (by omega)
  have hc : ∀ j u, c[j]? = some u → w.cell? (ad.add (i * 1 + j)) = some u := hc0
  obtain ⟨A0, c0, rfl, l0, g0⟩ := hK
  exact ⟨ad, A0, c0, e, by have hq := hc 0 _ rfl; rwa [Nat.mul_one, Nat.add_zero] at hq, l0, g0⟩
/-- How many elements the first k rows have. -/
def tot (l : List (List S39)) (k : Nat) : Nat := (l.take k).flatten.length
theorem tot_le (l : List (List S39)) (k : Nat) : tot l k ≤ l.flatten.length := by
  unfold tot
  have h : l.flatten = (l.take k).flatten ++ (l.drop k).flatten := by rw [← List.flatten_append, List.take_append_drop]
  rw [h, List.length_append]
  omega
theorem take_snocL (l : List (List S39)) (k : Nat) (h : k < l.length) : (l.take (k + 1)).flatten = (l.take k).flatten ++ l.getD k [] := by
  rw [List.take_succ_eq_append_getElem h, List.flatten_append]
  simp [List.getElem?_eq_getElem h]
theorem tot_succ (l : List (List S39)) (k : Nat) (h : k < l.length) : tot l (k + 1) = tot l k + (l.getD k []).length := by
  unfold tot; rw [take_snocL l k h, List.length_append]
set_option maxRecDepth 100000 in
set_option maxHeartbeats 4000000 in
theorem api_Span.calls (A0 : Option Addr) (c0 : Nat) (l0 : List (List S39)) (r : List S39) (w : World) (hr0 : Kd.C (Kd.slice 39 k39) w A0 l0.length l0) (hc0 : l0.length ≤ c0) (h : api_Span.f l0 = some r) :
    Calls Try.prog 38 #[.slice A0 l0.length c0] w fun e w' => ∃ v0_ : Value, e = .returned (v0_) ∧ Kd.R k39 39 w' w.heap.size (fun _ => True) v0_ r ∧ Below w.heap.size w w' := by
  unfold api_Span.f at h
  split at h
  case isFalse => cases h
  rename_i hlen
  obtain ⟨hlen, hln⟩ := hlen
  obtain rfl := Option.some.inj h
  have HR0 := Aside0.mk hr0
  clear hr0 h
  obtain ⟨n, hn⟩ : ∃ n, l0.length = n := ⟨_, rfl⟩
  have HN := Aside0.mk hn
  rw [hn] at hln hc0 ⊢
  clear hn
  obtain ⟨m, hm⟩ : ∃ m, l0.flatten.length = m := ⟨_, rfl⟩
  have HM := Aside0.mk hm
  rw [hm] at hlen
  clear hm
  go_enter Try.func38, Try.ntmps38
  go_wp2
  go_loop [3, 11] (fun v i => ∃ k : Nat, k ≤ n ∧ i = .int .i64 k ∧ v = .int .i64 (tot l0 k)) (fun _ i => n - (intOf i).toNat)
  case atStart => exact ⟨0, by omega, rfl, by simp [tot]⟩
  case round =>
    obtain ⟨k, hk, rfl, rfl⟩ := hrel
    by_cases hlt : k < n
    · obtain ⟨x, hx⟩ : ∃ x, x = l0.getD k [] := ⟨_, rfl⟩
      obtain ⟨ad, A1, c1, e1, hx0, hl1, hr1⟩ := at_LL (by have := HR0.out; rwa [HN.out] at this) k hlt
      cases e1
      have ht1 := tot_succ l0 k (by rw [HN.out]; exact hlt)
      have ht2 := tot_le l0 (k + 1)
      rw [HM.out] at ht2
      rw [← hx] at hx0 hl1 ht1
      clear hx hr1
      obtain ⟨t, ht⟩ : ∃ t, t = tot l0 k := ⟨_, rfl⟩
      have HT := Aside0.mk ht
      have HT1 := Aside0.mk ht1
      rw [← ht] at ht1 ⊢
      have hxl : t + x.length ≤ 100000 := by omega
      have hneg : decide ((t : Int) + (x.length : Int) < 0) = false := decide_eq_false (by omega)
      clear ht ht1 ht2
      go_wp2
      go_round
      case rel => exact ⟨k + 1, by omega, by go_num, by rw [HT1.out, HT.out]; simp⟩
      case measure => simp [intOf]; omega
    · obtain rfl : k = n := by omega
      have ht : tot l0 k = m := by unfold tot; rw [List.take_of_length_le (by rw [HN.out]; exact Nat.le_refl _)]; exact HM.out
      rw [ht]
      clear ht
      go_wp2_with (go_at_call 51; refine (growS_nil m _ (by omega)).mono ?_; rintro e w' ⟨v1, rfl, ho, hb⟩)
      have HO := Aside0.mk ho
      have HB := Aside0.mk hb
      clear ho hb
      go_loopw [6, 27] (fun v i wr => ∃ j : Nat, j ≤ k ∧ i = .int .i64 j ∧ Aside0 (Kd.R k39 39 wr w.heap.size (fun _ => True) v (l0.take j).flatten) ∧ Aside0 (Below w.heap.size w wr)) (fun _ i _ => k - (intOf i).toNat)
      case atStart => exact ⟨0, by omega, rfl, ⟨HO.out⟩, HB⟩
      case round =>
        obtain ⟨j, hj, rfl, HO, HB⟩ := hrel
        by_cases hlt : j < k
        · obtain ⟨x, hx⟩ : ∃ x, x = l0.getD j [] := ⟨_, rfl⟩
          obtain ⟨ad, A1, c1, e1, hx0, hl1, hr1⟩ := at_LL (by have := HR0.out; rwa [HN.out] at this) j hlt
          cases e1
          have ht1 := take_snocL l0 j (by rw [HN.out]; exact hlt)
          have ht2 := tot_le l0 (j + 1)
          unfold tot at ht2
          rw [ht1, List.length_append, HM.out] at ht2
          rw [← hx] at hx0 hl1 ht1 hr1 ht2
          replace hx0 := (HB.out.cell (World.block_lt_of_cell? w _ hx0)).trans hx0
          have HRX := Aside0.mk (Kd.C_below hr1 HB.out)
          have HT1 := Aside0.mk ht1
          have hxl : (l0.take j).flatten.length + x.length ≤ 100000 := by omega
          clear ht1 ht2 hx hr1
          go_wp2_with (at_builtin; refine Kd.R_append_rows k39 (w0 := w) w.heap.size rfl (.tmp 31) (.tmp 32) 27 39 (.agg #[(.int .i64 0), (.int .i64 0)]) 16 rfl Try.underlying27 info39 rfl (by decide) (by omega) u6 (l0.take j).flatten x _ _ _ (fun _ => True) (fun _ => False) rfl rfl HO.out HRX.out (fun y cs hy => by obtain rfl := k39_open hy; exact k39_mkM _ _ _ y) (fun _ h => h.elim) (fun _ _ => trivial) HB.out HB.out.size (by omega) ?_; intro v1 w1 ho hb hg hat)
          go_roundw
          case rel => exact ⟨j + 1, by omega, by go_num, ⟨by rw [HT1.out]; exact ho⟩, ⟨hb⟩⟩
          case measure => simp [intOf]; omega
        · obtain rfl : j = k := by omega
          have HO2 := HO.out
          rw [List.take_of_length_le (by rw [HN.out]; exact Nat.le_refl _)] at HO2
          go_wp2
          go_ret
          exact ⟨_, rfl, HO2, HB.out⟩
end
end Go.Proofs.Ytpcljaidlihafaa.P
