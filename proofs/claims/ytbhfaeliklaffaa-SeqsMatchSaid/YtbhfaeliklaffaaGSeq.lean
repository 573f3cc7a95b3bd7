/- The iterator of set.pieces. -/
import Derived.Test.YtbhfaeliklaffaaPx0
import Derived.Test.YtbhfaeliklaffaaPNf
import Derived.RangeFuncNested
import Derived.RangeFuncBound
import Derived.RangeFuncCalls
import Derived.RangeFuncLeaves
import Derived.Shelf.Abstract
import Derived.Shelf.RegionOpen
import Derived.WalkKit
import Derived.OwnWalkIn
import Derived.TacticsInMore
import Derived.LoopNIn
import Derived.LoopIn
import Derived.Maps.AppendAt
import Derived.Outline
namespace Go.Proofs.Ytbhfaeliklaffaa.P
set_option linter.unusedVariables false
set_option linter.unusedSimpArgs false
section
open Go.RowKit Go.Shelf Go.Proofs.YtbhfaeliklaffaaW.PrintWords Go.Proofs.YtbhfaeliklaffaaW.PrintLast Go.Proofs.YtbhfaeliklaffaaW.PrintMore
attribute [local go_sem] Oper.semAt_some
theorem max2_mx (k k' : IntKind) (x y : Int) : Builtin.max2 (.int k x) (.int k' y) = pure (.int k (mx x y)) := by rw [max2_int]; rfl
theorem min2_mn (k k' : IntKind) (x y : Int) : Builtin.min2 (.int k x) (.int k' y) = pure (.int k (mn x y)) := by rw [min2_int]; rfl
attribute [local go_sem] max2_mx min2_mn max_two min_two
/-- A span as a value. -/
def sv (x : S43) : Value := .agg #[.int .i64 x.f0, .int .i64 x.f1]
/-- What has come when k rounds of the two are over. -/
def upP (x : S43) : Nat → List S43
  | 0 => []
  | 1 => oneP (lowP x)
  | _ => pieces x
set_option maxRecDepth 100000 in
set_option maxHeartbeats 1000000 in
theorem pieces1_in (F : Fence) (n : Nat) (h47 : F.fn 60) (hro : F.round = none) (hn : 1 ≤ n) (l Bn : Nat) (s : S43) (J Jx : List S43 → World → Prop)
    (hY : ∀ pre x W, J pre W → pre.length < 2 → YieldAt F (n - 1) Try.prog l #[sv x] W fun e W' => (e = .returned (.bool true) ∧ J (pre ++ [x]) W' ∧ KeepsWalks W W') ∨ (e = .returned (.bool false) ∧ Jx (pre ++ [x]) W'))
    (W : World) (hJ : AbidesFrom W.heap.size J) (hc0 : W.cell? ⟨Bn, 0, none⟩ = some (.int .i64 s.f0)) (hc1 : W.cell? ⟨Bn, 1, none⟩ = some (.int .i64 s.f1)) (h0 : J [] W) :
    CallsIn F n Try.prog 60 #[.func (.yield l) #[] #[], .pointer (some ⟨Bn, 0, none⟩)] W fun e W' => (∃ v, e = .returned v) ∧
      ((∃ ys, ys = pieces s ∧ J ys W') ∨ (∃ pre, pre <+: pieces s ∧ Jx pre W')) := by
  refine callsIn_of_wp Try.func60 rfl h47 ?_ hro
  simp only [Try.ntmps60, List.size_toArray, List.length_cons, List.length_nil, Nat.reduceAdd, Nat.reduceSub, Array.replicate_succ, Array.replicate_zero, List.push_toArray, List.append_toArray, List.nil_append, List.cons_append]
  have i0 : ∀ (a b c d : Int) (w : World), (Instr.index 84 (.agg #[.int .i64 a, .int .i64 b, .int .i64 c, .int .i64 d]) (.int .i64 0)).run Try.prog w = .ok (.agg #[.int .i64 a, .int .i64 b]) w := fun _ _ _ _ _ => by kernel_rfl
  have i1 : ∀ (a b c d : Int) (w : World), (Instr.index 84 (.agg #[.int .i64 a, .int .i64 b, .int .i64 c, .int .i64 d]) (.int .i64 1)).run Try.prog w = .ok (.agg #[.int .i64 c, .int .i64 d]) w := fun _ _ _ _ _ => by kernel_rfl
  have hBn := World.block_lt_of_cell? W _ hc0
  simp only at hBn
  gi_wp2
  gi_loopw [24] (fun i wr => ∃ k : Nat, k ≤ 2 ∧ i = .int .i64 k ∧ J (upP s k) wr) (fun i _ => 2 - (intOf i).toNat)
  case atStart => exact ⟨0, by omega, rfl, hJ [] W _ none h0 ((World.grownBy_alloc W _ none).trans (World.grownBy_alloc _ _ none)) (fun r e => by cases e)⟩
  case round =>
    obtain ⟨k, hk, rfl, hJs⟩ := hrel
    rcases (show k = 0 ∨ k = 1 ∨ k = 2 by omega) with rfl | rfl | rfl
    · by_cases hp : mx s.f0 0 ≤ mn s.f1 55295
      · obtain ⟨fn, tmps, assign, body, hy, hR⟩ := hY [] (lowP s) _ (hJ _ _ (wr.alloc (.cells #[.int .i64 (mx s.f0 0), .int .i64 (mn s.f1 55295)] 43)) none hJs (World.grownBy_alloc _ _ none) (fun r e => by cases e)) (by simp)
        have hp' : decide (mx s.f0 0 ≤ mn s.f1 55295) = true := decide_eq_true hp
        simp only [sv, lowP] at hy hR
        gi_wp2
        refine hR.mono ?_
        rintro e W3 (⟨rfl, hJ3, hk3⟩ | ⟨rfl, hJx3⟩)
        · gi_wp2
          go_roundw
          case rel => exact ⟨1, by omega, rfl, by simpa [upP, oneP, lowP, hp] using hJ3⟩
          case measure => simp [intOf]
        · gi_wp2
          refine bodyPost_ret (results_none rfl _ _ _) rfl ?_
          exact ⟨⟨_, rfl⟩, .inr ⟨_, ⟨oneP (highP s), by simp [pieces, oneP, lowP, hp]⟩, hJx3⟩⟩
      · have hp' : decide (mx s.f0 0 ≤ mn s.f1 55295) = false := decide_eq_false hp
        have hJ3 := hJ _ _ (wr.alloc (.cells #[.int .i64 (mx s.f0 0), .int .i64 (mn s.f1 55295)] 43)) none hJs (World.grownBy_alloc _ _ none) (fun r e => by cases e)
        gi_wp2
        refine ⟨fun _ h => (by cases h), ?_⟩
        gi_wp2
        go_roundw
        case rel => exact ⟨1, by omega, rfl, by rw [show upP s 1 = [] from if_neg (Int.not_le.mpr hp)]; exact hJ3⟩
        case measure => simp [intOf]
    · by_cases hp : mx s.f0 57344 ≤ mn s.f1 1114111
      · obtain ⟨fn, tmps, assign, body, hy, hR⟩ := hY (oneP (lowP s)) (highP s) _ (hJ _ _ (wr.alloc (.cells #[.int .i64 (mx s.f0 57344), .int .i64 (mn s.f1 1114111)] 43)) none hJs (World.grownBy_alloc _ _ none) (fun r e => by cases e)) (by unfold oneP; split <;> simp)
        have hp' : decide (mx s.f0 57344 ≤ mn s.f1 1114111) = true := decide_eq_true hp
        simp only [sv, highP] at hy hR
        gi_wp2
        refine hR.mono ?_
        rintro e W3 (⟨rfl, hJ3, hk3⟩ | ⟨rfl, hJx3⟩)
        · gi_wp2
          go_roundw
          case rel => exact ⟨2, by omega, rfl, by simpa [upP, pieces, oneP, highP, hp] using hJ3⟩
          case measure => simp [intOf]
        · gi_wp2
          refine bodyPost_ret (results_none rfl _ _ _) rfl ?_
          exact ⟨⟨_, rfl⟩, .inr ⟨_, ⟨[], by simp [pieces, oneP, highP, hp]⟩, hJx3⟩⟩
      · have hp' : decide (mx s.f0 57344 ≤ mn s.f1 1114111) = false := decide_eq_false hp
        have hJ3 := hJ _ _ (wr.alloc (.cells #[.int .i64 (mx s.f0 57344), .int .i64 (mn s.f1 1114111)] 43)) none hJs (World.grownBy_alloc _ _ none) (fun r e => by cases e)
        gi_wp2
        refine ⟨fun _ h => (by cases h), ?_⟩
        gi_wp2
        go_roundw
        case rel => exact ⟨2, by omega, rfl, by rw [show upP s 2 = upP s 1 from by show oneP (lowP s) ++ oneP (highP s) = oneP (lowP s); rw [show oneP (highP s) = [] from if_neg (Int.not_le.mpr hp), List.append_nil]]; exact hJ3⟩
        case measure => simp [intOf]
    · gi_wp2
      go_end0
      exact ⟨⟨_, rfl⟩, .inl ⟨_, rfl, hJs⟩⟩
/-- set.pieces hands back an iterator over the box of its span. -/
theorem pieces_calls (s : S43) (w : World) :
    Calls Try.prog 50 #[sv s] w fun e w' => e = .returned (.func (.func 60) #[] #[.pointer (some ⟨w.heap.size, 0, none⟩)]) ∧ w' = w.alloc (.cells #[.int .i64 s.f0, .int .i64 s.f1] 43) := by
  unfold sv
  go_enter Try.func50, Try.ntmps50
  go_wp2
  go_ret
  exact ⟨rfl, rfl⟩
theorem pieces_stops (F : Fence) (n : Nat) (h47 : F.fn 60) (hro : F.round = none) (hn : 1 ≤ n) (Bn : Nat) (s : S43) (w : World) (hB : Bn < w.heap.size)
    (hc0 : w.cell? ⟨Bn, 0, none⟩ = some (.int .i64 s.f0)) (hc1 : w.cell? ⟨Bn, 1, none⟩ = some (.int .i64 s.f1)) :
    SeqStopsK F n Try.prog 60 #[.pointer (some ⟨Bn, 0, none⟩)] (fun x => #[sv x]) KeepsWalks (fun ys => ys = pieces s) (fun pre => pre <+: pieces s) 2 w := fun l J Jx W hW hJ _ hY h0 =>
  pieces1_in F n h47 hro hn l Bn s J Jx hY W hJ ((hW.cell (p := ⟨Bn, 0, none⟩) hB).trans hc0) ((hW.cell (p := ⟨Bn, 1, none⟩) hB).trans hc1) h0
end
end Go.Proofs.Ytbhfaeliklaffaa.P
