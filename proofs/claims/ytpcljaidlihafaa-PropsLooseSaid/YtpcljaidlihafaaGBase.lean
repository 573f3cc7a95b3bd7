/- Iterators, AppendSeq, the sort's words: walks. -/
import Derived.Test.YtpcljaidlihafaaPx0
import Derived.Test.YtpcljaidlihafaaPBase
import Derived.RangeFuncNested
import Derived.RangeFuncBound
import Derived.RangeFuncCalls
import Derived.RangeFuncLeaves
import Derived.Shelf.Abstract
import Derived.Shelf.RegionOpen
import Derived.WalkKit
import Derived.OwnWalkIn
import Derived.TacticsInMore
import Derived.LoopNIn
import Derived.LoopIn
import Derived.Maps.AppendAt
import Derived.Outline
import Derived.Shelf.GgSortFunc.InsertionK
namespace Go.Proofs.Ytpcljaidlihafaa.P
set_option linter.unusedVariables false
set_option linter.unusedSimpArgs false
section
open Go.RowKit Go.Shelf Go.Proofs.YtpcljaidlihafaaW.PrintWords Go.Proofs.YtpcljaidlihafaaW.PrintLast Go.Proofs.YtpcljaidlihafaaW.PrintMore
attribute [local go_sem] Oper.semAt_some
theorem max2_mx (k k' : IntKind) (x y : Int) : Builtin.max2 (.int k x) (.int k' y) = pure (.int k (mx x y)) := by rw [max2_int]; rfl
theorem min2_mn (k k' : IntKind) (x y : Int) : Builtin.min2 (.int k x) (.int k' y) = pure (.int k (mn x y)) := by rw [min2_int]; rfl
attribute [local go_sem] max2_mx min2_mn max_two min_two
/-- A span as a value. -/
def sv (x : S39) : Value := .agg #[.int .i64 x.f0, .int .i64 x.f1]
/-- What has come when k rounds of the two are over. -/
def upP (x : S39) : Nat → List S39
  | 0 => []
  | 1 => oneP (lowP x)
  | _ => pieces x
set_option maxRecDepth 100000 in
set_option maxHeartbeats 1000000 in
theorem pieces1_in (F : Fence) (n : Nat) (h47 : F.fn 52) (hro : F.round = none) (hn : 1 ≤ n) (l Bn : Nat) (s : S39) (J Jx : List S39 → World → Prop)
    (hY : ∀ pre x W, J pre W → pre.length < 2 → YieldAt F (n - 1) Try.prog l #[sv x] W fun e W' => (e = .returned (.bool true) ∧ J (pre ++ [x]) W' ∧ KeepsWalks W W') ∨ (e = .returned (.bool false) ∧ Jx (pre ++ [x]) W'))
    (W : World) (hJ : AbidesFrom W.heap.size J) (hc0 : W.cell? ⟨Bn, 0, none⟩ = some (.int .i64 s.f0)) (hc1 : W.cell? ⟨Bn, 1, none⟩ = some (.int .i64 s.f1)) (h0 : J [] W) :
    CallsIn F n Try.prog 52 #[.func (.yield l) #[] #[], .pointer (some ⟨Bn, 0, none⟩)] W fun e W' => (∃ v, e = .returned v) ∧
      ((∃ ys, ys = pieces s ∧ J ys W') ∨ (∃ pre, pre <+: pieces s ∧ Jx pre W')) := by
  refine callsIn_of_wp Try.func52 rfl h47 ?_ hro
  simp only [Try.ntmps52, List.size_toArray, List.length_cons, List.length_nil, Nat.reduceAdd, Nat.reduceSub, Array.replicate_succ, Array.replicate_zero, List.push_toArray, List.append_toArray, List.nil_append, List.cons_append]
  have i0 : ∀ (a b c d : Int) (w : World), (Instr.index 74 (.agg #[.int .i64 a, .int .i64 b, .int .i64 c, .int .i64 d]) (.int .i64 0)).run Try.prog w = .ok (.agg #[.int .i64 a, .int .i64 b]) w := fun _ _ _ _ _ => by kernel_rfl
  have i1 : ∀ (a b c d : Int) (w : World), (Instr.index 74 (.agg #[.int .i64 a, .int .i64 b, .int .i64 c, .int .i64 d]) (.int .i64 1)).run Try.prog w = .ok (.agg #[.int .i64 c, .int .i64 d]) w := fun _ _ _ _ _ => by kernel_rfl
  have hBn := World.block_lt_of_cell? W _ hc0
  simp only at hBn
  gi_wp2
  gi_loopw [24] (fun i wr => ∃ k : Nat, k ≤ 2 ∧ i = .int .i64 k ∧ J (upP s k) wr) (fun i _ => 2 - (intOf i).toNat)
  case atStart => exact ⟨0, by omega, rfl, hJ [] W _ none h0 ((World.grownBy_alloc W _ none).trans (World.grownBy_alloc _ _ none)) (fun r e => by cases e)⟩
  case round =>
    obtain ⟨k, hk, rfl, hJs⟩ := hrel
    rcases (show k = 0 ∨ k = 1 ∨ k = 2 by omega) with rfl | rfl | rfl
    · by_cases hp : mx s.f0 0 ≤ mn s.f1 55295
      · obtain ⟨fn, tmps, assign, body, hy, hR⟩ := hY [] (lowP s) _ (hJ _ _ (wr.alloc (.cells #[.int .i64 (mx s.f0 0), .int .i64 (mn s.f1 55295)] 39)) none hJs (World.grownBy_alloc _ _ none) (fun r e => by cases e)) (by simp)
        have hp' : decide (mx s.f0 0 ≤ mn s.f1 55295) = true := decide_eq_true hp
        simp only [sv, lowP] at hy hR
        gi_wp2
        refine hR.mono ?_
        rintro e W3 (⟨rfl, hJ3, hk3⟩ | ⟨rfl, hJx3⟩)
        · gi_wp2
          go_roundw
          case rel => exact ⟨1, by omega, rfl, by simpa [upP, oneP, lowP, hp] using hJ3⟩
          case measure => simp [intOf]
        · gi_wp2
          refine bodyPost_ret (results_none rfl _ _ _) rfl ?_
          exact ⟨⟨_, rfl⟩, .inr ⟨_, ⟨oneP (highP s), by simp [pieces, oneP, lowP, hp]⟩, hJx3⟩⟩
      · have hp' : decide (mx s.f0 0 ≤ mn s.f1 55295) = false := decide_eq_false hp
        have hJ3 := hJ _ _ (wr.alloc (.cells #[.int .i64 (mx s.f0 0), .int .i64 (mn s.f1 55295)] 39)) none hJs (World.grownBy_alloc _ _ none) (fun r e => by cases e)
        gi_wp2
        refine ⟨fun _ h => (by cases h), ?_⟩
        gi_wp2
        go_roundw
        case rel => exact ⟨1, by omega, rfl, by rw [show upP s 1 = [] from if_neg (Int.not_le.mpr hp)]; exact hJ3⟩
        case measure => simp [intOf]
    · by_cases hp : mx s.f0 57344 ≤ mn s.f1 1114111
      · obtain ⟨fn, tmps, assign, body, hy, hR⟩ := hY (oneP (lowP s)) (highP s) _ (hJ _ _ (wr.alloc (.cells #[.int .i64 (mx s.f0 57344), .int .i64 (mn s.f1 1114111)] 39)) none hJs (World.grownBy_alloc _ _ none) (fun r e => by cases e)) (by unfold oneP; split <;> simp)
        have hp' : decide (mx s.f0 57344 ≤ mn s.f1 1114111) = true := decide_eq_true hp
        simp only [sv, highP] at hy hR
        gi_wp2
        refine hR.mono ?_
        rintro e W3 (⟨rfl, hJ3, hk3⟩ | ⟨rfl, hJx3⟩)
        · gi_wp2
          go_roundw
          case rel => exact ⟨2, by omega, rfl, by simpa [upP, pieces, oneP, highP, hp] using hJ3⟩
          case measure => simp [intOf]
        · gi_wp2
          refine bodyPost_ret (results_none rfl _ _ _) rfl ?_
          exact ⟨⟨_, rfl⟩, .inr ⟨_, ⟨[], by simp [pieces, oneP, highP, hp]⟩, hJx3⟩⟩
      · have hp' : decide (mx s.f0 57344 ≤ mn s.f1 1114111) = false := decide_eq_false hp
        have hJ3 := hJ _ _ (wr.alloc (.cells #[.int .i64 (mx s.f0 57344), .int .i64 (mn s.f1 1114111)] 39)) none hJs (World.grownBy_alloc _ _ none) (fun r e => by cases e)
        gi_wp2
        refine ⟨fun _ h => (by cases h), ?_⟩
        gi_wp2
        go_roundw
        case rel => exact ⟨2, by omega, rfl, by rw [show upP s 2 = upP s 1 from by show oneP (lowP s) ++ oneP (highP s) = oneP (lowP s); rw [show oneP (highP s) = [] from if_neg (Int.not_le.mpr hp), List.append_nil]]; exact hJ3⟩
        case measure => simp [intOf]
    · gi_wp2
      go_end0
      exact ⟨⟨_, rfl⟩, .inl ⟨_, rfl, hJs⟩⟩
/-- set.pieces hands back an iterator over the box of its span. -/
theorem pieces_calls (s : S39) (w : World) :
    Calls Try.prog 41 #[sv s] w fun e w' => e = .returned (.func (.func 52) #[] #[.pointer (some ⟨w.heap.size, 0, none⟩)]) ∧ w' = w.alloc (.cells #[.int .i64 s.f0, .int .i64 s.f1] 39) := by
  unfold sv
  go_enter Try.func41, Try.ntmps41
  go_wp2
  go_ret
  exact ⟨rfl, rfl⟩
theorem pieces_stops (F : Fence) (n : Nat) (h47 : F.fn 52) (hro : F.round = none) (hn : 1 ≤ n) (Bn : Nat) (s : S39) (w : World) (hB : Bn < w.heap.size)
    (hc0 : w.cell? ⟨Bn, 0, none⟩ = some (.int .i64 s.f0)) (hc1 : w.cell? ⟨Bn, 1, none⟩ = some (.int .i64 s.f1)) :
    SeqStopsK F n Try.prog 52 #[.pointer (some ⟨Bn, 0, none⟩)] (fun x => #[sv x]) KeepsWalks (fun ys => ys = pieces s) (fun pre => pre <+: pieces s) 2 w := fun l J Jx W hW hJ _ hY h0 =>
  pieces1_in F n h47 hro hn l Bn s J Jx hY W hJ ((hW.cell (p := ⟨Bn, 0, none⟩) hB).trans hc0) ((hW.cell (p := ⟨Bn, 1, none⟩) hB).trans hc1) h0
end
section
open Go.RowKit Go.Shelf Go.Proofs.YtpcljaidlihafaaW.PrintWords Go.Proofs.YtpcljaidlihafaaW.PrintLast Go.Proofs.YtpcljaidlihafaaW.PrintMore
attribute [local go_sem] Oper.semAt_some
def sc (x : S39) : List Value := [.int .i64 x.f0, .int .i64 x.f1]
def scs (l : List S39) : List Value := l.flatMap sc
theorem scs_append (l m : List S39) : scs (l ++ m) = scs l ++ scs m := by simp [scs]
theorem scs_one (x : S39) : scs [x] = sc x := by simp [scs]
/-- A block that is a span's box. -/
def BoxS (W : World) (B : Nat) (x : S39) : Prop := W.heap[B]? = some (.cells #[.int .i64 x.f0, .int .i64 x.f1] 39 (0, 0))
theorem BoxS.lt {W : World} {B : Nat} {x : S39} (h : BoxS W B x) : B < W.heap.size := (Array.getElem?_eq_some_iff.1 h).1
theorem BoxS.cell0 {W : World} {B : Nat} {x : S39} (h : BoxS W B x) : W.cell? ⟨B, 0, none⟩ = some (.int .i64 x.f0) := by simp [World.cell?, show W.heap[B]? = _ from h]
theorem BoxS.cell1 {W : World} {B : Nat} {x : S39} (h : BoxS W B x) : W.cell? ⟨B, 1, none⟩ = some (.int .i64 x.f1) := by simp [World.cell?, show W.heap[B]? = _ from h]
theorem BoxS.new (W : World) (x : S39) : BoxS (W.alloc (.cells #[.int .i64 x.f0, .int .i64 x.f1] 39)) W.heap.size x := World.alloc_heap_new W _
theorem BoxS.kept {W W' : World} {row : Option Nat} {B : Nat} {x : S39} (h : BoxS W B x) (hg : W.grownBy W' row) (hne : some B ≠ row) : BoxS W' B x := (hg.block B h.lt hne).trans h
theorem boxS_own {β : Type} (B : Nat) (f : β → S39) : Own (fun s W => BoxS W B (f s)) := fun s X Y row hs hg hrow =>
  hs.kept hg (fun e' => by obtain ⟨o, ho, hc⟩ := hrow B e'.symm; rw [show X.heap[B]? = _ from hs] at ho; cases ho; cases hc)
set_option maxRecDepth 100000 in
set_option maxHeartbeats 2000000 in
theorem appendSeq_in (F : Fence) (n : Nat) (h33 : F.fn 40) (h47 : F.fn 52) (hro : F.round = none) (hn : 3 ≤ n) (n₀ Bn : Nat) (s : S39) (v : Value) (xs : List S39) (w : World)
    (hn0 : n₀ ≤ w.heap.size) (hB : Bn < w.heap.size) (hc0 : w.cell? ⟨Bn, 0, none⟩ = some (.int .i64 s.f0)) (hc1 : w.cell? ⟨Bn, 1, none⟩ = some (.int .i64 s.f1))
    (hrow : w.ownsRow n₀ 39 2 v xs.length (scs xs)) (hlen : xs.length ≤ 1000000) :
    CallsIn F n Try.prog 40 #[v, .func (.func 52) #[] #[.pointer (some ⟨Bn, 0, none⟩)]] w fun e w' => ∃ v', e = .returned v' ∧ w'.ownsRow n₀ 39 2 v' (xs ++ pieces s).length (scs (xs ++ pieces s)) ∧ Below n₀ w w' := by
  have h1 : 1 ≤ n := by omega
  obtain ⟨i0, hi, hz0, hz1, hz2⟩ := info_parts info39
  refine callsIn_of_wp_marks Try.func40 rfl h33 ?_ hro
  simp only [Try.ntmps40, List.size_toArray, List.length_cons, List.length_nil, Nat.reduceAdd, Nat.reduceSub, Array.replicate_succ, Array.replicate_zero, List.push_toArray, List.append_toArray, List.nil_append, List.cons_append]
  obtain ⟨A0, c0, rfl⟩ := own_slice hrow
  gi_wp2
  have bS := Boxed.new w 27 (.slice A0 xs.length c0)
  have hB0 : Below n₀ w (w.alloc (.cells #[.slice A0 xs.length c0] 27)) := (Below.refl n₀ w).alloc hn0 _
  have hsz : (w.alloc (.cells #[.slice A0 xs.length c0] 27)).heap.size = w.heap.size + 1 := by simp
  have hrow0 := hrow.alloc (.cells #[.slice A0 xs.length c0] 27)
  have hd0 := (Below.heap_alloc w (.cells #[.slice A0 xs.length c0] 27) Bn hB)
  have hc0' := (World.cell?_of_block (a := ⟨Bn, 0, none⟩) hd0).trans hc0
  have hc1' := (World.cell?_of_block (a := ⟨Bn, 1, none⟩) hd0).trans hc1
  clear hd0
  obtain ⟨W0, hW0⟩ : ∃ W0, w.alloc (.cells #[.slice A0 xs.length c0] 27) = W0 := ⟨_, rfl⟩
  rw [hW0] at bS hB0 hsz hrow0 hc0' hc1' ⊢
  clear hW0
  refine wpIn_rangeFunc_ownH hro h1 (gf := 52) (lb := #[.pointer (some ⟨Bn, 0, none⟩)]) rfl h47 (enters_of Try.func52 (by kernel_rfl) rfl)
    (pieces_stops F (n - 1) h47 hro (by omega) Bn s W0 (by omega) hc0' hc1') walksK_t walksK_b (Below.refl _ _) (fun _ => rfl)
    (fun pre W => (∃ v, Boxed W w.heap.size 27 v ∧ W.ownsRow n₀ 39 2 v (xs ++ pre).length (scs (xs ++ pre)) ∧ True) ∧ Below n₀ w W)
    (fun _ _ _ => False)
    (OwnFrom.and (Own.from (holdsRow_own n₀ w.heap.size 27 39 2 (fun pre => (xs ++ pre).length) (fun pre => scs (xs ++ pre)) (fun _ _ => True)) _) (ownFrom_below hn0 (by omega)))
    (fun _ _ _ _ _ hs _ _ => hs)
    ⟨⟨_, bS, by simpa using hrow0, trivial⟩, hB0⟩
    (fun x a' W => ∃ Bx, w.heap.size < Bx ∧ BoxS W Bx x ∧ a' = { tmps := #[.slice A0 xs.length c0, .func (.func 52) #[] #[.pointer (some ⟨Bn, 0, none⟩)], .pointer (some ⟨w.heap.size, 0, none⟩), undef, .slice none 0 0, .pointer (some ⟨Bx, 0, none⟩), .func (.func 52) #[] #[.pointer (some ⟨Bn, 0, none⟩)], .agg #[.int .i64 x.f0, .int .i64 x.f1], undef, undef, undef, undef, undef], defers := [] })
    (fun x a' _ X Y row hs hg hr => by obtain ⟨Bx, h1, h2, h3⟩ := hs; exact ⟨Bx, h1, boxS_own Bx (fun (_ : Unit) => x) () X Y row h2 hg (fun r e => (hr r e).2), h3⟩)
    ?assign ?body ?done ?stop
  case assign =>
    rintro l pre x W K ⟨⟨v1, b1, r1, _⟩, hB1⟩ hK
    unfold sv
    gi_wp2
    have hs1 := hB1.size
    exact hK _ _ ((KeepsOthers.alloc _ _).from _) (KeepsWalks.alloc _ _) ⟨⟨v1, b1.alloc _, r1.alloc _, trivial⟩, hB1.alloc (by omega) _⟩ ⟨W.heap.size, b1.lt, BoxS.new W x, rfl⟩
  case body =>
    rintro l pre x a' W hl hr ⟨⟨v1, b1, r1, _⟩, hB1⟩ ⟨Bx, hBx, bX, rfl⟩ hlt
    have hc := b1.cell
    have hx0 := bX.cell0
    have hx1 := bX.cell1
    have hx2 := bX.lt
    have hs1 := hB1.size
    have hb2 := b1.lt
    gi_wp2_with (gi_at_builtin; refine wpListIn_append_own _ rfl _ _ 27 rfl n₀ 39 i0 (.agg #[.int .i64 0, .int .i64 0]) 2 16 Try.underlying27 hi hz0 hz1 hz2 rfl (by decide) _ _ _ rfl (r1.alloc _) ⟨W.heap.size, 0, none⟩ 1 1 [.int .i64 x.f0, .int .i64 x.f1] rfl rfl (World.news_of_block (heap_alloc_new W _)) (by simp [Value.oneCell']) (by simp [maxLen]; omega) (by simp; omega) (by simp; omega) ?_; intro v' w1 hown' hgrow _; obtain ⟨g', cap', rfl⟩ := ownsRow_succ hown'; obtain ⟨hv1, hv2, hr2, hk2, hb2⟩ := b1.appended (by decide) r1 (by omega) (by omega) hown' hgrow; have hc1 := hv1.cell; have hf1 := hv1.frozen)
    simp only [List.length_append] at hk2 hv2 hr2 hb2
    have e1 : xs ++ (pre ++ [x]) = (xs ++ pre) ++ [x] := (List.append_assoc ..).symm
    refine ⟨hk2.from _, hk2.walks, ⟨_, hv2, ?_, trivial⟩, hB1.trans hb2⟩
    rw [e1, scs_append, scs_one, List.length_append, List.length_append]
    exact hr2
  case done =>
    rintro D ys W hD rfl ⟨⟨v1, b1, r1, _⟩, hB1⟩ hK
    have hc := b1.cell
    gi_wp2
    refine ⟨by simp, .inl ⟨_, _, rfl, run_takeDeferred hK, ?_⟩⟩
    refine ⟨_, results_tmp rfl _ _ _, _, rfl, ownsRow_putObj r1 _ hK rfl, hB1.trans (belowK_b (w := w) hn0 W D _ _ (by omega) hK rfl rfl)⟩
  case stop =>
    rintro D c pre W _ _ h _
    exact h.elim
/-- slices.AppendSeq(v, set.pieces(s)): the row with the span's parts behind. -/
theorem appendSeq_calls (n₀ Bn : Nat) (s : S39) (v : Value) (xs : List S39) (w : World)
    (hn0 : n₀ ≤ w.heap.size) (hB : Bn < w.heap.size) (hc0 : w.cell? ⟨Bn, 0, none⟩ = some (.int .i64 s.f0)) (hc1 : w.cell? ⟨Bn, 1, none⟩ = some (.int .i64 s.f1))
    (hrow : w.ownsRow n₀ 39 2 v xs.length (scs xs)) (hlen : xs.length ≤ 1000000) :
    Calls Try.prog 40 #[v, .func (.func 52) #[] #[.pointer (some ⟨Bn, 0, none⟩)]] w fun e w' => ∃ v', e = .returned v' ∧ w'.ownsRow n₀ 39 2 v' (xs ++ pieces s).length (scs (xs ++ pieces s)) ∧ Below n₀ w w' :=
  callsIn_wide.1 (appendSeq_in _ 3 trivial trivial rfl (by omega) n₀ Bn s v xs w hn0 hB hc0 hc1 hrow hlen)
end
section
open Go.RowKit Go.Shelf Go.Sort Go.Proofs.YtpcljaidlihafaaW.PrintWords Go.Proofs.YtpcljaidlihafaaW.PrintLast Go.Proofs.YtpcljaidlihafaaW.PrintMore
theorem scs_get (l : List S39) : ∀ t, t < l.length * 2 → (scs l)[t]? = some ((sc l[t / 2]!)[t % 2]!) := by
  induction l with
  | nil => intro t h; simp at h
  | cons x l ih =>
    intro t h
    have e : scs (x :: l) = .int .i64 x.f0 :: .int .i64 x.f1 :: scs l := by simp [scs, sc]
    rw [e]
    match t, h with
    | 0, _ => rfl
    | 1, _ => rfl
    | t + 2, h =>
      have h' : t < l.length * 2 := by simp at h; omega
      have := ih t h'
      simp only [List.getElem?_cons_succ]
      rw [this, show (t + 2) / 2 = t / 2 + 1 by omega, show (t + 2) % 2 = t % 2 by omega]
      rfl
theorem scs_length (l : List S39) : (scs l).length = l.length * 2 := by
  induction l with
  | nil => rfl
  | cons x l ih => simp [scs, sc] at ih ⊢; omega
theorem reps_scs (w : World) (base : Nat) (ok : Nat → Prop) (xs : List S39) : Reps (k39.M w base ok) 2 xs (scs xs) := by
  refine ⟨scs_length xs, fun j p hj => ?_⟩
  obtain ⟨h1, h2⟩ := List.getElem?_eq_some_iff.1 hj
  have e : ((scs xs).drop (j * 2)).take 2 = sc p := by
    apply List.ext_getElem?
    intro t
    by_cases ht : t < 2
    · rw [List.getElem?_take, if_pos ht, List.getElem?_drop, scs_get _ _ (by omega), show (j * 2 + t) / 2 = j by omega, show (j * 2 + t) % 2 = t by omega, getElem!_pos xs j h1, h2, getElem!_pos (sc p) t (by simpa [sc] using ht), List.getElem?_eq_getElem]
    · rw [List.getElem?_eq_none (by simp; omega), List.getElem?_eq_none (by simp [sc]; omega)]
  rw [e]
  exact k39_mkM w base ok p
/-- A row of the call's own in the print's words. -/
theorem R_of_rows {w : World} {base n : Nat} {v : Value} {xs : List S39} (hn : n = xs.length) (h : w.ownsRow base 39 2 v n (scs xs)) : Kd.R k39 39 w base (fun _ => True) v xs := by
  subst hn
  exact ⟨fun _ _ => trivial, scs xs, h, reps_scs _ _ _ _⟩
theorem flat_scs (d : Array S39) : flatK sc 2 d = (scs d.toList).toArray := by
  apply Array.ext
  · simp [scs_length]
  · intro t h1 h2
    have ht : t < d.toList.length * 2 := by simpa using h1
    have := scs_get d.toList t ht
    have h3 := get_flatK sc 2 d t (by simpa using h1)
    rw [getElem!_pos _ t h1] at h3
    rw [h3]
    rw [List.getElem?_eq_getElem (by rw [scs_length]; exact ht)] at this
    have h4 := Option.some.inj this
    simp only [List.getElem_toArray]
    rw [h4]
    congr 2
    rcases d with ⟨l⟩
    simp
theorem holdsK_of_own {W : World} {n₀ g n cap : Nat} {xs : List S39} (h : W.ownsRow n₀ 39 2 (.slice (some ⟨g, 0, none⟩) n cap) n (scs xs)) : HoldsK sc 2 W g 0 xs.toArray := by
  intro j hj
  rw [flat_scs] at hj ⊢
  have hj' : j < (scs xs).length := by simpa using hj
  have hc := h.cells (g := g) rfl j _ (List.getElem?_eq_getElem hj')
  have ha : (⟨g, 0, none⟩ : Addr).add j = ⟨g, 0 + j, none⟩ := by unfold Addr.add; split <;> simp_all
  rw [ha] at hc
  refine ⟨?_, ?_⟩
  · rw [hc, getElem!_pos _ j hj]; simp
  · rcases h.2 with ⟨e, _⟩ | ⟨g', cap', cur, e, _, hg, _⟩
    · cases e
    · cases e
      simp [World.frozen?, hg]
theorem sorted_own {W : World} {n₀ g n cap q : Nat} {xs : List S39} {d : Array S39} {os : Array Obj} (h : W.ownsRow n₀ 39 2 (.slice (some ⟨g, 0, none⟩) n cap) n (scs xs)) (hn : xs.length = n) (hd : d.size = n) (hn0 : n₀ ≤ W.heap.size) :
    (sortWorldK sc 2 W g 0 q d os).ownsRow n₀ 39 2 (.slice (some ⟨g, 0, none⟩) n cap) n (scs d.toList) ∧ Below n₀ W (sortWorldK sc 2 W g 0 q d os) := by
  rcases h.2 with ⟨e, _⟩ | ⟨g', cap', cur, e, hb, hg, h1, h2, h3, h4⟩
  · cases e
  · cases e
    have hlt : g < W.heap.size := (Array.getElem?_eq_some_iff.1 hg).1
    have hheap : (sortWorldK sc 2 W g 0 q d os).heap = W.heap.modify g (onCells (putCells id 0 (flatK sc 2 d))) ++ os := rfl
    have hother : ∀ k, k < W.heap.size → k ≠ g → (sortWorldK sc 2 W g 0 q d os).heap[k]? = W.heap[k]? := by
      intro k hk hne
      rw [hheap, Array.getElem?_append_left (by simpa using hk), Array.getElem?_modify, if_neg (Ne.symm hne)]
    refine ⟨⟨by rw [scs_length]; simp [hd], .inr ⟨g, cap, putCells id 0 (flatK sc 2 d) cur, rfl, hb, ?_, h1, h2, by simp [putCells, h3], ?_⟩⟩, ?_⟩
    · rw [hheap, Array.getElem?_append_left (by simpa using hlt), Array.getElem?_modify, if_pos rfl, hg]
      rfl
    · apply List.ext_getElem?
      intro t
      by_cases ht : t < n * 2
      · rw [List.getElem?_take, if_pos ht, scs_get _ t (by simpa [hd] using ht)]
        have htc : t < cur.size := by omega
        simp only [putCells, Array.getElem?_toList, Array.getElem?_mapIdx, Array.getElem?_eq_getElem htc, Option.map_some, size_flatK, Nat.zero_le, true_and, Nat.zero_add, Nat.sub_zero, id]
        rw [if_pos (by rw [hd]; exact ht), get_flatK sc 2 d t (by rw [hd]; exact ht)]
        rcases d with ⟨l⟩
        simp only [List.getElem!_toArray]
      · rw [List.getElem?_eq_none (by simp; omega), List.getElem?_eq_none (by rw [scs_length]; simp [hd]; omega)]
    · refine ⟨rfl, rfl, rfl, ?_, ?_⟩
      · rw [hheap]; simp
      · intro k hk
        exact hother k (by omega) (by omega)
end
end Go.Proofs.Ytpcljaidlihafaa.P
