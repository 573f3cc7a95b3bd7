/- slices.AppendSeq over the iterator of set.pieces. -/
import Derived.Test.YtbhfaeliklaffaaPx0
import Derived.Test.YtbhfaeliklaffaaGSeq
import Derived.Test.YtbhfaeliklaffaaPNf
namespace Go.Proofs.Ytbhfaeliklaffaa.P
set_option linter.unusedVariables false
set_option linter.unusedSimpArgs false
section
open Go.RowKit Go.Shelf Go.Proofs.YtbhfaeliklaffaaW.PrintWords Go.Proofs.YtbhfaeliklaffaaW.PrintLast Go.Proofs.YtbhfaeliklaffaaW.PrintMore
attribute [local go_sem] Oper.semAt_some
def sc (x : S43) : List Value := [.int .i64 x.f0, .int .i64 x.f1]
def scs (l : List S43) : List Value := l.flatMap sc
theorem scs_append (l m : List S43) : scs (l ++ m) = scs l ++ scs m := by simp [scs]
theorem scs_one (x : S43) : scs [x] = sc x := by simp [scs]
/-- A block that is a span's box. -/
def BoxS (W : World) (B : Nat) (x : S43) : Prop := W.heap[B]? = some (.cells #[.int .i64 x.f0, .int .i64 x.f1] 43 (0, 0))
theorem BoxS.lt {W : World} {B : Nat} {x : S43} (h : BoxS W B x) : B < W.heap.size := (Array.getElem?_eq_some_iff.1 h).1
theorem BoxS.cell0 {W : World} {B : Nat} {x : S43} (h : BoxS W B x) : W.cell? ⟨B, 0, none⟩ = some (.int .i64 x.f0) := by simp [World.cell?, show W.heap[B]? = _ from h]
theorem BoxS.cell1 {W : World} {B : Nat} {x : S43} (h : BoxS W B x) : W.cell? ⟨B, 1, none⟩ = some (.int .i64 x.f1) := by simp [World.cell?, show W.heap[B]? = _ from h]
theorem BoxS.new (W : World) (x : S43) : BoxS (W.alloc (.cells #[.int .i64 x.f0, .int .i64 x.f1] 43)) W.heap.size x := World.alloc_heap_new W _
theorem BoxS.kept {W W' : World} {row : Option Nat} {B : Nat} {x : S43} (h : BoxS W B x) (hg : W.grownBy W' row) (hne : some B ≠ row) : BoxS W' B x := (hg.block B h.lt hne).trans h
theorem boxS_own {β : Type} (B : Nat) (f : β → S43) : Own (fun s W => BoxS W B (f s)) := fun s X Y row hs hg hrow =>
  hs.kept hg (fun e' => by obtain ⟨o, ho, hc⟩ := hrow B e'.symm; rw [show X.heap[B]? = _ from hs] at ho; cases ho; cases hc)
set_option maxRecDepth 100000 in
set_option maxHeartbeats 2000000 in
theorem appendSeq_in (F : Fence) (n : Nat) (h33 : F.fn 49) (h47 : F.fn 60) (hro : F.round = none) (hn : 3 ≤ n) (n₀ Bn : Nat) (s : S43) (v : Value) (xs : List S43) (w : World)
    (hn0 : n₀ ≤ w.heap.size) (hB : Bn < w.heap.size) (hc0 : w.cell? ⟨Bn, 0, none⟩ = some (.int .i64 s.f0)) (hc1 : w.cell? ⟨Bn, 1, none⟩ = some (.int .i64 s.f1))
    (hrow : w.ownsRow n₀ 43 2 v xs.length (scs xs)) (hlen : xs.length ≤ 1000000) :
    CallsIn F n Try.prog 49 #[v, .func (.func 60) #[] #[.pointer (some ⟨Bn, 0, none⟩)]] w fun e w' => ∃ v', e = .returned v' ∧ w'.ownsRow n₀ 43 2 v' (xs ++ pieces s).length (scs (xs ++ pieces s)) ∧ Below n₀ w w' := by
  have h1 : 1 ≤ n := by omega
  obtain ⟨i0, hi, hz0, hz1, hz2⟩ := info_parts info43
  refine callsIn_of_wp_marks Try.func49 rfl h33 ?_ hro
  simp only [Try.ntmps49, List.size_toArray, List.length_cons, List.length_nil, Nat.reduceAdd, Nat.reduceSub, Array.replicate_succ, Array.replicate_zero, List.push_toArray, List.append_toArray, List.nil_append, List.cons_append]
  obtain ⟨A0, c0, rfl⟩ := own_slice hrow
  gi_wp2
  have bS := Boxed.new w 25 (.slice A0 xs.length c0)
  have hB0 : Below n₀ w (w.alloc (.cells #[.slice A0 xs.length c0] 25)) := (Below.refl n₀ w).alloc hn0 _
  have hsz : (w.alloc (.cells #[.slice A0 xs.length c0] 25)).heap.size = w.heap.size + 1 := by simp
  have hrow0 := hrow.alloc (.cells #[.slice A0 xs.length c0] 25)
  have hd0 := (Below.heap_alloc w (.cells #[.slice A0 xs.length c0] 25) Bn hB)
  have hc0' := (World.cell?_of_block (a := ⟨Bn, 0, none⟩) hd0).trans hc0
  have hc1' := (World.cell?_of_block (a := ⟨Bn, 1, none⟩) hd0).trans hc1
  clear hd0
  obtain ⟨W0, hW0⟩ : ∃ W0, w.alloc (.cells #[.slice A0 xs.length c0] 25) = W0 := ⟨_, rfl⟩
  rw [hW0] at bS hB0 hsz hrow0 hc0' hc1' ⊢
  clear hW0
  refine wpIn_rangeFunc_ownH hro h1 (gf := 60) (lb := #[.pointer (some ⟨Bn, 0, none⟩)]) rfl h47 (enters_of Try.func60 (by kernel_rfl) rfl)
    (pieces_stops F (n - 1) h47 hro (by omega) Bn s W0 (by omega) hc0' hc1') walksK_t walksK_b (Below.refl _ _) (fun _ => rfl)
    (fun pre W => (∃ v, Boxed W w.heap.size 25 v ∧ W.ownsRow n₀ 43 2 v (xs ++ pre).length (scs (xs ++ pre)) ∧ True) ∧ Below n₀ w W)
    (fun _ _ _ => False)
    (OwnFrom.and (Own.from (holdsRow_own n₀ w.heap.size 25 43 2 (fun pre => (xs ++ pre).length) (fun pre => scs (xs ++ pre)) (fun _ _ => True)) _) (ownFrom_below hn0 (by omega)))
    (fun _ _ _ _ _ hs _ _ => hs)
    ⟨⟨_, bS, by simpa using hrow0, trivial⟩, hB0⟩
    (fun x a' W => ∃ Bx, w.heap.size < Bx ∧ BoxS W Bx x ∧ a' = { tmps := #[.slice A0 xs.length c0, .func (.func 60) #[] #[.pointer (some ⟨Bn, 0, none⟩)], .pointer (some ⟨w.heap.size, 0, none⟩), undef, .slice none 0 0, .pointer (some ⟨Bx, 0, none⟩), .func (.func 60) #[] #[.pointer (some ⟨Bn, 0, none⟩)], .agg #[.int .i64 x.f0, .int .i64 x.f1], undef, undef, undef, undef, undef], defers := [] })
    (fun x a' _ X Y row hs hg hr => by obtain ⟨Bx, h1, h2, h3⟩ := hs; exact ⟨Bx, h1, boxS_own Bx (fun (_ : Unit) => x) () X Y row h2 hg (fun r e => (hr r e).2), h3⟩)
    ?assign ?body ?done ?stop
  case assign =>
    rintro l pre x W K ⟨⟨v1, b1, r1, _⟩, hB1⟩ hK
    unfold sv
    gi_wp2
    have hs1 := hB1.size
    exact hK _ _ ((KeepsOthers.alloc _ _).from _) (KeepsWalks.alloc _ _) ⟨⟨v1, b1.alloc _, r1.alloc _, trivial⟩, hB1.alloc (by omega) _⟩ ⟨W.heap.size, b1.lt, BoxS.new W x, rfl⟩
  case body =>
    rintro l pre x a' W hl hr ⟨⟨v1, b1, r1, _⟩, hB1⟩ ⟨Bx, hBx, bX, rfl⟩ hlt
    have hc := b1.cell
    have hx0 := bX.cell0
    have hx1 := bX.cell1
    have hx2 := bX.lt
    have hs1 := hB1.size
    have hb2 := b1.lt
    gi_wp2_with (gi_at_builtin; refine wpListIn_append_own _ rfl _ _ 25 rfl n₀ 43 i0 (.agg #[.int .i64 0, .int .i64 0]) 2 16 Try.underlying25 hi hz0 hz1 hz2 rfl (by decide) _ _ _ rfl (r1.alloc _) ⟨W.heap.size, 0, none⟩ 1 1 [.int .i64 x.f0, .int .i64 x.f1] rfl rfl (World.news_of_block (heap_alloc_new W _)) (by simp [Value.oneCell']) (by simp [maxLen]; omega) (by simp; omega) (by simp; omega) ?_; intro v' w1 hown' hgrow _; obtain ⟨g', cap', rfl⟩ := ownsRow_succ hown'; obtain ⟨hv1, hv2, hr2, hk2, hb2⟩ := b1.appended (by decide) r1 (by omega) (by omega) hown' hgrow; have hc1 := hv1.cell; have hf1 := hv1.frozen)
    simp only [List.length_append] at hk2 hv2 hr2 hb2
    have e1 : xs ++ (pre ++ [x]) = (xs ++ pre) ++ [x] := (List.append_assoc ..).symm
    refine ⟨hk2.from _, hk2.walks, ⟨_, hv2, ?_, trivial⟩, hB1.trans hb2⟩
    rw [e1, scs_append, scs_one, List.length_append, List.length_append]
    exact hr2
  case done =>
    rintro D ys W hD rfl ⟨⟨v1, b1, r1, _⟩, hB1⟩ hK
    have hc := b1.cell
    gi_wp2
    refine ⟨by simp, .inl ⟨_, _, rfl, run_takeDeferred hK, ?_⟩⟩
    refine ⟨_, results_tmp rfl _ _ _, _, rfl, ownsRow_putObj r1 _ hK rfl, hB1.trans (belowK_b (w := w) hn0 W D _ _ (by omega) hK rfl rfl)⟩
  case stop =>
    rintro D c pre W _ _ h _
    exact h.elim
/-- slices.AppendSeq(v, set.pieces(s)): the row with the span's parts behind. -/
theorem appendSeq_calls (n₀ Bn : Nat) (s : S43) (v : Value) (xs : List S43) (w : World)
    (hn0 : n₀ ≤ w.heap.size) (hB : Bn < w.heap.size) (hc0 : w.cell? ⟨Bn, 0, none⟩ = some (.int .i64 s.f0)) (hc1 : w.cell? ⟨Bn, 1, none⟩ = some (.int .i64 s.f1))
    (hrow : w.ownsRow n₀ 43 2 v xs.length (scs xs)) (hlen : xs.length ≤ 1000000) :
    Calls Try.prog 49 #[v, .func (.func 60) #[] #[.pointer (some ⟨Bn, 0, none⟩)]] w fun e w' => ∃ v', e = .returned v' ∧ w'.ownsRow n₀ 43 2 v' (xs ++ pieces s).length (scs (xs ++ pieces s)) ∧ Below n₀ w w' :=
  callsIn_wide.1 (appendSeq_in _ 3 trivial trivial rfl (by omega) n₀ Bn s v xs w hn0 hB hc0 hc1 hrow hlen)
end
end Go.Proofs.Ytbhfaeliklaffaa.P
