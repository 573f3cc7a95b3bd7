/- slices.Clone at rows of spans. -/
import Derived.Test.YtbhfaeliklaffaaPx0
import Derived.Shelf.Abstract
import Derived.Outline
import Derived.WalkSpells
namespace Go.Proofs.Ytbhfaeliklaffaa.P
set_option linter.unusedVariables false
set_option linter.unusedSimpArgs false
section
open Go.RowKit Go.Shelf Go.Proofs.YtbhfaeliklaffaaW.PrintWords Go.Proofs.YtbhfaeliklaffaaW.PrintLast Go.Proofs.YtbhfaeliklaffaaW.PrintMore
theorem below_alloc2' {B : Nat} {w W : World} (h : Below B w W) (hB : B ≤ W.heap.size) (o : Obj) : Below B w (W.alloc o) := h.alloc hB o
set_option maxRecDepth 100000 in
set_option maxHeartbeats 2000000 in
theorem cloneS (A : Option Addr) (c : Nat) (l : List S43) (w : World) (hr : Kd.C k43 w A l.length l) (hc : l.length ≤ c) (hl : l.length ≤ 1000000) :
    Calls Try.prog 45 #[.slice A l.length c] w fun e w' => ∃ v, e = .returned v ∧ Kd.R k43 43 w' w.heap.size (fun _ => True) v l ∧ Below w.heap.size w w' := by
  have HR := Aside0.mk hr
  have hnone : A = none → l.length = 0 := by
    intro e
    by_cases h0 : 0 < l.length
    · obtain ⟨ad, e2, _⟩ := hr.2.2 h0
      rw [e] at e2; cases e2
    · omega
  clear hr
  obtain ⟨n, hn⟩ : ∃ n, l.length = n := ⟨_, rfl⟩
  have HN := Aside0.mk hn
  rw [hn] at hc hl hnone ⊢
  clear hn
  have hnil := fun (W : World) => Lib.run_eql_slice_nil (P := Try.prog) W 25 43 A n c 0 0 Try.underlying25
  cases A with
  | none =>
    obtain rfl := hnone rfl
    clear hnone
    simp only [Option.isNone] at hnil
    go_enter Try.func45, Try.ntmps45
    go_wp2
    go_ret
    exact ⟨_, rfl, by rw [List.length_eq_zero_iff.1 HN.out]; exact Kd.R_nil _ _ _ _ _, Below.refl _ _⟩
  | some ad =>
    clear hnone
    simp only [Option.isNone] at hnil
    go_enter Try.func45, Try.ntmps45
    have hE : Kd.R k43 43 (w.alloc (.cells #[] 43)) w.heap.size (fun _ => True) (.slice (some ⟨w.heap.size, 0, none⟩) 0 0) [] :=
      ⟨fun _ _ => trivial, [], ⟨rfl, .inr ⟨w.heap.size, 0, #[], rfl, Nat.le_refl _, heap_alloc_new w _, Nat.le_refl _, by decide, rfl, rfl⟩⟩, Reps.none _ _⟩
    have HE := Aside0.mk hE
    have HB := Aside0.mk (below_alloc2' (Below.refl w.heap.size w) (Nat.le_refl _) (.cells #[] 43))
    have HRX := Aside0.mk (Kd.C_alloc HR.out (.cells #[] 43))
    clear hE HR
    go_wp2_with (at_builtin; refine Kd.R_append_rows k43 (w0 := w) w.heap.size rfl (.tmp 5) (.tmp 6) 25 43 (.agg #[(.int .i64 0), (.int .i64 0)]) 16 rfl Try.underlying25 info43 rfl (by decide) (by omega) (.slice (some ⟨w.heap.size, 0, none⟩) 0 0) [] l (some ad) n c (fun _ => True) (fun _ => False) rfl rfl HE.out (HN.out ▸ HRX.out) (fun y cs hy => by obtain rfl := k43_open hy; exact k43_mkM _ _ _ y) (fun _ h => h.elim) (fun _ _ => trivial) HB.out HB.out.size (by have := HN.out; simp; omega) ?_; intro v1 w1 ho hb hg hat)
    go_ret
    exact ⟨_, rfl, by simpa using ho, hb⟩
end
end Go.Proofs.Ytbhfaeliklaffaa.P
