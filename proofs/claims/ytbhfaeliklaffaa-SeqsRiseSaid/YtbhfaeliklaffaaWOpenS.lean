/- Arguments that are rows of spans, opened. -/
import Derived.Test.YtbhfaeliklaffaaPx0
import Derived.Test.YtbhfaeliklaffaaPBase
import Derived.Test.YtbhfaeliklaffaaPLaw3
import Derived.Deep.SlicePairs
import Derived.ChangeArms
import Derived.SizedLaws
import Derived.WalkKit
namespace Go.Proofs.Ytbhfaeliklaffaa.P
set_option linter.unusedVariables false
set_option linter.unusedSimpArgs false
section
open Go.RowKit Go.ChangeShapes Go.WideShapes Go.Proofs.YtbhfaeliklaffaaW.PrintWords Go.Proofs.YtbhfaeliklaffaaW.PrintLast Go.Proofs.YtbhfaeliklaffaaW.PrintMore
theorem wf_i64 {x : Int} (h : (Lit.int .i64 x).wf = true) : -9223372036854775808 ≤ x ∧ x ≤ 9223372036854775807 := by
  simp [Lit.wf, IntKind.min, IntKind.max, IntKind.bits, IntKind.signed] at h
  omega
theorem open_spans_at {H : Type} {enc : TypeId × Value → H} {W : World} {base : Nat} {spare : Nat → Bool} {held : Bool} {fuel : Nat} {cs : List Value} {x : DataW H × List MemPlace} (h : DataW.trod enc Try.prog W base spare held fuel 25 cs = some x) :
    ∃ (l : List S43) (a : Option Addr) (cap : Nat), cs = [.slice a l.length cap] ∧ k43.C W a l.length l ∧ Wf l ∧ l.length ≤ cap ∧ l.length ≤ maxLen ∧ (l = [] ∨ ∃ es sp, x.1 = .slice es sp ∧ l.length ≤ es.length) := by
  rcases Go.Deep.open_slice_pairs Try.underlying25 Try.underlying43 (by kernel_rfl) rfl rfl (by kernel_rfl) (by kernel_rfl) h with ⟨rfl, _⟩ | ⟨a, len, cap, m, n, V0, V1, D0, D1, P0, P1, rfl, hb, hl, hc, hm, hx, hh⟩
  · exact ⟨[], none, 0, rfl, Kd.C_nil _ _, wf_nil, Nat.le_refl _, Nat.zero_le _, .inl rfl⟩
  · have hlm : len ≤ m := by rw [hm]; split <;> omega
    have each : ∀ i, i < len → ∃ s : S43, W.cell? (a.add (i * 2)) = some (.int .i64 s.f0) ∧ W.cell? (a.add (i * 2 + 1)) = some (.int .i64 s.f1) ∧ (-9223372036854775808 ≤ s.f0 ∧ s.f0 ≤ 9223372036854775807 ∧ -9223372036854775808 ≤ s.f1 ∧ s.f1 ≤ 9223372036854775807) := by
      intro i hi
      obtain ⟨h0, h1, t0, t1⟩ := hh i (by omega)
      obtain ⟨n0, e0, _, w0⟩ := DataW.trod_int (k := .i64) Try.underlying3 t0
      obtain ⟨n1, e1, _, w1⟩ := DataW.trod_int (k := .i64) Try.underlying3 t1
      have v0 : V0 i = .int .i64 n0 := by simpa using e0
      have v1 : V1 i = .int .i64 n1 := by simpa using e1
      exact ⟨⟨n0, n1⟩, by rw [h0, v0], by rw [h1, v1], (wf_i64 w0).1, (wf_i64 w0).2, (wf_i64 w1).1, (wf_i64 w1).2⟩
    obtain ⟨g, hg⟩ := Go.Deep.choose_lt each
    have hln : ((List.range len).map g).length = len := by simp
    refine ⟨(List.range len).map g, some a, cap, by rw [hln], ⟨rfl, ?_, fun _ => ⟨a, rfl, fun j p hj => ?_⟩⟩, fun s hs => ?_, by rw [hln]; exact hl, by rw [hln]; omega, .inr ⟨_, _, by rw [hx], by simp⟩⟩
    · rw [hln]; have : maxLen ≤ 9223372036854775807 := by decide
      omega
    · have hjl : j < len := by
        have := (List.getElem?_eq_some_iff.1 hj).1
        rwa [hln] at this
      have hp : p = g j := by
        rw [List.getElem?_map, List.getElem?_range hjl] at hj
        simpa using hj.symm
      obtain ⟨c0, c1, _⟩ := hg j hjl
      refine ⟨[.int .i64 p.f0, .int .i64 p.f1], rfl, k43_mk _ p, fun i u hu => ?_⟩
      subst hp
      match i, hu with
      | 0, hu => simp at hu; subst hu; exact c0
      | 1, hu => simp at hu; subst hu; exact c1
    · obtain ⟨i, hi, rfl⟩ := List.mem_map.1 hs
      exact (hg i (List.mem_range.1 hi)).2.2
theorem open_spans {H : Type} {enc : TypeId × Value → H} {W : World} {base : Nat} {spare : Nat → Bool} {held : Bool} {a : Option Addr} {len cap : Nat} {d : DataW H} {ps : List MemPlace} (h : DataW.Trod enc Try.prog W base spare held 25 (.slice a len cap) d ps) :
    ∃ l : List S43, len = l.length ∧ k43.C W a l.length l ∧ Wf l ∧ l.length ≤ cap ∧ (l = [] ∨ ∃ es sp, d = .slice es sp ∧ l.length ≤ es.length) := by
  obtain ⟨fuel, hf⟩ := h
  obtain ⟨l, A, c, hcs, hr, hw, hl, _, hd⟩ := open_spans_at hf
  simp [Value.cells] at hcs
  obtain ⟨rfl, rfl, rfl⟩ := hcs
  exact ⟨l, rfl, hr, hw, hl, hd⟩
theorem sm_spans {H : Type} {ts : List TypeId} {ds : List (DataW H)} {j : Nat} {d : DataW H} {l : List S43} (hsz : (DataW.weightsEach Try.prog ts ds).all (· ≤ reachBytes) = true) (ht : ts[j]? = some 25) (hd : ds[j]? = some d) (h : l = [] ∨ ∃ es sp, d = .slice es sp ∧ l.length ≤ es.length) : Sm l := by
  unfold Sm
  rcases h with rfl | ⟨es, sp, rfl, hl⟩
  · simp
  · have z := sized_slice hsz ht hd Try.underlying25
    have hb : Try.prog.bytesOf 43 = 16 := by kernel_rfl
    have := reachBytes_lt
    rw [hb] at z
    omega
end
end Go.Proofs.Ytbhfaeliklaffaa.P
