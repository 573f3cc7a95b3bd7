/- Arguments that are rows of ranges, opened. -/
import Derived.Test.YtbhfaeliklaffaaPx0
import Derived.Test.YtbhfaeliklaffaaPEv
import Derived.Test.YtbhfaeliklaffaaPNf
import Derived.Deep.SlicePairs
import Derived.ChangeArms
import Derived.SizedLaws
import Derived.WalkKit
namespace Go.Proofs.Ytbhfaeliklaffaa.P
set_option linter.unusedVariables false
set_option linter.unusedSimpArgs false
section
open Go.RowKit Go.Proofs.YtbhfaeliklaffaaW.PrintWords Go.Proofs.YtbhfaeliklaffaaW.PrintLast Go.Proofs.YtbhfaeliklaffaaW.PrintMore
theorem Nf.wf {l : List S43} (h : Nf l) : Wf l := fun s hs => by have := h.1 s hs; unfold Ok at this; omega
end
section
open Go.RowKit Go.ChangeShapes Go.WideShapes Go.Proofs.YtbhfaeliklaffaaW.PrintWords Go.Proofs.YtbhfaeliklaffaaW.PrintLast Go.Proofs.YtbhfaeliklaffaaW.PrintMore
theorem weightsAll_mem {H : Type} {P : Program} {e : TypeId} {d : DataW H} : ∀ {ds : List (DataW H)}, d ∈ ds → ∀ n ∈ d.weights P e, n ∈ DataW.weightsAll P e ds
  | d0 :: ds, h, n, hn => by
    simp only [DataW.weightsAll, List.mem_append]
    rcases List.mem_cons.1 h with rfl | h
    · exact .inl hn
    · exact .inr (weightsAll_mem h n hn)
end
section
open Go.RowKit Go.ChangeShapes Go.WideShapes Go.Proofs.YtbhfaeliklaffaaW.PrintWords Go.Proofs.YtbhfaeliklaffaaW.PrintLast Go.Proofs.YtbhfaeliklaffaaW.PrintMore
theorem wf_u8 {x : Int} (h : (Lit.int .u8 x).wf = true) : 0 ≤ x ∧ x ≤ 255 := by
  simp [Lit.wf, IntKind.min, IntKind.max, IntKind.bits, IntKind.signed] at h
  omega
/-- Its numbers are bytes. -/
def WfR (l : List S57) : Prop := ∀ s ∈ l, 0 ≤ s.f0 ∧ s.f0 ≤ 255 ∧ 0 ≤ s.f1 ∧ s.f1 ≤ 255
theorem open_ranges_at {H : Type} {enc : TypeId × Value → H} {W : World} {base : Nat} {spare : Nat → Bool} {held : Bool} {fuel : Nat} {cs : List Value} {x : DataW H × List MemPlace} (h : DataW.trod enc Try.prog W base spare held fuel 37 cs = some x) :
    ∃ (l : List S57) (a : Option Addr) (cap : Nat), cs = [.slice a l.length cap] ∧ k57.C W a l.length l ∧ WfR l ∧ l.length ≤ cap ∧ l.length ≤ maxLen ∧ (l = [] ∨ ∃ es sp, x.1 = .slice es sp ∧ l.length ≤ es.length) := by
  rcases Go.Deep.open_slice_pairs Try.underlying37 Try.underlying57 (by kernel_rfl) rfl rfl (by kernel_rfl) (by kernel_rfl) h with ⟨rfl, _⟩ | ⟨a, len, cap, m, n, V0, V1, D0, D1, P0, P1, rfl, hb, hl, hc, hm, hx, hh⟩
  · exact ⟨[], none, 0, rfl, Kd.C_nil _ _, (fun _ h => by cases h), Nat.le_refl _, Nat.zero_le _, .inl rfl⟩
  · have hlm : len ≤ m := by rw [hm]; split <;> omega
    have each : ∀ i, i < len → ∃ s : S57, W.cell? (a.add (i * 2)) = some (.int .u8 s.f0) ∧ W.cell? (a.add (i * 2 + 1)) = some (.int .u8 s.f1) ∧ (0 ≤ s.f0 ∧ s.f0 ≤ 255 ∧ 0 ≤ s.f1 ∧ s.f1 ≤ 255) := by
      intro i hi
      obtain ⟨h0, h1, t0, t1⟩ := hh i (by omega)
      obtain ⟨n0, e0, _, w0⟩ := DataW.trod_int (k := .u8) Try.underlying5 t0
      obtain ⟨n1, e1, _, w1⟩ := DataW.trod_int (k := .u8) Try.underlying5 t1
      have v0 : V0 i = .int .u8 n0 := by simpa using e0
      have v1 : V1 i = .int .u8 n1 := by simpa using e1
      exact ⟨⟨n0, n1⟩, by rw [h0, v0], by rw [h1, v1], (wf_u8 w0).1, (wf_u8 w0).2, (wf_u8 w1).1, (wf_u8 w1).2⟩
    haveI : Inhabited S57 := ⟨⟨0, 0⟩⟩
    obtain ⟨g, hg⟩ := Go.Deep.choose_lt each
    have hln : ((List.range len).map g).length = len := by simp
    refine ⟨(List.range len).map g, some a, cap, by rw [hln], ⟨rfl, ?_, fun _ => ⟨a, rfl, fun j p hj => ?_⟩⟩, fun s hs => ?_, by rw [hln]; exact hl, by rw [hln]; omega, .inr ⟨_, _, by rw [hx], by simp⟩⟩
    · rw [hln]; have : maxLen ≤ 9223372036854775807 := by decide
      omega
    · have hjl : j < len := by
        have := (List.getElem?_eq_some_iff.1 hj).1
        rwa [hln] at this
      have hp : p = g j := by
        rw [List.getElem?_map, List.getElem?_range hjl] at hj
        simpa using hj.symm
      obtain ⟨c0, c1, _⟩ := hg j hjl
      refine ⟨[.int .u8 p.f0, .int .u8 p.f1], rfl, k57_mk _ p, fun i u hu => ?_⟩
      subst hp
      match i, hu with
      | 0, hu => simp at hu; subst hu; exact c0
      | 1, hu => simp at hu; subst hu; exact c1
    · obtain ⟨i, hi, rfl⟩ := List.mem_map.1 hs
      exact (hg i (List.mem_range.1 hi)).2.2
theorem open_rrows {H : Type} {enc : TypeId × Value → H} {W : World} {base : Nat} {spare : Nat → Bool} {held : Bool} {a : Option Addr} {len cap : Nat} {d : DataW H} {ps : List MemPlace} (h : DataW.Trod enc Try.prog W base spare held 27 (.slice a len cap) d ps) :
    ∃ l : List (List S57), len = l.length ∧ (Kd.slice 57 k57).C W a l.length l ∧ (∀ m ∈ l, WfR m) ∧ l.length ≤ cap ∧ (l = [] ∨ ∃ es sp, d = .slice es sp ∧ l.length ≤ es.length ∧ ∀ m ∈ l, m = [] ∨ ∃ e' s', DataW.slice e' s' ∈ es ∧ m.length ≤ e'.length) := by
  obtain ⟨fuel, hf⟩ := h
  rcases Go.Deep.open_slice1 Try.underlying27 (by kernel_rfl) hf with ⟨hcs, _⟩ | ⟨a', len', cap', m, n, V, D, Pl, hcs, hb, hl, hc, hm, hx, hh⟩
  · simp [Value.cells] at hcs
    obtain ⟨rfl, rfl, rfl⟩ := hcs
    exact ⟨[], rfl, Kd.C_nil _ _, fun _ h => by simp at h, Nat.le_refl _, .inl rfl⟩
  · simp [Value.cells] at hcs
    obtain ⟨rfl, rfl, rfl⟩ := hcs
    have hlm : len ≤ m := by rw [hm]; split <;> omega
    have each : ∀ i, i < len → ∃ q : List S57 × Option Addr × Nat, W.cell? (a'.add i) = some (.slice q.2.1 q.1.length q.2.2) ∧ k57.C W q.2.1 q.1.length q.1 ∧ WfR q.1 ∧ q.1.length ≤ q.2.2 ∧ (q.1 = [] ∨ ∃ es sp, D i = .slice es sp ∧ q.1.length ≤ es.length) := by
      intro i hi
      obtain ⟨h0, t0⟩ := hh i (by omega)
      obtain ⟨l, A, c, e0, hr, hw, hlc, _, hd⟩ := open_ranges_at t0
      have v0 : V i = .slice A l.length c := by simpa using e0
      exact ⟨(l, A, c), by rw [h0, v0], hr, hw, hlc, hd⟩
    haveI : Inhabited S57 := ⟨⟨0, 0⟩⟩
    obtain ⟨g, hg⟩ := Go.Deep.choose_lt each
    have hln : ((List.range len).map fun i => (g i).1).length = len := by simp
    have d0 : d = .slice ((List.range len).map D) ((List.range (m - len)).map fun j => D (len + j)) := congrArg Prod.fst hx
    refine ⟨(List.range len).map fun i => (g i).1, hln.symm, ⟨rfl, ?_, fun _ => ⟨a', rfl, fun j p hj => ?_⟩⟩, fun s hs => ?_, by rw [hln]; exact hl, .inr ⟨_, _, d0, by simp, fun s hs => ?_⟩⟩
    · rw [hln]; have : maxLen ≤ 9223372036854775807 := by decide
      omega
    · have hjl : j < len := by
        have := (List.getElem?_eq_some_iff.1 hj).1
        rwa [hln] at this
      have hp : p = (g j).1 := by
        rw [List.getElem?_map, List.getElem?_range hjl] at hj
        simpa using hj.symm
      obtain ⟨c0, c1, c2, c3, _⟩ := hg j hjl
      subst hp
      refine ⟨[.slice (g j).2.1 (g j).1.length (g j).2.2], rfl, ⟨_, _, rfl, c3, c1⟩, fun i u hu => ?_⟩
      match i, hu with
      | 0, hu =>
        simp at hu; subst hu
        have e : (Kd.slice 57 k57).sz = 1 := rfl
        rw [e, Nat.mul_one]
        exact c0
    · obtain ⟨i, hi, rfl⟩ := List.mem_map.1 hs
      exact (hg i (List.mem_range.1 hi)).2.2.1
    · obtain ⟨i, hi, rfl⟩ := List.mem_map.1 hs
      rcases (hg i (List.mem_range.1 hi)).2.2.2.2 with h | ⟨es, sp, h, h2⟩
      · exact .inl h
      · exact .inr ⟨es, sp, h ▸ List.mem_map.2 ⟨i, hi, rfl⟩, h2⟩
theorem sm_rrows {H : Type} {ts : List TypeId} {ds : List (DataW H)} {j : Nat} {d : DataW H} {l : List (List S57)} (hsz : (DataW.weightsEach Try.prog ts ds).all (· ≤ reachBytes) = true) (ht : ts[j]? = some 27) (hd : ds[j]? = some d) (h : l = [] ∨ ∃ es sp, d = .slice es sp ∧ l.length ≤ es.length ∧ ∀ m ∈ l, m = [] ∨ ∃ e' s', DataW.slice e' s' ∈ es ∧ m.length ≤ e'.length) : Sm l ∧ ∀ m ∈ l, Sm m := by
  have hr := reachBytes_lt
  rcases h with rfl | ⟨es, sp, rfl, hl, hm⟩
  · exact ⟨by unfold Sm; simp, fun m h => by simp at h⟩
  · refine ⟨?_, fun m hmm => ?_⟩
    · have z := sized_slice hsz ht hd Try.underlying27
      have hb : Try.prog.bytesOf 37 = 24 := by kernel_rfl
      rw [hb] at z
      unfold Sm; omega
    · rcases hm m hmm with rfl | ⟨e', s', h1, h2⟩
      · unfold Sm; simp
      · have z : (e'.length + s'.length) * Try.prog.bytesOf 57 ≤ reachBytes := by
          refine of_decide_eq_true (List.all_eq_true.1 hsz _ (DataW.weights_mem_each ht hd _ ?_))
          simp only [DataW.weights, Try.underlying27, List.mem_cons, List.mem_append]
          exact .inr (.inl (weightsAll_mem h1 _ (by simp [DataW.weights, Try.underlying37])))
        have hb : Try.prog.bytesOf 57 = 2 := by kernel_rfl
        rw [hb] at z
        unfold Sm; omega
end
end Go.Proofs.Ytbhfaeliklaffaa.P
