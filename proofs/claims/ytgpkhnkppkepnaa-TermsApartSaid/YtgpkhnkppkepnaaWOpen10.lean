/- Arguments that are rows of whole numbers, opened; what the bound of the second form gives. -/
import Derived.Test.YtgpkhnkppkepnaaPx0
import Derived.Test.YtgpkhnkppkepnaaGBase
import Derived.Test.YtgpkhnkppkepnaaGEdges
import Derived.Test.YtgpkhnkppkepnaaGHas
import Derived.Test.YtgpkhnkppkepnaaGMapH
import Derived.Test.YtgpkhnkppkepnaaGRowsO
import Derived.Test.YtgpkhnkppkepnaaPBase
import Derived.Test.YtgpkhnkppkepnaaPLaw10
import Derived.Test.YtgpkhnkppkepnaaPLaws10
import Derived.Test.YtgpkhnkppkepnaaPRef10
import Derived.Test.YtgpkhnkppkepnaaRows
import Derived.Deep.SlicePairs
import Derived.ChangeArms
import Derived.SizedLaws
import Derived.WalkKit
import Derived.Deep.Matrix
namespace Go.Proofs.Ytgpkhnkppkepnaa.P
set_option linter.unusedVariables false
set_option linter.unusedSimpArgs false
section
open Go.RowKit Go.ChangeShapes Go.WideShapes Go.Proofs.YtgpkhnkppkepnaaW.PrintWords Go.Proofs.YtgpkhnkppkepnaaW.PrintLast Go.Proofs.YtgpkhnkppkepnaaW.PrintMore
theorem wf_i64 {x : Int} (h : (Lit.int .i64 x).wf = true) : -9223372036854775808 ≤ x ∧ x ≤ 9223372036854775807 := by
  simp [Lit.wf, IntKind.min, IntKind.max, IntKind.bits, IntKind.signed] at h
  omega
theorem open_spans_at {H : Type} {enc : TypeId × Value → H} {W : World} {base : Nat} {spare : Nat → Bool} {held : Bool} {fuel : Nat} {cs : List Value} {x : DataW H × List MemPlace} (h : DataW.trod enc Try.prog W base spare held fuel 28 cs = some x) :
    ∃ (l : List S42) (a : Option Addr) (cap : Nat), cs = [.slice a l.length cap] ∧ k42.C W a l.length l ∧ Wf l ∧ l.length ≤ cap ∧ l.length ≤ maxLen ∧ (l = [] ∨ ∃ es sp, x.1 = .slice es sp ∧ l.length ≤ es.length) := by
  rcases Go.Deep.open_slice_pairs Try.underlying28 Try.underlying42 (by kernel_rfl) rfl rfl (by kernel_rfl) (by kernel_rfl) h with ⟨rfl, _⟩ | ⟨a, len, cap, m, n, V0, V1, D0, D1, P0, P1, rfl, hb, hl, hc, hm, hx, hh⟩
  · exact ⟨[], none, 0, rfl, Kd.C_nil _ _, wf_nil, Nat.le_refl _, Nat.zero_le _, .inl rfl⟩
  · have hlm : len ≤ m := by rw [hm]; split <;> omega
    have each : ∀ i, i < len → ∃ s : S42, W.cell? (a.add (i * 2)) = some (.int .i64 s.f0) ∧ W.cell? (a.add (i * 2 + 1)) = some (.int .i64 s.f1) ∧ (-9223372036854775808 ≤ s.f0 ∧ s.f0 ≤ 9223372036854775807 ∧ -9223372036854775808 ≤ s.f1 ∧ s.f1 ≤ 9223372036854775807) := by
      intro i hi
      obtain ⟨h0, h1, t0, t1⟩ := hh i (by omega)
      obtain ⟨n0, e0, _, w0⟩ := DataW.trod_int (k := .i64) Try.underlying3 t0
      obtain ⟨n1, e1, _, w1⟩ := DataW.trod_int (k := .i64) Try.underlying3 t1
      have v0 : V0 i = .int .i64 n0 := by simpa using e0
      have v1 : V1 i = .int .i64 n1 := by simpa using e1
      exact ⟨⟨n0, n1⟩, by rw [h0, v0], by rw [h1, v1], (wf_i64 w0).1, (wf_i64 w0).2, (wf_i64 w1).1, (wf_i64 w1).2⟩
    obtain ⟨g, hg⟩ := Go.Deep.choose_lt each
    have hln : ((List.range len).map g).length = len := by simp
    refine ⟨(List.range len).map g, some a, cap, by rw [hln], ⟨rfl, ?_, fun _ => ⟨a, rfl, fun j p hj => ?_⟩⟩, fun s hs => ?_, by rw [hln]; exact hl, by rw [hln]; omega, .inr ⟨_, _, by rw [hx], by simp⟩⟩
    · rw [hln]; have : maxLen ≤ 9223372036854775807 := by decide
      omega
    · have hjl : j < len := by
        have := (List.getElem?_eq_some_iff.1 hj).1
        rwa [hln] at this
      have hp : p = g j := by
        rw [List.getElem?_map, List.getElem?_range hjl] at hj
        simpa using hj.symm
      obtain ⟨c0, c1, _⟩ := hg j hjl
      refine ⟨[.int .i64 p.f0, .int .i64 p.f1], rfl, k42_mk _ p, fun i u hu => ?_⟩
      subst hp
      match i, hu with
      | 0, hu => simp at hu; subst hu; exact c0
      | 1, hu => simp at hu; subst hu; exact c1
    · obtain ⟨i, hi, rfl⟩ := List.mem_map.1 hs
      exact (hg i (List.mem_range.1 hi)).2.2
theorem open_spans {H : Type} {enc : TypeId × Value → H} {W : World} {base : Nat} {spare : Nat → Bool} {held : Bool} {a : Option Addr} {len cap : Nat} {d : DataW H} {ps : List MemPlace} (h : DataW.Trod enc Try.prog W base spare held 28 (.slice a len cap) d ps) :
    ∃ l : List S42, len = l.length ∧ k42.C W a l.length l ∧ Wf l ∧ l.length ≤ cap ∧ (l = [] ∨ ∃ es sp, d = .slice es sp ∧ l.length ≤ es.length) := by
  obtain ⟨fuel, hf⟩ := h
  obtain ⟨l, A, c, hcs, hr, hw, hl, _, hd⟩ := open_spans_at hf
  simp [Value.cells] at hcs
  obtain ⟨rfl, rfl, rfl⟩ := hcs
  exact ⟨l, rfl, hr, hw, hl, hd⟩
theorem sm_spans {H : Type} {ts : List TypeId} {ds : List (DataW H)} {j : Nat} {d : DataW H} {l : List S42} (hsz : (DataW.weightsEach Try.prog ts ds).all (· ≤ reachBytes) = true) (ht : ts[j]? = some 28) (hd : ds[j]? = some d) (h : l = [] ∨ ∃ es sp, d = .slice es sp ∧ l.length ≤ es.length) : Sm l := by
  unfold Sm
  rcases h with rfl | ⟨es, sp, rfl, hl⟩
  · simp
  · have z := sized_slice hsz ht hd Try.underlying28
    have hb : Try.prog.bytesOf 42 = 16 := by kernel_rfl
    have := reachBytes_lt
    rw [hb] at z
    omega
theorem open_rows {H : Type} {enc : TypeId × Value → H} {W : World} {base : Nat} {spare : Nat → Bool} {held : Bool} {a : Option Addr} {len cap : Nat} {d : DataW H} {ps : List MemPlace} (h : DataW.Trod enc Try.prog W base spare held 24 (.slice a len cap) d ps) :
    ∃ l : List (List S42), len = l.length ∧ (Kd.slice 42 k42).C W a l.length l ∧ (∀ m ∈ l, Wf m) ∧ l.length ≤ cap ∧ (l = [] ∨ ∃ es sp, d = .slice es sp ∧ l.length ≤ es.length ∧ ∀ m ∈ l, m = [] ∨ ∃ e' s', DataW.slice e' s' ∈ es ∧ m.length ≤ e'.length) := by
  obtain ⟨fuel, hf⟩ := h
  rcases Go.Deep.open_slice1 Try.underlying24 (by kernel_rfl) hf with ⟨hcs, _⟩ | ⟨a', len', cap', m, n, V, D, Pl, hcs, hb, hl, hc, hm, hx, hh⟩
  · simp [Value.cells] at hcs
    obtain ⟨rfl, rfl, rfl⟩ := hcs
    exact ⟨[], rfl, Kd.C_nil _ _, fun _ h => by simp at h, Nat.le_refl _, .inl rfl⟩
  · simp [Value.cells] at hcs
    obtain ⟨rfl, rfl, rfl⟩ := hcs
    have hlm : len ≤ m := by rw [hm]; split <;> omega
    have each : ∀ i, i < len → ∃ q : List S42 × Option Addr × Nat, W.cell? (a'.add i) = some (.slice q.2.1 q.1.length q.2.2) ∧ k42.C W q.2.1 q.1.length q.1 ∧ Wf q.1 ∧ q.1.length ≤ q.2.2 ∧ (q.1 = [] ∨ ∃ es sp, D i = .slice es sp ∧ q.1.length ≤ es.length) := by
      intro i hi
      obtain ⟨h0, t0⟩ := hh i (by omega)
      obtain ⟨l, A, c, e0, hr, hw, hlc, _, hd⟩ := open_spans_at t0
      have v0 : V i = .slice A l.length c := by simpa using e0
      exact ⟨(l, A, c), by rw [h0, v0], hr, hw, hlc, hd⟩
    obtain ⟨g, hg⟩ := Go.Deep.choose_lt each
    have hln : ((List.range len).map fun i => (g i).1).length = len := by simp
    have d0 : d = .slice ((List.range len).map D) ((List.range (m - len)).map fun j => D (len + j)) := congrArg Prod.fst hx
    refine ⟨(List.range len).map fun i => (g i).1, hln.symm, ⟨rfl, ?_, fun _ => ⟨a', rfl, fun j p hj => ?_⟩⟩, fun s hs => ?_, by rw [hln]; exact hl, .inr ⟨_, _, d0, by simp, fun s hs => ?_⟩⟩
    · rw [hln]; have : maxLen ≤ 9223372036854775807 := by decide
      omega
    · have hjl : j < len := by
        have := (List.getElem?_eq_some_iff.1 hj).1
        rwa [hln] at this
      have hp : p = (g j).1 := by
        rw [List.getElem?_map, List.getElem?_range hjl] at hj
        simpa using hj.symm
      obtain ⟨c0, c1, c2, c3, _⟩ := hg j hjl
      subst hp
      refine ⟨[.slice (g j).2.1 (g j).1.length (g j).2.2], rfl, ⟨_, _, rfl, c3, c1⟩, fun i u hu => ?_⟩
      match i, hu with
      | 0, hu =>
        simp at hu; subst hu
        have e : (Kd.slice 42 k42).sz = 1 := rfl
        rw [e, Nat.mul_one]
        exact c0
    · obtain ⟨i, hi, rfl⟩ := List.mem_map.1 hs
      exact (hg i (List.mem_range.1 hi)).2.2.1
    · obtain ⟨i, hi, rfl⟩ := List.mem_map.1 hs
      rcases (hg i (List.mem_range.1 hi)).2.2.2.2 with h | ⟨es, sp, h, h2⟩
      · exact .inl h
      · exact .inr ⟨es, sp, h ▸ List.mem_map.2 ⟨i, hi, rfl⟩, h2⟩
theorem weightsAll_mem {H : Type} {P : Program} {e : TypeId} {d : DataW H} : ∀ {ds : List (DataW H)}, d ∈ ds → ∀ n ∈ d.weights P e, n ∈ DataW.weightsAll P e ds
  | d0 :: ds, h, n, hn => by
    simp only [DataW.weightsAll, List.mem_append]
    rcases List.mem_cons.1 h with rfl | h
    · exact .inl hn
    · exact .inr (weightsAll_mem h n hn)
theorem sm_rows {H : Type} {ts : List TypeId} {ds : List (DataW H)} {j : Nat} {d : DataW H} {l : List (List S42)} (hsz : (DataW.weightsEach Try.prog ts ds).all (· ≤ reachBytes) = true) (ht : ts[j]? = some 24) (hd : ds[j]? = some d) (h : l = [] ∨ ∃ es sp, d = .slice es sp ∧ l.length ≤ es.length ∧ ∀ m ∈ l, m = [] ∨ ∃ e' s', DataW.slice e' s' ∈ es ∧ m.length ≤ e'.length) : Sm l ∧ ∀ m ∈ l, Sm m := by
  have hr := reachBytes_lt
  rcases h with rfl | ⟨es, sp, rfl, hl, hm⟩
  · exact ⟨by unfold Sm; simp, fun m h => by simp at h⟩
  · refine ⟨?_, fun m hmm => ?_⟩
    · have z := sized_slice hsz ht hd Try.underlying24
      have hb : Try.prog.bytesOf 28 = 24 := by kernel_rfl
      rw [hb] at z
      unfold Sm; omega
    · rcases hm m hmm with rfl | ⟨e', s', h1, h2⟩
      · unfold Sm; simp
      · have z : (e'.length + s'.length) * Try.prog.bytesOf 42 ≤ reachBytes := by
          refine of_decide_eq_true (List.all_eq_true.1 hsz _ (DataW.weights_mem_each ht hd _ ?_))
          simp only [DataW.weights, Try.underlying24, List.mem_cons, List.mem_append]
          exact .inr (.inl (weightsAll_mem h1 _ (by simp [DataW.weights, Try.underlying28])))
        have hb : Try.prog.bytesOf 42 = 16 := by kernel_rfl
        rw [hb] at z
        unfold Sm; omega
end
section
open Go.RowKit Go.ChangeShapes Go.WideShapes Go.Proofs.YtgpkhnkppkepnaaW.PrintWords Go.Proofs.YtgpkhnkppkepnaaW.PrintLast Go.Proofs.YtgpkhnkppkepnaaW.PrintMore
theorem u16_in {x : Int} (h : (Lit.int .u16 x).wf = true) : 0 ≤ x ∧ x ≤ 65535 := by
  simp [Lit.wf, IntKind.min, IntKind.max, IntKind.bits, IntKind.signed] at h
  omega
theorem u16_of {l : List Int} (h : ∀ x ∈ l, (Lit.int .u16 x).wf = true) : U16 l := fun x hx => u16_in (h x hx)
theorem sm_of {n : Nat} {l : List Int} (h : l.length * n ≤ 140737488351232) (hn : 0 < n := by decide) : Sm l := by
  have := Nat.le_mul_of_pos_right l.length hn
  unfold Sm; omega
theorem open_u16_at {H : Type} {enc : TypeId × Value → H} {W : World} {base : Nat} {spare : Nat → Bool} {held : Bool} {fuel : Nat} {cs : List Value} {x : DataW H × List MemPlace} (h : DataW.trod enc Try.prog W base spare held fuel 22 cs = some x) :
    ∃ (l : List Int) (a : Option Addr) (cap : Nat), cs = [.slice a l.length cap] ∧ (Kd.int .u16).C W a l.length l ∧ U16 l ∧ l.length ≤ cap ∧ (l = [] ∨ ∃ es sp, x.1 = .slice es sp ∧ l.length ≤ es.length) := by
  rcases Go.ChangeShapes.open_ints Try.underlying22 Try.underlying54 (by kernel_rfl) h with ⟨rfl, _⟩ | ⟨a, len, cap, zs, rfl, _, hl, hm, hz, hx, hcell, hwz⟩
  · exact ⟨[], none, 0, rfl, Kd.C_nil _ _, fun _ h => by simp at h, Nat.le_refl _, .inl rfl⟩
  · have hlz : len ≤ zs.length := by rw [hz]; split <;> omega
    have hlen : (zs.take len).length = len := by rw [List.length_take]; omega
    refine ⟨zs.take len, some a, cap, by rw [hlen], ?_, fun n hn => u16_in (hwz n (List.mem_of_mem_take hn)), by rw [hlen]; exact hl, .inr ⟨_, _, by rw [hx], ?_⟩⟩
    · refine ⟨rfl, ?_, fun _ => ⟨a, rfl, fun j p hj => ?_⟩⟩
      · rw [hlen]; have : maxLen ≤ 9223372036854775807 := by decide
        omega
      · have hjl : j < len := by have := (List.getElem?_eq_some_iff.1 hj).1; rwa [hlen] at this
        have hp : p = zs.getD j 0 := by
          rw [List.getElem?_take_of_lt hjl] at hj
          rw [List.getD_eq_getElem?_getD, hj]; rfl
        refine ⟨[.int .u16 p], rfl, rfl, fun i u hu => ?_⟩
        match i, hu with
        | 0, hu =>
          simp at hu; subst hu
          have e : (Kd.int .u16).sz = 1 := rfl
          rw [e, Nat.mul_one, hp]
          exact hcell j (by omega)
    · simp only [lits, List.length_map]; rw [hlen]; omega
theorem open_rlu16 {H : Type} {enc : TypeId × Value → H} {W : World} {base : Nat} {spare : Nat → Bool} {held : Bool} {a : Option Addr} {len cap : Nat} {d : DataW H} {ps : List MemPlace} (h : DataW.Trod enc Try.prog W base spare held 26 (.slice a len cap) d ps) :
    ∃ l : List (List Int), len = l.length ∧ (Kd.slice 54 (Kd.int .u16)).C W a l.length l ∧ UL l ∧ l.length ≤ cap ∧ (l = [] ∨ ∃ es sp, d = .slice es sp ∧ l.length ≤ es.length ∧ ∀ m ∈ l, m = [] ∨ ∃ e' s', DataW.slice e' s' ∈ es ∧ m.length ≤ e'.length) := by
  obtain ⟨fuel, hf⟩ := h
  rcases Go.Deep.open_slice1 Try.underlying26 (by kernel_rfl) hf with ⟨hcs, _⟩ | ⟨a', len', cap', m, n, V, D, Pl, hcs, hb, hl, hc, hm, hx, hh⟩
  · simp [Value.cells] at hcs
    obtain ⟨rfl, rfl, rfl⟩ := hcs
    exact ⟨[], rfl, Kd.C_nil _ _, fun _ h => by simp at h, Nat.le_refl _, .inl rfl⟩
  · simp [Value.cells] at hcs
    obtain ⟨rfl, rfl, rfl⟩ := hcs
    have hlm : len ≤ m := by rw [hm]; split <;> omega
    have each : ∀ i, i < len → ∃ q : List Int × Option Addr × Nat, W.cell? (a'.add i) = some (.slice q.2.1 q.1.length q.2.2) ∧ (Kd.int .u16).C W q.2.1 q.1.length q.1 ∧ U16 q.1 ∧ q.1.length ≤ q.2.2 ∧ (q.1 = [] ∨ ∃ es sp, D i = .slice es sp ∧ q.1.length ≤ es.length) := by
      intro i hi
      obtain ⟨h0, t0⟩ := hh i (by omega)
      obtain ⟨l, A, c, e0, hr, hw, hlc, hd⟩ := open_u16_at t0
      have v0 : V i = .slice A l.length c := by simpa using e0
      exact ⟨(l, A, c), by rw [h0, v0], hr, hw, hlc, hd⟩
    obtain ⟨g, hg⟩ := Go.Deep.choose_lt each
    have hln : ((List.range len).map fun i => (g i).1).length = len := by simp
    have d0 : d = .slice ((List.range len).map D) ((List.range (m - len)).map fun j => D (len + j)) := congrArg Prod.fst hx
    refine ⟨(List.range len).map fun i => (g i).1, hln.symm, ⟨rfl, ?_, fun _ => ⟨a', rfl, fun j p hj => ?_⟩⟩, fun s hs => ?_, by rw [hln]; exact hl, .inr ⟨_, _, d0, by simp, fun s hs => ?_⟩⟩
    · rw [hln]; have : maxLen ≤ 9223372036854775807 := by decide
      omega
    · have hjl : j < len := by
        have := (List.getElem?_eq_some_iff.1 hj).1
        rwa [hln] at this
      have hp : p = (g j).1 := by
        rw [List.getElem?_map, List.getElem?_range hjl] at hj
        simpa using hj.symm
      obtain ⟨c0, c1, c2, c3, _⟩ := hg j hjl
      subst hp
      refine ⟨[.slice (g j).2.1 (g j).1.length (g j).2.2], rfl, ⟨_, _, rfl, c3, c1⟩, fun i u hu => ?_⟩
      match i, hu with
      | 0, hu =>
        simp at hu; subst hu
        have e : (Kd.slice 54 (Kd.int .u16)).sz = 1 := rfl
        rw [e, Nat.mul_one]
        exact c0
    · obtain ⟨i, hi, rfl⟩ := List.mem_map.1 hs
      exact (hg i (List.mem_range.1 hi)).2.2.1
    · obtain ⟨i, hi, rfl⟩ := List.mem_map.1 hs
      rcases (hg i (List.mem_range.1 hi)).2.2.2.2 with h | ⟨es, sp, h, h2⟩
      · exact .inl h
      · exact .inr ⟨es, sp, h ▸ List.mem_map.2 ⟨i, hi, rfl⟩, h2⟩
theorem sm_rlu16 {H : Type} {ts : List TypeId} {ds : List (DataW H)} {j : Nat} {d : DataW H} {l : List (List Int)} (hsz : (DataW.weightsEach Try.prog ts ds).all (· ≤ reachBytes) = true) (ht : ts[j]? = some 26) (hd : ds[j]? = some d) (h : l = [] ∨ ∃ es sp, d = .slice es sp ∧ l.length ≤ es.length ∧ ∀ m ∈ l, m = [] ∨ ∃ e' s', DataW.slice e' s' ∈ es ∧ m.length ≤ e'.length) : SmLL l := by
  have hr := reachBytes_lt
  rcases h with rfl | ⟨es, sp, rfl, hl, hm⟩
  · exact ⟨by unfold Sm; simp, fun m h => by simp at h⟩
  · refine ⟨?_, fun m hmm => ?_⟩
    · have z := sized_slice hsz ht hd Try.underlying26
      have hb : Try.prog.bytesOf 22 = 24 := by kernel_rfl
      rw [hb] at z
      unfold Sm; omega
    · rcases hm m hmm with rfl | ⟨e', s', h1, h2⟩
      · unfold Sm; simp
      · have z : (e'.length + s'.length) * Try.prog.bytesOf 54 ≤ reachBytes := by
          refine of_decide_eq_true (List.all_eq_true.1 hsz _ (DataW.weights_mem_each ht hd _ ?_))
          simp only [DataW.weights, Try.underlying26, List.mem_cons, List.mem_append]
          exact .inr (.inl (weightsAll_mem h1 _ (by simp [DataW.weights, Try.underlying22])))
        have hb : Try.prog.bytesOf 54 = 2 := by kernel_rfl
        rw [hb] at z
        unfold Sm; omega
theorem bulk_one {H : Type} (d : DataW H) : 1 ≤ Rows.uptoBulk d := by
  cases d with
  | lit l => cases l <;> simp [Rows.uptoBulk]
  | nil => simp [Rows.uptoBulk]
  | ptr d => simp [Rows.uptoBulk]
  | slice elems spare => simp [Rows.uptoBulk]
  | agg parts => simp [Rows.uptoBulk]
  | iface t d => simp [Rows.uptoBulk]
  | map entries => simp [Rows.uptoBulk]
  | held h => simp [Rows.uptoBulk]
theorem bulk_len {H : Type} (l : List (DataW H)) : l.length ≤ Rows.uptoBulkAll l := by
  induction l with
  | nil => simp [Rows.uptoBulkAll]
  | cons x r ih => have := bulk_one x; simp only [Rows.uptoBulkAll, List.length_cons]; omega
theorem bulk_slice {H : Type} (es sp : List (DataW H)) : es.length + 1 ≤ Rows.uptoBulk (.slice es sp) := by
  have := bulk_len es
  simp only [Rows.uptoBulk]; omega
theorem bulk_spans {H : Type} {d : DataW H} {l : List S42} (h : l = [] ∨ ∃ es sp, d = .slice es sp ∧ l.length ≤ es.length) : l.length + 1 ≤ Rows.uptoBulk d := by
  rcases h with rfl | ⟨es, sp, rfl, hl⟩
  · have := bulk_one d; simpa using this
  · have := bulk_slice es sp; omega
theorem bulk_sum {H : Type} (g : Nat → List S42) (D : Nat → DataW H) : ∀ (l : List Nat), (∀ i ∈ l, (g i).length + 1 ≤ Rows.uptoBulk (D i)) → sumL (l.map g) ≤ Rows.uptoBulkAll (l.map D)
  | [], _ => by simp [sumL, Rows.uptoBulkAll]
  | i :: l, h => by
    have h1 := h i List.mem_cons_self
    have h2 := bulk_sum g D l fun j hj => h j (List.mem_cons_of_mem _ hj)
    unfold sumL at *
    simp only [List.map_cons, List.flatten_cons, List.length_cons, List.length_append, Rows.uptoBulkAll] at *
    omega
theorem open_rowsB {H : Type} {enc : TypeId × Value → H} {W : World} {base : Nat} {spare : Nat → Bool} {held : Bool} {a : Option Addr} {len cap : Nat} {d : DataW H} {ps : List MemPlace} (h : DataW.Trod enc Try.prog W base spare held 24 (.slice a len cap) d ps) :
    ∃ l : List (List S42), len = l.length ∧ (Kd.slice 42 k42).C W a l.length l ∧ (∀ m ∈ l, Wf m) ∧ l.length ≤ cap ∧ sumL l + 1 ≤ Rows.uptoBulk d := by
  obtain ⟨fuel, hf⟩ := h
  rcases Go.Deep.open_slice1 Try.underlying24 (by kernel_rfl) hf with ⟨hcs, _⟩ | ⟨a', len', cap', m, n, V, D, Pl, hcs, hb, hl, hc, hm, hx, hh⟩
  · simp [Value.cells] at hcs
    obtain ⟨rfl, rfl, rfl⟩ := hcs
    exact ⟨[], rfl, Kd.C_nil _ _, fun _ h => by simp at h, Nat.le_refl _, by have := bulk_one d; simpa [sumL] using this⟩
  · simp [Value.cells] at hcs
    obtain ⟨rfl, rfl, rfl⟩ := hcs
    have hlm : len ≤ m := by rw [hm]; split <;> omega
    have each : ∀ i, i < len → ∃ q : List S42 × Option Addr × Nat, W.cell? (a'.add i) = some (.slice q.2.1 q.1.length q.2.2) ∧ k42.C W q.2.1 q.1.length q.1 ∧ Wf q.1 ∧ q.1.length ≤ q.2.2 ∧ q.1.length + 1 ≤ Rows.uptoBulk (D i) := by
      intro i hi
      obtain ⟨h0, t0⟩ := hh i (by omega)
      obtain ⟨l, A, c, e0, hr, hw, hlc, _, hd⟩ := open_spans_at t0
      have v0 : V i = .slice A l.length c := by simpa using e0
      exact ⟨(l, A, c), by rw [h0, v0], hr, hw, hlc, bulk_spans hd⟩
    obtain ⟨g, hg⟩ := Go.Deep.choose_lt each
    have hln : ((List.range len).map fun i => (g i).1).length = len := by simp
    have d0 : d = .slice ((List.range len).map D) ((List.range (m - len)).map fun j => D (len + j)) := congrArg Prod.fst hx
    have hsum := bulk_sum (fun i => (g i).1) D (List.range len) fun i hi => (hg i (List.mem_range.1 hi)).2.2.2.2
    refine ⟨(List.range len).map fun i => (g i).1, hln.symm, ⟨rfl, ?_, fun _ => ⟨a', rfl, fun j p hj => ?_⟩⟩, fun s hs => ?_, by rw [hln]; exact hl, ?_⟩
    · rw [hln]; have : maxLen ≤ 9223372036854775807 := by decide
      omega
    · have hjl : j < len := by
        have := (List.getElem?_eq_some_iff.1 hj).1
        rwa [hln] at this
      have hp : p = (g j).1 := by
        rw [List.getElem?_map, List.getElem?_range hjl] at hj
        simpa using hj.symm
      obtain ⟨c0, c1, c2, c3, _⟩ := hg j hjl
      subst hp
      refine ⟨[.slice (g j).2.1 (g j).1.length (g j).2.2], rfl, ⟨_, _, rfl, c3, c1⟩, fun i u hu => ?_⟩
      match i, hu with
      | 0, hu =>
        simp at hu; subst hu
        have e : (Kd.slice 42 k42).sz = 1 := rfl
        rw [e, Nat.mul_one]
        exact c0
    · obtain ⟨i, hi, rfl⟩ := List.mem_map.1 hs
      exact (hg i (List.mem_range.1 hi)).2.2.1
    · rw [d0]
      simp only [Rows.uptoBulk]
      omega
end
end Go.Proofs.Ytgpkhnkppkepnaa.P
