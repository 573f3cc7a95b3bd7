/- The chapter's examples: the plain side; and rows of literals. -/
import Derived.Test.YtjnkllbecldfeaaPLaw
namespace Go.Proofs.Ytjnkllbecldfeaa.P
set_option linter.unusedVariables false
set_option linter.unusedSimpArgs false
open Go.RowKit Go.Proofs.YtjnkllbecldfeaaW.PrintWords Go.Proofs.YtjnkllbecldfeaaW.PrintLast Go.Proofs.YtjnkllbecldfeaaW.PrintMore

theorem mem_inter (a b : List S27) (r : Int) : mem (interP a b) r ↔ Scal r ∧ mem a r ∧ mem b r := (is_inter a b).2 r
theorem mem_not (a : List S27) (r : Int) : mem (notP a) r ↔ Scal r ∧ ¬ mem a r := (is_not a).2 r
def nA : List S27 := [⟨0, 9⟩]
def nB : List S27 := [⟨0, 55295⟩, ⟨57344, 1114111⟩]
theorem nA_nf : Nf nA := ⟨fun x hx => by simp [nA] at hx; subst hx; unfold Ok; simp, by simp [nA]⟩
theorem nB_nf : Nf nB := ⟨fun x hx => by simp [nB] at hx; rcases hx with rfl | rfl <;> unfold Ok <;> simp, by simp [nB]⟩
theorem mem_nA (r : Int) : mem nA r ↔ 0 ≤ r ∧ r ≤ 9 := by unfold nA; rw [mem_one]
theorem mem_nB (r : Int) : mem nB r ↔ Scal r := by unfold nB Scal; rw [mem_cons, mem_one]; simp only; omega
theorem kn_norm : set_Norm.f [⟨5, 9⟩, ⟨0, 4⟩, ⟨7, 2⟩] = some nA := by
  rw [set_norm _ (by simp)]
  congr 1
  refine Nf.ext (normP_nf _) nA_nf fun r => ?_
  rw [normP_mem, mem_nA, mem_cons, mem_cons, mem_one]
  unfold Scal
  simp only
  omega
theorem kn_notP : notP [] = nB := Nf.ext (normP_nf _) nB_nf fun r => by
  rw [(is_not []).2, mem_nB]; exact ⟨fun h => h.1, fun h => ⟨h, mem_nil r⟩⟩
theorem kn_not : ∃ k, set_Not.f k [] = some nB := by rw [← kn_notP]; exact (set_not [] (by simp)).rounds
theorem kn_has9 : set_Has.f nA 9 = some true := by decide
theorem kn_has10 : set_Has.f nA 10 = some false := by decide
theorem kn_size : ∃ k, set_Size.f k nA = some 10 := by
  have h := set_size nA (by simp [nA])
  rw [normP_of_nf nA_nf] at h
  have e : sizeW nA 0 = 10 := by
    show wrap64 (0 + wrap64 (wrap64 (9 - 0) + 1)) = 10
    rw [wrap_in (i := 9 - 0) (by decide) (by decide), wrap_in (i := 9 - 0 + 1) (by decide) (by decide), wrap_in (by decide) (by decide)]
    rfl
  rw [e] at h
  exact h.rounds
theorem kn_same : ∃ k, set_Same.f k nA nA = some true := by
  have h := set_same nA nA (by simp [nA]) (by simp [nA])
  rw [eqS_rfl] at h
  exact h.rounds
theorem kn_union : set_Union.f [nA, nB] = some nB := by
  rw [set_union _ (by simp [nA, nB]) (by simp)]
  congr 1
  refine Nf.ext (normP_nf _) nB_nf fun r => ?_
  rw [normP_mem, mem_nB, mem_flatten]
  exact ⟨fun h => h.1, fun h => ⟨h, nB, by simp, (mem_nB r).2 h⟩⟩
theorem kn_inter : set_Inter.f nA nB = some nA := by
  rw [set_inter _ _ (by simp [nA]) (by simp [nB])]
  congr 1
  refine Nf.ext (is_inter _ _).1 nA_nf fun r => ?_
  rw [mem_inter, mem_nA, mem_nB]
  unfold Scal
  omega
theorem kn_minus : ∃ k, set_Minus.f k nA nB = some [] := by
  have h := set_minus nA nB (by simp [nA]) (by simp [nB])
  have e : interP nA (notP nB) = [] := Nf.ext (is_inter _ _).1 Nf.nil fun r => by
    rw [mem_inter, mem_not, mem_nB]
    exact ⟨fun ⟨h1, _, _, h2⟩ => absurd h1 h2, fun h => absurd h (mem_nil r)⟩
  rw [e] at h
  exact h.rounds

/-! ### rows of literals -/
theorem C_cells {α : Type} (d : Kd α) (W : World) (g : Nat) (xs : List α) (n : Nat) (hn : n = xs.length) (hlen : xs.length ≤ 1000) (h : ∀ j p, xs[j]? = some p → ∃ c, c.length = d.sz ∧ d.K W p c ∧ ∀ i u, c[i]? = some u → W.cell? ⟨g, j * d.sz + i, none⟩ = some u) : d.C W (some ⟨g, 0, none⟩) n xs := by
  subst hn
  refine ⟨rfl, by omega, fun _ => ⟨_, rfl, fun j p hj => ?_⟩⟩
  obtain ⟨c, h1, h2, h3⟩ := h j p hj
  refine ⟨c, h1, h2, fun i u hu => ?_⟩
  have e : ∀ m, (⟨g, 0, none⟩ : Addr).add m = ⟨g, m, none⟩ := fun m => by unfold Addr.add; split <;> simp_all
  rw [e]
  exact h3 i u hu
theorem sz_span : k27.sz = 2 := rfl
theorem C_spans (w : World) (xs : List S27) (n : Nat) (cells : Array Value) (hn : n = xs.length) (hlen : xs.length ≤ 1000) (h : ∀ j p, xs[j]? = some p → cells[j * 2]? = some (.int .i64 p.f0) ∧ cells[j * 2 + 1]? = some (.int .i64 p.f1)) : k27.C (w.alloc (.cells cells 27)) (some ⟨w.heap.size, 0, none⟩) n xs := by
  refine C_cells _ _ _ _ _ hn hlen fun j p hj => ⟨_, rfl, k27_mk _ p, fun i u hu => ?_⟩
  obtain ⟨h0, h1⟩ := h j p hj
  rw [sz_span, World.cell?_alloc_new]
  match i, hu with
  | 0, hu => simp at hu; subst hu; simpa using h0
  | 1, hu => simp at hu; subst hu; simpa using h1
theorem C_span1 (w : World) (x : S27) : k27.C (w.alloc (.cells #[.int .i64 x.f0, .int .i64 x.f1] 27)) (some ⟨w.heap.size, 0, none⟩) 1 [x] :=
  C_spans w [x] 1 _ rfl (by simp) fun j p hj => by
    match j, hj with
    | 0, hj => simp at hj; subst hj; exact ⟨rfl, rfl⟩
theorem C_span3 (w : World) (x y z : S27) : k27.C (w.alloc (.cells #[.int .i64 x.f0, .int .i64 x.f1, .int .i64 y.f0, .int .i64 y.f1, .int .i64 z.f0, .int .i64 z.f1] 27)) (some ⟨w.heap.size, 0, none⟩) 3 [x, y, z] :=
  C_spans w [x, y, z] 3 _ rfl (by simp) fun j p hj => by
    match j, hj with
    | 0, hj => simp at hj; subst hj; exact ⟨rfl, rfl⟩
    | 1, hj => simp at hj; subst hj; exact ⟨rfl, rfl⟩
    | 2, hj => simp at hj; subst hj; exact ⟨rfl, rfl⟩
theorem C_rows (w : World) (xs : List (List S27)) (n : Nat) (cells : Array Value) (hn : n = xs.length) (hlen : xs.length ≤ 1000) (h : ∀ (j : Nat) (p : List S27), xs[j]? = some p → ∃ (A : Option Addr) (c : Nat), cells[j]? = some (Value.slice A p.length c) ∧ p.length ≤ c ∧ k27.C w A p.length p) : (Kd.slice 27 k27).C (w.alloc (.cells cells 24)) (some ⟨w.heap.size, 0, none⟩) n xs := by
  refine C_cells _ _ _ _ _ hn hlen fun j p hj => ?_
  obtain ⟨A, c, h0, h1, h2⟩ := h j p hj
  refine ⟨[.slice A p.length c], rfl, ⟨A, c, rfl, h1, Kd.C_alloc h2 _⟩, fun i u hu => ?_⟩
  match i, hu with
  | 0, hu => simp at hu; subst hu; show (w.alloc _).cell? ⟨w.heap.size, j * 1 + 0, none⟩ = _; rw [World.cell?_alloc_new]; simpa using h0
theorem C_rows1 {w : World} {a : List S27} {A : Option Addr} {c : Nat} (ha : k27.C w A a.length a) (hc : a.length ≤ c) : (Kd.slice 27 k27).C (w.alloc (.cells #[.slice A a.length c] 24)) (some ⟨w.heap.size, 0, none⟩) 1 [a] :=
  C_rows w [a] 1 _ rfl (by simp) fun j p hj => by
    match j, hj with
    | 0, hj => simp at hj; subst hj; exact ⟨_, _, rfl, hc, ha⟩
theorem C_rows2 {w : World} {a b : List S27} {A B : Option Addr} {c d : Nat} (ha : k27.C w A a.length a) (hc : a.length ≤ c) (hb : k27.C w B b.length b) (hd : b.length ≤ d) : (Kd.slice 27 k27).C (w.alloc (.cells #[.slice A a.length c, .slice B b.length d] 24)) (some ⟨w.heap.size, 0, none⟩) 2 [a, b] :=
  C_rows w [a, b] 2 _ rfl (by simp) fun j p hj => by
    match j, hj with
    | 0, hj => simp at hj; subst hj; exact ⟨_, _, rfl, hc, ha⟩
    | 1, hj => simp at hj; subst hj; exact ⟨_, _, rfl, hd, hb⟩
theorem C_rows3 {w : World} {a b e : List S27} {A B E : Option Addr} {c d f : Nat} (ha : k27.C w A a.length a) (hc : a.length ≤ c) (hb : k27.C w B b.length b) (hd : b.length ≤ d) (he : k27.C w E e.length e) (hf : e.length ≤ f) : (Kd.slice 27 k27).C (w.alloc (.cells #[.slice A a.length c, .slice B b.length d, .slice E e.length f] 24)) (some ⟨w.heap.size, 0, none⟩) 3 [a, b, e] :=
  C_rows w [a, b, e] 3 _ rfl (by simp) fun j p hj => by
    match j, hj with
    | 0, hj => simp at hj; subst hj; exact ⟨_, _, rfl, hc, ha⟩
    | 1, hj => simp at hj; subst hj; exact ⟨_, _, rfl, hd, hb⟩
    | 2, hj => simp at hj; subst hj; exact ⟨_, _, rfl, hf, he⟩
theorem C_rowsL1 {w : World} {a : List S27} {A : Option Addr} {c : Nat} (ha : k27.C w A a.length a) (hc : a.length ≤ c) : (Kd.slice 27 k27).C (w.alloc (.cells #[.slice A a.length c] 24)) (some ⟨w.heap.size, 0, none⟩) ([a] : List (List S27)).length [a] := C_rows1 ha hc
theorem C_rowsL2 {w : World} {a b : List S27} {A B : Option Addr} {c d : Nat} (ha : k27.C w A a.length a) (hc : a.length ≤ c) (hb : k27.C w B b.length b) (hd : b.length ≤ d) : (Kd.slice 27 k27).C (w.alloc (.cells #[.slice A a.length c, .slice B b.length d] 24)) (some ⟨w.heap.size, 0, none⟩) ([a, b] : List (List S27)).length [a, b] := C_rows2 ha hc hb hd
theorem C_rowsL3 {w : World} {a b e : List S27} {A B E : Option Addr} {c d f : Nat} (ha : k27.C w A a.length a) (hc : a.length ≤ c) (hb : k27.C w B b.length b) (hd : b.length ≤ d) (he : k27.C w E e.length e) (hf : e.length ≤ f) : (Kd.slice 27 k27).C (w.alloc (.cells #[.slice A a.length c, .slice B b.length d, .slice E e.length f] 24)) (some ⟨w.heap.size, 0, none⟩) ([a, b, e] : List (List S27)).length [a, b, e] := C_rows3 ha hc hb hd he hf
end Go.Proofs.Ytjnkllbecldfeaa.P
