/- A row of rows of spans of the call's own. -/
import Derived.Test.YtgpkhnkppkepnaaPx0
import Derived.Test.YtgpkhnkppkepnaaGBase
import Derived.Test.YtgpkhnkppkepnaaGEdges
import Derived.Test.YtgpkhnkppkepnaaGHas
import Derived.Test.YtgpkhnkppkepnaaGMapH
import Derived.Test.YtgpkhnkppkepnaaPBase
import Derived.Maps.AppendAt
import Derived.Laws.OwnMore
namespace Go.Proofs.Ytgpkhnkppkepnaa.P
set_option linter.unusedVariables false
set_option linter.unusedSimpArgs false
section
open Go.RowKit Go.Proofs.YtgpkhnkppkepnaaW.PrintWords Go.Proofs.YtgpkhnkppkepnaaW.PrintLast Go.Proofs.YtgpkhnkppkepnaaW.PrintMore
/-- What edges are: rising scalars, the two begins among them, and each place where a span begins or has ended. -/
structure EdgesOk (l : List S42) (e : List Int) : Prop where
  sorted : e.Pairwise (· < ·)
  scal : ∀ x ∈ e, Scal x
  zero : (0 : Int) ∈ e
  gap : (57344 : Int) ∈ e
  lo : ∀ s ∈ l, Scal s.f0 → s.f0 ∈ e
  hi : ∀ s ∈ l, Scal (s.f1 + 1) → s.f1 + 1 ∈ e
/-- Where no edge is, nothing turns. -/
theorem EdgesOk.same {l : List S42} {e : List Int} (h : EdgesOk l e) {m : List S42} (hm : ∀ s ∈ m, s ∈ l) {x : Int} (hx : Scal x) (hn : x ∉ e) : hasP m x = hasP m (x - 1) := by
  have h0 : x ≠ 0 := fun e' => hn (e' ▸ h.zero)
  have hg : x ≠ 57344 := fun e' => hn (e' ▸ h.gap)
  have hx1 : Scal (x - 1) := by unfold Scal at *; omega
  rw [Bool.eq_iff_iff, hasP_iff, hasP_iff]
  unfold mem
  constructor
  · rintro ⟨_, s, hs, h1, h2⟩
    refine ⟨hx1, s, hs, ?_, by omega⟩
    rcases Int.lt_or_le (x - 1) s.f0 with h3 | h3
    · have e1 : s.f0 = x := by omega
      exact absurd (e1 ▸ h.lo s (hm s hs) (e1 ▸ hx)) hn
    · exact h3
  · rintro ⟨_, s, hs, h1, h2⟩
    refine ⟨hx, s, hs, by omega, ?_⟩
    rcases Int.lt_or_le s.f1 x with h3 | h3
    · have e1 : s.f1 + 1 = x := by omega
      exact absurd (e1 ▸ h.hi s (hm s hs) (e1 ▸ hx)) hn
    · exact h3
end
section
open Go.RowKit Go.Shelf Go.Proofs.YtgpkhnkppkepnaaW.PrintWords Go.Proofs.YtgpkhnkppkepnaaW.PrintLast Go.Proofs.YtgpkhnkppkepnaaW.PrintMore
/-- A row of slices of spans, each a row of its own, no two in one block. -/
def RowsA (w : World) (base : Nat) (v : Value) (vs : List Value) (out : List (List S42)) : Prop :=
  vs.length = out.length ∧ w.ownsRow base 28 1 v out.length vs ∧
  (∀ (j : Nat) (u : Value) (xs : List S42), vs[j]? = some u → out[j]? = some xs → w.ownsRow base 42 2 u xs.length (scs xs)) ∧
  (∀ (i j : Nat) (u u' : Value) (g : Nat), i ≠ j → vs[i]? = some u → vs[j]? = some u' → u.ownBlock = some g → u'.ownBlock ≠ some g)
def RowsO (w : World) (base : Nat) (v : Value) (out : List (List S42)) : Prop := ∃ vs, RowsA w base v vs out
theorem RowsA.inner {w : World} {base : Nat} {v : Value} {vs : List Value} {out : List (List S42)} (h : RowsA w base v vs out) {j : Nat} {u : Value} (hu : vs[j]? = some u) : ∃ xs, out[j]? = some xs ∧ w.ownsRow base 42 2 u xs.length (scs xs) := by
  have hj : j < out.length := by rw [← h.1]; exact (List.getElem?_eq_some_iff.1 hu).1
  exact ⟨_, List.getElem?_eq_getElem hj, h.2.2.1 j u _ hu (List.getElem?_eq_getElem hj)⟩
theorem RowsA.apart {w : World} {base : Nat} {v : Value} {vs : List Value} {out : List (List S42)} (h : RowsA w base v vs out) {j : Nat} {u : Value} (hu : vs[j]? = some u) : u.ownBlock = none ∨ u.ownBlock ≠ v.ownBlock := by
  obtain ⟨xs, hx, ho⟩ := h.inner hu
  exact own_type_ne ho h.2.1 (show (42 : Nat) ≠ 28 by decide)
theorem RowsA.same {w w1 : World} {base : Nat} {v : Value} {vs : List Value} {out : List (List S42)} (h : RowsA w base v vs out) (hh : ∀ g, base ≤ g → g < w.heap.size → w1.heap[g]? = w.heap[g]?) : RowsA w1 base v vs out := by
  refine ⟨h.1, own_move h.2.1 fun k hk => ?_, fun j u xs hu hx => ?_, h.2.2.2⟩
  · have := h.2.1.lt k hk; exact hh k this.1 this.2
  · have ho := h.2.2.1 j u xs hu hx
    exact own_move ho fun k hk => by have := ho.lt k hk; exact hh k this.1 this.2
theorem RowsO.same {w w1 : World} {base : Nat} {v : Value} {out : List (List S42)} (h : RowsO w base v out) (hh : ∀ g, base ≤ g → g < w.heap.size → w1.heap[g]? = w.heap[g]?) : RowsO w1 base v out := let ⟨vs, h⟩ := h; ⟨vs, h.same hh⟩
theorem RowsO.below {w w1 : World} {base : Nat} {v : Value} {out : List (List S42)} (h : RowsO w base v out) (hb : Below w.heap.size w w1) : RowsO w1 base v out := h.same fun g _ hg => hb.block g hg
theorem RowsO.alloc {w : World} {base : Nat} {v : Value} {out : List (List S42)} (h : RowsO w base v out) (o : Obj) : RowsO (w.alloc o) base v out := h.same fun g _ hg => Below.heap_alloc w o g hg
theorem RowsO.drew {w : World} {base : Nat} {v : Value} {out : List (List S42)} (h : RowsO w base v out) : RowsO w.drew base v out := h.same fun _ _ _ => rfl
theorem RowsO.map {w w1 : World} {base b : Nat} {v : Value} {out : List (List S42)} (h : RowsO w base v out) (hg : w.grownBy w1 (some b)) (hb : b < base) : RowsO w1 base v out := h.same fun g h1 h2 => hg.block g h2 (by simp; omega)
theorem RowsO.own {w : World} {base : Nat} {v : Value} {out : List (List S42)} (h : RowsO w base v out) : ∃ vs, w.ownsRow base 28 1 v out.length vs := let ⟨vs, h⟩ := h; ⟨vs, h.2.1⟩
theorem RowsO.nil (w : World) (base : Nat) : RowsO w base (.slice none 0 0) [] := ⟨[], rfl, World.ownsRow_nil _ _ _ _, fun j u xs hu => by simp at hu, fun i j u u' g _ hu => by simp at hu⟩
theorem RowsO.made {w : World} {base n : Nat} {v : Value} (h : w.ownsRow base 28 1 v n (List.replicate n (.slice none 0 0))) : RowsO w base v (List.replicate n []) := by
  refine ⟨List.replicate n (.slice none 0 0), by simp, by rw [List.length_replicate]; exact h, fun j u xs hu hx => ?_, fun i j u u' g _ hu _ hg => ?_⟩
  · have hj : j < n := by have := (List.getElem?_eq_some_iff.1 hu).1; simpa using this
    rw [List.getElem?_replicate, if_pos hj] at hu hx
    obtain rfl := Option.some.inj hu
    obtain rfl := Option.some.inj hx
    exact World.ownsRow_nil _ _ _ _
  · rw [List.getElem?_replicate] at hu
    split at hu <;> simp at hu
    subst hu
    simp [Value.ownBlock] at hg
theorem RowsA.snoc {w w1 : World} {base : Nat} {v v' : Value} {vs : List Value} {out : List (List S42)} (h : RowsA w base v vs out) (hg : w.grownBy w1 v.ownBlock) (ho : w1.ownsRow base 28 1 v' (out.length + 1) (vs ++ [.slice none 0 0])) : RowsA w1 base v' (vs ++ [.slice none 0 0]) (out ++ [[]]) := by
  refine ⟨by simp [h.1], by rw [List.length_append]; exact ho, fun j u xs hu hx => ?_, fun i j u u' g hij hu hu' hg' => ?_⟩
  · rcases Nat.lt_or_ge j vs.length with hj | hj
    · rw [List.getElem?_append_left hj] at hu
      rw [List.getElem?_append_left (by rw [← h.1]; exact hj)] at hx
      refine own_other (h.2.2.1 j u xs hu hx) hg ?_
      rcases h.apart hu with h2 | h2
      · exact .inl h2
      · exact .inr h2
    · have hjl : j = vs.length := by have := (List.getElem?_eq_some_iff.1 hu).1; simp at this; omega
      subst hjl
      have e1 : u = .slice none 0 0 := by simpa using hu.symm
      have e2 : xs = [] := by rw [h.1] at hx; simpa using hx.symm
      subst e1; subst e2
      exact World.ownsRow_nil _ _ _ _
  · have hi : i < vs.length := by
      rcases Nat.lt_or_ge i vs.length with hi | hi
      · exact hi
      · exfalso
        have hil : i = vs.length := by have := (List.getElem?_eq_some_iff.1 hu).1; simp at this; omega
        subst hil
        have e1 : u = .slice none 0 0 := by simpa using hu.symm
        subst e1
        simp [Value.ownBlock] at hg'
    rw [List.getElem?_append_left hi] at hu
    rcases Nat.lt_or_ge j vs.length with hj | hj
    · rw [List.getElem?_append_left hj] at hu'
      exact h.2.2.2 i j u u' g hij hu hu' hg'
    · have hjl : j = vs.length := by have := (List.getElem?_eq_some_iff.1 hu').1; simp at this; omega
      subst hjl
      have e1 : u' = .slice none 0 0 := by simpa using hu'.symm
      subst e1
      simp [Value.ownBlock]
/-- Element k is put anew: its row is another one's no part. -/
theorem RowsA.put {w w1 : World} {base gv cv k n : Nat} {vs : List Value} {u u' : Value} {ys : List S42} {out : List (List S42)} (hn : out.length = n) (h : RowsA w base (.slice (some ⟨gv, 0, none⟩) n cv) vs out) (hu : vs[k]? = some u)
    (hh : ∀ g, g < w.heap.size → some g ≠ u.ownBlock → w1.heap[g]? = w.heap[g]?) (hown : w1.ownsRow base 42 2 u' ys.length (scs ys)) (hat : u'.ownBlock = none ∨ u'.ownBlock = u.ownBlock ∨ ∃ g, u'.ownBlock = some g ∧ w.heap.size ≤ g) :
    RowsA (w1.setCell ⟨gv, k, none⟩ u') base (.slice (some ⟨gv, 0, none⟩) n cv) (vs.set k u') (out.set k ys) := by
  subst hn
  have hk : k < vs.length := (List.getElem?_eq_some_iff.1 hu).1
  have hgv := h.2.1.lt gv rfl
  have hne : some gv ≠ u.ownBlock := by
    rcases h.apart hu with h2 | h2
    · rw [h2]; simp
    · exact fun e => h2 (by rw [← e]; rfl)
  have hne' : ∀ g, u'.ownBlock = some g → g ≠ gv := by
    rintro g hg rfl
    rcases hat with h2 | h2 | ⟨g2, h2, h3⟩
    · rw [h2] at hg; cases hg
    · rw [h2] at hg; exact hne hg.symm
    · rw [h2] at hg; cases hg; omega
  have hrow1 : w1.ownsRow base 28 1 (.slice (some ⟨gv, 0, none⟩) out.length cv) out.length vs := own_move h.2.1 fun g hg => by
    have : gv = g := by simpa [Value.ownBlock] using hg
    subst this
    exact hh gv hgv.2 hne
  have far : ∀ g, g ≠ gv → (w1.setCell ⟨gv, k, none⟩ u').heap[g]? = w1.heap[g]? := fun g hg => by
    exact Below.heap_setCell _ _ _ _ hg
  refine ⟨by simp [h.1], ?_, fun j x xs hx hxs => ?_, fun i j x x' g hij hx hx' hg => ?_⟩
  · have := hrow1.stored k u'
    rw [List.length_set]
    exact this.1
  · by_cases hjk : j = k
    · subst hjk
      have e1 : u' = x := by rw [List.getElem?_set_self hk] at hx; exact Option.some.inj hx
      have e2 : ys = xs := by rw [List.getElem?_set_self (by rw [← h.1]; exact hk)] at hxs; exact Option.some.inj hxs
      subst e1; subst e2
      exact own_move hown fun g hg => far g (hne' g hg)
    · rw [List.getElem?_set_ne (fun e => hjk e.symm)] at hx hxs
      have ho := h.2.2.1 j x xs hx hxs
      refine own_move ho fun g hg => ?_
      have hlt := ho.lt g hg
      have h1 : g ≠ gv := by
        rintro rfl
        rcases h.apart hx with h2 | h2
        · rw [h2] at hg; cases hg
        · exact h2 (by rw [hg]; rfl)
      rw [far g h1]
      exact hh g hlt.2 (fun e => h.2.2.2 k j u x g (fun e => hjk e.symm) hu hx e.symm hg)
  · by_cases hik : i = k
    · subst hik
      have e1 : u' = x := by rw [List.getElem?_set_self hk] at hx; exact Option.some.inj hx
      subst e1
      rw [List.getElem?_set_ne hij] at hx'
      rcases hat with h2 | h2 | ⟨g2, h2, h3⟩
      · rw [h2] at hg; cases hg
      · rw [h2] at hg; exact h.2.2.2 i j u x' g hij hu hx' hg
      · rw [h2] at hg; cases hg
        intro e
        obtain ⟨xs, _, ho⟩ := h.inner hx'
        have := (ho.lt _ e).2
        omega
    · rw [List.getElem?_set_ne (fun e => hik e.symm)] at hx
      by_cases hjk : j = k
      · subst hjk
        have e1 : u' = x' := by rw [List.getElem?_set_self hk] at hx'; exact Option.some.inj hx'
        subst e1
        obtain ⟨xs, _, ho⟩ := h.inner hx
        have hlt := ho.lt g hg
        rcases hat with h2 | h2 | ⟨g2, h2, h3⟩
        · rw [h2]; simp
        · rw [h2]; intro e; exact h.2.2.2 j i u x g (fun e => hij e.symm) hu hx e hg
        · rw [h2]; intro e; cases e; omega
      · rw [List.getElem?_set_ne (fun e => hjk e.symm)] at hx'
        exact h.2.2.2 i j x x' g hij hx hx' hg
theorem RowsA.R {w : World} {base : Nat} {v : Value} {vs : List Value} {out : List (List S42)} (h : RowsA w base v vs out) : Kd.R (Kd.slice 42 k42) 28 w base (fun k => base ≤ k) v out := by
  refine ⟨fun k hk => (h.2.1.lt k hk).1, vs, h.2.1, by rw [h.1]; exact (Nat.mul_one _).symm, fun j p hj => ?_⟩
  have hjl : j < out.length := (List.getElem?_eq_some_iff.1 hj).1
  have hjv : j < vs.length := by rw [h.1]; exact hjl
  have hu : vs[j]? = some vs[j] := List.getElem?_eq_getElem hjv
  have ho := h.2.2.1 j _ p hu hj
  refine (show ∃ v', (vs.drop (j * 1)).take 1 = [v'] ∧ Kd.R k42 42 w base _ v' p from ⟨vs[j], ?_, ?_⟩)
  · show (vs.drop (j * 1)).take 1 = _
    rw [Nat.mul_one, List.drop_eq_getElem_cons hjv]; rfl
  · refine ⟨fun k hk => ⟨(ho.lt k hk).1, fun e => ?_⟩, scs p, ho, reps_scs _ _ _ _⟩
    rcases h.apart hu with h2 | h2
    · rw [h2] at hk; cases hk
    · exact h2 (by rw [hk]; exact e)
theorem RowsO.R {w : World} {base : Nat} {v : Value} {out : List (List S42)} (h : RowsO w base v out) : Kd.R (Kd.slice 42 k42) 28 w base (fun k => base ≤ k) v out := let ⟨_, h⟩ := h; h.R
theorem own_of_R {w : World} {base : Nat} {ok : Nat → Prop} {v : Value} {xs : List S42} (h : Kd.R k42 42 w base ok v xs) : w.ownsRow base 42 2 v xs.length (scs xs) := by
  obtain ⟨_, inner, ho, hr⟩ := h
  have hl : inner.length = xs.length * 2 := ho.1
  have e : inner = scs xs := by
    apply List.ext_getElem?
    intro t
    by_cases ht : t < xs.length * 2
    · rw [scs_get xs t ht]
      have hj : xs[t / 2]? = some xs[t / 2]! := by rw [getElem!_pos xs (t / 2) (by omega), List.getElem?_eq_getElem]
      have h1 : (inner.drop (t / 2 * 2)).take 2 = sc xs[t / 2]! := k42_open (w := w) (hr.2 (t / 2) _ hj)
      have h2 : ((inner.drop (t / 2 * 2)).take 2)[t % 2]? = inner[t]? := by
        rw [List.getElem?_take, if_pos (by omega), List.getElem?_drop, show t / 2 * 2 + t % 2 = t by omega]
      rw [← h2, h1, getElem!_pos (sc xs[t / 2]!) (t % 2) (by show t % 2 < 2; omega)]
      exact List.getElem?_eq_getElem (by show t % 2 < 2; omega)
    · rw [List.getElem?_eq_none (by omega), List.getElem?_eq_none (by rw [scs_length]; omega)]
  rw [← e]
  exact ho
end
end Go.Proofs.Ytgpkhnkppkepnaa.P
