/- What all texts of the plain side use. -/
import Derived.Test.YtpcljaidlihafaaPx0
namespace Go.Proofs.Ytpcljaidlihafaa.P
set_option linter.unusedVariables false
set_option linter.unusedSimpArgs false
section
open Go.RowKit Go.Proofs.YtpcljaidlihafaaW.PrintWords Go.Proofs.YtpcljaidlihafaaW.PrintLast Go.Proofs.YtpcljaidlihafaaW.PrintMore
instance : Inhabited S39 := ⟨z39⟩
/-- The parts of a span that are scalars: below the gap, above it. -/
def lowP (x : S39) : S39 := ⟨mx x.f0 0, mn x.f1 55295⟩
def highP (x : S39) : S39 := ⟨mx x.f0 57344, mn x.f1 1114111⟩
def oneP (x : S39) : List S39 := if x.f0 ≤ x.f1 then [x] else []
def pieces (x : S39) : List S39 := oneP (lowP x) ++ oneP (highP x)
/-- What is laid behind the rows that have been laid. -/
def mstep (out : List S39) (s : S39) : List S39 :=
  match out.getLast? with
  | some t => if s.f0 ≤ t.f1 + 1 then out.dropLast ++ [⟨t.f0, mx t.f1 s.f1⟩] else out ++ [s]
  | none => [s]
def sortLo (l : List S39) : List S39 := l.mergeSort fun x y => decide (x.f0 ≤ y.f0)
def normP (l : List S39) : List S39 := (sortLo (l.flatMap pieces)).foldl mstep []
def set_Norm.f (l0 : List S39) : Option (List S39) := if l0.length ≤ 100000 then some (normP l0) else none
theorem nil_or_snoc {α : Type} (l : List α) : l = [] ∨ ∃ i t, l = i ++ [t] := by
  rcases List.eq_nil_or_concat l with h | ⟨i, t, h⟩
  · exact .inl h
  · exact .inr ⟨i, t, by rw [h, List.concat_eq_append]⟩
/-- A scalar. -/
def Scal (r : Int) : Prop := 0 ≤ r ∧ r ≤ 1114111 ∧ (r < 55296 ∨ 57343 < r)
/-- A span tells it. -/
def mem (l : List S39) (r : Int) : Prop := ∃ x ∈ l, x.f0 ≤ r ∧ r ≤ x.f1
/-- A span of scalars. -/
def Ok (x : S39) : Prop := x.f0 ≤ x.f1 ∧ ((0 ≤ x.f0 ∧ x.f1 < 55296) ∨ (57343 < x.f0 ∧ x.f1 ≤ 1114111))
/-- A set. -/
def Nf (l : List S39) : Prop := (∀ x ∈ l, Ok x) ∧ l.Pairwise fun x y => x.f1 + 1 < y.f0
theorem mem_nil (r : Int) : ¬ mem [] r := fun ⟨_, h, _⟩ => by simp at h
theorem mem_cons (x : S39) (l : List S39) (r : Int) : mem (x :: l) r ↔ (x.f0 ≤ r ∧ r ≤ x.f1) ∨ mem l r := by simp [mem]
theorem mem_append (l m : List S39) (r : Int) : mem (l ++ m) r ↔ mem l r ∨ mem m r := by
  unfold mem
  constructor
  · rintro ⟨x, hx, h⟩
    rcases List.mem_append.1 hx with hx | hx
    · exact .inl ⟨x, hx, h⟩
    · exact .inr ⟨x, hx, h⟩
  · rintro (⟨x, hx, h⟩ | ⟨x, hx, h⟩)
    · exact ⟨x, List.mem_append_left _ hx, h⟩
    · exact ⟨x, List.mem_append_right _ hx, h⟩
theorem mem_one (x : S39) (r : Int) : mem [x] r ↔ x.f0 ≤ r ∧ r ≤ x.f1 := by simp [mem]
theorem mem_perm {l m : List S39} (h : l.Perm m) (r : Int) : mem l r ↔ mem m r := by
  unfold mem
  constructor
  · rintro ⟨x, hx, h2⟩; exact ⟨x, h.mem_iff.1 hx, h2⟩
  · rintro ⟨x, hx, h2⟩; exact ⟨x, h.mem_iff.2 hx, h2⟩
theorem mem_flatten (l : List (List S39)) (r : Int) : mem l.flatten r ↔ ∃ m ∈ l, mem m r := by
  unfold mem
  constructor
  · rintro ⟨x, hx, h⟩
    obtain ⟨m, hm, hx⟩ := List.mem_flatten.1 hx
    exact ⟨m, hm, x, hx, h⟩
  · rintro ⟨m, hm, x, hx, h⟩
    exact ⟨x, List.mem_flatten.2 ⟨m, hm, hx⟩, h⟩
theorem Ok.scal {x : S39} (h : Ok x) {r : Int} (h1 : x.f0 ≤ r) (h2 : r ≤ x.f1) : Scal r := by unfold Ok at h; unfold Scal; omega
theorem Nf.scal {l : List S39} (h : Nf l) {r : Int} (hr : mem l r) : Scal r := by
  obtain ⟨x, hx, h1, h2⟩ := hr
  exact (h.1 x hx).scal h1 h2
theorem Nf.nil : Nf [] := ⟨fun _ h => by simp at h, List.Pairwise.nil⟩
theorem Nf.tail {x : S39} {l : List S39} (h : Nf (x :: l)) : Nf l := ⟨fun y hy => h.1 y (List.mem_cons_of_mem _ hy), (List.pairwise_cons.1 h.2).2⟩
theorem Nf.above {x : S39} {l : List S39} (h : Nf (x :: l)) {r : Int} (hr : mem l r) : x.f1 + 1 < r := by
  obtain ⟨y, hy, h1, _⟩ := hr
  have := (List.pairwise_cons.1 h.2).1 y hy
  omega
/-- A set's list is told by its scalars. -/
theorem Nf.ext : ∀ {a b : List S39}, Nf a → Nf b → (∀ r, mem a r ↔ mem b r) → a = b
  | [], [], _, _, _ => rfl
  | [], y :: b, _, hb, h => absurd ((h y.f0).2 ((mem_cons _ _ _).2 (.inl ⟨Int.le_refl _, (hb.1 y List.mem_cons_self).1⟩))) (mem_nil _)
  | x :: a, [], ha, _, h => absurd ((h x.f0).1 ((mem_cons _ _ _).2 (.inl ⟨Int.le_refl _, (ha.1 x List.mem_cons_self).1⟩))) (mem_nil _)
  | x :: a, y :: b, ha, hb, h => by
    have hx := (ha.1 x List.mem_cons_self).1
    have hy := (hb.1 y List.mem_cons_self).1
    have low : ∀ {z : S39} {l : List S39} (_ : Nf (z :: l)) {r : Int}, mem (z :: l) r → z.f0 ≤ r := by
      intro z l hz r hr
      have hz1 := (hz.1 z List.mem_cons_self).1
      rcases (mem_cons _ _ _).1 hr with h1 | h1
      · exact h1.1
      · have := hz.above h1; omega
    have e0 : x.f0 = y.f0 := by
      have h1 := low hb ((h x.f0).1 ((mem_cons _ _ _).2 (.inl ⟨Int.le_refl _, hx⟩)))
      have h2 := low ha ((h y.f0).2 ((mem_cons _ _ _).2 (.inl ⟨Int.le_refl _, hy⟩)))
      omega
    have e1 : x.f1 = y.f1 := by
      rcases Int.lt_trichotomy x.f1 y.f1 with h1 | h1 | h1
      · have h2 := (h (x.f1 + 1)).2 ((mem_cons _ _ _).2 (.inl ⟨by omega, by omega⟩))
        rcases (mem_cons _ _ _).1 h2 with h3 | h3
        · omega
        · have := ha.above h3; omega
      · exact h1
      · have h2 := (h (y.f1 + 1)).1 ((mem_cons _ _ _).2 (.inl ⟨by omega, by omega⟩))
        rcases (mem_cons _ _ _).1 h2 with h3 | h3
        · omega
        · have := hb.above h3; omega
    have ex : x = y := by cases x; cases y; simp_all
    subst ex
    rw [Nf.ext ha.tail hb.tail fun r => ?_]
    have h1 := h r
    rw [mem_cons, mem_cons] at h1
    constructor
    · intro h2
      rcases h1.1 (.inr h2) with h3 | h3
      · have := ha.above h2; omega
      · exact h3
    · intro h2
      rcases h1.2 (.inr h2) with h3 | h3
      · have := hb.above h2; omega
      · exact h3
theorem mstep_ok {out : List S39} {s : S39} (ho : Nf out) (hs : Ok s) (hl : ∀ t ∈ out, t.f0 ≤ s.f0) :
    Nf (mstep out s) ∧ (∀ r, mem (mstep out s) r ↔ mem out r ∨ (s.f0 ≤ r ∧ r ≤ s.f1)) ∧ ∀ t ∈ mstep out s, t.f0 ≤ s.f0 := by
  rcases nil_or_snoc out with rfl | ⟨init, t, rfl⟩
  · refine ⟨⟨fun x hx => ?_, by simp [mstep]⟩, fun r => ?_, fun t ht => ?_⟩
    · simp [mstep] at hx; subst hx; exact hs
    · simp only [mstep, List.getLast?_nil, mem_one]; constructor
      · exact .inr
      · rintro (h | h)
        · exact absurd h (mem_nil _)
        · exact h
    · simp [mstep] at ht; subst ht; exact Int.le_refl _
  · have ht := ho.1 t (by simp)
    have hts := hl t (by simp)
    have hpw := List.pairwise_append.1 ho.2
    have hlast : (init ++ [t]).getLast? = some t := by simp
    have hdrop : (init ++ [t]).dropLast = init := by simp
    unfold mstep
    rw [hlast, hdrop]
    simp only
    by_cases hc : s.f0 ≤ t.f1 + 1
    · rw [if_pos hc]
      have hmx : mx t.f1 s.f1 = if t.f1 < s.f1 then s.f1 else t.f1 := rfl
      refine ⟨⟨fun x hx => ?_, ?_⟩, fun r => ?_, fun x hx => ?_⟩
      · rcases List.mem_append.1 hx with hx | hx
        · exact ho.1 x (List.mem_append_left _ hx)
        · simp only [List.mem_singleton] at hx; subst hx
          unfold Ok at *
          simp only [hmx]
          split <;> omega
      · refine List.pairwise_append.2 ⟨hpw.1, List.pairwise_singleton _ _, fun x hx y hy => ?_⟩
        simp only [List.mem_singleton] at hy; subst hy
        exact hpw.2.2 x hx t (by simp)
      · rw [mem_append, mem_append, mem_one, mem_one]
        simp only [hmx]
        have ht1 := ht.1
        have hs1 := hs.1
        constructor
        · rintro (h | h)
          · exact .inl (.inl h)
          · by_cases h2 : r ≤ t.f1
            · exact .inl (.inr ⟨h.1, h2⟩)
            · refine .inr ⟨by omega, ?_⟩
              have := h.2; split at this <;> omega
        · rintro ((h | h) | h)
          · exact .inl h
          · refine .inr ⟨h.1, ?_⟩; split <;> omega
          · refine .inr ⟨by omega, ?_⟩; split <;> omega
      · rcases List.mem_append.1 hx with hx | hx
        · exact hl x (List.mem_append_left _ hx)
        · simp only [List.mem_singleton] at hx; subst hx; exact hts
    · rw [if_neg hc]
      refine ⟨⟨fun x hx => ?_, ?_⟩, fun r => ?_, fun x hx => ?_⟩
      · rcases List.mem_append.1 hx with hx | hx
        · exact ho.1 x hx
        · simp only [List.mem_singleton] at hx; subst hx; exact hs
      · refine List.pairwise_append.2 ⟨ho.2, List.pairwise_singleton _ _, fun x hx y hy => ?_⟩
        simp only [List.mem_singleton] at hy; subst hy
        rcases List.mem_append.1 hx with hx | hx
        · have h1 := hpw.2.2 x hx t (by simp)
          have := ht.1
          omega
        · simp only [List.mem_singleton] at hx; subst hx; omega
      · rw [mem_append, mem_one]
      · rcases List.mem_append.1 hx with hx | hx
        · exact hl x hx
        · simp only [List.mem_singleton] at hx; subst hx; exact Int.le_refl _
theorem foldl_ok : ∀ (ys acc : List S39), Nf acc → (∀ y ∈ ys, Ok y) → ys.Pairwise (fun x y => x.f0 ≤ y.f0) → (∀ t ∈ acc, ∀ y ∈ ys, t.f0 ≤ y.f0) →
    Nf (ys.foldl mstep acc) ∧ ∀ r, mem (ys.foldl mstep acc) r ↔ mem acc r ∨ mem ys r
  | [], acc, ha, _, _, _ => ⟨ha, fun r => ⟨.inl, fun h => h.elim id fun h => absurd h (mem_nil _)⟩⟩
  | y :: ys, acc, ha, hy, hp, hl => by
    obtain ⟨h1, h2, h3⟩ := mstep_ok ha (hy y List.mem_cons_self) (fun t ht => hl t ht y List.mem_cons_self)
    have hp' := List.pairwise_cons.1 hp
    obtain ⟨h4, h5⟩ := foldl_ok ys (mstep acc y) h1 (fun z hz => hy z (List.mem_cons_of_mem _ hz)) hp'.2 (fun t ht z hz => Int.le_trans (h3 t ht) (hp'.1 z hz))
    refine ⟨h4, fun r => ?_⟩
    rw [List.foldl_cons, h5, h2, mem_cons]
    constructor
    · rintro ((h | h) | h)
      · exact .inl h
      · exact .inr (.inl h)
      · exact .inr (.inr h)
    · rintro (h | h | h)
      · exact .inl (.inl h)
      · exact .inl (.inr h)
      · exact .inr h
theorem mem_oneP (x : S39) (r : Int) : mem (oneP x) r ↔ x.f0 ≤ r ∧ r ≤ x.f1 := by
  unfold oneP
  split
  · rw [mem_one]
  · constructor
    · intro h; exact absurd h (mem_nil _)
    · intro h; omega
theorem mem_pieces (s : S39) (r : Int) : mem (pieces s) r ↔ Scal r ∧ s.f0 ≤ r ∧ r ≤ s.f1 := by
  unfold pieces
  rw [mem_append, mem_oneP, mem_oneP]
  have e1 : mx s.f0 0 = if s.f0 < 0 then 0 else s.f0 := rfl
  have e2 : mn s.f1 55295 = if 55295 < s.f1 then 55295 else s.f1 := rfl
  have e3 : mx s.f0 57344 = if s.f0 < 57344 then 57344 else s.f0 := rfl
  have e4 : mn s.f1 1114111 = if 1114111 < s.f1 then 1114111 else s.f1 := rfl
  simp only [lowP, highP, e1, e2, e3, e4]
  unfold Scal
  split <;> split <;> split <;> split <;> omega
theorem ok_pieces (s x : S39) (h : x ∈ pieces s) : Ok x := by
  unfold pieces at h
  have e1 : mx s.f0 0 = if s.f0 < 0 then 0 else s.f0 := rfl
  have e2 : mn s.f1 55295 = if 55295 < s.f1 then 55295 else s.f1 := rfl
  have e3 : mx s.f0 57344 = if s.f0 < 57344 then 57344 else s.f0 := rfl
  have e4 : mn s.f1 1114111 = if 1114111 < s.f1 then 1114111 else s.f1 := rfl
  rcases List.mem_append.1 h with h | h
  · unfold oneP at h
    split at h
    · rename_i hc
      simp only [List.mem_singleton] at h; subst h
      unfold Ok
      simp only [lowP, e1, e2] at hc ⊢
      refine ⟨hc, .inl ⟨?_, ?_⟩⟩ <;> split <;> omega
    · simp at h
  · unfold oneP at h
    split at h
    · rename_i hc
      simp only [List.mem_singleton] at h; subst h
      unfold Ok
      simp only [highP, e3, e4] at hc ⊢
      refine ⟨hc, .inr ⟨?_, ?_⟩⟩ <;> split <;> omega
    · simp at h
theorem ok_flat {l : List S39} {x : S39} (h : x ∈ l.flatMap pieces) : Ok x := by
  obtain ⟨s, _, hs⟩ := List.mem_flatMap.1 h
  exact ok_pieces s x hs
theorem mem_flat (l : List S39) (r : Int) : mem (l.flatMap pieces) r ↔ Scal r ∧ mem l r := by
  induction l with
  | nil => simp [mem]
  | cons a l ih => rw [List.flatMap_cons, mem_append, ih, mem_cons, mem_pieces]; constructor
                   · rintro (h | h)
                     · exact ⟨h.1, .inl h.2⟩
                     · exact ⟨h.1, .inr h.2⟩
                   · rintro ⟨h, h2 | h2⟩
                     · exact .inl ⟨h, h2⟩
                     · exact .inr ⟨h, h2⟩
theorem fold_nf {l ys : List S39} (hp : ys.Perm (l.flatMap pieces)) (hs : ys.Pairwise (fun x y => x.f0 ≤ y.f0)) :
    Nf (ys.foldl mstep []) ∧ ∀ r, mem (ys.foldl mstep []) r ↔ Scal r ∧ mem l r := by
  obtain ⟨h1, h2⟩ := foldl_ok ys [] Nf.nil (fun y hy => ok_flat (hp.mem_iff.1 hy)) hs (fun t ht => by simp at ht)
  refine ⟨h1, fun r => ?_⟩
  rw [h2, mem_perm hp, mem_flat]
  exact ⟨fun h => h.elim (fun h => absurd h (mem_nil _)) id, .inr⟩
theorem sortLo_perm (l : List S39) : (sortLo l).Perm l := List.mergeSort_perm _ _
theorem sortLo_sorted (l : List S39) : (sortLo l).Pairwise (fun x y => x.f0 ≤ y.f0) := by
  have := List.pairwise_mergeSort (le := fun x y : S39 => decide (x.f0 ≤ y.f0)) (fun a b c h1 h2 => by simp at *; omega) (fun a b => by simp; omega) l
  exact this.imp (fun h => by simpa using h)
/-- What set.Norm makes is a set. -/
theorem normP_nf (l : List S39) : Nf (normP l) := (fold_nf (sortLo_perm _) (sortLo_sorted _)).1
theorem normP_mem (l : List S39) (r : Int) : mem (normP l) r ↔ Scal r ∧ mem l r := (fold_nf (l := l) (sortLo_perm _) (sortLo_sorted _)).2 r
theorem normP_eq {l0 fs ys : List S39} (hf : l0.flatMap pieces = fs) (hp : ys.Perm fs) (hs : ys.Pairwise (fun x y => x.f0 ≤ y.f0)) : normP l0 = ys.foldl mstep [] := by
  subst hf
  obtain ⟨h1, h2⟩ := fold_nf hp hs
  exact Nf.ext (normP_nf _) h1 fun r => (normP_mem _ r).trans (h2 r).symm
theorem normP_of_nf {l : List S39} (h : Nf l) : normP l = l := Nf.ext (normP_nf _) h fun r => by rw [normP_mem]; exact ⟨fun h => h.2, fun hr => ⟨h.scal hr, hr⟩⟩
end
section
open Go.RowKit Go.Proofs.YtpcljaidlihafaaW.PrintWords Go.Proofs.YtpcljaidlihafaaW.PrintLast Go.Proofs.YtpcljaidlihafaaW.PrintMore
theorem Ev.pos {α : Type} {c : Prop} [Decidable c] {A B : Nat → Option α} {r : α} (hc : c) (h : Ev A r) : Ev (fun k => if c then A k else B k) r := by
  simp only [if_pos hc]; exact h
theorem Ev.neg {α : Type} {c : Prop} [Decidable c] {A B : Nat → Option α} {r : α} (hc : ¬ c) (h : Ev B r) : Ev (fun k => if c then A k else B k) r := by
  simp only [if_neg hc]; exact h
theorem Ev.bindc {α β : Type} {g : Option α} {f : Nat → α → Option β} {a : α} {r : β} (h : g = some a) (k : Ev (fun n => f n a) r) : Ev (fun n => g.bind (f n)) r := by
  subst h; exact k
theorem wrap_in {i : Int} (h0 : -9223372036854775808 ≤ i) (h1 : i ≤ 9223372036854775807) : wrap64 i = i := by unfold wrap64; omega
/-- A row that came in: no longer than memory. -/
def Sm {α : Type} (l : List α) : Prop := l.length ≤ 140737488355328
/-- Its numbers are int64. -/
def Wf (l : List S39) : Prop := ∀ s ∈ l, -9223372036854775808 ≤ s.f0 ∧ s.f0 ≤ 9223372036854775807 ∧ -9223372036854775808 ≤ s.f1 ∧ s.f1 ≤ 9223372036854775807
theorem rd_get (l : List S39) (i : Nat) (h : i < l.length) : rd_T39 l (i : Int) = l[i] := by
  unfold rd_T39
  rw [Int.toNat_natCast, List.getD_eq_getElem?_getD, List.getElem?_eq_getElem h]; rfl
theorem rdi_get (l : List Int) (i : Nat) (h : i < l.length) : rd l (i : Int) = l[i] := by
  unfold rd
  rw [Int.toNat_natCast, List.getD_eq_getElem?_getD, List.getElem?_eq_getElem h]; rfl
theorem mx_sp (a b : Int) : a ≤ mx a b ∧ b ≤ mx a b ∧ (mx a b = a ∨ mx a b = b) := by unfold mx; omega
theorem mn_sp (a b : Int) : mn a b ≤ a ∧ mn a b ≤ b ∧ (mn a b = a ∨ mn a b = b) := by unfold mn; omega
end
end Go.Proofs.Ytpcljaidlihafaa.P
