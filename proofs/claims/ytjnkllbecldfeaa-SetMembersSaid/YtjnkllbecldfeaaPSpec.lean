/- What set's functions and the references answer: the plain side. -/
import Derived.Test.YtjnkllbecldfeaaPMk2
import Derived.Test.YtjnkllbecldfeaaGInter
import Derived.Test.YtjnkllbecldfeaaGConcat
import Derived.Test.YtjnkllbecldfeaaPx2
import Derived.Test.YtjnkllbecldfeaaPx3
import Derived.Test.YtjnkllbecldfeaaPx4
namespace Go.Proofs.Ytjnkllbecldfeaa.P
set_option linter.unusedVariables false
set_option linter.unusedSimpArgs false
open Go.RowKit Go.Proofs.YtjnkllbecldfeaaW.PrintWords Go.Proofs.YtjnkllbecldfeaaW.PrintLast Go.Proofs.YtjnkllbecldfeaaW.PrintMore

/-- The set of those that p tells. -/
def Is (l : List S27) (p : Int → Prop) : Prop := Nf l ∧ ∀ r, mem l r ↔ Scal r ∧ p r
theorem Is.ext {a b : List S27} {p q : Int → Prop} (ha : Is a p) (hb : Is b q) (h : ∀ r, Scal r → (p r ↔ q r)) : a = b :=
  Nf.ext ha.1 hb.1 fun r => by rw [ha.2, hb.2]; exact ⟨fun ⟨h1, h2⟩ => ⟨h1, (h r h1).1 h2⟩, fun ⟨h1, h2⟩ => ⟨h1, (h r h1).2 h2⟩⟩
theorem Is.at {a : List S27} {p : Int → Prop} (ha : Is a p) {r : Int} (hr : Scal r) : mem a r ↔ p r := by rw [ha.2]; exact ⟨fun h => h.2, fun h => ⟨hr, h⟩⟩
theorem Is.has {a : List S27} {p : Int → Prop} (ha : Is a p) (r : Int) : hasP a r = true ↔ Scal r ∧ p r := by rw [hasP_iff, ha.2]; exact ⟨fun h => h.2, fun h => ⟨h.1, h⟩⟩
theorem is_norm (l : List S27) : Is (normP l) (mem l) := ⟨normP_nf l, normP_mem l⟩

/-! ### what two have in common -/
theorem mn_e (a b : Int) : mn a b = if b < a then b else a := rfl
theorem mx_e (a b : Int) : mx a b = if a < b then b else a := rfl
theorem interL_ok : ∀ (n : Nat) (a b out : List S27), a.length + b.length ≤ n → Nf a → Nf b → Nf out → (∀ t ∈ out, ∀ x ∈ a, ∀ y ∈ b, t.f1 + 1 < x.f0 ∨ t.f1 + 1 < y.f0) →
    Nf (interL a b out) ∧ ∀ r, mem (interL a b out) r ↔ mem out r ∨ (mem a r ∧ mem b r) := by
  intro n
  induction n with
  | zero =>
    intro a b out hn _ _ ho _
    obtain rfl : a = [] := List.length_eq_zero_iff.1 (by omega)
    rw [interL_nil_l]
    exact ⟨ho, fun r => ⟨.inl, fun h => h.elim id fun h => absurd h.1 (mem_nil r)⟩⟩
  | succ n ih =>
    intro a b out hn ha hb ho hs
    cases a with
    | nil => rw [interL_nil_l]; exact ⟨ho, fun r => ⟨.inl, fun h => h.elim id fun h => absurd h.1 (mem_nil r)⟩⟩
    | cons x xs =>
      cases b with
      | nil => rw [interL_nil_r]; exact ⟨ho, fun r => ⟨.inl, fun h => h.elim id fun h => absurd h.2 (mem_nil r)⟩⟩
      | cons y ys =>
        rw [interL_cons]
        have hx := ha.1 x List.mem_cons_self
        have hy := hb.1 y List.mem_cons_self
        have hxs := (List.pairwise_cons.1 ha.2).1
        have hys := (List.pairwise_cons.1 hb.2).1
        have h0 := hs
        obtain ⟨out', ho'⟩ : ∃ o, o = (if mx x.f0 y.f0 ≤ mn x.f1 y.f1 then out ++ [⟨mx x.f0 y.f0, mn x.f1 y.f1⟩] else out) := ⟨_, rfl⟩
        rw [← ho']
        have hnew : Nf out' ∧ (∀ r, mem out' r ↔ mem out r ∨ ((x.f0 ≤ r ∧ r ≤ x.f1) ∧ (y.f0 ≤ r ∧ r ≤ y.f1))) ∧ ∀ t ∈ out', t ∈ out ∨ t.f1 = mn x.f1 y.f1 := by
          rw [ho']
          by_cases c : mx x.f0 y.f0 ≤ mn x.f1 y.f1
          · rw [if_pos c]
            refine ⟨⟨fun t ht => ?_, List.pairwise_append.2 ⟨ho.2, List.pairwise_singleton _ _, fun t ht u hu => ?_⟩⟩, fun r => ?_, fun t ht => ?_⟩
            · rcases List.mem_append.1 ht with ht | ht
              · exact ho.1 t ht
              · simp only [List.mem_singleton] at ht; subst ht
                refine ⟨c, ?_⟩
                unfold Ok at hx hy
                simp only [mn_e, mx_e] at c ⊢
                split at c <;> split at c <;> simp only [*, if_true, if_false] <;> omega
            · simp only [List.mem_singleton] at hu; subst hu
              have := hs t ht x List.mem_cons_self y List.mem_cons_self
              simp only [mx_e]
              split <;> omega
            · rw [mem_append, mem_one]
              simp only [mn_e, mx_e]
              constructor
              · rintro (h | h)
                · exact .inl h
                · right; split at h <;> split at h <;> omega
              · rintro (h | h)
                · exact .inl h
                · right; split <;> split <;> omega
            · rcases List.mem_append.1 ht with ht | ht
              · exact .inl ht
              · simp only [List.mem_singleton] at ht; subst ht; exact .inr rfl
          · rw [if_neg c]
            refine ⟨ho, fun r => ⟨.inl, fun h => h.elim id fun h => absurd ?_ c⟩, fun t ht => .inl ht⟩
            simp only [mn_e, mx_e]
            split <;> split <;> omega
        obtain ⟨m1, m2, m3⟩ := hnew
        by_cases c : x.f1 < y.f1
        · rw [if_pos c]
          have hmn : mn x.f1 y.f1 = x.f1 := by rw [mn_e, if_neg (by omega)]
          obtain ⟨k1, k2⟩ := ih xs (y :: ys) out' (by simp at hn ⊢; omega) ha.tail hb m1 (fun t ht u hu v hv => by
            rcases m3 t ht with h | h
            · exact hs t h u (List.mem_cons_of_mem _ hu) v hv
            · rw [hmn] at h; left; have := hxs u hu; omega)
          refine ⟨k1, fun r => ?_⟩
          rw [k2, m2, mem_cons x, or_assoc]
          refine or_congr Iff.rfl ?_
          constructor
          · rintro (⟨h1, h2⟩ | ⟨h1, h2⟩)
            · exact ⟨.inl h1, (mem_cons _ _ _).2 (.inl h2)⟩
            · exact ⟨.inr h1, h2⟩
          · rintro ⟨h1 | h1, h2⟩
            · rcases (mem_cons _ _ _).1 h2 with h3 | h3
              · exact .inl ⟨h1, h3⟩
              · have := hb.above h3; omega
            · exact .inr ⟨h1, h2⟩
        · rw [if_neg c]
          have hmn : mn x.f1 y.f1 = y.f1 := by rw [mn_e]; split <;> omega
          obtain ⟨k1, k2⟩ := ih (x :: xs) ys out' (by simp at hn ⊢; omega) ha hb.tail m1 (fun t ht u hu v hv => by
            rcases m3 t ht with h | h
            · exact hs t h u hu v (List.mem_cons_of_mem _ hv)
            · rw [hmn] at h; right; have := hys v hv; omega)
          refine ⟨k1, fun r => ?_⟩
          rw [k2, m2, mem_cons y, or_assoc]
          refine or_congr Iff.rfl ?_
          constructor
          · rintro (⟨h1, h2⟩ | ⟨h1, h2⟩)
            · exact ⟨(mem_cons _ _ _).2 (.inl h1), .inl h2⟩
            · exact ⟨h1, .inr h2⟩
          · rintro ⟨h1, h2 | h2⟩
            · rcases (mem_cons _ _ _).1 h1 with h3 | h3
              · exact .inl ⟨h3, h2⟩
              · have := ha.above h3; omega
            · exact .inr ⟨h1, h2⟩
theorem is_inter (a b : List S27) : Is (interP a b) (fun r => mem a r ∧ mem b r) := by
  obtain ⟨h1, h2⟩ := interL_ok _ (normP a) (normP b) [] (Nat.le_refl _) (normP_nf a) (normP_nf b) Nf.nil (fun t ht => by simp at ht)
  refine ⟨h1, fun r => ?_⟩
  show mem (interL (normP a) (normP b) []) r ↔ _
  rw [h2, normP_mem, normP_mem]
  exact ⟨fun h => h.elim (fun h => absurd h (mem_nil r)) fun ⟨⟨h1, h2⟩, _, h3⟩ => ⟨h1, h2, h3⟩, fun ⟨h1, h2, h3⟩ => .inr ⟨⟨h1, h2⟩, h1, h3⟩⟩
theorem interL_len : ∀ (n : Nat) (a b out : List S27), a.length + b.length ≤ n → (interL a b out).length ≤ out.length + a.length + b.length := by
  intro n
  induction n with
  | zero =>
    intro a b out hn
    obtain rfl : a = [] := List.length_eq_zero_iff.1 (by omega)
    rw [interL_nil_l]; simp
  | succ n ih =>
    intro a b out hn
    cases a with
    | nil => rw [interL_nil_l]; simp
    | cons x xs =>
      cases b with
      | nil => rw [interL_nil_r]; simp
      | cons y ys =>
        rw [interL_cons]
        simp only [List.length_cons] at hn ⊢
        have ho : (if mx x.f0 y.f0 ≤ mn x.f1 y.f1 then out ++ [(⟨mx x.f0 y.f0, mn x.f1 y.f1⟩ : S27)] else out).length ≤ out.length + 1 := by split <;> simp
        split
        · have := ih xs (y :: ys) (if mx x.f0 y.f0 ≤ mn x.f1 y.f1 then out ++ [⟨mx x.f0 y.f0, mn x.f1 y.f1⟩] else out) (by simp; omega)
          simp only [List.length_cons] at this; omega
        · have := ih (x :: xs) ys (if mx x.f0 y.f0 ≤ mn x.f1 y.f1 then out ++ [⟨mx x.f0 y.f0, mn x.f1 y.f1⟩] else out) (by simp; omega)
          simp only [List.length_cons] at this; omega
theorem interP_len (a b : List S27) : (interP a b).length ≤ 2 * a.length + 2 * b.length := by
  have h1 := interL_len _ (normP a) (normP b) [] (Nat.le_refl _)
  have h2 := normP_len a
  have h3 := normP_len b
  simp only [List.length_nil] at h1
  unfold interP; omega

/-! ### what one has not -/
def notRaw : Int → List S27 → List S27
  | x, [] => [⟨x, 1114111⟩]
  | x, s :: l => ⟨x, s.f0 - 1⟩ :: notRaw (s.f1 + 1) l
theorem notRaw_len : ∀ (l : List S27) (x : Int), (notRaw x l).length = l.length + 1
  | [], _ => rfl
  | s :: l, x => by rw [notRaw, List.length_cons, notRaw_len l, List.length_cons]
theorem notRaw_mem : ∀ (l : List S27) (x : Int), Nf l → (∀ s ∈ l, x ≤ s.f0) → ∀ r, mem (notRaw x l) r ↔ x ≤ r ∧ r ≤ 1114111 ∧ ¬ mem l r
  | [], x, _, _, r => by rw [notRaw, mem_one]; simp [mem_nil r]
  | s :: l, x, hn, hx, r => by
    have hs := hn.1 s List.mem_cons_self
    have hlo := hx s List.mem_cons_self
    have hlt := (List.pairwise_cons.1 hn.2).1
    have ih := notRaw_mem l (s.f1 + 1) hn.tail (fun t ht => by have := hlt t ht; omega) r
    rw [notRaw, mem_cons, mem_cons, ih]
    unfold Ok at hs
    have hab : mem l r → s.f1 + 1 < r := fun h => hn.above h
    by_cases c : mem l r
    · have := hab c
      simp only [c, not_true_eq_false, and_false, or_false, or_true]
      constructor
      · intro h; omega
      · intro h; exact h.elim
    · simp only [c, not_false_eq_true, and_true, or_false]
      omega
def notP (l : List S27) : List S27 := normP (notRaw 0 (normP l))
theorem is_not (l : List S27) : Is (notP l) (fun r => ¬ mem l r) := by
  refine ⟨normP_nf _, fun r => ?_⟩
  unfold notP
  rw [normP_mem, notRaw_mem _ _ (normP_nf l) (fun s hs => by have := (normP_nf l).1 s hs; unfold Ok at this; omega), normP_mem]
  unfold Scal
  constructor
  · rintro ⟨h1, h2, h3, h4⟩; exact ⟨h1, fun h => h4 ⟨h1, h⟩⟩
  · rintro ⟨h1, h2⟩; exact ⟨h1, h1.1, h1.2.1, fun h => h2 h.2⟩
theorem notP_len (l : List S27) : (notP l).length ≤ 4 * l.length + 2 := by
  have h1 := normP_len (notRaw 0 (normP l))
  have h2 := normP_len l
  rw [notRaw_len] at h1
  unfold notP; omega
theorem Nf.wf {l : List S27} (h : Nf l) : Wf l := fun s hs => by have := h.1 s hs; unfold Ok at this; omega

theorem set_norm (l : List S27) (hl : l.length ≤ 20000) : set_Norm.f l = some (normP l) := if_pos (by omega)
theorem set_inter (a b : List S27) (ha : a.length ≤ 100000) (hb : b.length ≤ 100000) : set_Inter.f a b = some (interP a b) := if_pos ⟨ha, hb⟩
theorem set_not (l : List S27) (hl : l.length ≤ 20000) : Ev (fun k => set_Not.f k l) (notP l) := by
  have hlen := normP_len l
  have hnf := normP_nf l
  have l0 : ∀ (d n : Nat) (out : List S27) (x : Int), (normP l).length - n = d → n ≤ (normP l).length → out.length ≤ n → out ++ notRaw x ((normP l).drop n) = notRaw 0 (normP l) → Ev (fun k => set_Not.l0 k out x (normP l) ((normP l).length : Int) (n : Int)) (notP l) := by
    intro d
    induction d with
    | zero =>
      intro n out x hd hn ho he
      rw [List.drop_of_length_le (by omega), notRaw] at he
      refine Ev.step (fun k => by rw [set_Not.l0]) (Ev.neg (by omega) (Ev.pos (by omega) ?_))
      rw [he]
      exact Ev.bindc (if_pos (by rw [notRaw_len]; omega)) (Ev.now _)
    | succ d ih =>
      intro n out x hd hn ho he
      have hlt : n < (normP l).length := by omega
      have hs := hnf.1 _ (List.getElem_mem hlt)
      unfold Ok at hs
      rw [List.drop_eq_getElem_cons hlt, notRaw] at he
      refine Ev.step (fun k => by rw [set_Not.l0]) (Ev.pos (by omega) (Ev.pos (by omega) (Ev.pos (by omega) (Ev.pos (by omega) ?_))))
      rw [rd_get _ n hlt, wrap_in (i := (normP l)[n].f0 - 1) (by omega) (by omega), wrap_in (i := (normP l)[n].f1 + 1) (by omega) (by omega), wrap_in (i := (n : Int) + 1) (by omega) (by omega)]
      exact ih (n + 1) _ _ (by omega) (by omega) (by simp; omega) (by rw [← he]; simp)
  unfold set_Not.f
  exact Ev.bindc (set_norm l hl) (l0 _ 0 [] 0 rfl (by omega) (by simp) rfl)
theorem set_minus (a b : List S27) (ha : a.length ≤ 20000) (hb : b.length ≤ 20000) : Ev (fun k => set_Minus.f k a b) (interP a (notP b)) := by
  have := notP_len b
  unfold set_Minus.f
  exact Ev.bind (set_not b hb) (Ev.bindc (set_inter a _ (by omega) (by omega)) (Ev.now _))
theorem set_union (ll : List (List S27)) (h1 : ll.flatten.length ≤ 20000) (h2 : ll.length ≤ 100000) : set_Union.f ll = some (normP ll.flatten) := by
  unfold set_Union.f
  rw [show api_Span_45.f ll = some ll.flatten from if_pos ⟨by omega, h2⟩]
  show (set_Norm.f ll.flatten).bind _ = _
  rw [set_norm _ h1]
  rfl
theorem is_union (ll : List (List S27)) : Is (normP ll.flatten) (fun r => ∃ m ∈ ll, mem m r) := ⟨normP_nf _, fun r => by rw [normP_mem, mem_flatten]⟩

/-! ### alike -/
def eqS : List S27 → List S27 → Bool
  | [], [] => true
  | x :: a, y :: b => ((x.f0 == y.f0) && (x.f1 == y.f1)) && eqS a b
  | _, _ => false
theorem eqS_rfl : ∀ a : List S27, eqS a a = true
  | [] => rfl
  | x :: a => by rw [eqS, eqS_rfl a]; simp
theorem eqS_len : ∀ a b : List S27, a.length ≠ b.length → eqS a b = false
  | [], [], h => absurd rfl h
  | x :: a, y :: b, h => by rw [eqS, eqS_len a b (fun e => h (by simp [e])), Bool.and_false]
  | [], _ :: _, _ => rfl
  | _ :: _, [], _ => rfl
theorem ref_alike (a b : List S27) (ha : a.length ≤ 1000000) : Ev (fun k => glyphcutterref01_Alike.f k a b) (eqS a b) := by
  unfold glyphcutterref01_Alike.f
  by_cases hl : a.length = b.length
  · refine Ev.pos (by omega) ?_
    have l0 : ∀ (d n : Nat), a.length - n = d → n ≤ a.length → Ev (fun k => glyphcutterref01_Alike.l0 k a b (n : Int)) (eqS (a.drop n) (b.drop n)) := by
      intro d
      induction d with
      | zero =>
        intro n hd hn
        rw [List.drop_of_length_le (by omega), List.drop_of_length_le (by omega)]
        exact Ev.step (fun k => by rw [glyphcutterref01_Alike.l0]) (Ev.neg (by omega) (Ev.now true))
      | succ d ih =>
        intro n hd hn
        have h1 : n < a.length := by omega
        have h2 : n < b.length := by omega
        rw [List.drop_eq_getElem_cons h1, List.drop_eq_getElem_cons h2, eqS]
        refine Ev.step (fun k => by rw [glyphcutterref01_Alike.l0]) (Ev.pos (by omega) (Ev.pos (by omega) (Ev.pos (by omega) ?_)))
        rw [rd_get a n h1, rd_get b n h2, wrap_in (by omega) (by omega), ← Bool.not_and]
        have ihn := ih (n + 1) (by omega) (by omega)
        cases c : (a[n].f0 == b[n].f0) && (a[n].f1 == b[n].f1) with
        | false => exact Ev.pos (by rfl) (Ev.now false)
        | true => exact Ev.neg (by simp) (by rw [Bool.true_and]; exact ihn)
    exact l0 _ 0 rfl (by omega)
  · refine Ev.neg (by omega) ?_
    rw [eqS_len a b hl]
    exact Ev.now false
theorem api_equal (a b : List S27) (ha : a.length ≤ 1000000) : Ev (fun k => api_Span_46.f k a b) (eqS a b) := by
  unfold api_Span_46.f
  by_cases hl : a.length = b.length
  · refine Ev.pos (by omega) ?_
    have l0 : ∀ (d n : Nat), a.length - n = d → n ≤ a.length → Ev (fun k => api_Span_46.l0 k a b (a.length : Int) (n : Int)) (eqS (a.drop n) (b.drop n)) := by
      intro d
      induction d with
      | zero =>
        intro n hd hn
        rw [List.drop_of_length_le (by omega), List.drop_of_length_le (by omega)]
        exact Ev.step (fun k => by rw [api_Span_46.l0]) (Ev.neg (by omega) (Ev.now true))
      | succ d ih =>
        intro n hd hn
        have h1 : n < a.length := by omega
        have h2 : n < b.length := by omega
        rw [List.drop_eq_getElem_cons h1, List.drop_eq_getElem_cons h2, eqS]
        refine Ev.step (fun k => by rw [api_Span_46.l0]) (Ev.pos (by omega) (Ev.pos (by omega) (Ev.pos (by omega) (Ev.pos (by omega) ?_))))
        rw [rd_get a n h1, rd_get b n h2, wrap_in (by omega) (by omega), ← Bool.not_and]
        have ihn := ih (n + 1) (by omega) (by omega)
        cases c : (a[n].f0 == b[n].f0) && (a[n].f1 == b[n].f1) with
        | false => exact Ev.pos (by rfl) (Ev.now false)
        | true => exact Ev.neg (by simp) (by rw [Bool.true_and]; exact ihn)
    exact l0 _ 0 rfl (by omega)
  · refine Ev.neg (by omega) ?_
    rw [eqS_len a b hl]
    exact Ev.now false
theorem law_same (a : List S27) (ha : a.length ≤ 1000000) : Ev (fun k => glyphcutterlaw01_same.f k a a) true := by
  unfold glyphcutterlaw01_same.f
  have := ref_alike a a ha
  rw [eqS_rfl] at this
  exact Ev.bind this (Ev.now true)
theorem set_same (a b : List S27) (ha : a.length ≤ 20000) (hb : b.length ≤ 20000) : Ev (fun k => set_Same.f k a b) (eqS (normP a) (normP b)) := by
  have := normP_len a
  unfold set_Same.f
  exact Ev.bindc (set_norm a ha) (Ev.bindc (set_norm b hb) (Ev.bind (api_equal _ _ (by omega)) (Ev.now _)))

/-! ### how many -/
def sizeW (l : List S27) (n : Int) : Int := l.foldl (fun n s => wrap64 (n + wrap64 (wrap64 (s.f1 - s.f0) + 1))) n
theorem set_size (l : List S27) (hl : l.length ≤ 20000) : Ev (fun k => set_Size.f k l) (sizeW (normP l) 0) := by
  have hlen := normP_len l
  have l0 : ∀ (d n : Nat) (x : Int), (normP l).length - n = d → n ≤ (normP l).length → Ev (fun k => set_Size.l0 k x (normP l) ((normP l).length : Int) (n : Int)) (sizeW ((normP l).drop n) x) := by
    intro d
    induction d with
    | zero =>
      intro n x hd hn
      rw [List.drop_of_length_le (by omega)]
      show Ev _ x
      exact Ev.step (fun k => by rw [set_Size.l0]) (Ev.neg (by omega) (Ev.now x))
    | succ d ih =>
      intro n x hd hn
      have h1 : n < (normP l).length := by omega
      rw [List.drop_eq_getElem_cons h1]
      refine Ev.step (fun k => by rw [set_Size.l0]) (Ev.pos (by omega) (Ev.pos (by omega) (Ev.pos (by omega) ?_)))
      rw [rd_get _ n h1, wrap_in (i := (n : Int) + 1) (by omega) (by omega)]
      exact ih (n + 1) _ (by omega) (by omega)
  unfold set_Size.f
  exact Ev.bindc (set_norm l hl) (l0 _ 0 0 rfl (by omega))

/-! ### the references -/
theorem refP_1 (l : List S27) : refP 1 l [] = notP l := Nf.ext (refP_ok _ _ _).1 (is_not l).1 fun r => by
  rw [(refP_ok _ _ _).2, (is_not l).2, selQ_1, Bool.not_eq_true', ← Bool.not_eq_true, hasP_iff]
  exact ⟨fun ⟨h1, h2⟩ => ⟨h1, fun h => h2 ⟨h1, h⟩⟩, fun ⟨h1, h2⟩ => ⟨h1, fun h => h2 h.2⟩⟩
theorem refP_2 (a b : List S27) : refP 2 a b = interP a (notP b) := Nf.ext (refP_ok _ _ _).1 (is_inter _ _).1 fun r => by
  rw [(refP_ok _ _ _).2, (is_inter _ _).2, selQ_2, Bool.and_eq_true, Bool.not_eq_true', ← Bool.not_eq_true, hasP_iff, hasP_iff]
  show _ ↔ Scal r ∧ mem a r ∧ mem (notP b) r
  rw [(is_not b).2]
  exact ⟨fun ⟨h1, ⟨_, h2⟩, h3⟩ => ⟨h1, h2, h1, fun h => h3 ⟨h1, h⟩⟩, fun ⟨h1, h2, _, h3⟩ => ⟨h1, ⟨h1, h2⟩, fun h => h3 h.2⟩⟩
theorem refP_2n (a : List S27) : refP 2 a [] = normP a := Nf.ext (refP_ok _ _ _).1 (normP_nf a) fun r => by
  rw [(refP_ok _ _ _).2, normP_mem, selQ_2, hasP_nil, Bool.not_false, Bool.and_true, hasP_iff]
  exact ⟨fun h => h.2, fun h => ⟨h.1, h⟩⟩
theorem refP_8 (a b : List S27) : refP 8 a b = interP a b := Nf.ext (refP_ok _ _ _).1 (is_inter _ _).1 fun r => by
  rw [(refP_ok _ _ _).2, (is_inter _ _).2, selQ_8, Bool.and_eq_true, hasP_iff, hasP_iff]
  exact ⟨fun ⟨h1, ⟨_, h2⟩, _, h3⟩ => ⟨h1, h2, h3⟩, fun ⟨h1, h2, h3⟩ => ⟨h1, ⟨h1, h2⟩, h1, h3⟩⟩
theorem refP_14 (a b : List S27) : refP 14 a b = normP (a ++ b) := Nf.ext (refP_ok _ _ _).1 (normP_nf _) fun r => by
  rw [(refP_ok _ _ _).2, normP_mem, selQ_14, Bool.or_eq_true, hasP_iff, hasP_iff, mem_append]
  exact ⟨fun ⟨h1, h⟩ => ⟨h1, h.imp (fun h => h.2) (fun h => h.2)⟩, fun ⟨h1, h⟩ => ⟨h1, h.imp (fun h => ⟨h1, h⟩) (fun h => ⟨h1, h⟩)⟩⟩
theorem wf_nil : Wf [] := fun _ h => by simp at h
theorem ref_norm (l : List S27) (hl : l.length ≤ 20000) (hw : Wf l) : Ev (fun k => glyphcutterref01_Norm.f k l) (normP l) := by
  unfold glyphcutterref01_Norm.f
  have := ref_make 2 l [] (by omega) (by simp) hw wf_nil
  rw [← refP_2n]
  exact Ev.bind this (Ev.now _)
theorem ref_not (l : List S27) (hl : l.length ≤ 20000) (hw : Wf l) : Ev (fun k => glyphcutterref01_Not.f k l) (notP l) := by
  unfold glyphcutterref01_Not.f
  have := ref_make 1 l [] (by omega) (by simp) hw wf_nil
  rw [← refP_1]
  exact Ev.bind this (Ev.now _)
theorem ref_inter (a b : List S27) (ha : a.length ≤ 20000) (hb : b.length ≤ 20000) (wa : Wf a) (wb : Wf b) : Ev (fun k => glyphcutterref01_Inter.f k a b) (interP a b) := by
  unfold glyphcutterref01_Inter.f
  have := ref_make 8 a b (by omega) (by omega) wa wb
  rw [← refP_8]
  exact Ev.bind this (Ev.now _)
theorem ref_minus (a b : List S27) (ha : a.length ≤ 20000) (hb : b.length ≤ 20000) (wa : Wf a) (wb : Wf b) : Ev (fun k => glyphcutterref01_Minus.f k a b) (interP a (notP b)) := by
  unfold glyphcutterref01_Minus.f
  have := ref_make 2 a b (by omega) (by omega) wa wb
  rw [← refP_2]
  exact Ev.bind this (Ev.now _)
theorem ref_same (a b : List S27) (ha : a.length ≤ 20000) (hb : b.length ≤ 20000) (wa : Wf a) (wb : Wf b) : Ev (fun k => glyphcutterref01_Same.f k a b) (eqS (normP a) (normP b)) := by
  have := normP_len a
  unfold glyphcutterref01_Same.f
  exact Ev.bind (ref_norm a ha wa) (Ev.bind (ref_norm b hb wb) (Ev.bind (ref_alike _ _ (by omega)) (Ev.now _)))
theorem ref_size (l : List S27) (hl : l.length ≤ 20000) (hw : Wf l) : Ev (fun k => glyphcutterref01_Size.f k l) (sizeW (normP l) 0) := by
  have hlen := normP_len l
  have l0 : ∀ (d n : Nat) (x : Int), (normP l).length - n = d → n ≤ (normP l).length → Ev (fun k => glyphcutterref01_Size.l0 k x (normP l) (n : Int)) (sizeW ((normP l).drop n) x) := by
    intro d
    induction d with
    | zero =>
      intro n x hd hn
      rw [List.drop_of_length_le (by omega)]
      show Ev _ x
      exact Ev.step (fun k => by rw [glyphcutterref01_Size.l0]) (Ev.neg (by omega) (Ev.now x))
    | succ d ih =>
      intro n x hd hn
      have h1 : n < (normP l).length := by omega
      rw [List.drop_eq_getElem_cons h1]
      refine Ev.step (fun k => by rw [glyphcutterref01_Size.l0]) (Ev.pos (by omega) (Ev.pos (by omega) ?_))
      rw [rd_get _ n h1, wrap_in (i := (n : Int) + 1) (by omega) (by omega)]
      exact ih (n + 1) _ (by omega) (by omega)
  unfold glyphcutterref01_Size.f
  exact Ev.bind (ref_norm l hl hw) (l0 _ 0 0 rfl (by omega))
end Go.Proofs.Ytjnkllbecldfeaa.P
