/- Parts of sets: what they are; terms.Of makes them; the reference makes them. -/
import Derived.Test.YtgpkhnkppkepnaaPx0
import Derived.Test.YtgpkhnkppkepnaaGBase
import Derived.Test.YtgpkhnkppkepnaaGEdges
import Derived.Test.YtgpkhnkppkepnaaGHas
import Derived.Test.YtgpkhnkppkepnaaGInter
import Derived.Test.YtgpkhnkppkepnaaGMapH
import Derived.Test.YtgpkhnkppkepnaaGNorm
import Derived.Test.YtgpkhnkppkepnaaGRowsO
import Derived.Test.YtgpkhnkppkepnaaGTerms
import Derived.Test.YtgpkhnkppkepnaaPBase
import Derived.Test.YtgpkhnkppkepnaaPTermsA
namespace Go.Proofs.Ytgpkhnkppkepnaa.P
set_option linter.unusedVariables false
set_option linter.unusedSimpArgs false
section
open Go.RowKit Go.Proofs.YtgpkhnkppkepnaaW.PrintWords Go.Proofs.YtgpkhnkppkepnaaW.PrintLast Go.Proofs.YtgpkhnkppkepnaaW.PrintMore
theorem Is.ext {a b : List S42} {p q : Int → Prop} (ha : Is a p) (hb : Is b q) (h : ∀ r, Scal r → (p r ↔ q r)) : a = b :=
  Nf.ext ha.1 hb.1 fun r => by rw [ha.2, hb.2]; exact ⟨fun ⟨h1, h2⟩ => ⟨h1, (h r h1).1 h2⟩, fun ⟨h1, h2⟩ => ⟨h1, (h r h1).2 h2⟩⟩
theorem mn_e (a b : Int) : mn a b = if b < a then b else a := rfl
theorem mx_e (a b : Int) : mx a b = if a < b then b else a := rfl
theorem interL_ok : ∀ (n : Nat) (a b out : List S42), a.length + b.length ≤ n → Nf a → Nf b → Nf out → (∀ t ∈ out, ∀ x ∈ a, ∀ y ∈ b, t.f1 + 1 < x.f0 ∨ t.f1 + 1 < y.f0) →
    Nf (interL a b out) ∧ ∀ r, mem (interL a b out) r ↔ mem out r ∨ (mem a r ∧ mem b r) := by
  intro n
  induction n with
  | zero =>
    intro a b out hn _ _ ho _
    obtain rfl : a = [] := List.length_eq_zero_iff.1 (by omega)
    rw [interL_nil_l]
    exact ⟨ho, fun r => ⟨.inl, fun h => h.elim id fun h => absurd h.1 (mem_nil r)⟩⟩
  | succ n ih =>
    intro a b out hn ha hb ho hs
    cases a with
    | nil => rw [interL_nil_l]; exact ⟨ho, fun r => ⟨.inl, fun h => h.elim id fun h => absurd h.1 (mem_nil r)⟩⟩
    | cons x xs =>
      cases b with
      | nil => rw [interL_nil_r]; exact ⟨ho, fun r => ⟨.inl, fun h => h.elim id fun h => absurd h.2 (mem_nil r)⟩⟩
      | cons y ys =>
        rw [interL_cons]
        have hx := ha.1 x List.mem_cons_self
        have hy := hb.1 y List.mem_cons_self
        have hxs := (List.pairwise_cons.1 ha.2).1
        have hys := (List.pairwise_cons.1 hb.2).1
        have h0 := hs
        obtain ⟨out', ho'⟩ : ∃ o, o = (if mx x.f0 y.f0 ≤ mn x.f1 y.f1 then out ++ [⟨mx x.f0 y.f0, mn x.f1 y.f1⟩] else out) := ⟨_, rfl⟩
        rw [← ho']
        have hnew : Nf out' ∧ (∀ r, mem out' r ↔ mem out r ∨ ((x.f0 ≤ r ∧ r ≤ x.f1) ∧ (y.f0 ≤ r ∧ r ≤ y.f1))) ∧ ∀ t ∈ out', t ∈ out ∨ t.f1 = mn x.f1 y.f1 := by
          rw [ho']
          by_cases c : mx x.f0 y.f0 ≤ mn x.f1 y.f1
          · rw [if_pos c]
            refine ⟨⟨fun t ht => ?_, List.pairwise_append.2 ⟨ho.2, List.pairwise_singleton _ _, fun t ht u hu => ?_⟩⟩, fun r => ?_, fun t ht => ?_⟩
            · rcases List.mem_append.1 ht with ht | ht
              · exact ho.1 t ht
              · simp only [List.mem_singleton] at ht; subst ht
                refine ⟨c, ?_⟩
                unfold Ok at hx hy
                simp only [mn_e, mx_e] at c ⊢
                split at c <;> split at c <;> simp only [*, if_true, if_false] <;> omega
            · simp only [List.mem_singleton] at hu; subst hu
              have := hs t ht x List.mem_cons_self y List.mem_cons_self
              simp only [mx_e]
              split <;> omega
            · rw [mem_append, mem_one]
              simp only [mn_e, mx_e]
              constructor
              · rintro (h | h)
                · exact .inl h
                · right; split at h <;> split at h <;> omega
              · rintro (h | h)
                · exact .inl h
                · right; split <;> split <;> omega
            · rcases List.mem_append.1 ht with ht | ht
              · exact .inl ht
              · simp only [List.mem_singleton] at ht; subst ht; exact .inr rfl
          · rw [if_neg c]
            refine ⟨ho, fun r => ⟨.inl, fun h => h.elim id fun h => absurd ?_ c⟩, fun t ht => .inl ht⟩
            simp only [mn_e, mx_e]
            split <;> split <;> omega
        obtain ⟨m1, m2, m3⟩ := hnew
        by_cases c : x.f1 < y.f1
        · rw [if_pos c]
          have hmn : mn x.f1 y.f1 = x.f1 := by rw [mn_e, if_neg (by omega)]
          obtain ⟨k1, k2⟩ := ih xs (y :: ys) out' (by simp at hn ⊢; omega) ha.tail hb m1 (fun t ht u hu v hv => by
            rcases m3 t ht with h | h
            · exact hs t h u (List.mem_cons_of_mem _ hu) v hv
            · rw [hmn] at h; left; have := hxs u hu; omega)
          refine ⟨k1, fun r => ?_⟩
          rw [k2, m2, mem_cons x, or_assoc]
          refine or_congr Iff.rfl ?_
          constructor
          · rintro (⟨h1, h2⟩ | ⟨h1, h2⟩)
            · exact ⟨.inl h1, (mem_cons _ _ _).2 (.inl h2)⟩
            · exact ⟨.inr h1, h2⟩
          · rintro ⟨h1 | h1, h2⟩
            · rcases (mem_cons _ _ _).1 h2 with h3 | h3
              · exact .inl ⟨h1, h3⟩
              · have := hb.above h3; omega
            · exact .inr ⟨h1, h2⟩
        · rw [if_neg c]
          have hmn : mn x.f1 y.f1 = y.f1 := by rw [mn_e]; split <;> omega
          obtain ⟨k1, k2⟩ := ih (x :: xs) ys out' (by simp at hn ⊢; omega) ha hb.tail m1 (fun t ht u hu v hv => by
            rcases m3 t ht with h | h
            · exact hs t h u hu v (List.mem_cons_of_mem _ hv)
            · rw [hmn] at h; right; have := hys v hv; omega)
          refine ⟨k1, fun r => ?_⟩
          rw [k2, m2, mem_cons y, or_assoc]
          refine or_congr Iff.rfl ?_
          constructor
          · rintro (⟨h1, h2⟩ | ⟨h1, h2⟩)
            · exact ⟨(mem_cons _ _ _).2 (.inl h1), .inl h2⟩
            · exact ⟨h1, .inr h2⟩
          · rintro ⟨h1, h2 | h2⟩
            · rcases (mem_cons _ _ _).1 h1 with h3 | h3
              · exact .inl ⟨h3, h2⟩
              · have := ha.above h3; omega
            · exact .inr ⟨h1, h2⟩
theorem is_inter (a b : List S42) : Is (interP a b) (fun r => mem a r ∧ mem b r) := by
  obtain ⟨h1, h2⟩ := interL_ok _ (normP a) (normP b) [] (Nat.le_refl _) (normP_nf a) (normP_nf b) Nf.nil (fun t ht => by simp at ht)
  refine ⟨h1, fun r => ?_⟩
  show mem (interL (normP a) (normP b) []) r ↔ _
  rw [h2, normP_mem, normP_mem]
  exact ⟨fun h => h.elim (fun h => absurd h (mem_nil r)) fun ⟨⟨h1, h2⟩, _, h3⟩ => ⟨h1, h2, h3⟩, fun ⟨h1, h2, h3⟩ => .inr ⟨⟨h1, h2⟩, h1, h3⟩⟩
def notRaw : Int → List S42 → List S42
  | x, [] => [⟨x, 1114111⟩]
  | x, s :: l => ⟨x, s.f0 - 1⟩ :: notRaw (s.f1 + 1) l
theorem notRaw_mem : ∀ (l : List S42) (x : Int), Nf l → (∀ s ∈ l, x ≤ s.f0) → ∀ r, mem (notRaw x l) r ↔ x ≤ r ∧ r ≤ 1114111 ∧ ¬ mem l r
  | [], x, _, _, r => by rw [notRaw, mem_one]; simp [mem_nil r]
  | s :: l, x, hn, hx, r => by
    have hs := hn.1 s List.mem_cons_self
    have hlo := hx s List.mem_cons_self
    have hlt := (List.pairwise_cons.1 hn.2).1
    have ih := notRaw_mem l (s.f1 + 1) hn.tail (fun t ht => by have := hlt t ht; omega) r
    rw [notRaw, mem_cons, mem_cons, ih]
    unfold Ok at hs
    have hab : mem l r → s.f1 + 1 < r := fun h => hn.above h
    by_cases c : mem l r
    · have := hab c
      simp only [c, not_true_eq_false, and_false, or_false, or_true]
      constructor
      · intro h; omega
      · intro h; exact h.elim
    · simp only [c, not_false_eq_true, and_true, or_false]
      omega
def notP (l : List S42) : List S42 := normP (notRaw 0 (normP l))
theorem is_not (l : List S42) : Is (notP l) (fun r => ¬ mem l r) := by
  refine ⟨normP_nf _, fun r => ?_⟩
  unfold notP
  rw [normP_mem, notRaw_mem _ _ (normP_nf l) (fun s hs => by have := (normP_nf l).1 s hs; unfold Ok at this; omega), normP_mem]
  unfold Scal
  constructor
  · rintro ⟨h1, h2, h3, h4⟩; exact ⟨h1, fun h => h4 ⟨h1, h⟩⟩
  · rintro ⟨h1, h2⟩; exact ⟨h1, h1.1, h1.2.1, fun h => h2 h.2⟩
end
section
open Go.RowKit Go.Proofs.YtgpkhnkppkepnaaW.PrintWords Go.Proofs.YtgpkhnkppkepnaaW.PrintLast Go.Proofs.YtgpkhnkppkepnaaW.PrintMore
theorem mem_inter (a b : List S42) (r : Int) : mem (interP a b) r ↔ Scal r ∧ mem a r ∧ mem b r := (is_inter a b).2 r
theorem mem_not (a : List S42) (r : Int) : mem (notP a) r ↔ Scal r ∧ ¬ mem a r := (is_not a).2 r
end
section
open Go.RowKit Go.Shelf Go.Proofs.YtgpkhnkppkepnaaW.PrintWords Go.Proofs.YtgpkhnkppkepnaaW.PrintLast Go.Proofs.YtgpkhnkppkepnaaW.PrintMore
/-- The least of a set's. -/
def Least (p : List S42) (a : Int) : Prop := mem p a ∧ ∀ y, mem p y → a ≤ y
theorem Least.one {p : List S42} {a b : Int} (ha : Least p a) (hb : Least p b) : a = b := Int.le_antisymm (ha.2 b hb.1) (hb.2 a ha.1)
def someP (l : List (List S42)) (x : Int) : Bool := l.any fun s => hasP s x
/-- Parts of sets, by their scalars' words, in the order of their least scalars. -/
structure IsParts (l ps : List (List S42)) : Prop where
  nf : ∀ p ∈ ps, Nf p
  cls : ∀ p ∈ ps, ∃ x, mem p x ∧ someP l x = true ∧ ∀ y, mem p y ↔ (Scal y ∧ wordN l y = wordN l x)
  all : ∀ x, someP l x = true → ∃ p ∈ ps, mem p x
  up : ps.Pairwise fun p q => ∀ a b, Least p a → Least q b → a < b
theorem some_word (l : List (List S42)) (x y : Int) (h : wordN l x = wordN l y) : someP l x = someP l y := by
  unfold someP wordN at *
  induction l with
  | nil => rfl
  | cons s l ih =>
    rw [List.map_cons, List.map_cons] at h
    injection h with h1 h2
    rw [List.any_cons, List.any_cons, ih h2]
    congr 1
    cases hx : hasP s x <;> cases hy : hasP s y <;> rw [hx, hy] at h1 <;> simp at h1 ⊢
theorem word_has {l : List (List S42)} {x y : Int} (h : wordN l x = wordN l y) : ∀ s ∈ l, hasP s x = hasP s y := by
  unfold wordN at h
  intro s hs
  induction l with
  | nil => simp at hs
  | cons t l ih =>
    rw [List.map_cons, List.map_cons] at h
    injection h with h1 h2
    rcases List.mem_cons.1 hs with rfl | hs
    · cases hx : hasP s x <;> cases hy : hasP s y <;> rw [hx, hy] at h1 <;> simp at h1 ⊢
    · exact ih h2 hs
theorem word_of_has {l : List (List S42)} {x y : Int} (h : ∀ s ∈ l, hasP s x = hasP s y) : wordN l x = wordN l y := by
  unfold wordN
  exact List.map_congr_left fun s hs => by rw [h s hs]
theorem some_scal {l : List (List S42)} {x : Int} (h : someP l x = true) : Scal x := by
  obtain ⟨s, _, hs⟩ := List.any_eq_true.1 h
  exact ((hasP_iff s x).1 hs).1
theorem IsParts.same {l ps qs : List (List S42)} (hp : IsParts l ps) (hq : IsParts l qs) : ∀ p ∈ ps, p ∈ qs := by
  intro p hpp
  obtain ⟨x, hx, hs, hc⟩ := hp.cls p hpp
  obtain ⟨q, hqq, hxq⟩ := hq.all x hs
  obtain ⟨x', hx', hs', hc'⟩ := hq.cls q hqq
  have hw := ((hc' x).1 hxq).2
  have : p = q := Nf.ext (hp.nf p hpp) (hq.nf q hqq) fun y => by rw [hc y, hc' y, hw]
  exact this ▸ hqq
theorem nf_least {p : List S42} (h : Nf p) {x : Int} (hx : mem p x) : ∃ s t, p = s :: t ∧ Least p s.f0 := by
  cases p with
  | nil => exact absurd hx (mem_nil x)
  | cons s t =>
    refine ⟨s, t, rfl, ?_, fun y hy => ?_⟩
    · have := h.1 s List.mem_cons_self
      unfold Ok at this
      exact ⟨s, List.mem_cons_self, Int.le_refl _, this.1⟩
    · rw [mem_cons] at hy
      rcases hy with hy | hy
      · exact hy.1
      · have h1 := h.above hy
        have h2 := h.1 s List.mem_cons_self
        unfold Ok at h2
        omega
theorem up_ext : ∀ (ps qs : List (List S42)), (∀ p ∈ ps, ∃ a, Least p a) → (∀ p ∈ qs, ∃ a, Least p a) → ps.Pairwise (fun p q => ∀ a b, Least p a → Least q b → a < b) → qs.Pairwise (fun p q => ∀ a b, Least p a → Least q b → a < b) → (∀ p, p ∈ ps ↔ p ∈ qs) → ps = qs
  | [], [], _, _, _, _, _ => rfl
  | [], q :: qs, _, _, _, _, h => by have := (h q).2 List.mem_cons_self; simp at this
  | p :: ps, [], _, _, _, _, h => by have := (h p).1 List.mem_cons_self; simp at this
  | p :: ps, q :: qs, lp, lq, hp, hq, h => by
    obtain ⟨p1, p2⟩ := List.pairwise_cons.1 hp
    obtain ⟨q1, q2⟩ := List.pairwise_cons.1 hq
    obtain ⟨a, ha⟩ := lp p List.mem_cons_self
    obtain ⟨b, hb⟩ := lq q List.mem_cons_self
    have hpq : p = q := by
      rcases List.mem_cons.1 ((h p).1 List.mem_cons_self) with e | h1
      · exact e
      · rcases List.mem_cons.1 ((h q).2 List.mem_cons_self) with e | h2
        · exact e.symm
        · have := q1 p h1 b a hb ha
          have := p1 q h2 a b ha hb
          omega
    subst hpq
    congr 1
    refine up_ext ps qs (fun x hx => lp x (List.mem_cons_of_mem _ hx)) (fun x hx => lq x (List.mem_cons_of_mem _ hx)) p2 q2 fun x => ⟨fun hx => ?_, fun hx => ?_⟩
    · rcases List.mem_cons.1 ((h x).1 (List.mem_cons_of_mem _ hx)) with e | h1
      · subst e; exact absurd (p1 x hx a a ha ha) (Int.lt_irrefl a)
      · exact h1
    · rcases List.mem_cons.1 ((h x).2 (List.mem_cons_of_mem _ hx)) with e | h1
      · subst e; exact absurd (q1 x hx a a ha ha) (Int.lt_irrefl a)
      · exact h1
theorem IsParts.least {l ps : List (List S42)} (hp : IsParts l ps) : ∀ p ∈ ps, ∃ s t, p = s :: t ∧ Least p s.f0 := fun p h => by
  obtain ⟨x, hx, _⟩ := hp.cls p h
  exact nf_least (hp.nf p h) hx
theorem IsParts.ext {l ps qs : List (List S42)} (hp : IsParts l ps) (hq : IsParts l qs) : ps = qs :=
  up_ext ps qs (fun p h => by obtain ⟨s, _, _, h⟩ := hp.least p h; exact ⟨_, h⟩) (fun p h => by obtain ⟨s, _, _, h⟩ := hq.least p h; exact ⟨_, h⟩) hp.up hq.up fun p => ⟨hp.same hq p, hq.same hp p⟩
theorem hasP_norm (s : List S42) (r : Int) : hasP (normP s) r = hasP s r := by
  rw [Bool.eq_iff_iff, hasP_iff, hasP_iff, normP_mem]
  exact ⟨fun h => ⟨h.1, h.2.2⟩, fun h => ⟨h.1, h⟩⟩
theorem wordN_sets (l : List (List S42)) (r : Int) : wordN (setsA l) r = wordN l r := by
  unfold wordN setsA
  rw [List.map_map]
  exact List.map_congr_left fun s _ => by simp only [Function.comp]; rw [hasP_norm]
theorem someP_sets (l : List (List S42)) (r : Int) : someP (setsA l) r = someP l r := by
  unfold someP setsA
  rw [List.any_map]
  congr 1
  funext s
  exact hasP_norm s r
theorem wordN_range (l : List (List S42)) (r : Int) : ∀ x ∈ wordN l r, 0 ≤ x ∧ x ≤ 255 := by
  intro x hx
  obtain ⟨s, _, rfl⟩ := List.mem_map.1 hx
  split <;> decide
theorem str_inj {A B : List Int} (ha : ∀ x ∈ A, 0 ≤ x ∧ x ≤ 255) (hb : ∀ x ∈ B, 0 ≤ x ∧ x ≤ 255) (h : (strOfNums A).data.toList = (strOfNums B).data.toList) : A = B := by
  have key : ∀ C : List Int, (∀ x ∈ C, 0 ≤ x ∧ x ≤ 255) → (strOfNums C).data.toList.map (fun x => (x.toNat : Int)) = C := fun C hC => by
    rw [strOfNums_data, List.map_map]
    conv => rhs; rw [← List.map_id C]
    refine List.map_congr_left fun x hx => ?_
    have := hC x hx
    simp only [Function.comp, id, UInt8.toNat_ofNat']
    omega
  rw [← key A ha, ← key B hb, h]
/-- The word as a list of bytes. -/
def wdB (sets : List (List S42)) (y : Int) : List UInt8 := (wordP sets y).data.toList
theorem wdB_nil (sets : List (List S42)) (y : Int) : wdB sets y = [] ↔ someP sets y = false := by
  unfold wdB wordP someP
  cases h : sets.any (fun s => hasP s y) with
  | false => simp
  | true =>
    rw [if_pos rfl]
    refine ⟨fun e => ?_, fun e => by cases e⟩
    have h1 := congrArg List.length e
    rw [strOfNums_data, List.length_map] at h1
    have h2 : sets.length = 0 := by simpa [wordN] using h1
    rw [List.eq_nil_of_length_eq_zero h2] at h
    simp at h
theorem wdB_eq {sets : List (List S42)} {x y : Int} (hx : someP sets x = true) : wdB sets y = wdB sets x ↔ (Scal y ∧ wordN sets y = wordN sets x) := by
  constructor
  · intro h
    have hy : someP sets y = true := by
      cases hy : someP sets y with
      | true => rfl
      | false =>
        have h1 := (wdB_nil sets y).2 hy
        rw [h] at h1
        rw [(wdB_nil sets x).1 h1] at hx
        cases hx
    refine ⟨some_scal hy, ?_⟩
    unfold wdB wordP at h
    unfold someP at hx hy
    rw [hx, hy, if_pos rfl, if_pos rfl] at h
    exact str_inj (wordN_range _ _) (wordN_range _ _) h
  · rintro ⟨_, h⟩
    have hy : someP sets y = true := by rw [some_word _ _ _ h]; exact hx
    unfold wdB wordP
    unfold someP at hx hy
    rw [hx, hy, h]
theorem rd_lt {es : List Int} (h : es.Pairwise (· < ·)) {i j : Nat} (hij : i < j) (hj : j < es.length) : rd es i < rd es j := by
  rw [rdi_get es i (by omega), rdi_get es j hj]
  exact List.pairwise_iff_getElem.1 h i j (by omega) hj hij
theorem rd_at {es : List Int} {x : Int} (h : x ∈ es) : ∃ i, i < es.length ∧ x = rd es (i : Nat) := by
  obtain ⟨i, hi, e⟩ := List.mem_iff_getElem.1 h
  exact ⟨i, hi, by rw [rdi_get es i hi, e]⟩
theorem rd_le {es : List Int} (h : es.Pairwise (· < ·)) {i j : Nat} (hij : i ≤ j) (hj : j < es.length) : rd es i ≤ rd es j := by
  rcases Nat.lt_or_eq_of_le hij with h1 | rfl
  · exact Int.le_of_lt (rd_lt h h1 hj)
  · exact Int.le_refl _
theorem ends_mem {sets : List (List S42)} {s : List S42} {x : S42} (hs : s ∈ sets) (hx : x ∈ s) : x.f0 ∈ risI (endsL sets) ∧ x.f1 + 1 ∈ risI (endsL sets) := by
  have hm : x ∈ sets.flatten := List.mem_flatten.2 ⟨s, hs, hx⟩
  constructor <;> rw [mem_risI] <;> unfold endsL <;> rw [List.mem_flatMap] <;> exact ⟨x, hm, by simp [endsP]⟩
/-- Between two ends nothing begins or ends. -/
theorem word_const {sets : List (List S42)} (hn : ∀ s ∈ sets, Nf s) {i : Nat} (hi : i + 1 < (risI (endsL sets)).length) {y : Int} (h0 : rd (risI (endsL sets)) i ≤ y) (h1 : y < rd (risI (endsL sets)) (i + 1 : Nat)) : ∀ s ∈ sets, hasP s y = hasP s (rd (risI (endsL sets)) i) := by
  intro s hs
  have up := risI_up (endsL sets)
  have key : mem s y ↔ mem s (rd (risI (endsL sets)) i) := by
    constructor
    · rintro ⟨x, hx, a, b⟩
      obtain ⟨e0, e1⟩ := ends_mem hs hx
      obtain ⟨j, hj, ej⟩ := rd_at e0
      obtain ⟨k, hk, ek⟩ := rd_at e1
      refine ⟨x, hx, ?_, ?_⟩
      · rw [ej]
        refine rd_le up ?_ (by omega)
        rcases Nat.lt_or_ge i j with h | h
        · exfalso
          have := rd_le up (show i + 1 ≤ j by omega) hj
          omega
        · exact h
      · have : i < k := by
          rcases Nat.lt_or_ge i k with h | h
          · exact h
          · exfalso
            have := rd_le up h (by omega)
            omega
        have := rd_le up (show i + 1 ≤ k by omega) hk
        omega
    · rintro ⟨x, hx, a, b⟩
      obtain ⟨e0, e1⟩ := ends_mem hs hx
      obtain ⟨k, hk, ek⟩ := rd_at e1
      have : i < k := by
        rcases Nat.lt_or_ge i k with h | h
        · exact h
        · exfalso
          have := rd_le up h (by omega)
          omega
      have := rd_le up (show i + 1 ≤ k by omega) hk
      exact ⟨x, hx, by omega, by omega⟩
  rw [Bool.eq_iff_iff, hasP_iff, hasP_iff, key]
  constructor
  · rintro ⟨_, h⟩; exact ⟨(hn s hs).scal h, h⟩
  · rintro ⟨_, h⟩; exact ⟨(hn s hs).scal (key.2 h), h⟩
theorem out_none {sets : List (List S42)} {y : Int} (h : someP sets y = true) : ∃ i, i + 1 < (risI (endsL sets)).length ∧ rd (risI (endsL sets)) i ≤ y ∧ y < rd (risI (endsL sets)) (i + 1 : Nat) := by
  obtain ⟨s, hs, hh⟩ := List.any_eq_true.1 h
  obtain ⟨_, x, hx, a, b⟩ := (hasP_iff s y).1 hh
  obtain ⟨e0, e1⟩ := ends_mem hs hx
  obtain ⟨j, hj, ej⟩ := rd_at e0
  obtain ⟨k, hk, ek⟩ := rd_at e1
  have up := risI_up (endsL sets)
  -- the last end that is not above y
  have key : ∀ d i : Nat, k - i = d → i < k → rd (risI (endsL sets)) i ≤ y → ∃ i, i + 1 < (risI (endsL sets)).length ∧ rd (risI (endsL sets)) i ≤ y ∧ y < rd (risI (endsL sets)) (i + 1 : Nat) := by
    intro d
    induction d with
    | zero => intro i hd hi _; omega
    | succ d ih =>
      intro i hd hi hle
      by_cases hn : y < rd (risI (endsL sets)) (i + 1 : Nat)
      · exact ⟨i, by omega, hle, hn⟩
      · have : i + 1 < k := by
          rcases Nat.lt_or_ge (i + 1) k with h | h
          · exact h
          · exfalso
            have e : i + 1 = k := by omega
            rw [e] at hn
            omega
        exact ih (i + 1) (by omega) this (by omega)
  refine key (k - j) j rfl ?_ (by omega)
  rcases Nat.lt_or_ge j k with h | h
  · exact h
  · exfalso
    have := rd_le up h hj
    omega
end
section
open Go.RowKit Go.Shelf Go.Proofs.YtgpkhnkppkepnaaW.PrintWords Go.Proofs.YtgpkhnkppkepnaaW.PrintLast Go.Proofs.YtgpkhnkppkepnaaW.PrintMore
def CovE (es : List Int) (i : Nat) (y : Int) : Prop := ∃ j, j < i ∧ rd es (j : Nat) ≤ y ∧ y < rd es (j + 1 : Nat)
theorem cov_succ (es : List Int) (i : Nat) (y : Int) : CovE es (i + 1) y ↔ CovE es i y ∨ (rd es (i : Nat) ≤ y ∧ y < rd es (i + 1 : Nat)) := by
  constructor
  · rintro ⟨j, hj, h⟩
    rcases Nat.lt_or_eq_of_le (Nat.le_of_lt_succ hj) with h1 | rfl
    · exact .inl ⟨j, h1, h⟩
    · exact .inr h
  · rintro (⟨j, hj, h⟩ | h)
    · exact ⟨j, by omega, h⟩
    · exact ⟨i, by omega, h⟩
theorem cov_lt {es : List Int} (up : es.Pairwise (· < ·)) {i : Nat} (hi : i < es.length) {y : Int} (h : CovE es i y) : y < rd es (i : Nat) := by
  obtain ⟨j, hj, h1, h2⟩ := h
  have := rd_le up (show j + 1 ≤ i by omega) hi
  omega
structure InvA (sets : List (List S42)) (es : List Int) (i : Nat) (out : PartA) : Prop where
  mems : ∀ (j : Nat) (p : ByteArray × List S42), out[j]? = some p → ∀ y, mem p.2 y ↔ (CovE es i y ∧ wdB sets y = p.1.data.toList)
  ne : ∀ (j : Nat) (p : ByteArray × List S42), out[j]? = some p → p.1.data.toList ≠ []
  nodup : (keysA out).Nodup
  all : ∀ y, CovE es i y → wdB sets y ≠ [] → wdB sets y ∈ keysA out
  low : ∀ (j : Nat) (p : ByteArray × List S42), out[j]? = some p → ∃ a, Least p.2 a ∧ a < rd es (i : Nat)
  up : ∀ (j k : Nat) (p q : ByteArray × List S42), j < k → out[j]? = some p → out[k]? = some q → ∀ a b, Least p.2 a → Least q.2 b → a < b
theorem key_at {out : PartA} {j : Nat} {p : ByteArray × List S42} (h : out[j]? = some p) : (keysA out)[j]? = some p.1.data.toList := by
  unfold keysA; rw [List.getElem?_map, h]; rfl
theorem at_key {out : PartA} {j : Nat} {s : List UInt8} (h : (keysA out)[j]? = some s) : ∃ p, out[j]? = some p ∧ p.1.data.toList = s := by
  unfold keysA at h
  rw [List.getElem?_map] at h
  obtain ⟨p, hp, e⟩ := Option.map_eq_some_iff.1 h
  exact ⟨p, hp, e⟩
theorem row_at {out : PartA} {j : Nat} {p : ByteArray × List S42} (h : out[j]? = some p) : (rowsA out).getD j [] = p.2 := by
  unfold rowsA; rw [List.getD_eq_getElem?_getD, List.getElem?_map, h]; rfl
theorem nodup_at {l : List (List UInt8)} (h : l.Nodup) {i j : Nat} {s : List UInt8} (hi : l[i]? = some s) (hj : l[j]? = some s) : i = j := by
  obtain ⟨hi1, hi2⟩ := List.getElem?_eq_some_iff.1 hi
  obtain ⟨hj1, hj2⟩ := List.getElem?_eq_some_iff.1 hj
  have hp := List.pairwise_iff_getElem.1 h
  rcases Nat.lt_trichotomy i j with h1 | h1 | h1
  · exact absurd (hi2.trans hj2.symm) (hp i j hi1 hj1 h1)
  · exact h1
  · exact absurd (hj2.trans hi2.symm) (hp j i hj1 hi1 h1)
theorem wordP_congr {sets : List (List S42)} {x y : Int} (h : ∀ s ∈ sets, hasP s y = hasP s x) : wdB sets y = wdB sets x := by
  have h1 : wordN sets y = wordN sets x := word_of_has h
  have h2 : someP sets y = someP sets x := some_word _ _ _ h1
  unfold wdB wordP
  unfold someP at h2
  rw [h1, h2]
theorem mem_span (a b y : Int) : mem [(⟨a, b - 1⟩ : S42)] y ↔ a ≤ y ∧ y < b := by rw [mem_one]; simp only; omega
theorem inv_zero (sets : List (List S42)) (es : List Int) : InvA sets es 0 [] where
  mems := fun j p h => by simp at h
  ne := fun j p h => by simp at h
  nodup := List.nodup_nil
  all := fun y ⟨j, hj, _⟩ => by omega
  low := fun j p h => by simp at h
  up := fun j k p q _ h => by simp at h
theorem inv_step {sets : List (List S42)} {es : List Int} {i : Nat} {out : PartA} (hes : es.Pairwise (· < ·)) (hi : i + 1 < es.length) (hc : ∀ y, rd es (i : Nat) ≤ y → y < rd es (i + 1 : Nat) → wdB sets y = wdB sets (rd es (i : Nat))) (h : InvA sets es i out) :
    InvA sets es (i + 1) (stepA out (wordP sets (rd es (i : Nat))) ⟨rd es (i : Nat), rd es (i + 1 : Nat) - 1⟩) := by
  have hlt := rd_lt hes (show i < i + 1 by omega) hi
  obtain ⟨e0, he0⟩ : ∃ e0, rd es (i : Nat) = e0 := ⟨_, rfl⟩
  obtain ⟨e1, he1⟩ : ∃ e1, rd es (i + 1 : Nat) = e1 := ⟨_, rfl⟩
  have hcs := cov_succ es i
  have hcl : ∀ y, CovE es i y → y < e0 := fun y hy => by have := cov_lt hes (show i < es.length by omega) hy; rwa [he0] at this
  have low := h.low
  rw [he0] at low
  rw [he0, he1] at hcs hc hlt ⊢
  by_cases hw : (wordP sets e0).data.toList = []
  · rw [stepA_nil hw]
    have hno : ∀ y, e0 ≤ y ∧ y < e1 → wdB sets y = [] := fun y hy => (hc y hy.1 hy.2).trans hw
    refine ⟨fun j p hp y => ?_, h.ne, h.nodup, fun y hy hne => ?_, fun j p hp => ?_, h.up⟩
    · rw [h.mems j p hp y, hcs]
      constructor
      · rintro ⟨a, b⟩; exact ⟨.inl a, b⟩
      · rintro ⟨a | a, b⟩
        · exact ⟨a, b⟩
        · exact absurd (b.symm.trans (hno y a)) (h.ne j p hp)
    · rcases (hcs y).1 hy with a | a
      · exact h.all y a hne
      · exact absurd (hno y a) hne
    · obtain ⟨a, ha, hb⟩ := low j p hp
      exact ⟨a, ha, by rw [he1]; omega⟩
  · have hwd : ∀ y, e0 ≤ y ∧ y < e1 → wdB sets y = (wordP sets e0).data.toList := fun y hy => hc y hy.1 hy.2
    cases hf : (keysA out).findIdx? (· == (wordP sets e0).data.toList) with
    | some k =>
      rw [stepA_old hw hf]
      rw [List.findIdx?_eq_some_iff_getElem] at hf
      obtain ⟨hkl, hke, _⟩ := hf
      have hk : (keysA out)[k]? = some (wordP sets e0).data.toList := by
        rw [List.getElem?_eq_getElem hkl]; congr 1; simpa using hke
      obtain ⟨q, hq, hqe⟩ := at_key hk
      rw [row_at hq]
      have hko : k < out.length := (List.getElem?_eq_some_iff.1 hq).1
      have hget : ∀ (j : Nat) (p : ByteArray × List S42), (out.set k (wordP sets e0, q.2 ++ [⟨e0, e1 - 1⟩]))[j]? = some p → (j = k ∧ p = (wordP sets e0, q.2 ++ [⟨e0, e1 - 1⟩])) ∨ (j ≠ k ∧ out[j]? = some p) := fun j p hp => by
        by_cases e : j = k
        · subst e
          rw [List.getElem?_set_self hko] at hp
          exact .inl ⟨rfl, (Option.some.inj hp).symm⟩
        · rw [List.getElem?_set_ne (fun x => e x.symm)] at hp
          exact .inr ⟨e, hp⟩
      have hmq : ∀ y, mem (q.2 ++ [(⟨e0, e1 - 1⟩ : S42)]) y ↔ mem q.2 y ∨ (e0 ≤ y ∧ y < e1) := fun y => by rw [mem_append, mem_span]
      have hleast : ∀ a, Least (q.2 ++ [(⟨e0, e1 - 1⟩ : S42)]) a → Least q.2 a := fun a ha => by
        obtain ⟨c, hc1, hc2⟩ := low k q hq
        have hac : a ≤ c := ha.2 c ((hmq c).2 (.inl hc1.1))
        refine ⟨?_, fun y hy => ha.2 y ((hmq y).2 (.inl hy))⟩
        rcases (hmq a).1 ha.1 with h1 | h1
        · exact h1
        · omega
      refine ⟨fun j p hp y => ?_, fun j p hp => ?_, ?_, fun y hy hne => ?_, fun j p hp => ?_, fun j m p p' hjm hp hp' a b ha hb => ?_⟩
      · rcases hget j p hp with ⟨rfl, rfl⟩ | ⟨hjk, hp⟩
        · simp only
          rw [hmq, h.mems j q hq y, hqe, hcs]
          constructor
          · rintro (⟨a, b⟩ | a)
            · exact ⟨.inl a, b⟩
            · exact ⟨.inr a, hwd y a⟩
          · rintro ⟨a | a, b⟩
            · exact .inl ⟨a, b⟩
            · exact .inr a
        · rw [h.mems j p hp y, hcs]
          constructor
          · rintro ⟨a, b⟩; exact ⟨.inl a, b⟩
          · rintro ⟨a | a, b⟩
            · exact ⟨a, b⟩
            · exfalso
              have := (hwd y a).symm.trans b
              exact hjk (nodup_at h.nodup ((key_at hp).trans (by rw [← this])) hk)
      · rcases hget j p hp with ⟨rfl, rfl⟩ | ⟨hjk, hp⟩
        · exact hw
        · exact h.ne j p hp
      · rw [keysA_set hk]; exact h.nodup
      · rw [keysA_set hk]
        rcases (hcs y).1 hy with a | a
        · exact h.all y a hne
        · rw [hwd y a]; exact List.mem_of_getElem? hk
      · rcases hget j p hp with ⟨rfl, rfl⟩ | ⟨hjk, hp⟩
        · obtain ⟨c, hc1, hc2⟩ := low j q hq
          refine ⟨c, ⟨(hmq c).2 (.inl hc1.1), fun y hy => ?_⟩, by rw [he1]; omega⟩
          rcases (hmq y).1 hy with h1 | h1
          · exact hc1.2 y h1
          · omega
        · obtain ⟨a, ha, hb⟩ := low j p hp
          exact ⟨a, ha, by rw [he1]; omega⟩
      · have g1 : ∃ p0, out[j]? = some p0 ∧ Least p0.2 a := by
          rcases hget j p hp with ⟨rfl, rfl⟩ | ⟨_, hp⟩
          · exact ⟨q, hq, hleast a ha⟩
          · exact ⟨p, hp, ha⟩
        have g2 : ∃ p0, out[m]? = some p0 ∧ Least p0.2 b := by
          rcases hget m p' hp' with ⟨rfl, rfl⟩ | ⟨_, hp⟩
          · exact ⟨q, hq, hleast b hb⟩
          · exact ⟨p', hp, hb⟩
        obtain ⟨p1, h1, l1⟩ := g1
        obtain ⟨p2, h2, l2⟩ := g2
        exact h.up j m p1 p2 hjm h1 h2 a b l1 l2
    | none =>
      rw [stepA_new hw hf]
      rw [List.findIdx?_eq_none_iff] at hf
      have hnk : (wordP sets e0).data.toList ∉ keysA out := fun hm => by have := hf _ hm; simp at this
      have hget : ∀ (j : Nat) (p : ByteArray × List S42), (out ++ [(wordP sets e0, [⟨e0, e1 - 1⟩])])[j]? = some p → (j = out.length ∧ p = (wordP sets e0, [⟨e0, e1 - 1⟩])) ∨ (j < out.length ∧ out[j]? = some p) := fun j p hp => by
        rcases Nat.lt_or_ge j out.length with h1 | h1
        · rw [List.getElem?_append_left h1] at hp
          exact .inr ⟨h1, hp⟩
        · have hjl : j = out.length := by have := (List.getElem?_eq_some_iff.1 hp).1; simp at this; omega
          subst hjl
          exact .inl ⟨rfl, by simpa using hp.symm⟩
      have hl0 : Least [(⟨e0, e1 - 1⟩ : S42)] e0 := ⟨(mem_span e0 e1 e0).2 ⟨Int.le_refl _, hlt⟩, fun y hy => ((mem_span e0 e1 y).1 hy).1⟩
      refine ⟨fun j p hp y => ?_, fun j p hp => ?_, ?_, fun y hy hne => ?_, fun j p hp => ?_, fun j m p p' hjm hp hp' a b ha hb => ?_⟩
      · rcases hget j p hp with ⟨rfl, rfl⟩ | ⟨hjk, hp⟩
        · simp only
          rw [mem_span, hcs]
          constructor
          · intro a; exact ⟨.inr a, hwd y a⟩
          · rintro ⟨a | a, b⟩
            · exfalso
              have := h.all y a (by rw [b]; exact hw)
              rw [b] at this
              exact hnk this
            · exact a
        · rw [h.mems j p hp y, hcs]
          constructor
          · rintro ⟨a, b⟩; exact ⟨.inl a, b⟩
          · rintro ⟨a | a, b⟩
            · exact ⟨a, b⟩
            · exfalso
              have := (hwd y a).symm.trans b
              exact hnk (this ▸ List.mem_of_getElem? (key_at hp))
      · rcases hget j p hp with ⟨rfl, rfl⟩ | ⟨hjk, hp⟩
        · exact hw
        · exact h.ne j p hp
      · rw [keysA_snoc]
        refine List.nodup_append.2 ⟨h.nodup, by simp, fun a ha b hb e => ?_⟩
        rw [List.mem_singleton] at hb
        subst hb
        subst e
        exact hnk ha
      · rw [keysA_snoc]
        rcases (hcs y).1 hy with a | a
        · exact List.mem_append_left _ (h.all y a hne)
        · rw [hwd y a]; exact List.mem_append_right _ (List.mem_singleton.2 rfl)
      · rcases hget j p hp with ⟨rfl, rfl⟩ | ⟨hjk, hp⟩
        · exact ⟨e0, hl0, by rw [he1]; omega⟩
        · obtain ⟨a, ha, hb⟩ := low j p hp
          exact ⟨a, ha, by rw [he1]; omega⟩
      · rcases hget m p' hp' with ⟨rfl, rfl⟩ | ⟨hm, hp'⟩
        · rcases hget j p hp with ⟨e, _⟩ | ⟨_, hp⟩
          · omega
          · obtain ⟨c, hc1, hc2⟩ := low j p hp
            have e1 : a = c := ha.one hc1
            have e2 : b = e0 := hb.one hl0
            omega
        · rcases hget j p hp with ⟨e, _⟩ | ⟨_, hp⟩
          · omega
          · exact h.up j m p p' hjm hp hp' a b ha hb
theorem setsA_nf (l : List (List S42)) : ∀ s ∈ setsA l, Nf s := by
  intro s hs
  obtain ⟨t, _, rfl⟩ := List.mem_map.1 hs
  exact normP_nf t
theorem inv_all (l : List (List S42)) : ∀ i, i + 1 ≤ (edgesA l).length ∨ i = 0 → InvA (setsA l) (edgesA l) i (accA (setsA l) (edgesA l) i)
  | 0, _ => inv_zero _ _
  | i + 1, h => inv_step (risI_up _) (by omega) (fun y h0 h1 => wordP_congr (word_const (setsA_nf l) (by show i + 1 < (edgesA l).length; omega) h0 h1)) (inv_all l i (by omega))
/-- terms.Of makes the parts. -/
theorem parts_is (l : List (List S42)) : IsParts l (partsA l) := by
  obtain ⟨n, hn⟩ : ∃ n, (edgesA l).length - 1 = n := ⟨_, rfl⟩
  have hi := inv_all l n (by omega)
  unfold partsA
  rw [hn]
  obtain ⟨out, hout⟩ : ∃ out, accA (setsA l) (edgesA l) n = out := ⟨_, rfl⟩
  rw [hout] at hi ⊢
  -- who is in some set lies between two ends
  have hcov : ∀ y, someP l y = true → CovE (edgesA l) n y := fun y hy => by
    rw [← someP_sets] at hy
    obtain ⟨i, h1, h2, h3⟩ := out_none hy
    change i + 1 < (edgesA l).length at h1
    exact ⟨i, by omega, h2, h3⟩
  have hmem : ∀ (j : Nat) (p : ByteArray × List S42), out[j]? = some p → ∀ y, mem (normP p.2) y ↔ wdB (setsA l) y = p.1.data.toList := fun j p hp y => by
    rw [normP_mem, hi.mems j p hp y]
    constructor
    · rintro ⟨_, _, h⟩; exact h
    · intro h
      have hs : someP (setsA l) y = true := by
        cases hs : someP (setsA l) y with
        | true => rfl
        | false => rw [(wdB_nil _ _).2 hs] at h; exact absurd h.symm (hi.ne j p hp)
      exact ⟨some_scal hs, hcov y (by rw [← someP_sets]; exact hs), h⟩
  have hrow : ∀ q ∈ (rowsA out).map normP, ∃ (j : Nat) (p : ByteArray × List S42), out[j]? = some p ∧ q = normP p.2 := fun q hq => by
    obtain ⟨r, hr, rfl⟩ := List.mem_map.1 hq
    obtain ⟨p, hp, rfl⟩ := List.mem_map.1 hr
    obtain ⟨j, hj, e⟩ := List.mem_iff_getElem.1 hp
    exact ⟨j, p, by rw [List.getElem?_eq_getElem hj, e], rfl⟩
  have hmm : ∀ (j : Nat) (p : ByteArray × List S42), out[j]? = some p → ∀ y, mem (normP p.2) y ↔ mem p.2 y := fun j p hp y => by
    rw [normP_mem]
    refine ⟨fun h => h.2, fun h => ⟨?_, h⟩⟩
    have := (hmem j p hp y).2 ((hi.mems j p hp y).1 h).2
    exact (normP_nf p.2).scal this
  refine ⟨fun q hq => ?_, fun q hq => ?_, fun x hx => ?_, ?_⟩
  · obtain ⟨j, p, hp, rfl⟩ := hrow q hq
    exact normP_nf _
  · obtain ⟨j, p, hp, rfl⟩ := hrow q hq
    obtain ⟨a, ha, _⟩ := hi.low j p hp
    have hx := (hmm j p hp a).2 ha.1
    have hw := (hmem j p hp a).1 hx
    have hs : someP (setsA l) a = true := by
      cases hs : someP (setsA l) a with
      | true => rfl
      | false => rw [(wdB_nil _ _).2 hs] at hw; exact absurd hw.symm (hi.ne j p hp)
    refine ⟨a, hx, by rw [← someP_sets]; exact hs, fun y => ?_⟩
    rw [hmem j p hp y, ← hw, wdB_eq hs, wordN_sets, wordN_sets]
  · have hs : someP (setsA l) x = true := by rw [someP_sets]; exact hx
    have hne : wdB (setsA l) x ≠ [] := fun e => by rw [(wdB_nil _ _).1 e] at hs; cases hs
    have hk := hi.all x (hcov x hx) hne
    obtain ⟨j, hj, e⟩ := List.mem_iff_getElem.1 hk
    obtain ⟨p, hp, hpe⟩ := at_key (show (keysA out)[j]? = some _ by rw [List.getElem?_eq_getElem hj, e])
    exact ⟨normP p.2, List.mem_map.2 ⟨p.2, List.mem_map.2 ⟨p, List.mem_of_getElem? hp, rfl⟩, rfl⟩, (hmem j p hp x).2 hpe.symm⟩
  · rw [List.pairwise_iff_getElem]
    intro i j hi1 hj1 hij a b ha hb
    have hli : i < out.length := by simpa [rowsA] using hi1
    have hlj : j < out.length := by simpa [rowsA] using hj1
    have e1 : ((rowsA out).map normP)[i] = normP (out[i]).2 := by simp [rowsA]
    have e2 : ((rowsA out).map normP)[j] = normP (out[j]).2 := by simp [rowsA]
    rw [e1] at ha
    rw [e2] at hb
    have p1 : out[i]? = some out[i] := List.getElem?_eq_getElem hli
    have p2 : out[j]? = some out[j] := List.getElem?_eq_getElem hlj
    refine hi.up i j _ _ hij p1 p2 a b ⟨(hmm i _ p1 a).1 ha.1, fun y hy => ha.2 y ((hmm i _ p1 y).2 hy)⟩ ⟨(hmm j _ p2 b).1 hb.1, fun y hy => hb.2 y ((hmm j _ p2 y).2 hy)⟩
end
section
open Go.RowKit Go.Shelf Go.Proofs.YtgpkhnkppkepnaaW.PrintWords Go.Proofs.YtgpkhnkppkepnaaW.PrintLast Go.Proofs.YtgpkhnkppkepnaaW.PrintMore
/-- Parts in whatever order, no two of which have anything in common. -/
structure IsPartsU (l ps : List (List S42)) : Prop where
  nf : ∀ p ∈ ps, Nf p
  cls : ∀ p ∈ ps, ∃ x, mem p x ∧ someP l x = true ∧ ∀ y, mem p y ↔ (Scal y ∧ wordN l y = wordN l x)
  all : ∀ x, someP l x = true → ∃ p ∈ ps, mem p x
  disj : ps.Pairwise fun p q => ∀ y, mem p y → ¬ mem q y
def neP (x : List S42) : List (List S42) := if x = [] then [] else [x]
theorem mem_neP {x q : List S42} (h : q ∈ neP x) : q = x ∧ x ≠ [] := by
  unfold neP at h
  split at h
  · simp at h
  · rename_i hn; exact ⟨List.mem_singleton.1 h, hn⟩
theorem neP_mem {x : List S42} {y : Int} (h : mem x y) : x ∈ neP x := by
  unfold neP
  rw [if_neg (fun e => by rw [e] at h; exact mem_nil y h)]
  exact List.mem_singleton.2 rfl
def cutP (s p : List S42) : List (List S42) := neP (interP p s) ++ neP (interP p (notP s))
def nextP (out : List (List S42)) (rest s : List S42) : List (List S42) := out.flatMap (cutP s) ++ neP (interP rest s)
def IsRest (l : List (List S42)) (rest : List S42) : Prop := ∀ y, Scal y → (mem rest y ↔ someP l y = false)
theorem someP_snoc (l : List (List S42)) (s : List S42) (y : Int) : someP (l ++ [s]) y = (someP l y || hasP s y) := by unfold someP; rw [List.any_append]; simp
theorem wordN_snoc (l : List (List S42)) (s : List S42) (y : Int) : wordN (l ++ [s]) y = wordN l y ++ [if hasP s y then 1 else 0] := by unfold wordN; rw [List.map_append]; rfl
theorem wordN_len (l : List (List S42)) (y : Int) : (wordN l y).length = l.length := by simp [wordN]
theorem wordN_snoc_eq (l : List (List S42)) (s : List S42) (x y : Int) : wordN (l ++ [s]) y = wordN (l ++ [s]) x ↔ wordN l y = wordN l x ∧ hasP s y = hasP s x := by
  rw [wordN_snoc, wordN_snoc]
  constructor
  · intro h
    obtain ⟨h1, h2⟩ := List.append_inj h (by rw [wordN_len, wordN_len])
    refine ⟨h1, ?_⟩
    cases hx : hasP s x <;> cases hy : hasP s y <;> rw [hx, hy] at h2 <;> simp at h2 ⊢
  · rintro ⟨h1, h2⟩; rw [h1, h2]
theorem word_none {l : List (List S42)} {x y : Int} (hx : someP l x = false) (hy : someP l y = false) : wordN l x = wordN l y := by
  refine word_of_has fun s hs => ?_
  unfold someP at hx hy
  rw [List.any_eq_false] at hx hy
  have h1 := hx s hs
  have h2 := hy s hs
  simp at h1 h2
  rw [h1, h2]
theorem mem_inter2 (p s : List S42) (y : Int) : mem (interP p s) y ↔ (mem p y ∧ hasP s y = true) := by
  rw [mem_inter, hasP_iff]
  constructor
  · rintro ⟨a, b, c⟩; exact ⟨b, a, c⟩
  · rintro ⟨a, b, c⟩; exact ⟨b, a, c⟩
theorem mem_minus2 {p : List S42} (s : List S42) (y : Int) : mem (interP p (notP s)) y ↔ (Scal y ∧ mem p y ∧ hasP s y = false) := by
  rw [mem_inter, mem_not]
  cases h : hasP s y with
  | true => simp only [Bool.true_eq_false, and_false, iff_false]; rintro ⟨_, _, _, h2⟩; exact h2 ((hasP_iff s y).1 h).2
  | false =>
    constructor
    · rintro ⟨a, b, _⟩; exact ⟨a, b, rfl⟩
    · rintro ⟨a, b, _⟩; exact ⟨a, b, a, fun hm => by have := (hasP_iff s y).2 ⟨a, hm⟩; rw [h] at this; cases this⟩
theorem nf_mem {p : List S42} (h : Nf p) (hne : p ≠ []) : ∃ x, mem p x := by
  cases p with
  | nil => exact absurd rfl hne
  | cons s t =>
    have := h.1 s List.mem_cons_self
    unfold Ok at this
    exact ⟨s.f0, s, List.mem_cons_self, Int.le_refl _, this.1⟩
theorem cutP_mem {s p q : List S42} (hp : Nf p) (h : q ∈ cutP s p) : Nf q ∧ ∃ b, ∃ x, mem q x ∧ ∀ y, mem q y ↔ (mem p y ∧ hasP s y = b) := by
  unfold cutP at h
  rcases List.mem_append.1 h with h | h
  · obtain ⟨rfl, hne⟩ := mem_neP h
    have hn := (is_inter p s).1
    obtain ⟨x, hx⟩ := nf_mem hn hne
    exact ⟨hn, true, x, hx, mem_inter2 p s⟩
  · obtain ⟨rfl, hne⟩ := mem_neP h
    have hn := (is_inter p (notP s)).1
    obtain ⟨x, hx⟩ := nf_mem hn hne
    refine ⟨hn, false, x, hx, fun y => ?_⟩
    rw [mem_minus2]
    exact ⟨fun h => h.2, fun h => ⟨hp.scal h.1, h⟩⟩
theorem next_is {l out : List (List S42)} {rest : List S42} (s : List S42) (h : IsPartsU l out) (hr : IsRest l rest) : IsPartsU (l ++ [s]) (nextP out rest s) ∧ IsRest (l ++ [s]) (interP rest (notP s)) := by
  have hR : ∀ y, mem (interP rest s) y ↔ (Scal y ∧ someP l y = false ∧ hasP s y = true) := fun y => by
    rw [mem_inter2]
    constructor
    · rintro ⟨a, b⟩
      have hs := ((hasP_iff s y).1 b).1
      exact ⟨hs, (hr y hs).1 a, b⟩
    · rintro ⟨a, b, c⟩; exact ⟨(hr y a).2 b, c⟩
  have hnf : Nf (interP rest s) := (is_inter rest s).1
  refine ⟨⟨fun q hq => ?_, fun q hq => ?_, fun x hx => ?_, ?_⟩, fun y hy => ?_⟩
  · rcases List.mem_append.1 hq with hq | hq
    · obtain ⟨p, hp, hq⟩ := List.mem_flatMap.1 hq
      exact (cutP_mem (h.nf p hp) hq).1
    · obtain ⟨rfl, _⟩ := mem_neP hq; exact hnf
  · rcases List.mem_append.1 hq with hq | hq
    · obtain ⟨p, hp, hq⟩ := List.mem_flatMap.1 hq
      obtain ⟨hn, b, x, hx, hm⟩ := cutP_mem (h.nf p hp) hq
      obtain ⟨x0, _, hs0, hc0⟩ := h.cls p hp
      obtain ⟨hpx, hbx⟩ := (hm x).1 hx
      obtain ⟨_, hwx⟩ := (hc0 x).1 hpx
      refine ⟨x, hx, ?_, fun y => ?_⟩
      · rw [someP_snoc, some_word l x x0 hwx, hs0]; rfl
      · rw [hm y, hc0 y, wordN_snoc_eq, hwx, hbx]
        constructor
        · rintro ⟨⟨a, c⟩, d⟩; exact ⟨a, c, d⟩
        · rintro ⟨a, c, d⟩; exact ⟨⟨a, c⟩, d⟩
    · obtain ⟨rfl, hne⟩ := mem_neP hq
      obtain ⟨x, hx⟩ := nf_mem hnf hne
      obtain ⟨a, b, c⟩ := (hR x).1 hx
      refine ⟨x, hx, by rw [someP_snoc, c, Bool.or_true], fun y => ?_⟩
      rw [hR y, wordN_snoc_eq, c]
      constructor
      · rintro ⟨d, e, f⟩; exact ⟨d, word_none e b, f⟩
      · rintro ⟨d, e, f⟩; exact ⟨d, by rw [some_word l y x e]; exact b, f⟩
  · rw [someP_snoc] at hx
    cases hl : someP l x with
    | true =>
      obtain ⟨p, hp, hpx⟩ := h.all x hl
      cases hs : hasP s x with
      | true =>
        have hm : mem (interP p s) x := (mem_inter2 p s x).2 ⟨hpx, hs⟩
        exact ⟨_, List.mem_append_left _ (List.mem_flatMap.2 ⟨p, hp, List.mem_append_left _ (neP_mem hm)⟩), hm⟩
      | false =>
        have hm : mem (interP p (notP s)) x := (mem_minus2 s x).2 ⟨some_scal hl, hpx, hs⟩
        exact ⟨_, List.mem_append_left _ (List.mem_flatMap.2 ⟨p, hp, List.mem_append_right _ (neP_mem hm)⟩), hm⟩
    | false =>
      rw [hl, Bool.false_or] at hx
      have hm := (hR x).2 ⟨((hasP_iff s x).1 hx).1, hl, hx⟩
      exact ⟨_, List.mem_append_right _ (neP_mem hm), hm⟩
  · refine List.pairwise_append.2 ⟨?_, ?_, fun q hq q' hq' y hy hy' => ?_⟩
    · rw [List.pairwise_flatMap]
      refine ⟨fun p hp => ?_, h.disj.imp_of_mem fun {p p'} hp hp' hd q hq q' hq' y hy hy' => ?_⟩
      · unfold cutP
        refine List.pairwise_append.2 ⟨?_, ?_, fun q hq q' hq' y hy hy' => ?_⟩
        · unfold neP; split <;> simp
        · unfold neP; split <;> simp
        · obtain ⟨rfl, _⟩ := mem_neP hq
          obtain ⟨rfl, _⟩ := mem_neP hq'
          have h1 := ((mem_inter2 p s y).1 hy).2
          have h2 := ((mem_minus2 s y).1 hy').2.2
          rw [h1] at h2; cases h2
      · obtain ⟨_, _, _, _, hm⟩ := cutP_mem (h.nf p hp) hq
        obtain ⟨_, _, _, _, hm'⟩ := cutP_mem (h.nf p' hp') hq'
        exact hd y ((hm y).1 hy).1 ((hm' y).1 hy').1
    · unfold neP; split <;> simp
    · obtain ⟨p, hp, hq⟩ := List.mem_flatMap.1 hq
      obtain ⟨_, _, _, _, hm⟩ := cutP_mem (h.nf p hp) hq
      obtain ⟨rfl, _⟩ := mem_neP hq'
      obtain ⟨x0, _, hs0, hc0⟩ := h.cls p hp
      have h1 := some_word l y x0 ((hc0 y).1 ((hm y).1 hy).1).2
      rw [((hR y).1 hy').2.1, hs0] at h1
      cases h1
  · rw [mem_minus2, someP_snoc, hr y hy]
    constructor
    · rintro ⟨_, a, b⟩; rw [a, b]; rfl
    · intro h
      rw [Bool.or_eq_false_iff] at h
      exact ⟨hy, h.1, h.2⟩
def loP (p : List S42) : Int := (rd_T42 p 0).f0
theorem least_lo {p : List S42} (h : Nf p) {x : Int} (hx : mem p x) : Least p (loP p) := by
  obtain ⟨s, t, rfl, hl⟩ := nf_least h hx
  exact hl
def insS (x : List S42) (out : List (List S42)) : List (List S42) := out.takeWhile (fun p => decide (loP p < loP x)) ++ [x] ++ out.dropWhile (fun p => decide (loP p < loP x))
def sortS (l : List (List S42)) : List (List S42) := l.foldl (fun out x => insS x out) []
theorem insS_perm (x : List S42) (out : List (List S42)) : (insS x out).Perm (x :: out) := by
  unfold insS
  rw [List.append_assoc]
  refine List.perm_middle.trans (List.Perm.cons x ?_)
  show (out.takeWhile (fun p => decide (loP p < loP x)) ++ out.dropWhile (fun p => decide (loP p < loP x))).Perm out
  rw [List.takeWhile_append_dropWhile]
theorem insS_sorted {x : List S42} {out : List (List S42)} (h : out.Pairwise fun p q => loP p ≤ loP q) : (insS x out).Pairwise fun p q => loP p ≤ loP q := by
  have hh : out.takeWhile (fun p => decide (loP p < loP x)) ++ out.dropWhile (fun p => decide (loP p < loP x)) = out := List.takeWhile_append_dropWhile
  have h' := h
  rw [← hh] at h'
  obtain ⟨h1, h2, h3⟩ := List.pairwise_append.1 h'
  have ht : ∀ p ∈ out.takeWhile (fun p => decide (loP p < loP x)), loP p < loP x := fun p hp => by simpa using List.all_eq_true.1 (List.all_takeWhile (p := fun p => decide (loP p < loP x)) (l := out)) p hp
  have hd : ∀ p ∈ out.dropWhile (fun p => decide (loP p < loP x)), loP x ≤ loP p := by
    cases hq : out.dropWhile (fun p => decide (loP p < loP x)) with
    | nil => intro p hp; simp at hp
    | cons q qs =>
      have hq0 : ¬ loP q < loP x := by
        have := List.head?_dropWhile_not (fun p => decide (loP p < loP x)) out
        rw [hq] at this
        simpa using this
      rw [hq] at h2
      intro p hp
      rcases List.mem_cons.1 hp with rfl | hp
      · omega
      · have := (List.pairwise_cons.1 h2).1 p hp; omega
  unfold insS
  rw [List.append_assoc]
  refine List.pairwise_append.2 ⟨h1, ?_, fun p hp q hq => ?_⟩
  · rw [List.singleton_append]
    exact List.pairwise_cons.2 ⟨hd, h2⟩
  · rw [List.singleton_append] at hq
    rcases List.mem_cons.1 hq with rfl | hq
    · exact Int.le_of_lt (ht p hp)
    · exact h3 p hp q hq
theorem sortS_at : ∀ (l out : List (List S42)), out.Pairwise (fun p q => loP p ≤ loP q) → (l.foldl (fun out x => insS x out) out).Perm (out ++ l) ∧ (l.foldl (fun out x => insS x out) out).Pairwise fun p q => loP p ≤ loP q
  | [], out, h => by rw [List.append_nil]; exact ⟨List.Perm.refl _, h⟩
  | x :: l, out, h => by
    obtain ⟨h1, h2⟩ := sortS_at l (insS x out) (insS_sorted h)
    refine ⟨h1.trans ?_, h2⟩
    exact ((insS_perm x out).append_right l).trans List.perm_middle.symm
theorem sortS_perm (l : List (List S42)) : (sortS l).Perm l := (sortS_at l [] List.Pairwise.nil).1
theorem sortS_sorted (l : List (List S42)) : (sortS l).Pairwise fun p q => loP p ≤ loP q := (sortS_at l [] List.Pairwise.nil).2
theorem sorted_is {l ps : List (List S42)} (h : IsPartsU l ps) : IsParts l (sortS ps) := by
  have hp := sortS_perm ps
  have hm : ∀ p ∈ sortS ps, p ∈ ps := fun p hq => hp.mem_iff.1 hq
  have hd : (sortS ps).Pairwise fun p q => ∀ y, mem p y → ¬ mem q y := hp.symm.pairwise h.disj (fun {a b} hab y hb ha => hab y ha hb)
  refine ⟨fun p hq => h.nf p (hm p hq), fun p hq => h.cls p (hm p hq), fun x hx => ?_, ?_⟩
  · obtain ⟨p, hq, hx⟩ := h.all x hx
    exact ⟨p, hp.mem_iff.2 hq, hx⟩
  · refine ((sortS_sorted ps).and hd).imp_of_mem fun {p q} hpp hqq hpq a b ha hb => ?_
    obtain ⟨h1, h2⟩ := hpq
    have e1 := ha.one (least_lo (h.nf p (hm p hpp)) ha.1)
    have e2 := hb.one (least_lo (h.nf q (hm q hqq)) hb.1)
    have hne : a ≠ b := fun e => h2 a ha.1 (e ▸ hb.1)
    omega
/-- The reference's rounds. -/
def refAt : List (List S42) → List (List S42) → List S42 → List (List S42)
  | [], out, _ => out
  | s :: l, out, rest => refAt l (nextP out rest s) (interP rest (notP s))
theorem refAt_is : ∀ (l done out : List (List S42)) (rest : List S42), IsPartsU done out → IsRest done rest → IsPartsU (done ++ l) (refAt l out rest)
  | [], done, out, rest, h, _ => by rw [List.append_nil]; exact h
  | s :: l, done, out, rest, h, hr => by
    have hn := next_is s h hr
    have := refAt_is l (done ++ [s]) _ _ hn.1 hn.2
    rw [List.append_assoc] at this
    exact this
def allR : List S42 := [⟨0, 1114111⟩]
theorem start_is : IsPartsU [] [] ∧ IsRest [] allR := by
  refine ⟨⟨fun p h => by simp at h, fun p h => by simp at h, fun x h => by simp [someP] at h, List.Pairwise.nil⟩, fun y hy => ?_⟩
  unfold allR
  rw [mem_one]
  unfold Scal at hy
  simp [someP]
  omega
/-- The reference's parts are the program's. -/
theorem ref_parts_eq (l : List (List S42)) : sortS (refAt l [] allR) = partsA l := by
  have := refAt_is l [] [] allR start_is.1 start_is.2
  exact (sorted_is this).ext (parts_is l)
/-- How many they are, on the way. -/
theorem partsU_len {l ps : List (List S42)} (h : IsPartsU l ps) : ps.length ≤ 4 * l.flatten.length := by
  have h1 := (sorted_is h).ext (parts_is l)
  have h2 := (sortS_perm ps).length_eq
  rw [h1] at h2
  rw [← h2]
  unfold partsA
  rw [List.length_map, rowsA_length]
  have h3 := accA_len (setsA l) (edgesA l) ((edgesA l).length - 1)
  have h4 := edgesA_len l
  omega
end
end Go.Proofs.Ytgpkhnkppkepnaa.P
