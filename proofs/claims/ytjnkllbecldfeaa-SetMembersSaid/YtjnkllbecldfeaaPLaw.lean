/- What the laws' own helpers answer, and how many: the plain side. -/
import Derived.Test.YtjnkllbecldfeaaPSpec
namespace Go.Proofs.Ytjnkllbecldfeaa.P
set_option linter.unusedVariables false
set_option linter.unusedSimpArgs false
open Go.RowKit Go.Proofs.YtjnkllbecldfeaaW.PrintWords Go.Proofs.YtjnkllbecldfeaaW.PrintLast Go.Proofs.YtjnkllbecldfeaaW.PrintMore

theorem mem_norm_append (a b : List S27) : normP (normP a ++ b) = normP (a ++ b) := Nf.ext (normP_nf _) (normP_nf _) fun r => by
  rw [normP_mem, normP_mem, mem_append, mem_append, normP_mem]
  exact ⟨fun ⟨h1, h⟩ => ⟨h1, h.imp (fun h => h.2) id⟩, fun ⟨h1, h⟩ => ⟨h1, h.imp (fun h => ⟨h1, h⟩) id⟩⟩
theorem Wf.of_flatten {ll : List (List S27)} (h : ∀ l ∈ ll, Wf l) : Wf ll.flatten := fun s hs => by
  obtain ⟨l, hl, hs⟩ := List.mem_flatten.1 hs
  exact h l hl s hs
theorem len_of_flatten {ll : List (List S27)} {l : List S27} (h : l ∈ ll) : l.length ≤ ll.flatten.length := by
  obtain ⟨a, b, rfl⟩ := List.append_of_mem h
  simp
  omega
theorem take_flatten_len (ll : List (List S27)) (n : Nat) : (ll.take n).flatten.length ≤ ll.flatten.length := by
  have h : ll.flatten = (ll.take n).flatten ++ (ll.drop n).flatten := by rw [← List.flatten_append, List.take_append_drop]
  rw [h, List.length_append]; omega
theorem ref_union (ll : List (List S27)) (h1 : ll.flatten.length ≤ 20000) (h2 : ll.length ≤ 100000) (hw : ∀ l ∈ ll, Wf l) : Ev (fun k => glyphcutterref01_Union.f k ll) (normP ll.flatten) := by
  have l0 : ∀ (d n : Nat), ll.length - n = d → n ≤ ll.length → Ev (fun k => glyphcutterref01_Union.l0 k ll (normP (ll.take n).flatten) (n : Int)) (normP ll.flatten) := by
    intro d
    induction d with
    | zero =>
      intro n hd hn
      rw [List.take_of_length_le (by omega)]
      exact Ev.step (fun k => by rw [glyphcutterref01_Union.l0]) (Ev.neg (by omega) (Ev.now _))
    | succ d ih =>
      intro n hd hn
      have hlt : n < ll.length := by omega
      refine Ev.step (fun k => by rw [glyphcutterref01_Union.l0]) (Ev.pos (by omega) (Ev.pos (by omega) ?_))
      have hrd : rd_L2 ll (n : Int) = ll[n] := by
        unfold rd_L2
        rw [Int.toNat_natCast, List.getD_eq_getElem?_getD, List.getElem?_eq_getElem hlt]; rfl
      have hm : ll[n] ∈ ll := List.getElem_mem hlt
      have hl := len_of_flatten hm
      have hl2 := take_flatten_len ll n
      have hl3 := normP_len (ll.take n).flatten
      have hmk := ref_make 14 (normP (ll.take n).flatten) ll[n] (by omega) (by omega) (normP_nf _).wf (hw _ hm)
      rw [hrd, wrap_in (by omega) (by omega)]
      refine Ev.bind hmk ?_
      show Ev (fun k => glyphcutterref01_Union.l0 k ll (refP 14 (normP (ll.take n).flatten) ll[n]) _) _
      rw [refP_14, mem_norm_append]
      have ih1 := ih (n + 1) (by omega) (by omega)
      rw [take_snocL ll n hlt, List.getD_eq_getElem?_getD, List.getElem?_eq_getElem hlt] at ih1
      exact ih1
  have h0 := l0 _ 0 rfl (by omega)
  have e : normP ([] : List (List S27)).flatten = [] := normP_of_nf Nf.nil
  rw [List.take_zero, e] at h0
  exact h0

/-! ### the choices' spans -/
def U16 (c : List Int) : Prop := ∀ x ∈ c, 0 ≤ x ∧ x ≤ 65535
theorem law_place (a : Int) (h0 : 0 ≤ a) (h1 : a ≤ 65535) : ∃ v, glyphcutterlaw01_place.f a = some v ∧ 0 ≤ v ∧ v ≤ 1114111 := by
  unfold glyphcutterlaw01_place.f
  have e1 : Int.tdiv a 8 = a / 8 := Int.tdiv_eq_ediv_of_nonneg h0
  have e2 : IntKind.u16.wrap (Int.tdiv a 8) = a / 8 := by rw [e1]; simp [IntKind.wrap, IntKind.bits, IntKind.signed]; omega
  have e3 : wrap64 (a / 8) = a / 8 := wrap_in (by omega) (by omega)
  rw [e2, e3]
  have p : 0 ≤ a / 8 := by omega
  have t1 := Int.tmod_eq_emod_of_nonneg (b := 2080) p
  have t2 := Int.tmod_eq_emod_of_nonneg (b := 32) p
  have t3 := Int.tmod_eq_emod_of_nonneg (b := 48) p
  have t4 := Int.tmod_eq_emod_of_nonneg (b := 200) p
  split
  · exact ⟨_, rfl, by rw [wrap_in (by omega) (by omega)]; omega, by rw [wrap_in (by omega) (by omega)]; omega⟩
  · split
    · exact ⟨_, rfl, by rw [wrap_in (by omega) (by omega)]; omega, by rw [wrap_in (by omega) (by omega)]; omega⟩
    · split
      · exact ⟨_, rfl, by rw [wrap_in (by omega) (by omega)]; omega, by rw [wrap_in (by omega) (by omega)]; omega⟩
      · split
        · exact ⟨_, rfl, by rw [wrap_in (by omega) (by omega)]; omega, by rw [wrap_in (by omega) (by omega)]; omega⟩
        · exact ⟨_, rfl, by omega, by omega⟩
theorem law_make (c : List Int) (hc : U16 c) (hs : Sm c) : ∃ m, Ev (fun k => glyphcutterlaw01_Make.f k c) m ∧ m.length ≤ 30 ∧ Wf m := by
  have l0 : ∀ (d n : Nat) (out : List S27), 30 - n = d → n ≤ 30 → out.length ≤ n → Wf out → ∃ m, Ev (fun k => glyphcutterlaw01_Make.l0 k c out (2 * (n : Int))) m ∧ m.length ≤ 30 ∧ Wf m := by
    intro d
    unfold Sm at hs
    induction d with
    | zero =>
      intro n out hd hn ho hw
      refine ⟨out, ?_, by omega, hw⟩
      refine Ev.step (fun k => by rw [glyphcutterlaw01_Make.l0]) ?_
      by_cases c1 : wrap64 (2 * (n : Int) + 1) < (c.length : Int)
      · exact Ev.pos c1 (Ev.neg (by omega) (Ev.now out))
      · exact Ev.neg c1 (Ev.now out)
    | succ d ih =>
      intro n out hd hn ho hw
      by_cases c1 : 2 * n + 1 < c.length
      · have e1 : wrap64 (2 * (n : Int) + 1) = ((2 * n + 1 : Nat) : Int) := by rw [wrap_in (by omega) (by omega)]; omega
        have hx := hc c[2 * n] (List.getElem_mem (by omega))
        have hy := hc c[2 * n + 1] (List.getElem_mem (by omega))
        obtain ⟨v, hv, v0, v1⟩ := law_place c[2 * n] hx.1 hx.2
        have t4 := Int.tmod_eq_emod_of_nonneg (b := 40) hy.1
        obtain ⟨m, hm, h1, h2⟩ := ih (n + 1) (out ++ [⟨v, wrap64 (v + wrap64 (Int.tmod c[2 * n + 1] 40))⟩]) (by omega) (by omega) (by simp; omega) (fun s hs => by
          rcases List.mem_append.1 hs with hs | hs
          · exact hw s hs
          · simp only [List.mem_singleton] at hs; subst hs
            simp only
            rw [wrap_in (i := Int.tmod c[2 * n + 1] 40) (by omega) (by omega), wrap_in (by omega) (by omega)]
            omega)
        refine ⟨m, ?_, h1, h2⟩
        refine Ev.step (fun k => by rw [glyphcutterlaw01_Make.l0]) ?_
        rw [e1]
        refine Ev.pos (by omega) (Ev.pos (by omega) (Ev.pos (by omega) (Ev.pos (by omega) ?_)))
        have r1 := rdi_get c (2 * n) (by omega)
        have r2 := rdi_get c (2 * n + 1) (by omega)
        rw [show (2 * (n : Int)) = ((2 * n : Nat) : Int) by omega, r1, r2]
        refine Ev.bindc hv (Ev.pos (by omega) (Ev.pos (by omega) ?_))
        rw [wrap_in (i := ((2 * n : Nat) : Int) + 2) (by omega) (by omega), show ((2 * n : Nat) : Int) + 2 = 2 * ((n + 1 : Nat) : Int) by omega]
        exact hm
      · refine ⟨out, ?_, by omega, hw⟩
        have e1 : wrap64 (2 * (n : Int) + 1) = 2 * (n : Int) + 1 := wrap_in (by omega) (by omega)
        refine Ev.step (fun k => by rw [glyphcutterlaw01_Make.l0]) ?_
        rw [e1]
        exact Ev.neg (by omega) (Ev.now out)
  exact l0 30 0 [] rfl (by omega) (by simp) wf_nil

theorem law_heavy (ll : List (List S27)) (hl : ll.length ≤ 1000) (hs : ∀ l ∈ ll, Sm l) : Ev (fun k => glyphcutterlaw01_heavy.f k ll) (decide (80 < ll.flatten.length)) := by
  have hb : ∀ n, (ll.take n).flatten.length ≤ 140737488355328 * n := by
    intro n
    induction n with
    | zero => simp
    | succ n ih =>
      by_cases c : n < ll.length
      · have := hs _ (List.getElem_mem c)
        unfold Sm at this
        rw [take_snocL ll n c, List.length_append, List.getD_eq_getElem?_getD, List.getElem?_eq_getElem c]
        simp only [Option.getD_some]
        omega
      · rw [List.take_of_length_le (by omega)]; rw [List.take_of_length_le (by omega)] at ih; omega
  have l0 : ∀ (d n : Nat), ll.length - n = d → n ≤ ll.length → Ev (fun k => glyphcutterlaw01_heavy.l0 k ll ((ll.take n).flatten.length : Int) (n : Int)) (decide (80 < ll.flatten.length)) := by
    intro d
    induction d with
    | zero =>
      intro n hd hn
      rw [List.take_of_length_le (by omega)]
      refine Ev.step (fun k => by rw [glyphcutterlaw01_heavy.l0]) (Ev.neg (by omega) ?_)
      have : decide (80 < ll.flatten.length) = decide ((ll.flatten.length : Int) > 80) := by rw [decide_eq_decide]; omega
      rw [this]
      exact Ev.now _
    | succ d ih =>
      intro n hd hn
      have hlt : n < ll.length := by omega
      refine Ev.step (fun k => by rw [glyphcutterlaw01_heavy.l0]) (Ev.pos (by omega) (Ev.pos (by omega) ?_))
      have hrd : rd_L2 ll (n : Int) = ll[n] := by
        unfold rd_L2
        rw [Int.toNat_natCast, List.getD_eq_getElem?_getD, List.getElem?_eq_getElem hlt]; rfl
      have ih1 := ih (n + 1) (by omega) (by omega)
      have hb1 := hb (n + 1)
      rw [take_snocL ll n hlt, List.getD_eq_getElem?_getD, List.getElem?_eq_getElem hlt, List.length_append] at ih1 hb1
      simp only [Option.getD_some] at ih1 hb1
      rw [hrd, wrap_in (i := (n : Int) + 1) (by omega) (by omega), wrap_in (by omega) (by omega)]
      have e : (((ll.take n).flatten.length : Int) + (ll[n].length : Int)) = (((ll.take n).flatten.length + ll[n].length : Nat) : Int) := by omega
      rw [e]
      exact ih1
  exact l0 _ 0 rfl (by omega)

theorem law_short (l : List S27) (hl : l.length ≤ 1000000) (hn : Nf l) : Ev (fun k => glyphcutterlaw01_short.f k l) true := by
  have l0 : ∀ (d n : Nat), l.length - n = d → n ≤ l.length → Ev (fun k => glyphcutterlaw01_short.l0 k l (n : Int)) true := by
    intro d
    induction d with
    | zero =>
      intro n hd hn
      exact Ev.step (fun k => by rw [glyphcutterlaw01_short.l0]) (Ev.neg (by omega) (Ev.now _))
    | succ d ih =>
      intro n hd hn'
      have hlt : n < l.length := by omega
      have ihn := ih (n + 1) (by omega) (by omega)
      have hs := hn.1 _ (List.getElem_mem hlt)
      unfold Ok at hs
      refine Ev.step (fun k => by rw [glyphcutterlaw01_short.l0]) (Ev.pos (by omega) (Ev.pos (by omega) ?_))
      rw [rd_get l n hlt, wrap_in (i := (n : Int) + 1) (by omega) (by omega)]
      by_cases c0 : n = 0
      · by_cases c1 : 57343 < l[n].f0
        · exact Ev.pos (by omega) (Ev.pos (by omega) (Ev.neg (by omega) (Ev.neg (by omega) (Ev.pos (by omega) (Ev.neg (by omega) ihn)))))
        · exact Ev.pos (by omega) (Ev.neg (by omega) (Ev.neg (by omega) (Ev.pos (by omega) (Ev.neg (by omega) ihn))))
      · have hp : n - 1 < l.length := by omega
        have hpw : l[n - 1].f1 + 1 < l[n].f0 := (List.pairwise_iff_getElem.1 hn.2) (n - 1) n hp hlt (by omega)
        have hs1 := hn.1 _ (List.getElem_mem hp)
        unfold Ok at hs1
        have e : wrap64 ((n : Int) - 1) = ((n - 1 : Nat) : Int) := by rw [wrap_in (by omega) (by omega)]; omega
        rw [e, rd_get l (n - 1) hp, wrap_in (i := l[n - 1].f1 + 1) (by omega) (by omega)]
        by_cases c1 : 57343 < l[n].f0
        · exact Ev.pos (by omega) (Ev.pos (by omega) (Ev.neg (by omega) (Ev.neg (by omega) (Ev.pos (by omega) (Ev.pos (by omega) (Ev.pos (by omega) (Ev.pos (by omega) (Ev.neg (by omega) ihn))))))))
        · exact Ev.pos (by omega) (Ev.neg (by omega) (Ev.neg (by omega) (Ev.pos (by omega) (Ev.pos (by omega) (Ev.pos (by omega) (Ev.pos (by omega) (Ev.neg (by omega) ihn)))))))
  exact l0 _ 0 rfl (by omega)

/-! ### how many there are -/
def cnt (p : Nat → Bool) : Nat → Nat
  | 0 => 0
  | n + 1 => cnt p n + (p n).toNat
theorem cnt_congr {p q : Nat → Bool} : ∀ n, (∀ i, i < n → p i = q i) → cnt p n = cnt q n
  | 0, _ => rfl
  | n + 1, h => by rw [cnt, cnt, cnt_congr n (fun i hi => h i (by omega)), h n (by omega)]
theorem cnt_two (p q : Nat → Bool) : ∀ n, cnt (fun i => p i || q i) n + cnt (fun i => p i && q i) n = cnt p n + cnt q n
  | 0 => rfl
  | n + 1 => by
    have := cnt_two p q n
    simp only [cnt]
    cases p n <;> cases q n <;> simp <;> omega
theorem cnt_none {p : Nat → Bool} (n : Nat) (h : ∀ i, i < n → p i = false) : cnt p n = 0 := by
  induction n with
  | zero => rfl
  | succ n ih => rw [cnt, ih (fun i hi => h i (by omega)), h n (by omega)]; rfl
theorem cnt_span (a b : Nat) (hab : a ≤ b) : ∀ n, b ≤ n → cnt (fun i => decide (a ≤ i) && decide (i < b)) n = b - a := by
  intro n
  induction n with
  | zero => intro h; simp [cnt]; omega
  | succ n ih =>
    intro h
    by_cases c : b ≤ n
    · rw [cnt, ih c]
      have : decide (n < b) = false := decide_eq_false (by omega)
      simp [this]
    · obtain rfl : b = n + 1 := by omega
      by_cases c2 : a = n + 1
      · rw [cnt, cnt_none n (fun i hi => by simp; omega)]
        have : decide (a ≤ n) = false := decide_eq_false (by omega)
        simp [this]; omega
      · have e : cnt (fun i => decide (a ≤ i) && decide (i < n + 1)) n = n - a := by
          have h2 : ∀ m, m ≤ n → cnt (fun i => decide (a ≤ i) && decide (i < n + 1)) m = m - a := by
            intro m
            induction m with
            | zero => intro _; simp [cnt]
            | succ m ihm =>
              intro hm
              rw [cnt, ihm (by omega)]
              have : decide (m < n + 1) = true := decide_eq_true (by omega)
              by_cases c3 : a ≤ m
              · simp [this, c3]; omega
              · simp [c3]; omega
          exact h2 n (Nat.le_refl _)
        have h3 : decide (a ≤ n) = true := decide_eq_true (by omega)
        rw [cnt, e]
        simp [h3]; omega
def Top : Nat := 1114112
def memB (l : List S27) (i : Nat) : Bool := l.any fun s => decide (s.f0 ≤ (i : Int)) && decide ((i : Int) ≤ s.f1)
theorem memB_iff (l : List S27) (i : Nat) : memB l i = true ↔ mem l (i : Int) := by
  unfold memB mem
  simp only [List.any_eq_true, Bool.and_eq_true, decide_eq_true_eq]
theorem sizeW_cnt : ∀ (l : List S27) (n : Int), Nf l → 0 ≤ n → n ≤ 1000000000 → sizeW l n = n + (cnt (memB l) Top : Int) ∧ cnt (memB l) Top ≤ 1114112 := by
  have hle : ∀ (p : Nat → Bool) n, cnt p n ≤ n := by
    intro p n
    induction n with
    | zero => exact Nat.le_refl _
    | succ n ih => rw [cnt]; cases p n <;> simp <;> omega
  have main : ∀ (l : List S27) (n : Int), Nf l → 0 ≤ n → n + (cnt (memB l) Top : Int) ≤ 2000000000 → sizeW l n = n + (cnt (memB l) Top : Int) := by
    intro l
    induction l with
    | nil => intro n _ _ _; have : cnt (memB []) Top = 0 := cnt_none _ (fun i _ => rfl)
             rw [this]; simp [sizeW]
    | cons s l ih =>
      intro n hn h0 h1
      have hs := hn.1 s List.mem_cons_self
      unfold Ok at hs
      have e : cnt (memB (s :: l)) Top = (s.f1 - s.f0 + 1).toNat + cnt (memB l) Top := by
        have e1 := cnt_two (fun i => decide (s.f0.toNat ≤ i) && decide (i < (s.f1 + 1).toNat)) (memB l) Top
        rw [cnt_span _ _ (by omega) Top (by unfold Top; omega)] at e1
        rw [cnt_none (p := fun i => (decide (s.f0.toNat ≤ i) && decide (i < (s.f1 + 1).toNat)) && memB l i) Top (fun i _ => by
          cases c : memB l i with
          | false => simp
          | true =>
            have := hn.above ((memB_iff l i).1 c)
            have : decide (i < (s.f1 + 1).toNat) = false := decide_eq_false (by omega)
            rw [this, Bool.and_false, Bool.false_and])] at e1
        have e2 : cnt (memB (s :: l)) Top = cnt (fun i => (decide (s.f0.toNat ≤ i) && decide (i < (s.f1 + 1).toNat)) || memB l i) Top := cnt_congr _ fun i _ => by
          show (decide (s.f0 ≤ (i : Int)) && decide ((i : Int) ≤ s.f1) || memB l i) = _
          have a1 : decide (s.f0 ≤ (i : Int)) = decide (s.f0.toNat ≤ i) := by rw [decide_eq_decide]; omega
          have a2 : decide ((i : Int) ≤ s.f1) = decide (i < (s.f1 + 1).toNat) := by rw [decide_eq_decide]; omega
          rw [a1, a2]
        rw [e2]; omega
      have w1 : wrap64 (s.f1 - s.f0) = s.f1 - s.f0 := wrap_in (by omega) (by omega)
      have w2 : wrap64 (s.f1 - s.f0 + 1) = s.f1 - s.f0 + 1 := wrap_in (by omega) (by omega)
      rw [e] at h1 ⊢
      have w3 : wrap64 (n + (s.f1 - s.f0 + 1)) = n + (s.f1 - s.f0 + 1) := wrap_in (by omega) (by omega)
      show sizeW l (wrap64 (n + wrap64 (wrap64 (s.f1 - s.f0) + 1))) = _
      rw [w1, w2, w3, ih _ hn.tail (by omega) (by omega)]
      omega
  intro l n hn h0 h1
  have h2 : cnt (memB l) Top ≤ 1114112 := by have := hle (memB l) Top; have e : Top = 1114112 := by unfold Top; rfl
                                             omega
  exact ⟨main l n hn h0 (by omega), h2⟩
def sizeP (l : List S27) : Nat := cnt (memB (normP l)) Top
theorem sizeW_norm (l : List S27) : sizeW (normP l) 0 = (sizeP l : Int) ∧ sizeP l ≤ 1114112 := by
  obtain ⟨h1, h2⟩ := sizeW_cnt (normP l) 0 (normP_nf l) (by omega) (by omega)
  exact ⟨by rw [h1]; unfold sizeP; omega, h2⟩
theorem size_two (a b : List S27) : sizeP (normP [a, b].flatten) + sizeP (interP a b) = sizeP a + sizeP b := by
  unfold sizeP
  rw [← cnt_two (memB (normP a)) (memB (normP b))]
  refine congr (congrArg _ ?_) ?_
  · exact cnt_congr _ fun i _ => by
      rw [Bool.eq_iff_iff, Bool.or_eq_true, memB_iff, memB_iff, memB_iff, normP_mem, normP_mem, normP_mem, normP_mem, mem_flatten]
      constructor
      · rintro ⟨_, h1, m, hm, h⟩
        simp only [List.mem_cons, List.not_mem_nil, or_false] at hm
        rcases hm with rfl | rfl
        · exact .inl ⟨h1, h⟩
        · exact .inr ⟨h1, h⟩
      · rintro (⟨h1, h⟩ | ⟨h1, h⟩)
        · exact ⟨h1, h1, a, by simp, h⟩
        · exact ⟨h1, h1, b, by simp, h⟩
  · exact cnt_congr _ fun i _ => by
      rw [Bool.eq_iff_iff, Bool.and_eq_true, memB_iff, memB_iff, memB_iff, normP_mem, normP_mem, normP_mem, (is_inter a b).2]
      exact ⟨fun ⟨_, h1, h2, h3⟩ => ⟨⟨h1, h2⟩, h1, h3⟩, fun ⟨⟨h1, h2⟩, _, h3⟩ => ⟨h1, h1, h2, h3⟩⟩
theorem scal_cnt (N : Nat) (hN : 1114112 ≤ N) : cnt (fun i => (decide (0 ≤ i) && decide (i < 55296)) || (decide (57344 ≤ i) && decide (i < 1114112))) N = 1112064 := by
  have e2 := cnt_two (fun i => decide (0 ≤ i) && decide (i < 55296)) (fun i => decide (57344 ≤ i) && decide (i < 1114112)) N
  rw [cnt_span 0 55296 (by omega) N (by omega), cnt_span 57344 1114112 (by omega) N (by omega), cnt_none (p := fun i => (decide (0 ≤ i) && decide (i < 55296)) && (decide (57344 ≤ i) && decide (i < 1114112))) N (fun i _ => by
    by_cases c : i < 55296
    · have : decide (57344 ≤ i) = false := decide_eq_false (by omega)
      simp [this]
    · simp [c])] at e2
  omega
theorem size_not_at (a : List S27) (N : Nat) (hN : 1114112 ≤ N) : cnt (memB (normP a)) N + cnt (memB (normP (notP a))) N = 1112064 := by
  rw [← cnt_two (memB (normP a)) (memB (normP (notP a)))]
  rw [cnt_none (p := fun i => memB (normP a) i && memB (normP (notP a)) i) N (fun i _ => by
    rw [← Bool.not_eq_true, Bool.and_eq_true, memB_iff, memB_iff, normP_mem, normP_mem, (is_not a).2]
    exact fun ⟨⟨_, h1⟩, _, _, h2⟩ => h2 h1)]
  have e : cnt (fun i => memB (normP a) i || memB (normP (notP a)) i) N = cnt (fun i => (decide (0 ≤ i) && decide (i < 55296)) || (decide (57344 ≤ i) && decide (i < 1114112))) N := cnt_congr _ fun i _ => by
    rw [Bool.eq_iff_iff, Bool.or_eq_true, memB_iff, memB_iff, normP_mem, normP_mem, (is_not a).2, Bool.or_eq_true, Bool.and_eq_true, Bool.and_eq_true]
    simp only [decide_eq_true_eq]
    unfold Scal
    constructor
    · rintro (⟨h, _⟩ | ⟨h, _⟩) <;> omega
    · intro h
      by_cases c : mem a (i : Int)
      · exact .inl ⟨by omega, c⟩
      · exact .inr ⟨by omega, by omega, c⟩
  rw [e, Nat.add_zero]
  exact scal_cnt N hN
theorem size_not (a : List S27) : sizeP a + sizeP (notP a) = 1112064 := by
  have e : Top = 1114112 := by unfold Top; rfl
  exact size_not_at a Top (by omega)
end Go.Proofs.Ytjnkllbecldfeaa.P
