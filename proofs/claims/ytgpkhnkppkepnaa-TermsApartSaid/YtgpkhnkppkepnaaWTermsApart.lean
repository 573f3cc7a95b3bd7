/- The law TermsApart: the walk and the plain law together. -/
import Derived.Test.YtgpkhnkppkepnaaPx0
import Derived.Test.YtgpkhnkppkepnaaPx16
import Derived.Test.YtgpkhnkppkepnaaGBase
import Derived.Test.YtgpkhnkppkepnaaGEdges
import Derived.Test.YtgpkhnkppkepnaaGHas
import Derived.Test.YtgpkhnkppkepnaaGInter
import Derived.Test.YtgpkhnkppkepnaaGMapH
import Derived.Test.YtgpkhnkppkepnaaGNorm
import Derived.Test.YtgpkhnkppkepnaaGRowsO
import Derived.Test.YtgpkhnkppkepnaaGTerms
import Derived.Test.YtgpkhnkppkepnaaPBase
import Derived.Test.YtgpkhnkppkepnaaPLaw10
import Derived.Test.YtgpkhnkppkepnaaPLaws10
import Derived.Test.YtgpkhnkppkepnaaPParts
import Derived.Test.YtgpkhnkppkepnaaPRef10
import Derived.Test.YtgpkhnkppkepnaaPRefS
import Derived.Test.YtgpkhnkppkepnaaPTermsA
import Derived.Test.YtgpkhnkppkepnaaWOpen10
namespace Go.Proofs.Ytgpkhnkppkepnaa.P
set_option linter.unusedVariables false
set_option linter.unusedSimpArgs false
section
open Go.RowKit Go.Proofs.YtgpkhnkppkepnaaW.PrintWords Go.Proofs.YtgpkhnkppkepnaaW.PrintLast Go.Proofs.YtgpkhnkppkepnaaW.PrintMore
def cnt (p : Nat → Bool) : Nat → Nat
  | 0 => 0
  | n + 1 => cnt p n + (p n).toNat
theorem cnt_congr {p q : Nat → Bool} : ∀ n, (∀ i, i < n → p i = q i) → cnt p n = cnt q n
  | 0, _ => rfl
  | n + 1, h => by rw [cnt, cnt, cnt_congr n (fun i hi => h i (by omega)), h n (by omega)]
theorem cnt_two (p q : Nat → Bool) : ∀ n, cnt (fun i => p i || q i) n + cnt (fun i => p i && q i) n = cnt p n + cnt q n
  | 0 => rfl
  | n + 1 => by
    have := cnt_two p q n
    simp only [cnt]
    cases p n <;> cases q n <;> simp <;> omega
theorem cnt_none {p : Nat → Bool} (n : Nat) (h : ∀ i, i < n → p i = false) : cnt p n = 0 := by
  induction n with
  | zero => rfl
  | succ n ih => rw [cnt, ih (fun i hi => h i (by omega)), h n (by omega)]; rfl
theorem cnt_span (a b : Nat) (hab : a ≤ b) : ∀ n, b ≤ n → cnt (fun i => decide (a ≤ i) && decide (i < b)) n = b - a := by
  intro n
  induction n with
  | zero => intro h; simp [cnt]; omega
  | succ n ih =>
    intro h
    by_cases c : b ≤ n
    · rw [cnt, ih c]
      have : decide (n < b) = false := decide_eq_false (by omega)
      simp [this]
    · obtain rfl : b = n + 1 := by omega
      by_cases c2 : a = n + 1
      · rw [cnt, cnt_none n (fun i hi => by simp; omega)]
        have : decide (a ≤ n) = false := decide_eq_false (by omega)
        simp [this]; omega
      · have e : cnt (fun i => decide (a ≤ i) && decide (i < n + 1)) n = n - a := by
          have h2 : ∀ m, m ≤ n → cnt (fun i => decide (a ≤ i) && decide (i < n + 1)) m = m - a := by
            intro m
            induction m with
            | zero => intro _; simp [cnt]
            | succ m ihm =>
              intro hm
              rw [cnt, ihm (by omega)]
              have : decide (m < n + 1) = true := decide_eq_true (by omega)
              by_cases c3 : a ≤ m
              · simp [this, c3]; omega
              · simp [c3]; omega
          exact h2 n (Nat.le_refl _)
        have h3 : decide (a ≤ n) = true := decide_eq_true (by omega)
        rw [cnt, e]
        simp [h3]; omega
def Top : Nat := 1114112
def memB (l : List S42) (i : Nat) : Bool := l.any fun s => decide (s.f0 ≤ (i : Int)) && decide ((i : Int) ≤ s.f1)
theorem memB_iff (l : List S42) (i : Nat) : memB l i = true ↔ mem l (i : Int) := by
  unfold memB mem
  simp only [List.any_eq_true, Bool.and_eq_true, decide_eq_true_eq]
theorem sizeW_cnt : ∀ (l : List S42) (n : Int), Nf l → 0 ≤ n → n ≤ 1000000000 → sizeW l n = n + (cnt (memB l) Top : Int) ∧ cnt (memB l) Top ≤ 1114112 := by
  have hle : ∀ (p : Nat → Bool) n, cnt p n ≤ n := by
    intro p n
    induction n with
    | zero => exact Nat.le_refl _
    | succ n ih => rw [cnt]; cases p n <;> simp <;> omega
  have main : ∀ (l : List S42) (n : Int), Nf l → 0 ≤ n → n + (cnt (memB l) Top : Int) ≤ 2000000000 → sizeW l n = n + (cnt (memB l) Top : Int) := by
    intro l
    induction l with
    | nil => intro n _ _ _; have : cnt (memB []) Top = 0 := cnt_none _ (fun i _ => rfl)
             rw [this]; simp [sizeW]
    | cons s l ih =>
      intro n hn h0 h1
      have hs := hn.1 s List.mem_cons_self
      unfold Ok at hs
      have e : cnt (memB (s :: l)) Top = (s.f1 - s.f0 + 1).toNat + cnt (memB l) Top := by
        have e1 := cnt_two (fun i => decide (s.f0.toNat ≤ i) && decide (i < (s.f1 + 1).toNat)) (memB l) Top
        rw [cnt_span _ _ (by omega) Top (by unfold Top; omega)] at e1
        rw [cnt_none (p := fun i => (decide (s.f0.toNat ≤ i) && decide (i < (s.f1 + 1).toNat)) && memB l i) Top (fun i _ => by
          cases c : memB l i with
          | false => simp
          | true =>
            have := hn.above ((memB_iff l i).1 c)
            have : decide (i < (s.f1 + 1).toNat) = false := decide_eq_false (by omega)
            rw [this, Bool.and_false, Bool.false_and])] at e1
        have e2 : cnt (memB (s :: l)) Top = cnt (fun i => (decide (s.f0.toNat ≤ i) && decide (i < (s.f1 + 1).toNat)) || memB l i) Top := cnt_congr _ fun i _ => by
          show (decide (s.f0 ≤ (i : Int)) && decide ((i : Int) ≤ s.f1) || memB l i) = _
          have a1 : decide (s.f0 ≤ (i : Int)) = decide (s.f0.toNat ≤ i) := by rw [decide_eq_decide]; omega
          have a2 : decide ((i : Int) ≤ s.f1) = decide (i < (s.f1 + 1).toNat) := by rw [decide_eq_decide]; omega
          rw [a1, a2]
        rw [e2]; omega
      have w1 : wrap64 (s.f1 - s.f0) = s.f1 - s.f0 := wrap_in (by omega) (by omega)
      have w2 : wrap64 (s.f1 - s.f0 + 1) = s.f1 - s.f0 + 1 := wrap_in (by omega) (by omega)
      rw [e] at h1 ⊢
      have w3 : wrap64 (n + (s.f1 - s.f0 + 1)) = n + (s.f1 - s.f0 + 1) := wrap_in (by omega) (by omega)
      show sizeW l (wrap64 (n + wrap64 (wrap64 (s.f1 - s.f0) + 1))) = _
      rw [w1, w2, w3, ih _ hn.tail (by omega) (by omega)]
      omega
  intro l n hn h0 h1
  have h2 : cnt (memB l) Top ≤ 1114112 := by have := hle (memB l) Top; have e : Top = 1114112 := by unfold Top; rfl
                                             omega
  exact ⟨main l n hn h0 (by omega), h2⟩
def sizeP (l : List S42) : Nat := cnt (memB (normP l)) Top
theorem sizeW_norm (l : List S42) : sizeW (normP l) 0 = (sizeP l : Int) ∧ sizeP l ≤ 1114112 := by
  obtain ⟨h1, h2⟩ := sizeW_cnt (normP l) 0 (normP_nf l) (by omega) (by omega)
  exact ⟨by rw [h1]; unfold sizeP; omega, h2⟩
end
section
open Go.RowKit Go.Shelf Go.Proofs.YtgpkhnkppkepnaaW.PrintWords Go.Proofs.YtgpkhnkppkepnaaW.PrintLast Go.Proofs.YtgpkhnkppkepnaaW.PrintMore
def szL (l : List (List S42)) : Nat := (l.map sizeP).sum
theorem szL_take (l : List (List S42)) (i : Nat) (h : i < l.length) : szL (l.take (i + 1)) = szL (l.take i) + sizeP l[i] := by
  unfold szL
  rw [List.take_succ_eq_append_getElem h, List.map_append, List.sum_append]
  simp
theorem szL_take_le (l : List (List S42)) : ∀ i, szL (l.take i) ≤ 1114112 * i
  | 0 => by simp [szL]
  | i + 1 => by
    have ih := szL_take_le l i
    by_cases h : i < l.length
    · have h1 := szL_take l i h
      have h2 := (sizeW_norm l[i]).2
      omega
    · have e : l.take (i + 1) = l.take i := by rw [List.take_of_length_le (by omega), List.take_of_length_le (by omega)]
      rw [e]; omega
theorem memB_norm (l : List S42) (i : Nat) : memB (normP l) i = true ↔ Scal (i : Int) ∧ mem l (i : Int) := by rw [memB_iff, normP_mem]
theorem szL_flat : ∀ (ps : List (List S42)), ps.Pairwise (fun p q => ∀ y, ¬ (mem p y ∧ mem q y)) → szL ps = sizeP ps.flatten
  | [], _ => by
    have : cnt (memB (normP ([] : List S42))) Top = 0 := cnt_none _ fun i _ => by
      cases h : memB (normP ([] : List S42)) i with
      | false => rfl
      | true => exact absurd ((memB_norm _ _).1 h).2 (mem_nil _)
    unfold szL sizeP
    rw [List.flatten_nil, this]
    rfl
  | p :: l, h => by
    obtain ⟨h1, h2⟩ := List.pairwise_cons.1 h
    have ih := szL_flat l h2
    have e : szL (p :: l) = sizeP p + szL l := by unfold szL; rw [List.map_cons, List.sum_cons]
    rw [e, ih]
    unfold sizeP
    have t := cnt_two (memB (normP p)) (memB (normP l.flatten)) Top
    have z : cnt (fun i => memB (normP p) i && memB (normP l.flatten) i) Top = 0 := cnt_none _ fun i _ => by
      cases hb : (memB (normP p) i && memB (normP l.flatten) i) with
      | false => rfl
      | true =>
        exfalso
        obtain ⟨a, b⟩ := Bool.and_eq_true_iff.1 hb
        obtain ⟨q, hq, hqm⟩ := (mem_flatten l _).1 ((memB_norm _ _).1 b).2
        exact h1 q hq _ ⟨((memB_norm _ _).1 a).2, hqm⟩
    have u : cnt (memB (normP (p :: l).flatten)) Top = cnt (fun i => memB (normP p) i || memB (normP l.flatten) i) Top := cnt_congr _ fun i _ => by
      rw [Bool.eq_iff_iff, Bool.or_eq_true, memB_norm, memB_norm, memB_norm, List.flatten_cons, mem_append]
      constructor
      · rintro ⟨a, b | b⟩
        · exact .inl ⟨a, b⟩
        · exact .inr ⟨a, b⟩
      · rintro (⟨a, b⟩ | ⟨a, b⟩)
        · exact ⟨a, .inl b⟩
        · exact ⟨a, .inr b⟩
    rw [u]
    omega
theorem IsParts.apart {l ps : List (List S42)} (h : IsParts l ps) : ps.Pairwise (fun p q => ∀ y, ¬ (mem p y ∧ mem q y)) := by
  rw [List.pairwise_iff_getElem]
  rintro j i hj hi hji y ⟨hy1, hy2⟩
  obtain ⟨x, _, _, hx⟩ := h.cls _ (List.getElem_mem hj)
  obtain ⟨z, _, _, hz⟩ := h.cls _ (List.getElem_mem hi)
  have ex := ((hx y).1 hy1).2
  have ez := ((hz y).1 hy2).2
  have e : ps[j] = ps[i] := Nf.ext (h.nf _ (List.getElem_mem hj)) (h.nf _ (List.getElem_mem hi)) fun r => by rw [hx r, hz r, ← ex, ← ez]
  have li := (part_lo h i hi).2
  have lj := (part_lo h j hj).2
  have := List.pairwise_iff_getElem.1 h.up j i hj hi hji _ _ lj li
  rw [e] at this
  omega
theorem IsParts.union {l ps : List (List S42)} (h : IsParts l ps) : normP ps.flatten = normP l.flatten := by
  refine Nf.ext (normP_nf _) (normP_nf _) fun r => ?_
  rw [normP_mem, normP_mem]
  refine and_congr_right fun hs => ?_
  rw [mem_flatten, mem_flatten]
  constructor
  · rintro ⟨p, hp, hr⟩
    obtain ⟨x, _, hsx, hc⟩ := h.cls p hp
    have := some_word l x r ((hc r).1 hr).2.symm
    rw [hsx] at this
    obtain ⟨s, hsl, hh⟩ := List.any_eq_true.1 this.symm
    exact ⟨s, hsl, ((hasP_iff s r).1 hh).2⟩
  · rintro ⟨s, hsl, hr⟩
    exact h.all r (List.any_eq_true.2 ⟨s, hsl, (hasP_iff s r).2 ⟨hs, hr⟩⟩)
theorem size_pos {p : List S42} {x : Int} (hn : Nf p) (hx : mem p x) : sizeP p ≠ 0 := by
  intro h0
  have hs := hn.scal hx
  have hs' := hs
  unfold Scal at hs
  have key : ∀ (f : Nat → Bool) (n i : Nat), i < n → f i = true → cnt f n ≠ 0 := by
    intro f n
    induction n with
    | zero => intro i hi; omega
    | succ n ih =>
      intro i hi hf
      rw [cnt]
      by_cases c : i = n
      · subst c; rw [hf]; simp
      · have := ih i (by omega) hf; omega
  obtain ⟨i, rfl⟩ := Int.eq_ofNat_of_zero_le (show 0 ≤ x by omega)
  exact key (memB (normP p)) Top i (by unfold Top; omega) ((memB_norm _ _).2 ⟨hs', hx⟩) h0
theorem law_apart (c : List (List Int)) (hu : UL c) (hs : SmLL c) : Ev (fun k => glyphcutterlaw10_TermsApart.f k c) true := by
  obtain ⟨L, hL, h8, hsm, hf⟩ := list_ev c hu hs
  have hpl := parts_len L
  have hfl := hf.2.1
  have hff := flat_small hsm
  have hfp := parts_flat L
  have hp := parts_is L
  unfold glyphcutterlaw10_TermsApart.f
  refine Ev.bind hL (Ev.bindc (of_fine L hf) ?_)
  generalize partsA L = ps at *
  have hps : ∀ p ∈ ps, p.length ≤ 20000 ∧ Wf p := fun p h => ⟨by have := row_le h; omega, (hp.nf p h).wf⟩
  have fin : Ev (fun k => glyphcutterlaw10_TermsApart.l0 k L ps (szL ps : Int) (ps.length : Int)) true := by
    refine Ev.step (fun k => by rw [glyphcutterlaw10_TermsApart.l0]) ?_
    refine Ev.neg (by omega) ?_
    refine Ev.bind (ref_union L (by omega) (by omega) hf.2.2) ?_
    refine Ev.bind known_ev (Ev.pos rfl ?_)
    have hnl := normP_len L.flatten
    refine Ev.bind (ref_size (normP L.flatten) (by omega) (normP_nf _).wf) ?_
    have e : (szL ps : Int) = sizeW (normP (normP L.flatten)) 0 := by
      rw [normP_of_nf (normP_nf _), (sizeW_norm L.flatten).1, szL_flat ps hp.apart]
      unfold sizeP
      rw [hp.union]
    refine Ev.pos e ?_
    refine Ev.bind (ref_union ps (by omega) (by omega) fun p h => (hps p h).2) ?_
    rw [hp.union]
    have h9 := ref_alike (normP L.flatten) (normP L.flatten) (by omega)
    rw [eqS_rfl] at h9
    exact Ev.bind h9 (Ev.now _)
  have loop : ∀ (d i : Nat), ps.length - i = d → i ≤ ps.length → Ev (fun k => glyphcutterlaw10_TermsApart.l0 k L ps (szL (ps.take i) : Int) (i : Int)) true := by
    intro d
    induction d with
    | zero =>
      intro i hd hi
      obtain rfl : i = ps.length := by omega
      rw [List.take_of_length_le (Nat.le_refl _)]
      exact fin
    | succ d ih =>
      intro i hd hi
      have hlt : i < ps.length := by omega
      have nx := ih (i + 1) (by omega) (by omega)
      have hmi := List.getElem_mem hlt
      have hn := hp.nf _ hmi
      obtain ⟨x, hx, _⟩ := hp.cls _ hmi
      have h1 := szL_take ps i hlt
      have h2 := szL_take_le ps i
      have h3 := sizeW_norm ps[i]
      have h4 := size_pos hn hx
      have li := part_lo hp i hlt
      refine Ev.step (fun k => by rw [glyphcutterlaw10_TermsApart.l0]) ?_
      refine Ev.pos (by omega) ?_
      refine Ev.pos (by omega) ?_
      rw [rdL_get ps i hlt]
      refine Ev.bind (ref_size ps[i] (hps _ hmi).1 (hps _ hmi).2) ?_
      rw [h3.1]
      refine Ev.neg (by omega) ?_
      refine Ev.bind (ref_norm ps[i] (hps _ hmi).1 (hps _ hmi).2) ?_
      rw [normP_of_nf hn]
      have h9 := ref_alike ps[i] ps[i] (by have := (hps _ hmi).1; omega)
      rw [eqS_rfl] at h9
      refine Ev.bind h9 (Ev.pos rfl ?_)
      have ex : wrap64 ((szL (ps.take i) : Int) + (sizeP ps[i] : Int)) = (szL (ps.take (i + 1)) : Int) := by rw [wrap_in (by omega) (by omega)]; omega
      rw [ex, wr1 (by omega)]
      by_cases c0 : i = 0
      · subst c0
        exact Ev.neg (by omega) nx
      · have hi1 : i - 1 < ps.length := by omega
        have lj := part_lo hp (i - 1) hi1
        have e1 : wrap64 ((i : Int) - 1) = ((i - 1 : Nat) : Int) := by rw [wrap_in (by omega) (by omega)]; omega
        refine Ev.pos (by omega) ?_
        rw [e1, rdL_get ps (i - 1) hi1]
        refine Ev.pos (by omega) (Ev.pos (by omega) (Ev.pos (by omega) (Ev.pos (by omega) ?_)))
        have hup := List.pairwise_iff_getElem.1 hp.up (i - 1) i hi1 hlt (by omega) _ _ lj.2 li.2
        unfold loP at hup
        exact Ev.neg (by omega) nx
  exact loop ps.length 0 rfl (Nat.zero_le _)
end
section
open Go.RowKit Go.Proofs.YtgpkhnkppkepnaaW.PrintWords Go.Proofs.YtgpkhnkppkepnaaW.PrintLast Go.Proofs.YtgpkhnkppkepnaaW.PrintMore
theorem TermsApart.calls (W : World) (A0 : Option Addr) (c0 : Nat) (l0 : List (List Int)) (hr0 : Kd.C (Kd.slice 54 (Kd.int .u16)) W A0 l0.length l0) (hc0 : l0.length ≤ c0) (u0 : UL l0) (z0 : SmLL l0) :
    Calls Try.prog 6 #[.slice A0 l0.length c0] W fun e W' => e = .returned (.bool true) ∧ Below W.heap.size W W' := by
  obtain ⟨k, hk⟩ := (law_apart l0 u0 z0).rounds
  exact glyphcutterlaw10_TermsApart.calls k A0 c0 l0 true W rfl hr0 hc0 hk
end
end Go.Proofs.Ytgpkhnkppkepnaa.P
