/- The law TermsMake: the walk and the plain law together. -/
import Derived.Test.YtgpkhnkppkepnaaPx0
import Derived.Test.YtgpkhnkppkepnaaPx17
import Derived.Test.YtgpkhnkppkepnaaGBase
import Derived.Test.YtgpkhnkppkepnaaGEdges
import Derived.Test.YtgpkhnkppkepnaaGHas
import Derived.Test.YtgpkhnkppkepnaaGInter
import Derived.Test.YtgpkhnkppkepnaaGMapH
import Derived.Test.YtgpkhnkppkepnaaGNorm
import Derived.Test.YtgpkhnkppkepnaaGRowsO
import Derived.Test.YtgpkhnkppkepnaaGTerms
import Derived.Test.YtgpkhnkppkepnaaPBase
import Derived.Test.YtgpkhnkppkepnaaPLaw10
import Derived.Test.YtgpkhnkppkepnaaPLaws10
import Derived.Test.YtgpkhnkppkepnaaPLawsR
import Derived.Test.YtgpkhnkppkepnaaPParts
import Derived.Test.YtgpkhnkppkepnaaPRef10
import Derived.Test.YtgpkhnkppkepnaaPRefS
import Derived.Test.YtgpkhnkppkepnaaPTermsA
import Derived.Test.YtgpkhnkppkepnaaWOpen10
namespace Go.Proofs.Ytgpkhnkppkepnaa.P
set_option linter.unusedVariables false
set_option linter.unusedSimpArgs false
section
open Go.RowKit Go.Shelf Go.Proofs.YtgpkhnkppkepnaaW.PrintWords Go.Proofs.YtgpkhnkppkepnaaW.PrintLast Go.Proofs.YtgpkhnkppkepnaaW.PrintMore
theorem pick_eq (s : List S42) (whole : List (List S42)) : ∀ (ps done : List (List S42)), whole = done ++ ps →
    (pAt s done.length ps).map (fun x => rd_L2 whole x) = ps.filter (fun p => decide (interP p s ≠ []))
  | [], done, _ => rfl
  | p :: ps, done, h => by
    have ih := pick_eq s whole ps (done ++ [p]) (by rw [h]; simp)
    rw [List.length_append, List.length_singleton] at ih
    have hg : rd_L2 whole ((done.length : Nat) : Int) = p := by
      rw [rdL_get whole done.length (by rw [h]; simp)]
      subst h
      simp
    unfold pAt
    rw [List.map_append, ih]
    by_cases he : interP p s = []
    · rw [if_pos he, List.filter_cons_of_neg (by simp [he])]; rfl
    · rw [if_neg he, List.filter_cons_of_pos (by simp [he]), List.map_cons, List.map_nil, hg]; rfl
theorem pAt_in (s : List S42) : ∀ (ps : List (List S42)) (i : Nat) (x : Int), x ∈ pAt s i ps → (i : Int) ≤ x ∧ x < ((i + ps.length : Nat) : Int)
  | [], i, x, h => by simp [pAt] at h
  | p :: ps, i, x, h => by
    unfold pAt at h
    rcases List.mem_append.1 h with h | h
    · by_cases he : interP p s = []
      · rw [if_pos he] at h; simp at h
      · rw [if_neg he, List.mem_singleton] at h
        subst h
        rw [List.length_cons]
        omega
    · have := pAt_in s ps (i + 1) x h
      rw [List.length_cons]
      omega
theorem filter_flat (f : List S42 → Bool) : ∀ (l : List (List S42)), (l.filter f).flatten.length ≤ l.flatten.length
  | [] => Nat.le_refl _
  | p :: l => by
    have ih := filter_flat f l
    cases h : f p with
    | true => rw [List.filter_cons_of_pos h, List.flatten_cons, List.flatten_cons, List.length_append, List.length_append]; omega
    | false => rw [List.filter_cons_of_neg (by rw [h]; decide), List.flatten_cons, List.length_append]; omega
theorem made_of {l ps : List (List S42)} (h : IsParts l ps) {s : List S42} (hs : s ∈ l) : normP (ps.filter (fun p => decide (interP p s ≠ []))).flatten = normP s := by
  refine Nf.ext (normP_nf _) (normP_nf _) fun r => ?_
  rw [normP_mem, normP_mem]
  refine and_congr_right fun hr => ?_
  rw [mem_flatten]
  constructor
  · rintro ⟨p, hp, hm⟩
    obtain ⟨hpp, hne⟩ := List.mem_filter.1 hp
    obtain ⟨z, hz⟩ := nf_mem ((is_inter p s).1) (of_decide_eq_true hne)
    obtain ⟨hz1, hz2⟩ := (mem_inter2 p s z).1 hz
    obtain ⟨x, _, _, hc⟩ := h.cls p hpp
    have e := word_has (((hc r).1 hm).2.trans ((hc z).1 hz1).2.symm) s hs
    exact ((hasP_iff s r).1 (e.trans hz2)).2
  · intro hm
    have hh : hasP s r = true := (hasP_iff s r).2 ⟨hr, hm⟩
    obtain ⟨p, hpp, hpm⟩ := h.all r (List.any_eq_true.2 ⟨s, hs, hh⟩)
    refine ⟨p, List.mem_filter.2 ⟨hpp, decide_eq_true fun he => ?_⟩, hpm⟩
    have := (mem_inter2 p s r).2 ⟨hpm, hh⟩
    rw [he] at this
    exact mem_nil r this
theorem law_make10 (c : List (List Int)) (hu : UL c) (hs : SmLL c) (a : Int) (ha : 0 ≤ a ∧ a ≤ 255) : Ev (fun k => glyphcutterlaw10_TermsMake.f k c a) true := by
  obtain ⟨L, hL, h8, hsm, hf⟩ := list_ev c hu hs
  have hpl := parts_len L
  have hfl := hf.2.1
  have hff := flat_small hsm
  have hfp := parts_flat L
  have hp := parts_is L
  unfold glyphcutterlaw10_TermsMake.f
  refine Ev.bind hL ?_
  by_cases h0 : (L.length : Int) = 0
  · refine Ev.pos h0 (Ev.bind known_ev (Ev.pos rfl (Ev.bindc (of_fine L hf) ?_)))
    have e0 : L = [] := List.eq_nil_of_length_eq_zero (by omega)
    have e1 : (partsA L).length = 0 := by rw [e0] at hpl ⊢; simpa using hpl
    rw [e1]
    exact Ev.now _
  · refine Ev.neg h0 ?_
    have hw : wrap64 a = a := wrap_in (by omega) (by omega)
    obtain ⟨j, hj, hjl⟩ : ∃ j : Nat, Int.tmod (wrap64 a) (L.length : Int) = (j : Int) ∧ j < L.length := by
      rw [hw, Int.tmod_eq_emod_of_nonneg ha.1]
      have g1 := Int.emod_nonneg a h0
      have g2 := Int.emod_lt_of_pos a (show 0 < (L.length : Int) by omega)
      exact ⟨(a % (L.length : Int)).toNat, by omega, by omega⟩
    rw [hj]
    refine Ev.pos (by omega) (Ev.pos (by omega) (Ev.bindc (of_fine L hf) ?_))
    rw [rdL_get L j hjl]
    have hsL := List.getElem_mem hjl
    generalize L[j] = s at *
    generalize partsA L = ps at *
    have hps : ∀ p ∈ ps, p.length ≤ 100000 ∧ Wf p := fun p h => ⟨by have := row_le h; omega, (hp.nf p h).wf⟩
    have hsl := (hsm s hsL).1
    have hsw := (hsm s hsL).2
    refine Ev.bind (parts_ev ps s (fun p h => (hps p h).1) (by omega) (by omega)) ?_
    have hq := pick_eq s ps ps [] rfl
    rw [List.length_nil] at hq
    have hql := pAt_len s ps 0
    have hqi := pAt_in s ps 0
    rw [Nat.zero_add] at hqi
    generalize pAt s 0 ps = q at *
    have fin : ∀ out, out = q.map (fun x => rd_L2 ps x) → Ev (fun k => glyphcutterlaw10_TermsMake.l0 k s ps q out (q.length : Int)) true := by
      intro out ho
      refine Ev.step (fun k => by rw [glyphcutterlaw10_TermsMake.l0]) ?_
      refine Ev.neg (by omega) ?_
      refine Ev.bind known_ev (Ev.pos rfl ?_)
      rw [ho, hq]
      have hfi := filter_flat (fun p => decide (interP p s ≠ [])) ps
      have hfn := List.length_filter_le (fun p => decide (interP p s ≠ [])) ps
      refine Ev.bind (ref_union _ (by omega) (by omega) fun p h => (hps p (List.mem_filter.1 h).1).2) ?_
      rw [made_of hp hsL]
      have hnl := normP_len s
      have h9 := ref_same (normP s) s (by omega) (by omega) (normP_nf s).wf hsw
      rw [normP_of_nf (normP_nf s), eqS_rfl] at h9
      exact Ev.bind h9 (Ev.now _)
    have loop : ∀ (d i : Nat) (out : List (List S42)), q.length - i = d → i ≤ q.length → out = (q.take i).map (fun x => rd_L2 ps x) → Ev (fun k => glyphcutterlaw10_TermsMake.l0 k s ps q out (i : Int)) true := by
      intro d
      induction d with
      | zero =>
        intro i out hd hi ho
        obtain rfl : i = q.length := by omega
        rw [List.take_of_length_le (Nat.le_refl _)] at ho
        exact fin out ho
      | succ d ih =>
        intro i out hd hi ho
        have hlt : i < q.length := by omega
        have hx := hqi _ (List.getElem_mem hlt)
        have hol : out.length ≤ i := by rw [ho, List.length_map, List.length_take]; omega
        have er : rd q (i : Int) = q[i] := by simp [rd, List.getElem?_eq_getElem hlt]
        refine Ev.step (fun k => by rw [glyphcutterlaw10_TermsMake.l0]) ?_
        rw [er, wr1 (by omega)]
        refine Ev.pos (by omega) (Ev.pos (by omega) (Ev.neg (by omega) (Ev.neg (by omega) (Ev.pos (by omega) (Ev.pos (by omega) (Ev.pos (by omega) ?_))))))
        refine ih (i + 1) _ (by omega) (by omega) ?_
        rw [ho, List.take_succ_eq_append_getElem hlt, List.map_append]
        rfl
    exact loop q.length 0 [] rfl (Nat.zero_le _) (by simp)
end
section
open Go.RowKit Go.Proofs.YtgpkhnkppkepnaaW.PrintWords Go.Proofs.YtgpkhnkppkepnaaW.PrintLast Go.Proofs.YtgpkhnkppkepnaaW.PrintMore
theorem u8_in10 {x : Int} (h : (Lit.int .u8 x).wf = true) : 0 ≤ x ∧ x ≤ 255 := by
  simp [Lit.wf, IntKind.min, IntKind.max, IntKind.bits, IntKind.signed] at h
  exact h
theorem TermsMake.calls (W : World) (A0 : Option Addr) (c0 : Nat) (l0 : List (List Int)) (hr0 : Kd.C (Kd.slice 54 (Kd.int .u16)) W A0 l0.length l0) (hc0 : l0.length ≤ c0) (u0 : UL l0) (z0 : SmLL l0) (a1 : Int) (w1 : (Lit.int .u8 a1).wf = true) :
    Calls Try.prog 7 #[.slice A0 l0.length c0, .int .u8 a1] W fun e W' => e = .returned (.bool true) ∧ Below W.heap.size W W' := by
  obtain ⟨k, hk⟩ := (law_make10 l0 u0 z0 a1 (u8_in10 w1)).rounds
  exact glyphcutterlaw10_TermsMake.calls k A0 c0 l0 a1 true W rfl hr0 hc0 hk
end
end Go.Proofs.Ytgpkhnkppkepnaa.P
