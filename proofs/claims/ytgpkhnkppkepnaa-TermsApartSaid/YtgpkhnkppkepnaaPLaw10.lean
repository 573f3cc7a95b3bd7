/- The laws of chapter 10: the plain side. -/
import Derived.Test.YtgpkhnkppkepnaaPx0
import Derived.Test.YtgpkhnkppkepnaaPx2
import Derived.Test.YtgpkhnkppkepnaaPx11
import Derived.Test.YtgpkhnkppkepnaaPx10
import Derived.Test.YtgpkhnkppkepnaaGBase
import Derived.Test.YtgpkhnkppkepnaaGEdges
import Derived.Test.YtgpkhnkppkepnaaGHas
import Derived.Test.YtgpkhnkppkepnaaGInter
import Derived.Test.YtgpkhnkppkepnaaGMapH
import Derived.Test.YtgpkhnkppkepnaaGRowsO
import Derived.Test.YtgpkhnkppkepnaaPBase
import Derived.Test.YtgpkhnkppkepnaaPParts
import Derived.Test.YtgpkhnkppkepnaaPRef10
import Derived.Test.YtgpkhnkppkepnaaPTermsA
namespace Go.Proofs.Ytgpkhnkppkepnaa.P
set_option linter.unusedVariables false
set_option linter.unusedSimpArgs false
section
open Go.RowKit Go.Proofs.YtgpkhnkppkepnaaW.PrintWords Go.Proofs.YtgpkhnkppkepnaaW.PrintLast Go.Proofs.YtgpkhnkppkepnaaW.PrintMore
theorem set_inter (a b : List S42) (ha : a.length ≤ 100000) (hb : b.length ≤ 100000) : set_Inter.f a b = some (interP a b) := if_pos ⟨ha, hb⟩
theorem wf_nil : Wf [] := fun _ h => by simp at h
end
section
open Go.RowKit Go.Proofs.YtgpkhnkppkepnaaW.PrintWords Go.Proofs.YtgpkhnkppkepnaaW.PrintLast Go.Proofs.YtgpkhnkppkepnaaW.PrintMore
def U16 (c : List Int) : Prop := ∀ x ∈ c, 0 ≤ x ∧ x ≤ 65535
theorem law_place (a : Int) (h0 : 0 ≤ a) (h1 : a ≤ 65535) : ∃ v, glyphcutterlaw01_place.f a = some v ∧ 0 ≤ v ∧ v ≤ 1114111 := by
  unfold glyphcutterlaw01_place.f
  have e1 : Int.tdiv a 8 = a / 8 := Int.tdiv_eq_ediv_of_nonneg h0
  have e2 : IntKind.u16.wrap (Int.tdiv a 8) = a / 8 := by rw [e1]; simp [IntKind.wrap, IntKind.bits, IntKind.signed]; omega
  have e3 : wrap64 (a / 8) = a / 8 := wrap_in (by omega) (by omega)
  rw [e2, e3]
  have p : 0 ≤ a / 8 := by omega
  have t1 := Int.tmod_eq_emod_of_nonneg (b := 2080) p
  have t2 := Int.tmod_eq_emod_of_nonneg (b := 32) p
  have t3 := Int.tmod_eq_emod_of_nonneg (b := 48) p
  have t4 := Int.tmod_eq_emod_of_nonneg (b := 200) p
  split
  · exact ⟨_, rfl, by rw [wrap_in (by omega) (by omega)]; omega, by rw [wrap_in (by omega) (by omega)]; omega⟩
  · split
    · exact ⟨_, rfl, by rw [wrap_in (by omega) (by omega)]; omega, by rw [wrap_in (by omega) (by omega)]; omega⟩
    · split
      · exact ⟨_, rfl, by rw [wrap_in (by omega) (by omega)]; omega, by rw [wrap_in (by omega) (by omega)]; omega⟩
      · split
        · exact ⟨_, rfl, by rw [wrap_in (by omega) (by omega)]; omega, by rw [wrap_in (by omega) (by omega)]; omega⟩
        · exact ⟨_, rfl, by omega, by omega⟩
theorem law_make (c : List Int) (hc : U16 c) (hs : Sm c) : ∃ m, Ev (fun k => glyphcutterlaw01_Make.f k c) m ∧ m.length ≤ 30 ∧ Wf m := by
  have l0 : ∀ (d n : Nat) (out : List S42), 30 - n = d → n ≤ 30 → out.length ≤ n → Wf out → ∃ m, Ev (fun k => glyphcutterlaw01_Make.l0 k c out (2 * (n : Int))) m ∧ m.length ≤ 30 ∧ Wf m := by
    intro d
    unfold Sm at hs
    induction d with
    | zero =>
      intro n out hd hn ho hw
      refine ⟨out, ?_, by omega, hw⟩
      refine Ev.step (fun k => by rw [glyphcutterlaw01_Make.l0]) ?_
      by_cases c1 : wrap64 (2 * (n : Int) + 1) < (c.length : Int)
      · exact Ev.pos c1 (Ev.neg (by omega) (Ev.now out))
      · exact Ev.neg c1 (Ev.now out)
    | succ d ih =>
      intro n out hd hn ho hw
      by_cases c1 : 2 * n + 1 < c.length
      · have e1 : wrap64 (2 * (n : Int) + 1) = ((2 * n + 1 : Nat) : Int) := by rw [wrap_in (by omega) (by omega)]; omega
        have hx := hc c[2 * n] (List.getElem_mem (by omega))
        have hy := hc c[2 * n + 1] (List.getElem_mem (by omega))
        obtain ⟨v, hv, v0, v1⟩ := law_place c[2 * n] hx.1 hx.2
        have t4 := Int.tmod_eq_emod_of_nonneg (b := 40) hy.1
        obtain ⟨m, hm, h1, h2⟩ := ih (n + 1) (out ++ [⟨v, wrap64 (v + wrap64 (Int.tmod c[2 * n + 1] 40))⟩]) (by omega) (by omega) (by simp; omega) (fun s hs => by
          rcases List.mem_append.1 hs with hs | hs
          · exact hw s hs
          · simp only [List.mem_singleton] at hs; subst hs
            simp only
            rw [wrap_in (i := Int.tmod c[2 * n + 1] 40) (by omega) (by omega), wrap_in (by omega) (by omega)]
            omega)
        refine ⟨m, ?_, h1, h2⟩
        refine Ev.step (fun k => by rw [glyphcutterlaw01_Make.l0]) ?_
        rw [e1]
        refine Ev.pos (by omega) (Ev.pos (by omega) (Ev.pos (by omega) (Ev.pos (by omega) ?_)))
        have r1 := rdi_get c (2 * n) (by omega)
        have r2 := rdi_get c (2 * n + 1) (by omega)
        rw [show (2 * (n : Int)) = ((2 * n : Nat) : Int) by omega, r1, r2]
        refine Ev.bindc hv (Ev.pos (by omega) (Ev.pos (by omega) ?_))
        rw [wrap_in (i := ((2 * n : Nat) : Int) + 2) (by omega) (by omega), show ((2 * n : Nat) : Int) + 2 = 2 * ((n + 1 : Nat) : Int) by omega]
        exact hm
      · refine ⟨out, ?_, by omega, hw⟩
        have e1 : wrap64 (2 * (n : Int) + 1) = 2 * (n : Int) + 1 := wrap_in (by omega) (by omega)
        refine Ev.step (fun k => by rw [glyphcutterlaw01_Make.l0]) ?_
        rw [e1]
        exact Ev.neg (by omega) (Ev.now out)
  exact l0 30 0 [] rfl (by omega) (by simp) wf_nil
end
section
open Go.RowKit Go.Shelf Go.Proofs.YtgpkhnkppkepnaaW.PrintWords Go.Proofs.YtgpkhnkppkepnaaW.PrintLast Go.Proofs.YtgpkhnkppkepnaaW.PrintMore
def UL (c : List (List Int)) : Prop := ∀ r ∈ c, U16 r
def SmLL (c : List (List Int)) : Prop := Sm c ∧ ∀ r ∈ c, Sm r
theorem rd5_get (l : List (List Int)) (i : Nat) (h : i < l.length) : rd_L5 l (i : Int) = l[i] := by
  simp [rd_L5, List.getElem?_eq_getElem h]
def Small (L : List (List S42)) : Prop := ∀ s ∈ L, s.length ≤ 30 ∧ Wf s
theorem list_at (c : List (List Int)) (hu : UL c) (hs : SmLL c) : ∀ (d i : Nat) (out : List (List S42)), (8 - i) + (if i < c.length then 1 else 0) = d → out.length ≤ i → i ≤ 8 → Small out →
    ∃ L, Ev (fun k => glyphcutterlaw10_List.l0 k c out (i : Int)) L ∧ L.length ≤ 8 ∧ Small L := by
  have hc := hs.1
  unfold Sm at hc
  intro d
  induction d with
  | zero =>
    intro i out hd hol hi8 hsm
    have hge : ¬ i < c.length := fun h => by rw [if_pos h] at hd; omega
    refine ⟨out, ?_, by omega, hsm⟩
    refine Ev.step (fun k => by rw [glyphcutterlaw10_List.l0]) ?_
    refine Ev.neg (by omega) ?_
    refine Ev.step (fun k => by rw [glyphcutterlaw10_List.j1]) ?_
    exact Ev.neg (by decide) (Ev.now _)
  | succ d ih =>
    intro i out hd hol hi8 hsm
    by_cases hlt : i < c.length
    · by_cases h8 : i < 8
      · have hd' : (8 - (i + 1)) + (if i + 1 < c.length then 1 else 0) ≤ d := by rw [if_pos hlt] at hd; split <;> omega
        have hr := hu _ (List.getElem_mem hlt)
        have hrs := hs.2 _ (List.getElem_mem hlt)
        have go : ∀ out' : List (List S42), out'.length ≤ i + 1 → Small out' → ∃ L, Ev (fun k => glyphcutterlaw10_List.l0 k c out' ((i + 1 : Nat) : Int)) L ∧ L.length ≤ 8 ∧ Small L := fun out' h1 h2 => by
          by_cases he : (8 - (i + 1)) + (if i + 1 < c.length then 1 else 0) = d
          · exact ih (i + 1) out' he h1 (by omega) h2
          · -- the measure has gone down by two: at the end
            have hge : ¬ i + 1 < c.length := fun h => by rw [if_pos h] at he hd'; rw [if_pos hlt] at hd; omega
            refine ⟨out', ?_, by omega, h2⟩
            refine Ev.step (fun k => by rw [glyphcutterlaw10_List.l0]) ?_
            refine Ev.neg (by omega) ?_
            refine Ev.step (fun k => by rw [glyphcutterlaw10_List.j1]) ?_
            exact Ev.neg (by decide) (Ev.now _)
        have pre : ∀ L, Ev (fun k => if ((rd_L5 c (i : Int)).length : Int) < 12 then ((glyphcutterlaw01_Make.f k (rd_L5 c (i : Int))).bind fun t139 => (if out.length < 5864062014805 then (glyphcutterlaw10_List.l0 k c (out ++ [t139]) (wrap64 ((i : Int) + 1))) else (none))) else (glyphcutterlaw10_List.l0 k c out (wrap64 ((i : Int) + 1)))) L → Ev (fun k => glyphcutterlaw10_List.l0 k c out (i : Int)) L := fun L h => by
          refine Ev.step (fun k => by rw [glyphcutterlaw10_List.l0]) ?_
          refine Ev.pos (by omega) ?_
          refine Ev.step (fun k => by rw [glyphcutterlaw10_List.j1]) ?_
          refine Ev.pos (decide_eq_true (by omega)) ?_
          refine Ev.pos (by omega) ?_
          exact Ev.pos (by omega) h
        by_cases h12 : ((rd_L5 c (i : Int)).length : Int) < 12
        · obtain ⟨m, hm, hml, hmw⟩ := law_make c[i] hr hrs
          obtain ⟨L, hL, hl8, hL2⟩ := go (out ++ [m]) (by simp; omega) (fun s h => by
            rcases List.mem_append.1 h with h | h
            · exact hsm s h
            · rw [List.mem_singleton] at h; subst h; exact ⟨hml, hmw⟩)
          refine ⟨L, pre L (Ev.pos h12 ?_), hl8, hL2⟩
          rw [rd5_get c i hlt]
          refine Ev.bind hm (Ev.pos (by omega) ?_)
          rw [wr1 (by omega)]
          exact hL
        · obtain ⟨L, hL, hl8, hL2⟩ := go out (by omega) hsm
          refine ⟨L, pre L (Ev.neg h12 ?_), hl8, hL2⟩
          rw [wr1 (by omega)]
          exact hL
      · refine ⟨out, ?_, by omega, hsm⟩
        refine Ev.step (fun k => by rw [glyphcutterlaw10_List.l0]) ?_
        refine Ev.pos (by omega) ?_
        refine Ev.step (fun k => by rw [glyphcutterlaw10_List.j1]) ?_
        exact Ev.neg (by rw [decide_eq_true_eq]; omega) (Ev.now _)
    · refine ⟨out, ?_, by omega, hsm⟩
      refine Ev.step (fun k => by rw [glyphcutterlaw10_List.l0]) ?_
      refine Ev.neg (by omega) ?_
      refine Ev.step (fun k => by rw [glyphcutterlaw10_List.j1]) ?_
      exact Ev.neg (by decide) (Ev.now _)
theorem flat_small {L : List (List S42)} (h : Small L) : L.flatten.length ≤ 30 * L.length := by
  induction L with
  | nil => simp
  | cons s L ih =>
    have h1 := (h s List.mem_cons_self).1
    have h2 := ih fun t ht => h t (List.mem_cons_of_mem _ ht)
    rw [List.flatten_cons, List.length_append, List.length_cons]; omega
theorem list_ev (c : List (List Int)) (hu : UL c) (hs : SmLL c) : ∃ L, Ev (fun k => glyphcutterlaw10_List.f k c) L ∧ L.length ≤ 8 ∧ Small L ∧ Fine L := by
  obtain ⟨L, h1, h2, h3⟩ := list_at c hu hs _ 0 [] rfl (Nat.zero_le _) (by omega) (fun s h => by simp at h)
  have hf := flat_small h3
  exact ⟨L, by unfold glyphcutterlaw10_List.f; exact h1, h2, h3, by omega, by omega, fun s h => (h3 s h).2⟩
def pAt (s : List S42) : Nat → List (List S42) → List Int
  | _, [] => []
  | i, p :: ps => (if interP p s = [] then [] else [(i : Int)]) ++ pAt s (i + 1) ps
theorem parts_at (ps : List (List S42)) (s : List S42) (hp : ∀ p ∈ ps, p.length ≤ 100000) (hs : s.length ≤ 100000) (hl : ps.length ≤ 1000000) : ∀ (d i : Nat) (out : List Int), ps.length - i = d → i ≤ ps.length → out.length ≤ i → Ev (fun k => terms_Parts.l0 k s out ps (ps.length : Int) (i : Int)) (out ++ pAt s i (ps.drop i)) := by
  intro d
  induction d with
  | zero =>
    intro i out hd hi ho
    obtain rfl : i = ps.length := by omega
    rw [List.drop_length]
    refine Ev.step (fun k => by rw [terms_Parts.l0]) ?_
    refine Ev.neg (by omega) ?_
    show Ev _ (out ++ [])
    rw [List.append_nil]
    exact Ev.now _
  | succ d ih =>
    intro i out hd hi ho
    have hlt : i < ps.length := by omega
    rw [List.drop_eq_getElem_cons hlt]
    refine Ev.step (fun k => by rw [terms_Parts.l0]) ?_
    refine Ev.pos (by omega) ?_
    refine Ev.pos (by omega) ?_
    refine Ev.pos (by omega) ?_
    rw [rdL_get ps i hlt]
    refine Ev.bindc (set_inter ps[i] s (hp _ (List.getElem_mem hlt)) hs) ?_
    rw [wr1 (by omega)]
    unfold pAt
    by_cases he : interP ps[i] s = []
    · rw [if_pos he, List.nil_append]
      refine Ev.neg (by rw [he]; decide) ?_
      exact ih (i + 1) out (by omega) (by omega) (by omega)
    · have : 0 < (interP ps[i] s).length := List.length_pos_iff.2 he
      rw [if_neg he, ← List.append_assoc]
      refine Ev.pos (by omega) ?_
      refine Ev.pos (by omega) ?_
      exact ih (i + 1) (out ++ [(i : Int)]) (by omega) (by omega) (by simp; omega)
theorem parts_ev (ps : List (List S42)) (s : List S42) (hp : ∀ p ∈ ps, p.length ≤ 100000) (hs : s.length ≤ 100000) (hl : ps.length ≤ 1000000) : Ev (fun k => terms_Parts.f k ps s) (pAt s 0 ps) := by
  unfold terms_Parts.f
  exact parts_at ps s hp hs hl ps.length 0 [] rfl (Nat.zero_le _) (Nat.le_refl _)
def knL : List (List S42) := [[⟨0, 9⟩], [⟨5, 20⟩]]
def knP : List (List S42) := [[⟨0, 4⟩], [⟨5, 9⟩], [⟨10, 20⟩]]
theorem nf_one (a b : Int) (h0 : 0 ≤ a) (h1 : a ≤ b) (h2 : b < 55296) : Nf [(⟨a, b⟩ : S42)] := ⟨fun x hx => by rw [List.mem_singleton] at hx; subst hx; unfold Ok; simp only; omega, by simp⟩
theorem kn_parts : partsA knL = knP := by
  have h1 : setsA knL = knL := by
    unfold setsA knL
    rw [List.map_cons, List.map_cons, List.map_nil, normP_of_nf (nf_one 0 9 (by decide) (by decide) (by decide)), normP_of_nf (nf_one 5 20 (by decide) (by decide) (by decide))]
  have h2 : edgesA knL = [0, 5, 10, 21] := by unfold edgesA; rw [h1]; decide
  have h3 : rowsA (accA knL [0, 5, 10, 21] 3) = knP := by kernel_rfl
  unfold partsA
  rw [h1, h2]
  show (rowsA (accA knL [0, 5, 10, 21] 3)).map normP = knP
  rw [h3]
  unfold knP
  rw [List.map_cons, List.map_cons, List.map_cons, List.map_nil, normP_of_nf (nf_one 0 4 (by decide) (by decide) (by decide)), normP_of_nf (nf_one 5 9 (by decide) (by decide) (by decide)), normP_of_nf (nf_one 10 20 (by decide) (by decide) (by decide))]
theorem inter_nil {a b : List S42} (h : ∀ y, mem a y → ¬ mem b y) : interP a b = [] := by
  cases hi : interP a b with
  | nil => rfl
  | cons s t =>
    have hn := (is_inter a b).1
    obtain ⟨x, hx⟩ := nf_mem hn (by rw [hi]; simp)
    rw [mem_inter] at hx
    exact absurd hx.2.2 (h x hx.2.1)
theorem inter_ne {a b : List S42} {y : Int} (hs : Scal y) (h1 : mem a y) (h2 : mem b y) : interP a b ≠ [] := fun e => by
  have := (mem_inter a b y).2 ⟨hs, h1, h2⟩
  rw [e] at this
  exact mem_nil y this
theorem kn_pAt : pAt [⟨6, 7⟩] 0 knP = [1] := by
  have e1 : interP [(⟨0, 4⟩ : S42)] [⟨6, 7⟩] = [] := inter_nil fun y h1 h2 => by rw [mem_one] at h1 h2; simp only at h1 h2; omega
  have e2 : interP [(⟨5, 9⟩ : S42)] [⟨6, 7⟩] ≠ [] := inter_ne (y := 6) (by unfold Scal; omega) (by rw [mem_one]; simp) (by rw [mem_one]; simp)
  have e3 : interP [(⟨10, 20⟩ : S42)] [⟨6, 7⟩] = [] := inter_nil fun y h1 h2 => by rw [mem_one] at h1 h2; simp only at h1 h2; omega
  unfold knP pAt pAt pAt pAt
  rw [if_pos e1, if_neg e2, if_pos e3]
  rfl
theorem known_ev : Ev (fun k => glyphcutterlaw10_known.f k) true := by
  unfold glyphcutterlaw10_known.f
  refine Ev.bindc (a := knP) (by rw [← kn_parts]; exact if_pos ⟨by decide, by decide⟩) ?_
  refine Ev.pos (by decide) ?_
  refine Ev.pos (by decide) ?_
  refine Ev.pos (by decide) ?_
  refine Ev.pos (by decide) ?_
  refine Ev.pos (by decide) ?_
  refine Ev.bindc (a := 2) (by decide) ?_
  refine Ev.pos rfl ?_
  refine Ev.bindc (a := -1) (by decide) ?_
  refine Ev.pos rfl ?_
  refine Ev.bind (parts_ev knP [⟨6, 7⟩] (by unfold knP; intro p hp; simp at hp; rcases hp with rfl | rfl | rfl <;> simp) (by simp) (by unfold knP; simp)) ?_
  rw [kn_pAt]
  exact Ev.now _
end
end Go.Proofs.Ytgpkhnkppkepnaa.P
