/- What the references' Make answers. The plain side. -/
import Derived.Test.YtjnkllbecldfeaaPMake
namespace Go.Proofs.Ytjnkllbecldfeaa.P
set_option linter.unusedVariables false
set_option linter.unusedSimpArgs false
open Go.RowKit Go.Proofs.YtjnkllbecldfeaaW.PrintWords Go.Proofs.YtjnkllbecldfeaaW.PrintLast Go.Proofs.YtjnkllbecldfeaaW.PrintMore

def bitsQ (i : Int) : List Int := [Int.tmod i 2, Int.tmod (wrap64 (Int.tdiv i 2)) 2, Int.tmod (wrap64 (Int.tdiv i 4)) 2, Int.tmod (wrap64 (Int.tdiv i 8)) 2]
def ixQ (a b : List S27) (x : Int) : Int := if hasP b x = true then wrap64 ((if hasP a x = true then 0 + 1 else 0) + 2) else (if hasP a x = true then 0 + 1 else 0)
def selQ (i : Int) (a b : List S27) (x : Int) : Bool := decide (¬ rd (bitsQ i) (ixQ a b x) = 0)
theorem w02 : wrap64 (0 + 2) = 2 := wrap_in (by decide) (by decide)
theorem w03 : wrap64 (0 + 1 + 2) = 3 := wrap_in (by decide) (by decide)
theorem ixQ_range (a b : List S27) (x : Int) : 0 ≤ ixQ a b x ∧ ixQ a b x < 4 := by
  unfold ixQ
  rw [apply_ite (fun x : Int => wrap64 (x + 2)), w02, w03]
  split <;> split <;> decide

theorem ref_make_at (i : Int) (a b : List S27) (ha : Sm a) (hb : Sm b) (e : List Int) (he : e.length ≤ 1000000000) (hsc : ∀ y ∈ e, Scal y) :
    ∀ (d n : Nat) (out : List S27), e.length - n = d → n ≤ e.length → out.length ≤ n → Ev (fun k => glyphcutterref01_Make.l1 k a b i e out (n : Int)) (makeP (selQ i a b) (e.drop n) out) := by
  intro d
  induction d with
  | zero =>
    intro n out hd hn ho
    rw [List.drop_of_length_le (by omega)]
    exact Ev.step (fun k => by rw [glyphcutterref01_Make.l1]) (Ev.neg (by omega) (Ev.now out))
  | succ d ih =>
    intro n out hd hn ho
    have hlt : n < e.length := by omega
    rw [List.drop_eq_getElem_cons hlt]
    have hx := hsc e[n] (List.getElem_mem hlt)
    have hw : wrap64 ((n : Int) + 1) = ((n + 1 : Nat) : Int) := by rw [wrap_in (by omega) (by omega)]; omega
    have hwx : wrap64 (e[n] - 1) = e[n] - 1 := by unfold Scal at hx; exact wrap_in (by omega) (by omega)
    obtain ⟨hq0, hq4⟩ := ixQ_range a b e[n]
    have j5 : Ev (fun k => glyphcutterref01_Make.j5 k a b i e out (n : Int) (hiP e[n] (e.drop (n + 1))) (ixQ a b e[n])) (makeP (selQ i a b) (e[n] :: e.drop (n + 1)) out) := by
      refine Ev.step (fun k => by rw [glyphcutterref01_Make.j5]) ?_
      refine Ev.bindc rfl ?_
      refine Ev.pos hq0 (Ev.pos (show ixQ a b e[n] < ((4 : Nat) : Int) by omega) ?_)
      rw [makeP]
      unfold makeStep
      rw [rdi_get e n hlt, hw, hwx]
      by_cases c : rd (bitsQ i) (ixQ a b e[n]) = 0
      · refine Ev.pos c ?_
        rw [if_neg (show ¬ selQ i a b e[n] = true by unfold selQ; rw [decide_eq_true_eq]; exact fun h => h c)]
        exact ih (n + 1) out (by omega) (by omega) (by omega)
      · refine Ev.neg c ?_
        rw [if_pos (show selQ i a b e[n] = true by unfold selQ; rw [decide_eq_true_eq]; exact c)]
        rcases nil_or_snoc out with rfl | ⟨init, t, rfl⟩
        · refine Ev.neg (by simp) (Ev.pos (by omega) (Ev.pos (by omega) (Ev.pos (by simp) ?_)))
          exact ih (n + 1) _ (by omega) (by omega) (by simp)
        · have hl : ((init ++ [t]).length : Int) = (init.length : Int) + 1 := by simp
          have hl2 : (init ++ [t]).length = init.length + 1 := by simp
          have hwl : wrap64 (((init ++ [t]).length : Int) - 1) = (init.length : Int) := by rw [hl, wrap_in (by omega) (by omega)]; omega
          refine Ev.pos (by omega) ?_
          rw [hwl, rd_get (init ++ [t]) init.length (by simp), show (init ++ [t]).getLast? = some t by simp, show (init ++ [t]).dropLast = init by simp]
          have ht : (init ++ [t])[init.length]'(by simp) = t := by simp
          rw [ht]
          refine Ev.pos (by omega) (Ev.pos (by omega) (Ev.pos (by omega) (Ev.pos (by omega) ?_)))
          simp only
          by_cases c2 : t.f1 = e[n] - 1
          · refine Ev.pos c2 ?_
            rw [if_pos c2]
            have hs : (init ++ [t]).set ((init.length : Int)).toNat (⟨t.f0, hiP e[n] (e.drop (n + 1))⟩ : S27) = init ++ [⟨t.f0, hiP e[n] (e.drop (n + 1))⟩] := by
              rw [Int.toNat_natCast]; simp
            rw [hs]
            exact ih (n + 1) _ (by omega) (by omega) (by simp; omega)
          · refine Ev.neg c2 (Ev.pos (by omega) ?_)
            rw [if_neg c2]
            exact ih (n + 1) _ (by omega) (by omega) (by simp; omega)
    have j3 : Ev (fun k => glyphcutterref01_Make.j3 k a b i e out (n : Int) (hiP e[n] (e.drop (n + 1)))) (makeP (selQ i a b) (e[n] :: e.drop (n + 1)) out) := by
      refine Ev.step (fun k => by rw [glyphcutterref01_Make.j3]) (Ev.pos (by omega) (Ev.pos (by omega) ?_))
      rw [rdi_get e n hlt]
      refine Ev.bind (ref_has a _ ha) ?_
      have j4 : ∀ x13, (if hasP b e[n] = true then wrap64 (x13 + 2) else x13) = ixQ a b e[n] → Ev (fun k => glyphcutterref01_Make.j4 k a b i e out (n : Int) (hiP e[n] (e.drop (n + 1))) x13) (makeP (selQ i a b) (e[n] :: e.drop (n + 1)) out) := by
        intro x13 hx13
        refine Ev.step (fun k => by rw [glyphcutterref01_Make.j4]) (Ev.pos (by omega) (Ev.pos (by omega) ?_))
        rw [rdi_get e n hlt]
        refine Ev.bind (ref_has b _ hb) ?_
        by_cases c : hasP b e[n] = true
        · refine Ev.pos c ?_
          rw [if_pos c] at hx13
          rw [hx13]; exact j5
        · refine Ev.neg c ?_
          rw [if_neg c] at hx13
          rw [hx13]; exact j5
      by_cases c : hasP a e[n] = true
      · exact Ev.pos c (j4 _ (by unfold ixQ; rw [if_pos c]))
      · exact Ev.neg c (j4 _ (by unfold ixQ; rw [if_neg c]))
    have j2 : ∀ h0 : Int, (if e[n] < 55296 then mn h0 55295 else h0) = hiP e[n] (e.drop (n + 1)) → Ev (fun k => glyphcutterref01_Make.j2 k a b i e out (n : Int) h0) (makeP (selQ i a b) (e[n] :: e.drop (n + 1)) out) := by
      intro h0 hh0
      refine Ev.step (fun k => by rw [glyphcutterref01_Make.j2]) (Ev.pos (by omega) (Ev.pos (by omega) ?_))
      rw [rdi_get e n hlt]
      by_cases c : e[n] < 55296
      · refine Ev.pos c ?_
        rw [if_pos c] at hh0
        rw [hh0]; exact j3
      · refine Ev.neg c ?_
        rw [if_neg c] at hh0
        rw [hh0]; exact j3
    refine Ev.step (fun k => by rw [glyphcutterref01_Make.l1]) (Ev.pos (by omega) ?_)
    rw [hw]
    by_cases c : n + 1 < e.length
    · refine Ev.pos (by omega) (Ev.pos (by omega) ?_)
      rw [rdi_get e (n + 1) c]
      have hy := hsc e[n + 1] (List.getElem_mem c)
      have hwy : wrap64 (e[n + 1] - 1) = e[n + 1] - 1 := by unfold Scal at hy; exact wrap_in (by omega) (by omega)
      rw [hwy]
      refine j2 _ ?_
      rw [List.drop_eq_getElem_cons c]
      rfl
    · refine Ev.neg (by omega) ?_
      refine j2 _ ?_
      rw [List.drop_of_length_le (by omega)]
      rfl

theorem ref_make (i : Int) (a b : List S27) (ha : a.length ≤ 100000) (hb : b.length ≤ 100000) (wa : Wf a) (wb : Wf b) : Ev (fun k => glyphcutterref01_Make.f k a b i) (makeP (selQ i a b) (edges2 a b) []) := by
  have la : (edgesP a).length ≤ 200002 := by have := edges_len a [0, 57344]; unfold edgesP; simp at this; omega
  have lb : (edgesP b).length ≤ 200002 := by have := edges_len b [0, 57344]; unfold edgesP; simp at this; omega
  have l0 : ∀ (d n : Nat) (e : List Int), (edgesP b).length - n = d → n ≤ (edgesP b).length → e.length ≤ 200002 + n → ((edgesP b).drop n).foldl layP e = edges2 a b → Ev (fun k => glyphcutterref01_Make.l0 k a b i e (edgesP b) (n : Int)) (makeP (selQ i a b) (edges2 a b) []) := by
    intro d
    induction d with
    | zero =>
      intro n e hd hn hl he
      rw [List.drop_of_length_le (by omega), List.foldl_nil] at he
      refine Ev.step (fun k => by rw [glyphcutterref01_Make.l0]) (Ev.neg (by omega) ?_)
      rw [he]
      exact ref_make_at i a b (by unfold Sm; omega) (by unfold Sm; omega) (edges2 a b) (by rw [← he]; omega) (edges2_ok a b).scal _ 0 [] rfl (by omega) (by simp)
    | succ d ih =>
      intro n e hd hn hl he
      have hlt : n < (edgesP b).length := by omega
      rw [List.drop_eq_getElem_cons hlt, List.foldl_cons] at he
      refine Ev.step (fun k => by rw [glyphcutterref01_Make.l0]) (Ev.pos (by omega) (Ev.pos (by omega) ?_))
      rw [rdi_get _ n hlt, wrap_in (by omega) (by omega)]
      have h2 := layP_len e (edgesP b)[n]
      exact Ev.bind (ref_lay e _ (by omega)) (ih (n + 1) _ (by omega) (by omega) (by omega) he)
  unfold glyphcutterref01_Make.f
  exact Ev.bind (ref_edges a ha wa) (Ev.bind (ref_edges b hb wb) (l0 _ 0 (edgesP a) rfl (by omega) (by omega) rfl))

theorem selQ_congr (i : Int) (a b : List S27) {x y : Int} (ha : hasP a x = hasP a y) (hb : hasP b x = hasP b y) : selQ i a b x = selQ i a b y := by
  unfold selQ ixQ; rw [ha, hb]
def refP (i : Int) (a b : List S27) : List S27 := makeP (selQ i a b) (edges2 a b) []
theorem refP_ok (i : Int) (a b : List S27) : Nf (refP i a b) ∧ ∀ r, mem (refP i a b) r ↔ Scal r ∧ selQ i a b r = true := by
  have hE := edges2_ok a b
  obtain ⟨rest, he⟩ : ∃ rest, edges2 a b = 0 :: rest := by
    have h0 := hE.zero
    cases hc : edges2 a b with
    | nil => rw [hc] at h0; simp at h0
    | cons x rest =>
      rw [hc] at h0
      have hx := hE.scal x (by rw [hc]; exact List.mem_cons_self)
      have hs := hE.sorted
      rw [hc] at hs
      rcases List.mem_cons.1 h0 with e | e
      · exact ⟨rest, by rw [e]⟩
      · have := (List.pairwise_cons.1 hs).1 0 e
        unfold Scal at hx; omega
  have hg : ∀ y ∈ edges2 a b, y < 55296 → (57344 : Int) ∈ edges2 a b := fun _ _ _ => hE.gap
  obtain ⟨n1, n2⟩ := makeP_ok (selQ i a b) (edges2 a b) [] hE.sorted hE.scal hg Nf.nil (fun t ht => by simp at ht)
  refine ⟨n1, fun r => ?_⟩
  unfold refP
  rw [n2]
  have hcov := cov_iff (selQ i a b) 0 rest (he ▸ hE.sorted) (he ▸ hE.scal) (he ▸ hg) (fun r hr h0 hn _ => by
    have hne : r ∉ edges2 a b := by
      rw [he]; intro hm
      rcases List.mem_cons.1 hm with e | e
      · omega
      · exact hn e
    exact selQ_congr i a b (hE.same (fun s hs => List.mem_append_left _ hs) hr hne) (hE.same (fun s hs => List.mem_append_right _ hs) hr hne)) r
  rw [← he] at hcov
  rw [hcov]
  constructor
  · rintro (h | ⟨h1, _, h3⟩)
    · exact absurd h (mem_nil r)
    · exact ⟨h1, h3⟩
  · rintro ⟨h1, h3⟩
    exact .inr ⟨h1, h1.1, h3⟩
theorem hasP_nil (r : Int) : hasP [] r = false := by unfold hasP; simp
theorem bitsQ_at (i : Int) (h : 0 ≤ i) (h2 : i ≤ 1000) : bitsQ i = [Int.tmod i 2, Int.tmod (Int.tdiv i 2) 2, Int.tmod (Int.tdiv i 4) 2, Int.tmod (Int.tdiv i 8) 2] := by
  unfold bitsQ
  have e2 := Int.tdiv_eq_ediv_of_nonneg (b := 2) h
  have e4 := Int.tdiv_eq_ediv_of_nonneg (b := 4) h
  have e8 := Int.tdiv_eq_ediv_of_nonneg (b := 8) h
  rw [wrap_in (i := Int.tdiv i 2) (by omega) (by omega), wrap_in (i := Int.tdiv i 4) (by omega) (by omega), wrap_in (i := Int.tdiv i 8) (by omega) (by omega)]
theorem selQ_at (i : Int) (h : 0 ≤ i) (h2 : i ≤ 1000) (a b : List S27) (r : Int) : selQ i a b r = decide (¬ rd [Int.tmod i 2, Int.tmod (Int.tdiv i 2) 2, Int.tmod (Int.tdiv i 4) 2, Int.tmod (Int.tdiv i 8) 2] (if hasP b r = true then (if hasP a r = true then 3 else 2) else (if hasP a r = true then 1 else 0)) = 0) := by
  unfold selQ ixQ
  rw [bitsQ_at i h h2, apply_ite (fun x : Int => wrap64 (x + 2)), w02, w03]
  rfl
theorem selQ_1 (a : List S27) (r : Int) : selQ 1 a [] r = !hasP a r := by
  rw [selQ_at 1 (by decide) (by decide), hasP_nil]; cases hasP a r <;> decide
theorem selQ_2 (a b : List S27) (r : Int) : selQ 2 a b r = (hasP a r && !hasP b r) := by
  rw [selQ_at 2 (by decide) (by decide)]; cases hasP a r <;> cases hasP b r <;> decide
theorem selQ_8 (a b : List S27) (r : Int) : selQ 8 a b r = (hasP a r && hasP b r) := by
  rw [selQ_at 8 (by decide) (by decide)]; cases hasP a r <;> cases hasP b r <;> decide
theorem selQ_14 (a b : List S27) (r : Int) : selQ 14 a b r = (hasP a r || hasP b r) := by
  rw [selQ_at 14 (by decide) (by decide)]; cases hasP a r <;> cases hasP b r <;> decide
end Go.Proofs.Ytjnkllbecldfeaa.P
