/- The references' Make: the set of all that is told, or not told, by two. The plain side. -/
import Derived.Test.YtjnkllbecldfeaaPRef
namespace Go.Proofs.Ytjnkllbecldfeaa.P
set_option linter.unusedVariables false
set_option linter.unusedSimpArgs false
open Go.RowKit Go.Proofs.YtjnkllbecldfeaaW.PrintWords Go.Proofs.YtjnkllbecldfeaaW.PrintLast Go.Proofs.YtjnkllbecldfeaaW.PrintMore

theorem mem_layP (l : List Int) (x y : Int) : y ∈ layP l x ↔ y ∈ l ∨ y = x := by
  induction l with
  | nil => simp [layP]
  | cons a l ih =>
    unfold layP
    by_cases h1 : a < x
    · rw [if_pos h1, List.mem_cons, List.mem_cons, ih, or_assoc]
    · rw [if_neg h1]
      by_cases h2 : a = x
      · rw [if_pos h2, List.mem_cons, List.mem_cons]
        subst h2
        constructor
        · rintro (h | h)
          · exact .inr h
          · exact .inl (.inr h)
        · rintro ((h | h) | h)
          · exact .inl h
          · exact .inr h
          · exact .inl h
      · rw [if_neg h2, List.mem_cons, or_comm]
theorem layP_sorted {l : List Int} (h : l.Pairwise (· < ·)) (x : Int) : (layP l x).Pairwise (· < ·) := by
  induction l with
  | nil => simp [layP]
  | cons a l ih =>
    obtain ⟨h1, h2⟩ := List.pairwise_cons.1 h
    unfold layP
    by_cases c1 : a < x
    · rw [if_pos c1]
      refine List.pairwise_cons.2 ⟨fun y hy => ?_, ih h2⟩
      rcases (mem_layP _ _ _).1 hy with hy | hy
      · exact h1 y hy
      · omega
    · rw [if_neg c1]
      by_cases c2 : a = x
      · rw [if_pos c2]; subst c2; exact h
      · rw [if_neg c2]
        refine List.pairwise_cons.2 ⟨fun y hy => ?_, h⟩
        rcases List.mem_cons.1 hy with rfl | hy
        · omega
        · have := h1 y hy; omega

def edgeStep (e : List Int) (s : S27) : List Int :=
  let e1 := if scalB s.f0 = true then layP e s.f0 else e
  if s.f1 < 1114111 then (if scalB (s.f1 + 1) = true then layP e1 (s.f1 + 1) else e1) else e1
def edgesP (l : List S27) : List Int := l.foldl edgeStep [0, 57344]
theorem edgeStep_len (e : List Int) (s : S27) : (edgeStep e s).length ≤ e.length + 2 := by
  unfold edgeStep
  have h1 := layP_len e s.f0
  simp only
  split <;> split <;> (try split) <;> (try (have h2 := layP_len (layP e s.f0) (s.f1 + 1); omega)) <;> (try (have h2 := layP_len e (s.f1 + 1); omega)) <;> omega
theorem edges_len : ∀ (l : List S27) (e : List Int), (l.foldl edgeStep e).length ≤ e.length + 2 * l.length
  | [], e => by simp
  | s :: l, e => by
    have h1 := edges_len l (edgeStep e s)
    have h2 := edgeStep_len e s
    simp only [List.foldl_cons, List.length_cons]
    omega

theorem ref_edges_at (l : List S27) (hl : l.length ≤ 100000) (hw : Wf l) : ∀ (d i : Nat) (e : List Int), l.length - i = d → i ≤ l.length → e.length ≤ 2 + 2 * i → Ev (fun k => glyphcutterref01_edges.l0 k l e (i : Int)) ((l.drop i).foldl edgeStep e) := by
  intro d
  induction d with
  | zero =>
    intro i e hd hi he
    rw [List.drop_of_length_le (by omega)]
    exact Ev.step (fun k => by rw [glyphcutterref01_edges.l0]) (Ev.neg (by omega) (Ev.now e))
  | succ d ih =>
    intro i e hd hi he
    have hlt : i < l.length := by omega
    have hwi := hw l[i] (List.getElem_mem hlt)
    have next : ∀ e1 : List Int, e1.length ≤ e.length + 1 → Ev (fun k => glyphcutterref01_edges.j1 k l e1 (i : Int)) ((l.drop (i + 1)).foldl edgeStep (if l[i].f1 < 1114111 then (if scalB (l[i].f1 + 1) = true then layP e1 (l[i].f1 + 1) else e1) else e1)) := by
      intro e1 h1
      refine Ev.step (fun k => by rw [glyphcutterref01_edges.j1]) (Ev.pos (by omega) (Ev.pos (by omega) ?_))
      rw [rd_get l i hlt, wrap_in (i := (i : Int) + 1) (by omega) (by omega)]
      by_cases c1 : l[i].f1 < 1114111
      · refine Ev.pos c1 ?_
        rw [if_pos c1, wrap_in (by omega) (by omega)]
        refine Ev.bindc (ref_scalar _) ?_
        by_cases c2 : scalB (l[i].f1 + 1) = true
        · refine Ev.pos c2 ?_
          rw [if_pos c2]
          have h2 := layP_len e1 (l[i].f1 + 1)
          exact Ev.bind (ref_lay e1 _ (by omega)) (ih (i + 1) _ (by omega) (by omega) (by omega))
        · refine Ev.neg c2 ?_
          rw [if_neg c2]
          exact ih (i + 1) _ (by omega) (by omega) (by omega)
      · refine Ev.neg c1 ?_
        rw [if_neg c1]
        exact ih (i + 1) _ (by omega) (by omega) (by omega)
    rw [List.drop_eq_getElem_cons hlt, List.foldl_cons]
    refine Ev.step (fun k => by rw [glyphcutterref01_edges.l0]) (Ev.pos (by omega) (Ev.pos (by omega) ?_))
    rw [rd_get l i hlt]
    refine Ev.bindc (ref_scalar _) ?_
    unfold edgeStep
    by_cases c1 : scalB l[i].f0 = true
    · refine Ev.pos c1 ?_
      rw [if_pos c1]
      have h2 := layP_len e l[i].f0
      exact Ev.bind (ref_lay e _ (by omega)) (next _ (by omega))
    · refine Ev.neg c1 ?_
      rw [if_neg c1]
      exact next _ (by omega)
theorem ref_edges (l : List S27) (hl : l.length ≤ 100000) (hw : Wf l) : Ev (fun k => glyphcutterref01_edges.f k l) (edgesP l) := by
  have h := ref_edges_at l hl hw l.length 0 [0, 57344] (by omega) (by omega) (by simp)
  unfold glyphcutterref01_edges.f
  exact Ev.bind (ref_lay [] 0 (by simp)) (Ev.bind (ref_lay [0] 57344 (by simp)) (by simpa [edgesP, layP] using h))

/-- What edges are: rising scalars, the two begins among them, and each place where a span begins or has ended. -/
structure EdgesOk (l : List S27) (e : List Int) : Prop where
  sorted : e.Pairwise (· < ·)
  scal : ∀ x ∈ e, Scal x
  zero : (0 : Int) ∈ e
  gap : (57344 : Int) ∈ e
  lo : ∀ s ∈ l, Scal s.f0 → s.f0 ∈ e
  hi : ∀ s ∈ l, Scal (s.f1 + 1) → s.f1 + 1 ∈ e
theorem edgeStep_mem (e : List Int) (s : S27) (x : Int) : x ∈ edgeStep e s ↔ x ∈ e ∨ (Scal s.f0 ∧ x = s.f0) ∨ (Scal (s.f1 + 1) ∧ x = s.f1 + 1) := by
  unfold edgeStep
  have e1 : ∀ y, y ∈ (if scalB s.f0 = true then layP e s.f0 else e) ↔ y ∈ e ∨ (Scal s.f0 ∧ y = s.f0) := by
    intro y
    by_cases c : scalB s.f0 = true
    · rw [if_pos c, mem_layP]; simp [(scalB_iff _).1 c]
    · rw [if_neg c]
      have : ¬ Scal s.f0 := fun h => c ((scalB_iff _).2 h)
      simp [this]
  simp only
  by_cases c1 : s.f1 < 1114111
  · rw [if_pos c1]
    by_cases c2 : scalB (s.f1 + 1) = true
    · rw [if_pos c2, mem_layP, e1]
      simp only [(scalB_iff _).1 c2, true_and, or_assoc]
    · rw [if_neg c2, e1]
      have : ¬ Scal (s.f1 + 1) := fun h => c2 ((scalB_iff _).2 h)
      simp [this]
  · rw [if_neg c1, e1]
    have : ¬ Scal (s.f1 + 1) := by unfold Scal; omega
    simp [this]
theorem edgeStep_sorted {e : List Int} (h : e.Pairwise (· < ·)) (s : S27) : (edgeStep e s).Pairwise (· < ·) := by
  unfold edgeStep
  simp only
  split <;> split <;> (try split) <;> first | exact h | exact layP_sorted h _ | exact layP_sorted (layP_sorted h _) _
theorem edges_ok_at : ∀ (l done : List S27) (e : List Int), EdgesOk done e → EdgesOk (done ++ l) (l.foldl edgeStep e)
  | [], done, e, h => by simpa using h
  | s :: l, done, e, h => by
    have h2 : EdgesOk (done ++ [s]) (edgeStep e s) := by
      refine ⟨edgeStep_sorted h.sorted s, fun x hx => ?_, (edgeStep_mem _ _ _).2 (.inl h.zero), (edgeStep_mem _ _ _).2 (.inl h.gap), fun y hy hs => ?_, fun y hy hs => ?_⟩
      · rcases (edgeStep_mem _ _ _).1 hx with h1 | ⟨h1, rfl⟩ | ⟨h1, rfl⟩
        · exact h.scal x h1
        · exact h1
        · exact h1
      · rcases List.mem_append.1 hy with hy | hy
        · exact (edgeStep_mem _ _ _).2 (.inl (h.lo y hy hs))
        · simp only [List.mem_singleton] at hy; subst hy; exact (edgeStep_mem _ _ _).2 (.inr (.inl ⟨hs, rfl⟩))
      · rcases List.mem_append.1 hy with hy | hy
        · exact (edgeStep_mem _ _ _).2 (.inl (h.hi y hy hs))
        · simp only [List.mem_singleton] at hy; subst hy; exact (edgeStep_mem _ _ _).2 (.inr (.inr ⟨hs, rfl⟩))
    have := edges_ok_at l (done ++ [s]) _ h2
    simpa using this
theorem edges_ok (l : List S27) : EdgesOk l (edgesP l) := by
  have h : EdgesOk [] [0, 57344] := ⟨by simp, fun x hx => by simp at hx; unfold Scal; omega, by simp, by simp, fun s h => by simp at h, fun s h => by simp at h⟩
  simpa [edgesP] using edges_ok_at l [] _ h
/-- Edges of two, laid together. -/
def edges2 (a b : List S27) : List Int := (edgesP b).foldl layP (edgesP a)
theorem foldl_layP_mem : ∀ (l e : List Int) (x : Int), x ∈ l.foldl layP e ↔ x ∈ e ∨ x ∈ l
  | [], e, x => by simp
  | y :: l, e, x => by rw [List.foldl_cons, foldl_layP_mem l, mem_layP, List.mem_cons, or_assoc]
theorem foldl_layP_sorted : ∀ (l : List Int) {e : List Int}, e.Pairwise (· < ·) → (l.foldl layP e).Pairwise (· < ·)
  | [], _, h => h
  | y :: l, _, h => foldl_layP_sorted l (layP_sorted h y)
theorem foldl_layP_len : ∀ (l e : List Int), (l.foldl layP e).length ≤ e.length + l.length
  | [], e => by simp
  | y :: l, e => by have h1 := foldl_layP_len l (layP e y); have h2 := layP_len e y; simp only [List.foldl_cons, List.length_cons]; omega
theorem edges2_ok (a b : List S27) : EdgesOk (a ++ b) (edges2 a b) := by
  have ha := edges_ok a
  have hb := edges_ok b
  unfold edges2
  refine ⟨foldl_layP_sorted _ ha.sorted, fun x hx => ?_, (foldl_layP_mem _ _ _).2 (.inl ha.zero), (foldl_layP_mem _ _ _).2 (.inl ha.gap), fun s hs h => ?_, fun s hs h => ?_⟩
  · rcases (foldl_layP_mem _ _ _).1 hx with h | h
    · exact ha.scal x h
    · exact hb.scal x h
  · rcases List.mem_append.1 hs with hs | hs
    · exact (foldl_layP_mem _ _ _).2 (.inl (ha.lo s hs h))
    · exact (foldl_layP_mem _ _ _).2 (.inr (hb.lo s hs h))
  · rcases List.mem_append.1 hs with hs | hs
    · exact (foldl_layP_mem _ _ _).2 (.inl (ha.hi s hs h))
    · exact (foldl_layP_mem _ _ _).2 (.inr (hb.hi s hs h))
/-- Where no edge is, nothing turns. -/
theorem EdgesOk.same {l : List S27} {e : List Int} (h : EdgesOk l e) {m : List S27} (hm : ∀ s ∈ m, s ∈ l) {x : Int} (hx : Scal x) (hn : x ∉ e) : hasP m x = hasP m (x - 1) := by
  have h0 : x ≠ 0 := fun e' => hn (e' ▸ h.zero)
  have hg : x ≠ 57344 := fun e' => hn (e' ▸ h.gap)
  have hx1 : Scal (x - 1) := by unfold Scal at *; omega
  rw [Bool.eq_iff_iff, hasP_iff, hasP_iff]
  unfold mem
  constructor
  · rintro ⟨_, s, hs, h1, h2⟩
    refine ⟨hx1, s, hs, ?_, by omega⟩
    rcases Int.lt_or_le (x - 1) s.f0 with h3 | h3
    · have e1 : s.f0 = x := by omega
      exact absurd (e1 ▸ h.lo s (hm s hs) (e1 ▸ hx)) hn
    · exact h3
  · rintro ⟨_, s, hs, h1, h2⟩
    refine ⟨hx, s, hs, by omega, ?_⟩
    rcases Int.lt_or_le s.f1 x with h3 | h3
    · have e1 : s.f1 + 1 = x := by omega
      exact absurd (e1 ▸ h.hi s (hm s hs) (e1 ▸ hx)) hn
    · exact h3

/-! ### the sets out of the edges -/
def hiP (x : Int) (rest : List Int) : Int :=
  let h0 := match rest with | [] => 1114111 | y :: _ => y - 1
  if x < 55296 then mn h0 55295 else h0
def makeStep (sel : Int → Bool) (x : Int) (rest : List Int) (out : List S27) : List S27 :=
  if sel x = true then
    match out.getLast? with
    | some t => if t.f1 = x - 1 then out.dropLast ++ [⟨t.f0, hiP x rest⟩] else out ++ [⟨x, hiP x rest⟩]
    | none => out ++ [⟨x, hiP x rest⟩]
  else out
def makeP (sel : Int → Bool) : List Int → List S27 → List S27
  | [], out => out
  | x :: rest, out => makeP sel rest (makeStep sel x rest out)
/-- What the edges' parts have that are chosen. -/
def Cov (sel : Int → Bool) : List Int → Int → Prop
  | [], _ => False
  | x :: rest, r => (x ≤ r ∧ r ≤ hiP x rest ∧ sel x = true) ∨ Cov sel rest r

theorem hiP_ok {x : Int} {rest : List Int} (hs : (x :: rest).Pairwise (· < ·)) (hsc : ∀ y ∈ x :: rest, Scal y) (hg : x < 55296 → (57344 : Int) ∈ rest) :
    x ≤ hiP x rest ∧ (x < 55296 → hiP x rest < 55296) ∧ hiP x rest ≤ 1114111 ∧ (∀ y ∈ rest, hiP x rest < y) ∧ (∀ r, Scal r → hiP x rest < r → ∃ y, rest.head? = some y ∧ y ≤ r) := by
  obtain ⟨h1, h2⟩ := List.pairwise_cons.1 hs
  have hx := hsc x List.mem_cons_self
  unfold hiP
  have emn : ∀ a b : Int, mn a b = if b < a then b else a := fun _ _ => rfl
  cases rest with
  | nil =>
    have : ¬ x < 55296 := fun h => by have := hg h; simp at this
    simp only [if_neg this]
    unfold Scal at hx
    exact ⟨by omega, fun h => absurd h this, by omega, fun y hy => by simp at hy, fun r hr h => by unfold Scal at hr; omega⟩
  | cons y ys =>
    have hy := hsc y (by simp)
    have hxy := h1 y List.mem_cons_self
    have hys := (List.pairwise_cons.1 h2).1
    have hlow : ∀ z ∈ y :: ys, y ≤ z := by
      intro z hz
      rcases List.mem_cons.1 hz with rfl | hz
      · exact Int.le_refl _
      · have := hys z hz; omega
    simp only [emn]
    unfold Scal at hx hy
    by_cases c : x < 55296
    · rw [if_pos c]
      have hyg := hlow _ (hg c)
      refine ⟨?_, fun _ => ?_, ?_, fun z hz => ?_, fun r hr h => ⟨y, rfl, ?_⟩⟩
      · split <;> omega
      · split <;> omega
      · split <;> omega
      · have := hlow z hz; split <;> omega
      · unfold Scal at hr; split at h <;> omega
    · rw [if_neg c]
      exact ⟨by omega, fun h => absurd h c, by omega, fun z hz => by have := hlow z hz; omega, fun r hr h => ⟨y, rfl, by omega⟩⟩

theorem makeP_ok (sel : Int → Bool) : ∀ (rest : List Int) (out : List S27), rest.Pairwise (· < ·) → (∀ y ∈ rest, Scal y) → (∀ x ∈ rest, x < 55296 → (57344 : Int) ∈ rest) → Nf out → (∀ t ∈ out, ∀ x ∈ rest, t.f1 < x) →
    Nf (makeP sel rest out) ∧ ∀ r, mem (makeP sel rest out) r ↔ mem out r ∨ Cov sel rest r
  | [], out, _, _, _, ho, _ => ⟨ho, fun r => by simp [makeP, Cov]⟩
  | x :: rest, out, hs, hsc, hg, ho, hl => by
    obtain ⟨h1, h2⟩ := List.pairwise_cons.1 hs
    have hg' : x < 55296 → (57344 : Int) ∈ rest := fun h => by
      rcases List.mem_cons.1 (hg x List.mem_cons_self h) with e | e
      · omega
      · exact e
    have hgr : ∀ y ∈ rest, y < 55296 → (57344 : Int) ∈ rest := fun y hy h => by
      rcases List.mem_cons.1 (hg y (List.mem_cons_of_mem _ hy) h) with e | e
      · have := h1 y hy; omega
      · exact e
    obtain ⟨k1, k2, k3, k4, _⟩ := hiP_ok hs hsc hg'
    have hx := hsc x List.mem_cons_self
    have hnew : Ok ⟨x, hiP x rest⟩ := by
      refine ⟨k1, ?_⟩
      unfold Scal at hx
      by_cases c : x < 55296
      · exact .inl ⟨hx.1, k2 c⟩
      · exact .inr ⟨by simp only; omega, k3⟩
    have key : Nf (makeStep sel x rest out) ∧ (∀ r, mem (makeStep sel x rest out) r ↔ mem out r ∨ (x ≤ r ∧ r ≤ hiP x rest ∧ sel x = true)) ∧ ∀ t ∈ makeStep sel x rest out, ∀ y ∈ rest, t.f1 < y := by
      unfold makeStep
      by_cases c : sel x = true
      · rw [if_pos c]
        have plain : (∀ t ∈ out, t.f1 + 1 < x) → Nf (out ++ [⟨x, hiP x rest⟩]) ∧ (∀ r, mem (out ++ [⟨x, hiP x rest⟩]) r ↔ mem out r ∨ (x ≤ r ∧ r ≤ hiP x rest ∧ sel x = true)) ∧ ∀ t ∈ out ++ [(⟨x, hiP x rest⟩ : S27)], ∀ y ∈ rest, t.f1 < y := by
          intro hlt
          refine ⟨⟨fun t ht => ?_, List.pairwise_append.2 ⟨ho.2, List.pairwise_singleton _ _, fun t ht y hy => ?_⟩⟩, fun r => ?_, fun t ht y hy => ?_⟩
          · rcases List.mem_append.1 ht with ht | ht
            · exact ho.1 t ht
            · simp only [List.mem_singleton] at ht; subst ht; exact hnew
          · simp only [List.mem_singleton] at hy; subst hy; exact hlt t ht
          · rw [mem_append, mem_one]; simp [c]
          · rcases List.mem_append.1 ht with ht | ht
            · exact hl t ht y (List.mem_cons_of_mem _ hy)
            · simp only [List.mem_singleton] at ht; subst ht; exact k4 y hy
        rcases nil_or_snoc out with rfl | ⟨init, t, rfl⟩
        · exact plain (fun t ht => by simp at ht)
        · rw [show (init ++ [t]).getLast? = some t by simp, show (init ++ [t]).dropLast = init by simp]
          have hpw := List.pairwise_append.1 ho.2
          have ht := ho.1 t (by simp)
          have hlt := hl t (by simp) x List.mem_cons_self
          simp only
          by_cases c2 : t.f1 = x - 1
          · rw [if_pos c2]
            refine ⟨⟨fun u hu => ?_, List.pairwise_append.2 ⟨hpw.1, List.pairwise_singleton _ _, fun u hu y hy => ?_⟩⟩, fun r => ?_, fun u hu y hy => ?_⟩
            · rcases List.mem_append.1 hu with hu | hu
              · exact ho.1 u (List.mem_append_left _ hu)
              · simp only [List.mem_singleton] at hu; subst hu
                unfold Ok Scal at *
                simp only at hnew ⊢
                omega
            · simp only [List.mem_singleton] at hy; subst hy; exact hpw.2.2 u hu t (by simp)
            · rw [mem_append, mem_append, mem_one, mem_one]
              simp only [c, and_true]
              have := ht.1
              constructor
              · rintro (h | h)
                · exact .inl (.inl h)
                · by_cases h3 : r ≤ t.f1
                  · exact .inl (.inr ⟨h.1, h3⟩)
                  · exact .inr ⟨by omega, h.2⟩
              · rintro ((h | h) | h)
                · exact .inl h
                · exact .inr ⟨h.1, by omega⟩
                · exact .inr ⟨by omega, h.2⟩
            · rcases List.mem_append.1 hu with hu | hu
              · exact hl u (List.mem_append_left _ hu) y (List.mem_cons_of_mem _ hy)
              · simp only [List.mem_singleton] at hu; subst hu; exact k4 y hy
          · rw [if_neg c2]
            refine plain (fun u hu => ?_)
            rcases List.mem_append.1 hu with hu | hu
            · have := hpw.2.2 u hu t (by simp); have := ht.1; omega
            · simp only [List.mem_singleton] at hu; subst hu; omega
      · rw [if_neg c]
        exact ⟨ho, fun r => by simp [c], fun t ht y hy => hl t ht y (List.mem_cons_of_mem _ hy)⟩
    obtain ⟨m1, m2, m3⟩ := key
    obtain ⟨n1, n2⟩ := makeP_ok sel rest _ h2 (fun y hy => hsc y (List.mem_cons_of_mem _ hy)) hgr m1 m3
    refine ⟨n1, fun r => ?_⟩
    show mem (makeP sel rest (makeStep sel x rest out)) r ↔ _
    rw [n2, m2, or_assoc]
    rfl

theorem cov_iff (sel : Int → Bool) : ∀ (x : Int) (rest : List Int), (x :: rest).Pairwise (· < ·) → (∀ y ∈ x :: rest, Scal y) → (∀ y ∈ x :: rest, y < 55296 → (57344 : Int) ∈ x :: rest) → (∀ r, Scal r → x < r → r ∉ rest → r ≠ 57344 → sel r = sel (r - 1)) →
    ∀ r, Cov sel (x :: rest) r ↔ Scal r ∧ x ≤ r ∧ sel r = true := by
  intro x rest
  induction rest generalizing x with
  | nil =>
    intro hs hsc hg hsame r
    obtain ⟨k1, k2, k3, k4, k5⟩ := hiP_ok hs hsc (fun h => by have := hg x List.mem_cons_self h; simp at this; omega)
    have hx := hsc x List.mem_cons_self
    have hxg : ¬ x < 55296 := fun h => by have := hg x List.mem_cons_self h; simp at this; omega
    have run : ∀ (d : Nat) (r : Int), r = x + d → r ≤ hiP x [] → sel r = sel x := by
      intro d
      induction d with
      | zero => intro r hr _; rw [hr]; simp
      | succ d ih => intro r hr hh; unfold Scal at hx; rw [hsame r (by unfold Scal; omega) (by omega) (by simp) (by omega), ih (r - 1) (by omega) (by omega)]
    simp only [Cov, or_false]
    constructor
    · rintro ⟨a1, a2, a3⟩
      have := run (r - x).toNat r (by omega) a2
      unfold Scal at hx ⊢
      exact ⟨by omega, a1, by rw [this]; exact a3⟩
    · rintro ⟨a1, a2, a3⟩
      have hh : r ≤ hiP x [] := by
        rcases Int.lt_or_le (hiP x []) r with h | h
        · obtain ⟨y, hy, _⟩ := k5 r a1 h; simp at hy
        · exact h
      exact ⟨a2, hh, by rw [← run (r - x).toNat r (by omega) hh]; exact a3⟩
  | cons y ys ih =>
    intro hs hsc hg hsame r
    obtain ⟨h1, h2⟩ := List.pairwise_cons.1 hs
    have hgx : x < 55296 → (57344 : Int) ∈ y :: ys := fun h => by
      rcases List.mem_cons.1 (hg x List.mem_cons_self h) with e | e
      · omega
      · exact e
    obtain ⟨k1, k2, k3, k4, k5⟩ := hiP_ok hs hsc hgx
    have hx := hsc x List.mem_cons_self
    have hgr : ∀ z ∈ y :: ys, z < 55296 → (57344 : Int) ∈ y :: ys := fun z hz h => by
      rcases List.mem_cons.1 (hg z (List.mem_cons_of_mem _ hz) h) with e | e
      · have := h1 z hz; omega
      · exact e
    have hxy := h1 y List.mem_cons_self
    have hlow : ∀ z ∈ ys, y < z := (List.pairwise_cons.1 h2).1
    have ih' := ih y h2 (fun z hz => hsc z (List.mem_cons_of_mem _ hz)) hgr (fun r hr hyr hn hg => hsame r hr (by omega) (fun hm => by
      rcases List.mem_cons.1 hm with e | e
      · omega
      · exact hn e) hg)
    have hk4 := k4 y List.mem_cons_self
    have run : ∀ (d : Nat) (r : Int), r = x + d → r ≤ hiP x (y :: ys) → sel r = sel x := by
      intro d
      induction d with
      | zero => intro r hr _; rw [hr]; simp
      | succ d ih2 =>
        intro r hr hh
        have hnm : r ∉ y :: ys := fun hm => by have := k4 r hm; omega
        have hsr : Scal r := by
          unfold Scal at hx ⊢
          by_cases c : x < 55296
          · have := k2 c; omega
          · omega
        have hr5 : r ≠ 57344 := by
          rintro rfl
          by_cases c : x < 55296
          · have := k2 c; omega
          · unfold Scal at hx; omega
        rw [hsame r hsr (by omega) hnm hr5, ih2 (r - 1) (by omega) (by omega)]
    show (x ≤ r ∧ r ≤ hiP x (y :: ys) ∧ sel x = true) ∨ Cov sel (y :: ys) r ↔ _
    rw [ih']
    constructor
    · rintro (⟨a1, a2, a3⟩ | ⟨a1, a2, a3⟩)
      · have := run (r - x).toNat r (by omega) a2
        refine ⟨?_, a1, by rw [this]; exact a3⟩
        unfold Scal at hx ⊢
        by_cases c : x < 55296
        · have := k2 c; omega
        · omega
      · exact ⟨a1, by omega, a3⟩
    · rintro ⟨a1, a2, a3⟩
      rcases Int.lt_or_le (hiP x (y :: ys)) r with h | h
      · obtain ⟨z, hz, hzr⟩ := k5 r a1 h
        simp at hz; subst hz
        exact .inr ⟨a1, hzr, a3⟩
      · exact .inl ⟨a2, h, by rw [← run (r - x).toNat r (by omega) h]; exact a3⟩
end Go.Proofs.Ytjnkllbecldfeaa.P
