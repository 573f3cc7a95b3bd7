/- Sets: the reference's operations. -/
import Derived.Test.YtpcljaidlihafaaPx0
import Derived.Test.YtpcljaidlihafaaPx2
import Derived.Test.YtpcljaidlihafaaPx5
import Derived.Test.YtpcljaidlihafaaPx4
import Derived.Test.YtpcljaidlihafaaPx3
import Derived.Test.YtpcljaidlihafaaGProps2
import Derived.Test.YtpcljaidlihafaaPBase
import Derived.Test.YtpcljaidlihafaaPProps
namespace Go.Proofs.Ytpcljaidlihafaa.P
set_option linter.unusedVariables false
set_option linter.unusedSimpArgs false
section
open Go.RowKit Go.Proofs.YtpcljaidlihafaaW.PrintWords Go.Proofs.YtpcljaidlihafaaW.PrintLast Go.Proofs.YtpcljaidlihafaaW.PrintMore
theorem scalB_iff (r : Int) : scalB r = true ↔ Scal r := by unfold scalB Scal; exact decide_eq_true_iff
/-- One more number, in its place. -/
def layP : List Int → Int → List Int
  | [], x => [x]
  | a :: l, x => if a < x then a :: layP l x else if a = x then x :: l else x :: a :: l
theorem layP_len (l : List Int) (x : Int) : (layP l x).length ≤ l.length + 1 := by
  induction l with
  | nil => simp [layP]
  | cons a l ih => unfold layP; split; · simp; omega
                   · split <;> simp
theorem ref_lay_at (l : List Int) (x : Int) (hl : l.length ≤ 1000000000) : ∀ (d i : Nat) (out : List Int), l.length - i = d → i ≤ l.length → out.length ≤ i → Ev (fun k => glyphcutterref01_lay.l0 k l x out (i : Int)) (out ++ layP (l.drop i) x) := by
  intro d
  induction d with
  | zero =>
    intro i out hd hi ho
    rw [List.drop_of_length_le (by omega)]
    refine Ev.step (fun k => by rw [glyphcutterref01_lay.l0]) (Ev.neg (by omega) (Ev.pos (by omega) ?_))
    refine Ev.bindc rfl (Ev.pos (by omega) (Ev.pos (by omega) (Ev.pos (by simp; omega) ?_)))
    have : l.drop (i : Int).toNat = [] := by rw [Int.toNat_natCast]; exact List.drop_of_length_le (by omega)
    rw [this]
    simpa [layP] using Ev.now (out ++ [x])
  | succ d ih =>
    intro i out hd hi ho
    have hlt : i < l.length := by omega
    rw [List.drop_eq_getElem_cons hlt]
    refine Ev.step (fun k => by rw [glyphcutterref01_lay.l0]) (Ev.pos (by omega) (Ev.pos (by omega) ?_))
    rw [rdi_get l i hlt, wrap_in (by omega) (by omega)]
    unfold layP
    by_cases h1 : l[i] < x
    · refine Ev.pos h1 (Ev.pos (by omega) ?_)
      rw [if_pos h1]
      have := ih (i + 1) (out ++ [l[i]]) (by omega) (by omega) (by simp; omega)
      simpa using this
    · refine Ev.neg h1 ?_
      rw [if_neg h1]
      by_cases h2 : l[i] = x
      · refine Ev.pos h2 (Ev.pos (by omega) (Ev.bindc rfl (Ev.pos (by omega) (Ev.pos (by omega) (Ev.pos ?_ ?_)))))
        · simp; omega
        · have e : ((i : Int) + 1).toNat = i + 1 := by omega
          rw [e, if_pos h2]
          simpa using Ev.now (out ++ [x] ++ l.drop (i + 1))
      · refine Ev.neg h2 (Ev.pos (by omega) (Ev.bindc rfl (Ev.pos (by omega) (Ev.pos ?_ ?_))))
        · simp; omega
        · rw [Int.toNat_natCast, if_neg h2]
          simpa using Ev.now (out ++ [x] ++ l.drop i)
theorem ref_lay (l : List Int) (x : Int) (hl : l.length ≤ 1000000000) : Ev (fun k => glyphcutterref01_lay.f k l x) (layP l x) := by
  have := ref_lay_at l x hl l.length 0 [] (by omega) (by omega) (by simp)
  simpa [glyphcutterref01_lay.f] using this
end
section
open Go.RowKit Go.Proofs.YtpcljaidlihafaaW.PrintWords Go.Proofs.YtpcljaidlihafaaW.PrintLast Go.Proofs.YtpcljaidlihafaaW.PrintMore
theorem mem_layP (l : List Int) (x y : Int) : y ∈ layP l x ↔ y ∈ l ∨ y = x := by
  induction l with
  | nil => simp [layP]
  | cons a l ih =>
    unfold layP
    by_cases h1 : a < x
    · rw [if_pos h1, List.mem_cons, List.mem_cons, ih, or_assoc]
    · rw [if_neg h1]
      by_cases h2 : a = x
      · rw [if_pos h2, List.mem_cons, List.mem_cons]
        subst h2
        constructor
        · rintro (h | h)
          · exact .inr h
          · exact .inl (.inr h)
        · rintro ((h | h) | h)
          · exact .inl h
          · exact .inr h
          · exact .inl h
      · rw [if_neg h2, List.mem_cons, or_comm]
theorem layP_sorted {l : List Int} (h : l.Pairwise (· < ·)) (x : Int) : (layP l x).Pairwise (· < ·) := by
  induction l with
  | nil => simp [layP]
  | cons a l ih =>
    obtain ⟨h1, h2⟩ := List.pairwise_cons.1 h
    unfold layP
    by_cases c1 : a < x
    · rw [if_pos c1]
      refine List.pairwise_cons.2 ⟨fun y hy => ?_, ih h2⟩
      rcases (mem_layP _ _ _).1 hy with hy | hy
      · exact h1 y hy
      · omega
    · rw [if_neg c1]
      by_cases c2 : a = x
      · rw [if_pos c2]; subst c2; exact h
      · rw [if_neg c2]
        refine List.pairwise_cons.2 ⟨fun y hy => ?_, h⟩
        rcases List.mem_cons.1 hy with rfl | hy
        · omega
        · have := h1 y hy; omega
def edgeStep (e : List Int) (s : S39) : List Int :=
  let e1 := if scalB s.f0 = true then layP e s.f0 else e
  if s.f1 < 1114111 then (if scalB (s.f1 + 1) = true then layP e1 (s.f1 + 1) else e1) else e1
def edgesP (l : List S39) : List Int := l.foldl edgeStep [0, 57344]
theorem edgeStep_len (e : List Int) (s : S39) : (edgeStep e s).length ≤ e.length + 2 := by
  unfold edgeStep
  have h1 := layP_len e s.f0
  simp only
  split <;> split <;> (try split) <;> (try (have h2 := layP_len (layP e s.f0) (s.f1 + 1); omega)) <;> (try (have h2 := layP_len e (s.f1 + 1); omega)) <;> omega
theorem edges_len : ∀ (l : List S39) (e : List Int), (l.foldl edgeStep e).length ≤ e.length + 2 * l.length
  | [], e => by simp
  | s :: l, e => by
    have h1 := edges_len l (edgeStep e s)
    have h2 := edgeStep_len e s
    simp only [List.foldl_cons, List.length_cons]
    omega
theorem ref_edges_at (l : List S39) (hl : l.length ≤ 100000) (hw : Wf l) : ∀ (d i : Nat) (e : List Int), l.length - i = d → i ≤ l.length → e.length ≤ 2 + 2 * i → Ev (fun k => glyphcutterref01_edges.l0 k l e (i : Int)) ((l.drop i).foldl edgeStep e) := by
  intro d
  induction d with
  | zero =>
    intro i e hd hi he
    rw [List.drop_of_length_le (by omega)]
    exact Ev.step (fun k => by rw [glyphcutterref01_edges.l0]) (Ev.neg (by omega) (Ev.now e))
  | succ d ih =>
    intro i e hd hi he
    have hlt : i < l.length := by omega
    have hwi := hw l[i] (List.getElem_mem hlt)
    have next : ∀ e1 : List Int, e1.length ≤ e.length + 1 → Ev (fun k => glyphcutterref01_edges.j1 k l e1 (i : Int)) ((l.drop (i + 1)).foldl edgeStep (if l[i].f1 < 1114111 then (if scalB (l[i].f1 + 1) = true then layP e1 (l[i].f1 + 1) else e1) else e1)) := by
      intro e1 h1
      refine Ev.step (fun k => by rw [glyphcutterref01_edges.j1]) (Ev.pos (by omega) (Ev.pos (by omega) ?_))
      rw [rd_get l i hlt, wrap_in (i := (i : Int) + 1) (by omega) (by omega)]
      by_cases c1 : l[i].f1 < 1114111
      · refine Ev.pos c1 ?_
        rw [if_pos c1, wrap_in (by omega) (by omega)]
        refine Ev.bindc (ref_scalar _) ?_
        by_cases c2 : scalB (l[i].f1 + 1) = true
        · refine Ev.pos c2 ?_
          rw [if_pos c2]
          have h2 := layP_len e1 (l[i].f1 + 1)
          exact Ev.bind (ref_lay e1 _ (by omega)) (ih (i + 1) _ (by omega) (by omega) (by omega))
        · refine Ev.neg c2 ?_
          rw [if_neg c2]
          exact ih (i + 1) _ (by omega) (by omega) (by omega)
      · refine Ev.neg c1 ?_
        rw [if_neg c1]
        exact ih (i + 1) _ (by omega) (by omega) (by omega)
    rw [List.drop_eq_getElem_cons hlt, List.foldl_cons]
    refine Ev.step (fun k => by rw [glyphcutterref01_edges.l0]) (Ev.pos (by omega) (Ev.pos (by omega) ?_))
    rw [rd_get l i hlt]
    refine Ev.bindc (ref_scalar _) ?_
    unfold edgeStep
    by_cases c1 : scalB l[i].f0 = true
    · refine Ev.pos c1 ?_
      rw [if_pos c1]
      have h2 := layP_len e l[i].f0
      exact Ev.bind (ref_lay e _ (by omega)) (next _ (by omega))
    · refine Ev.neg c1 ?_
      rw [if_neg c1]
      exact next _ (by omega)
theorem ref_edges (l : List S39) (hl : l.length ≤ 100000) (hw : Wf l) : Ev (fun k => glyphcutterref01_edges.f k l) (edgesP l) := by
  have h := ref_edges_at l hl hw l.length 0 [0, 57344] (by omega) (by omega) (by simp)
  unfold glyphcutterref01_edges.f
  exact Ev.bind (ref_lay [] 0 (by simp)) (Ev.bind (ref_lay [0] 57344 (by simp)) (by simpa [edgesP, layP] using h))
/-- What edges are: rising scalars, the two begins among them, and each place where a span begins or has ended. -/
structure EdgesOk (l : List S39) (e : List Int) : Prop where
  sorted : e.Pairwise (· < ·)
  scal : ∀ x ∈ e, Scal x
  zero : (0 : Int) ∈ e
  gap : (57344 : Int) ∈ e
  lo : ∀ s ∈ l, Scal s.f0 → s.f0 ∈ e
  hi : ∀ s ∈ l, Scal (s.f1 + 1) → s.f1 + 1 ∈ e
theorem edgeStep_mem (e : List Int) (s : S39) (x : Int) : x ∈ edgeStep e s ↔ x ∈ e ∨ (Scal s.f0 ∧ x = s.f0) ∨ (Scal (s.f1 + 1) ∧ x = s.f1 + 1) := by
  unfold edgeStep
  have e1 : ∀ y, y ∈ (if scalB s.f0 = true then layP e s.f0 else e) ↔ y ∈ e ∨ (Scal s.f0 ∧ y = s.f0) := by
    intro y
    by_cases c : scalB s.f0 = true
    · rw [if_pos c, mem_layP]; simp [(scalB_iff _).1 c]
    · rw [if_neg c]
      have : ¬ Scal s.f0 := fun h => c ((scalB_iff _).2 h)
      simp [this]
  simp only
  by_cases c1 : s.f1 < 1114111
  · rw [if_pos c1]
    by_cases c2 : scalB (s.f1 + 1) = true
    · rw [if_pos c2, mem_layP, e1]
      simp only [(scalB_iff _).1 c2, true_and, or_assoc]
    · rw [if_neg c2, e1]
      have : ¬ Scal (s.f1 + 1) := fun h => c2 ((scalB_iff _).2 h)
      simp [this]
  · rw [if_neg c1, e1]
    have : ¬ Scal (s.f1 + 1) := by unfold Scal; omega
    simp [this]
theorem edgeStep_sorted {e : List Int} (h : e.Pairwise (· < ·)) (s : S39) : (edgeStep e s).Pairwise (· < ·) := by
  unfold edgeStep
  simp only
  split <;> split <;> (try split) <;> first | exact h | exact layP_sorted h _ | exact layP_sorted (layP_sorted h _) _
theorem edges_ok_at : ∀ (l done : List S39) (e : List Int), EdgesOk done e → EdgesOk (done ++ l) (l.foldl edgeStep e)
  | [], done, e, h => by simpa using h
  | s :: l, done, e, h => by
    have h2 : EdgesOk (done ++ [s]) (edgeStep e s) := by
      refine ⟨edgeStep_sorted h.sorted s, fun x hx => ?_, (edgeStep_mem _ _ _).2 (.inl h.zero), (edgeStep_mem _ _ _).2 (.inl h.gap), fun y hy hs => ?_, fun y hy hs => ?_⟩
      · rcases (edgeStep_mem _ _ _).1 hx with h1 | ⟨h1, rfl⟩ | ⟨h1, rfl⟩
        · exact h.scal x h1
        · exact h1
        · exact h1
      · rcases List.mem_append.1 hy with hy | hy
        · exact (edgeStep_mem _ _ _).2 (.inl (h.lo y hy hs))
        · simp only [List.mem_singleton] at hy; subst hy; exact (edgeStep_mem _ _ _).2 (.inr (.inl ⟨hs, rfl⟩))
      · rcases List.mem_append.1 hy with hy | hy
        · exact (edgeStep_mem _ _ _).2 (.inl (h.hi y hy hs))
        · simp only [List.mem_singleton] at hy; subst hy; exact (edgeStep_mem _ _ _).2 (.inr (.inr ⟨hs, rfl⟩))
    have := edges_ok_at l (done ++ [s]) _ h2
    simpa using this
theorem edges_ok (l : List S39) : EdgesOk l (edgesP l) := by
  have h : EdgesOk [] [0, 57344] := ⟨by simp, fun x hx => by simp at hx; unfold Scal; omega, by simp, by simp, fun s h => by simp at h, fun s h => by simp at h⟩
  simpa [edgesP] using edges_ok_at l [] _ h
/-- Edges of two, laid together. -/
def edges2 (a b : List S39) : List Int := (edgesP b).foldl layP (edgesP a)
theorem foldl_layP_mem : ∀ (l e : List Int) (x : Int), x ∈ l.foldl layP e ↔ x ∈ e ∨ x ∈ l
  | [], e, x => by simp
  | y :: l, e, x => by rw [List.foldl_cons, foldl_layP_mem l, mem_layP, List.mem_cons, or_assoc]
theorem foldl_layP_sorted : ∀ (l : List Int) {e : List Int}, e.Pairwise (· < ·) → (l.foldl layP e).Pairwise (· < ·)
  | [], _, h => h
  | y :: l, _, h => foldl_layP_sorted l (layP_sorted h y)
theorem edges2_ok (a b : List S39) : EdgesOk (a ++ b) (edges2 a b) := by
  have ha := edges_ok a
  have hb := edges_ok b
  unfold edges2
  refine ⟨foldl_layP_sorted _ ha.sorted, fun x hx => ?_, (foldl_layP_mem _ _ _).2 (.inl ha.zero), (foldl_layP_mem _ _ _).2 (.inl ha.gap), fun s hs h => ?_, fun s hs h => ?_⟩
  · rcases (foldl_layP_mem _ _ _).1 hx with h | h
    · exact ha.scal x h
    · exact hb.scal x h
  · rcases List.mem_append.1 hs with hs | hs
    · exact (foldl_layP_mem _ _ _).2 (.inl (ha.lo s hs h))
    · exact (foldl_layP_mem _ _ _).2 (.inr (hb.lo s hs h))
  · rcases List.mem_append.1 hs with hs | hs
    · exact (foldl_layP_mem _ _ _).2 (.inl (ha.hi s hs h))
    · exact (foldl_layP_mem _ _ _).2 (.inr (hb.hi s hs h))
/-- Where no edge is, nothing turns. -/
theorem EdgesOk.same {l : List S39} {e : List Int} (h : EdgesOk l e) {m : List S39} (hm : ∀ s ∈ m, s ∈ l) {x : Int} (hx : Scal x) (hn : x ∉ e) : hasP m x = hasP m (x - 1) := by
  have h0 : x ≠ 0 := fun e' => hn (e' ▸ h.zero)
  have hg : x ≠ 57344 := fun e' => hn (e' ▸ h.gap)
  have hx1 : Scal (x - 1) := by unfold Scal at *; omega
  rw [Bool.eq_iff_iff, hasP_iff, hasP_iff]
  unfold mem
  constructor
  · rintro ⟨_, s, hs, h1, h2⟩
    refine ⟨hx1, s, hs, ?_, by omega⟩
    rcases Int.lt_or_le (x - 1) s.f0 with h3 | h3
    · have e1 : s.f0 = x := by omega
      exact absurd (e1 ▸ h.lo s (hm s hs) (e1 ▸ hx)) hn
    · exact h3
  · rintro ⟨_, s, hs, h1, h2⟩
    refine ⟨hx, s, hs, by omega, ?_⟩
    rcases Int.lt_or_le s.f1 x with h3 | h3
    · have e1 : s.f1 + 1 = x := by omega
      exact absurd (e1 ▸ h.hi s (hm s hs) (e1 ▸ hx)) hn
    · exact h3
def hiP (x : Int) (rest : List Int) : Int :=
  let h0 := match rest with | [] => 1114111 | y :: _ => y - 1
  if x < 55296 then mn h0 55295 else h0
def makeStep (sel : Int → Bool) (x : Int) (rest : List Int) (out : List S39) : List S39 :=
  if sel x = true then
    match out.getLast? with
    | some t => if t.f1 = x - 1 then out.dropLast ++ [⟨t.f0, hiP x rest⟩] else out ++ [⟨x, hiP x rest⟩]
    | none => out ++ [⟨x, hiP x rest⟩]
  else out
def makeP (sel : Int → Bool) : List Int → List S39 → List S39
  | [], out => out
  | x :: rest, out => makeP sel rest (makeStep sel x rest out)
/-- What the edges' parts have that are chosen. -/
def Cov (sel : Int → Bool) : List Int → Int → Prop
  | [], _ => False
  | x :: rest, r => (x ≤ r ∧ r ≤ hiP x rest ∧ sel x = true) ∨ Cov sel rest r
theorem hiP_ok {x : Int} {rest : List Int} (hs : (x :: rest).Pairwise (· < ·)) (hsc : ∀ y ∈ x :: rest, Scal y) (hg : x < 55296 → (57344 : Int) ∈ rest) :
    x ≤ hiP x rest ∧ (x < 55296 → hiP x rest < 55296) ∧ hiP x rest ≤ 1114111 ∧ (∀ y ∈ rest, hiP x rest < y) ∧ (∀ r, Scal r → hiP x rest < r → ∃ y, rest.head? = some y ∧ y ≤ r) := by
  obtain ⟨h1, h2⟩ := List.pairwise_cons.1 hs
  have hx := hsc x List.mem_cons_self
  unfold hiP
  have emn : ∀ a b : Int, mn a b = if b < a then b else a := fun _ _ => rfl
  cases rest with
  | nil =>
    have : ¬ x < 55296 := fun h => by have := hg h; simp at this
    simp only [if_neg this]
    unfold Scal at hx
    exact ⟨by omega, fun h => absurd h this, by omega, fun y hy => by simp at hy, fun r hr h => by unfold Scal at hr; omega⟩
  | cons y ys =>
    have hy := hsc y (by simp)
    have hxy := h1 y List.mem_cons_self
    have hys := (List.pairwise_cons.1 h2).1
    have hlow : ∀ z ∈ y :: ys, y ≤ z := by
      intro z hz
      rcases List.mem_cons.1 hz with rfl | hz
      · exact Int.le_refl _
      · have := hys z hz; omega
    simp only [emn]
    unfold Scal at hx hy
    by_cases c : x < 55296
    · rw [if_pos c]
      have hyg := hlow _ (hg c)
      refine ⟨?_, fun _ => ?_, ?_, fun z hz => ?_, fun r hr h => ⟨y, rfl, ?_⟩⟩
      · split <;> omega
      · split <;> omega
      · split <;> omega
      · have := hlow z hz; split <;> omega
      · unfold Scal at hr; split at h <;> omega
    · rw [if_neg c]
      exact ⟨by omega, fun h => absurd h c, by omega, fun z hz => by have := hlow z hz; omega, fun r hr h => ⟨y, rfl, by omega⟩⟩
theorem makeP_ok (sel : Int → Bool) : ∀ (rest : List Int) (out : List S39), rest.Pairwise (· < ·) → (∀ y ∈ rest, Scal y) → (∀ x ∈ rest, x < 55296 → (57344 : Int) ∈ rest) → Nf out → (∀ t ∈ out, ∀ x ∈ rest, t.f1 < x) →
    Nf (makeP sel rest out) ∧ ∀ r, mem (makeP sel rest out) r ↔ mem out r ∨ Cov sel rest r
  | [], out, _, _, _, ho, _ => ⟨ho, fun r => by simp [makeP, Cov]⟩
  | x :: rest, out, hs, hsc, hg, ho, hl => by
    obtain ⟨h1, h2⟩ := List.pairwise_cons.1 hs
    have hg' : x < 55296 → (57344 : Int) ∈ rest := fun h => by
      rcases List.mem_cons.1 (hg x List.mem_cons_self h) with e | e
      · omega
      · exact e
    have hgr : ∀ y ∈ rest, y < 55296 → (57344 : Int) ∈ rest := fun y hy h => by
      rcases List.mem_cons.1 (hg y (List.mem_cons_of_mem _ hy) h) with e | e
      · have := h1 y hy; omega
      · exact e
    obtain ⟨k1, k2, k3, k4, _⟩ := hiP_ok hs hsc hg'
    have hx := hsc x List.mem_cons_self
    have hnew : Ok ⟨x, hiP x rest⟩ := by
      refine ⟨k1, ?_⟩
      unfold Scal at hx
      by_cases c : x < 55296
      · exact .inl ⟨hx.1, k2 c⟩
      · exact .inr ⟨by simp only; omega, k3⟩
    have key : Nf (makeStep sel x rest out) ∧ (∀ r, mem (makeStep sel x rest out) r ↔ mem out r ∨ (x ≤ r ∧ r ≤ hiP x rest ∧ sel x = true)) ∧ ∀ t ∈ makeStep sel x rest out, ∀ y ∈ rest, t.f1 < y := by
      unfold makeStep
      by_cases c : sel x = true
      · rw [if_pos c]
        have plain : (∀ t ∈ out, t.f1 + 1 < x) → Nf (out ++ [⟨x, hiP x rest⟩]) ∧ (∀ r, mem (out ++ [⟨x, hiP x rest⟩]) r ↔ mem out r ∨ (x ≤ r ∧ r ≤ hiP x rest ∧ sel x = true)) ∧ ∀ t ∈ out ++ [(⟨x, hiP x rest⟩ : S39)], ∀ y ∈ rest, t.f1 < y := by
          intro hlt
          refine ⟨⟨fun t ht => ?_, List.pairwise_append.2 ⟨ho.2, List.pairwise_singleton _ _, fun t ht y hy => ?_⟩⟩, fun r => ?_, fun t ht y hy => ?_⟩
          · rcases List.mem_append.1 ht with ht | ht
            · exact ho.1 t ht
            · simp only [List.mem_singleton] at ht; subst ht; exact hnew
          · simp only [List.mem_singleton] at hy; subst hy; exact hlt t ht
          · rw [mem_append, mem_one]; simp [c]
          · rcases List.mem_append.1 ht with ht | ht
            · exact hl t ht y (List.mem_cons_of_mem _ hy)
            · simp only [List.mem_singleton] at ht; subst ht; exact k4 y hy
        rcases nil_or_snoc out with rfl | ⟨init, t, rfl⟩
        · exact plain (fun t ht => by simp at ht)
        · rw [show (init ++ [t]).getLast? = some t by simp, show (init ++ [t]).dropLast = init by simp]
          have hpw := List.pairwise_append.1 ho.2
          have ht := ho.1 t (by simp)
          have hlt := hl t (by simp) x List.mem_cons_self
          simp only
          by_cases c2 : t.f1 = x - 1
          · rw [if_pos c2]
            refine ⟨⟨fun u hu => ?_, List.pairwise_append.2 ⟨hpw.1, List.pairwise_singleton _ _, fun u hu y hy => ?_⟩⟩, fun r => ?_, fun u hu y hy => ?_⟩
            · rcases List.mem_append.1 hu with hu | hu
              · exact ho.1 u (List.mem_append_left _ hu)
              · simp only [List.mem_singleton] at hu; subst hu
                unfold Ok Scal at *
                simp only at hnew ⊢
                omega
            · simp only [List.mem_singleton] at hy; subst hy; exact hpw.2.2 u hu t (by simp)
            · rw [mem_append, mem_append, mem_one, mem_one]
              simp only [c, and_true]
              have := ht.1
              constructor
              · rintro (h | h)
                · exact .inl (.inl h)
                · by_cases h3 : r ≤ t.f1
                  · exact .inl (.inr ⟨h.1, h3⟩)
                  · exact .inr ⟨by omega, h.2⟩
              · rintro ((h | h) | h)
                · exact .inl h
                · exact .inr ⟨h.1, by omega⟩
                · exact .inr ⟨by omega, h.2⟩
            · rcases List.mem_append.1 hu with hu | hu
              · exact hl u (List.mem_append_left _ hu) y (List.mem_cons_of_mem _ hy)
              · simp only [List.mem_singleton] at hu; subst hu; exact k4 y hy
          · rw [if_neg c2]
            refine plain (fun u hu => ?_)
            rcases List.mem_append.1 hu with hu | hu
            · have := hpw.2.2 u hu t (by simp); have := ht.1; omega
            · simp only [List.mem_singleton] at hu; subst hu; omega
      · rw [if_neg c]
        exact ⟨ho, fun r => by simp [c], fun t ht y hy => hl t ht y (List.mem_cons_of_mem _ hy)⟩
    obtain ⟨m1, m2, m3⟩ := key
    obtain ⟨n1, n2⟩ := makeP_ok sel rest _ h2 (fun y hy => hsc y (List.mem_cons_of_mem _ hy)) hgr m1 m3
    refine ⟨n1, fun r => ?_⟩
    show mem (makeP sel rest (makeStep sel x rest out)) r ↔ _
    rw [n2, m2, or_assoc]
    rfl
theorem cov_iff (sel : Int → Bool) : ∀ (x : Int) (rest : List Int), (x :: rest).Pairwise (· < ·) → (∀ y ∈ x :: rest, Scal y) → (∀ y ∈ x :: rest, y < 55296 → (57344 : Int) ∈ x :: rest) → (∀ r, Scal r → x < r → r ∉ rest → r ≠ 57344 → sel r = sel (r - 1)) →
    ∀ r, Cov sel (x :: rest) r ↔ Scal r ∧ x ≤ r ∧ sel r = true := by
  intro x rest
  induction rest generalizing x with
  | nil =>
    intro hs hsc hg hsame r
    obtain ⟨k1, k2, k3, k4, k5⟩ := hiP_ok hs hsc (fun h => by have := hg x List.mem_cons_self h; simp at this; omega)
    have hx := hsc x List.mem_cons_self
    have hxg : ¬ x < 55296 := fun h => by have := hg x List.mem_cons_self h; simp at this; omega
    have run : ∀ (d : Nat) (r : Int), r = x + d → r ≤ hiP x [] → sel r = sel x := by
      intro d
      induction d with
      | zero => intro r hr _; rw [hr]; simp
      | succ d ih => intro r hr hh; unfold Scal at hx; rw [hsame r (by unfold Scal; omega) (by omega) (by simp) (by omega), ih (r - 1) (by omega) (by omega)]
    simp only [Cov, or_false]
    constructor
    · rintro ⟨a1, a2, a3⟩
      have := run (r - x).toNat r (by omega) a2
      unfold Scal at hx ⊢
      exact ⟨by omega, a1, by rw [this]; exact a3⟩
    · rintro ⟨a1, a2, a3⟩
      have hh : r ≤ hiP x [] := by
        rcases Int.lt_or_le (hiP x []) r with h | h
        · obtain ⟨y, hy, _⟩ := k5 r a1 h; simp at hy
        · exact h
      exact ⟨a2, hh, by rw [← run (r - x).toNat r (by omega) hh]; exact a3⟩
  | cons y ys ih =>
    intro hs hsc hg hsame r
    obtain ⟨h1, h2⟩ := List.pairwise_cons.1 hs
    have hgx : x < 55296 → (57344 : Int) ∈ y :: ys := fun h => by
      rcases List.mem_cons.1 (hg x List.mem_cons_self h) with e | e
      · omega
      · exact e
    obtain ⟨k1, k2, k3, k4, k5⟩ := hiP_ok hs hsc hgx
    have hx := hsc x List.mem_cons_self
    have hgr : ∀ z ∈ y :: ys, z < 55296 → (57344 : Int) ∈ y :: ys := fun z hz h => by
      rcases List.mem_cons.1 (hg z (List.mem_cons_of_mem _ hz) h) with e | e
      · have := h1 z hz; omega
      · exact e
    have hxy := h1 y List.mem_cons_self
    have hlow : ∀ z ∈ ys, y < z := (List.pairwise_cons.1 h2).1
    have ih' := ih y h2 (fun z hz => hsc z (List.mem_cons_of_mem _ hz)) hgr (fun r hr hyr hn hg => hsame r hr (by omega) (fun hm => by
      rcases List.mem_cons.1 hm with e | e
      · omega
      · exact hn e) hg)
    have hk4 := k4 y List.mem_cons_self
    have run : ∀ (d : Nat) (r : Int), r = x + d → r ≤ hiP x (y :: ys) → sel r = sel x := by
      intro d
      induction d with
      | zero => intro r hr _; rw [hr]; simp
      | succ d ih2 =>
        intro r hr hh
        have hnm : r ∉ y :: ys := fun hm => by have := k4 r hm; omega
        have hsr : Scal r := by
          unfold Scal at hx ⊢
          by_cases c : x < 55296
          · have := k2 c; omega
          · omega
        have hr5 : r ≠ 57344 := by
          rintro rfl
          by_cases c : x < 55296
          · have := k2 c; omega
          · unfold Scal at hx; omega
        rw [hsame r hsr (by omega) hnm hr5, ih2 (r - 1) (by omega) (by omega)]
    show (x ≤ r ∧ r ≤ hiP x (y :: ys) ∧ sel x = true) ∨ Cov sel (y :: ys) r ↔ _
    rw [ih']
    constructor
    · rintro (⟨a1, a2, a3⟩ | ⟨a1, a2, a3⟩)
      · have := run (r - x).toNat r (by omega) a2
        refine ⟨?_, a1, by rw [this]; exact a3⟩
        unfold Scal at hx ⊢
        by_cases c : x < 55296
        · have := k2 c; omega
        · omega
      · exact ⟨a1, by omega, a3⟩
    · rintro ⟨a1, a2, a3⟩
      rcases Int.lt_or_le (hiP x (y :: ys)) r with h | h
      · obtain ⟨z, hz, hzr⟩ := k5 r a1 h
        simp at hz; subst hz
        exact .inr ⟨a1, hzr, a3⟩
      · exact .inl ⟨a2, h, by rw [← run (r - x).toNat r (by omega) h]; exact a3⟩
end
section
open Go.RowKit Go.Proofs.YtpcljaidlihafaaW.PrintWords Go.Proofs.YtpcljaidlihafaaW.PrintLast Go.Proofs.YtpcljaidlihafaaW.PrintMore
def bitsQ (i : Int) : List Int := [Int.tmod i 2, Int.tmod (wrap64 (Int.tdiv i 2)) 2, Int.tmod (wrap64 (Int.tdiv i 4)) 2, Int.tmod (wrap64 (Int.tdiv i 8)) 2]
def ixQ (a b : List S39) (x : Int) : Int := if hasP b x = true then wrap64 ((if hasP a x = true then 0 + 1 else 0) + 2) else (if hasP a x = true then 0 + 1 else 0)
def selQ (i : Int) (a b : List S39) (x : Int) : Bool := decide (¬ rd (bitsQ i) (ixQ a b x) = 0)
theorem w02 : wrap64 (0 + 2) = 2 := wrap_in (by decide) (by decide)
theorem w03 : wrap64 (0 + 1 + 2) = 3 := wrap_in (by decide) (by decide)
theorem ixQ_range (a b : List S39) (x : Int) : 0 ≤ ixQ a b x ∧ ixQ a b x < 4 := by
  unfold ixQ
  rw [apply_ite (fun x : Int => wrap64 (x + 2)), w02, w03]
  split <;> split <;> decide
theorem ref_make_at (i : Int) (a b : List S39) (ha : Sm a) (hb : Sm b) (e : List Int) (he : e.length ≤ 1000000000) (hsc : ∀ y ∈ e, Scal y) :
    ∀ (d n : Nat) (out : List S39), e.length - n = d → n ≤ e.length → out.length ≤ n → Ev (fun k => glyphcutterref01_Make.l1 k a b i e out (n : Int)) (makeP (selQ i a b) (e.drop n) out) := by
  intro d
  induction d with
  | zero =>
    intro n out hd hn ho
    rw [List.drop_of_length_le (by omega)]
    exact Ev.step (fun k => by rw [glyphcutterref01_Make.l1]) (Ev.neg (by omega) (Ev.now out))
  | succ d ih =>
    intro n out hd hn ho
    have hlt : n < e.length := by omega
    rw [List.drop_eq_getElem_cons hlt]
    have hx := hsc e[n] (List.getElem_mem hlt)
    have hw : wrap64 ((n : Int) + 1) = ((n + 1 : Nat) : Int) := by rw [wrap_in (by omega) (by omega)]; omega
    have hwx : wrap64 (e[n] - 1) = e[n] - 1 := by unfold Scal at hx; exact wrap_in (by omega) (by omega)
    obtain ⟨hq0, hq4⟩ := ixQ_range a b e[n]
    have j5 : Ev (fun k => glyphcutterref01_Make.j5 k a b i e out (n : Int) (hiP e[n] (e.drop (n + 1))) (ixQ a b e[n])) (makeP (selQ i a b) (e[n] :: e.drop (n + 1)) out) := by
      refine Ev.step (fun k => by rw [glyphcutterref01_Make.j5]) ?_
      refine Ev.bindc rfl ?_
      refine Ev.pos hq0 (Ev.pos (show ixQ a b e[n] < ((4 : Nat) : Int) by omega) ?_)
      rw [makeP]
      unfold makeStep
      rw [rdi_get e n hlt, hw, hwx]
      by_cases c : rd (bitsQ i) (ixQ a b e[n]) = 0
      · refine Ev.pos c ?_
        rw [if_neg (show ¬ selQ i a b e[n] = true by unfold selQ; rw [decide_eq_true_eq]; exact fun h => h c)]
        exact ih (n + 1) out (by omega) (by omega) (by omega)
      · refine Ev.neg c ?_
        rw [if_pos (show selQ i a b e[n] = true by unfold selQ; rw [decide_eq_true_eq]; exact c)]
        rcases nil_or_snoc out with rfl | ⟨init, t, rfl⟩
        · refine Ev.neg (by simp) (Ev.pos (by omega) (Ev.pos (by omega) (Ev.pos (by simp) ?_)))
          exact ih (n + 1) _ (by omega) (by omega) (by simp)
        · have hl : ((init ++ [t]).length : Int) = (init.length : Int) + 1 := by simp
          have hl2 : (init ++ [t]).length = init.length + 1 := by simp
          have hwl : wrap64 (((init ++ [t]).length : Int) - 1) = (init.length : Int) := by rw [hl, wrap_in (by omega) (by omega)]; omega
          refine Ev.pos (by omega) ?_
          rw [hwl, rd_get (init ++ [t]) init.length (by simp), show (init ++ [t]).getLast? = some t by simp, show (init ++ [t]).dropLast = init by simp]
          have ht : (init ++ [t])[init.length]'(by simp) = t := by simp
          rw [ht]
          refine Ev.pos (by omega) (Ev.pos (by omega) (Ev.pos (by omega) (Ev.pos (by omega) ?_)))
          simp only
          by_cases c2 : t.f1 = e[n] - 1
          · refine Ev.pos c2 ?_
            rw [if_pos c2]
            have hs : (init ++ [t]).set ((init.length : Int)).toNat (⟨t.f0, hiP e[n] (e.drop (n + 1))⟩ : S39) = init ++ [⟨t.f0, hiP e[n] (e.drop (n + 1))⟩] := by
              rw [Int.toNat_natCast]; simp
            rw [hs]
            exact ih (n + 1) _ (by omega) (by omega) (by simp; omega)
          · refine Ev.neg c2 (Ev.pos (by omega) ?_)
            rw [if_neg c2]
            exact ih (n + 1) _ (by omega) (by omega) (by simp; omega)
    have j3 : Ev (fun k => glyphcutterref01_Make.j3 k a b i e out (n : Int) (hiP e[n] (e.drop (n + 1)))) (makeP (selQ i a b) (e[n] :: e.drop (n + 1)) out) := by
      refine Ev.step (fun k => by rw [glyphcutterref01_Make.j3]) (Ev.pos (by omega) (Ev.pos (by omega) ?_))
      rw [rdi_get e n hlt]
      refine Ev.bind (ref_has a _ ha) ?_
      have j4 : ∀ x13, (if hasP b e[n] = true then wrap64 (x13 + 2) else x13) = ixQ a b e[n] → Ev (fun k => glyphcutterref01_Make.j4 k a b i e out (n : Int) (hiP e[n] (e.drop (n + 1))) x13) (makeP (selQ i a b) (e[n] :: e.drop (n + 1)) out) := by
        intro x13 hx13
        refine Ev.step (fun k => by rw [glyphcutterref01_Make.j4]) (Ev.pos (by omega) (Ev.pos (by omega) ?_))
        rw [rdi_get e n hlt]
        refine Ev.bind (ref_has b _ hb) ?_
        by_cases c : hasP b e[n] = true
        · refine Ev.pos c ?_
          rw [if_pos c] at hx13
          rw [hx13]; exact j5
        · refine Ev.neg c ?_
          rw [if_neg c] at hx13
          rw [hx13]; exact j5
      by_cases c : hasP a e[n] = true
      · exact Ev.pos c (j4 _ (by unfold ixQ; rw [if_pos c]))
      · exact Ev.neg c (j4 _ (by unfold ixQ; rw [if_neg c]))
    have j2 : ∀ h0 : Int, (if e[n] < 55296 then mn h0 55295 else h0) = hiP e[n] (e.drop (n + 1)) → Ev (fun k => glyphcutterref01_Make.j2 k a b i e out (n : Int) h0) (makeP (selQ i a b) (e[n] :: e.drop (n + 1)) out) := by
      intro h0 hh0
      refine Ev.step (fun k => by rw [glyphcutterref01_Make.j2]) (Ev.pos (by omega) (Ev.pos (by omega) ?_))
      rw [rdi_get e n hlt]
      by_cases c : e[n] < 55296
      · refine Ev.pos c ?_
        rw [if_pos c] at hh0
        rw [hh0]; exact j3
      · refine Ev.neg c ?_
        rw [if_neg c] at hh0
        rw [hh0]; exact j3
    refine Ev.step (fun k => by rw [glyphcutterref01_Make.l1]) (Ev.pos (by omega) ?_)
    rw [hw]
    by_cases c : n + 1 < e.length
    · refine Ev.pos (by omega) (Ev.pos (by omega) ?_)
      rw [rdi_get e (n + 1) c]
      have hy := hsc e[n + 1] (List.getElem_mem c)
      have hwy : wrap64 (e[n + 1] - 1) = e[n + 1] - 1 := by unfold Scal at hy; exact wrap_in (by omega) (by omega)
      rw [hwy]
      refine j2 _ ?_
      rw [List.drop_eq_getElem_cons c]
      rfl
    · refine Ev.neg (by omega) ?_
      refine j2 _ ?_
      rw [List.drop_of_length_le (by omega)]
      rfl
theorem ref_make (i : Int) (a b : List S39) (ha : a.length ≤ 100000) (hb : b.length ≤ 100000) (wa : Wf a) (wb : Wf b) : Ev (fun k => glyphcutterref01_Make.f k a b i) (makeP (selQ i a b) (edges2 a b) []) := by
  have la : (edgesP a).length ≤ 200002 := by have := edges_len a [0, 57344]; unfold edgesP; simp at this; omega
  have lb : (edgesP b).length ≤ 200002 := by have := edges_len b [0, 57344]; unfold edgesP; simp at this; omega
  have l0 : ∀ (d n : Nat) (e : List Int), (edgesP b).length - n = d → n ≤ (edgesP b).length → e.length ≤ 200002 + n → ((edgesP b).drop n).foldl layP e = edges2 a b → Ev (fun k => glyphcutterref01_Make.l0 k a b i e (edgesP b) (n : Int)) (makeP (selQ i a b) (edges2 a b) []) := by
    intro d
    induction d with
    | zero =>
      intro n e hd hn hl he
      rw [List.drop_of_length_le (by omega), List.foldl_nil] at he
      refine Ev.step (fun k => by rw [glyphcutterref01_Make.l0]) (Ev.neg (by omega) ?_)
      rw [he]
      exact ref_make_at i a b (by unfold Sm; omega) (by unfold Sm; omega) (edges2 a b) (by rw [← he]; omega) (edges2_ok a b).scal _ 0 [] rfl (by omega) (by simp)
    | succ d ih =>
      intro n e hd hn hl he
      have hlt : n < (edgesP b).length := by omega
      rw [List.drop_eq_getElem_cons hlt, List.foldl_cons] at he
      refine Ev.step (fun k => by rw [glyphcutterref01_Make.l0]) (Ev.pos (by omega) (Ev.pos (by omega) ?_))
      rw [rdi_get _ n hlt, wrap_in (by omega) (by omega)]
      have h2 := layP_len e (edgesP b)[n]
      exact Ev.bind (ref_lay e _ (by omega)) (ih (n + 1) _ (by omega) (by omega) (by omega) he)
  unfold glyphcutterref01_Make.f
  exact Ev.bind (ref_edges a ha wa) (Ev.bind (ref_edges b hb wb) (l0 _ 0 (edgesP a) rfl (by omega) (by omega) rfl))
theorem selQ_congr (i : Int) (a b : List S39) {x y : Int} (ha : hasP a x = hasP a y) (hb : hasP b x = hasP b y) : selQ i a b x = selQ i a b y := by
  unfold selQ ixQ; rw [ha, hb]
def refP (i : Int) (a b : List S39) : List S39 := makeP (selQ i a b) (edges2 a b) []
theorem refP_ok (i : Int) (a b : List S39) : Nf (refP i a b) ∧ ∀ r, mem (refP i a b) r ↔ Scal r ∧ selQ i a b r = true := by
  have hE := edges2_ok a b
  obtain ⟨rest, he⟩ : ∃ rest, edges2 a b = 0 :: rest := by
    have h0 := hE.zero
    cases hc : edges2 a b with
    | nil => rw [hc] at h0; simp at h0
    | cons x rest =>
      rw [hc] at h0
      have hx := hE.scal x (by rw [hc]; exact List.mem_cons_self)
      have hs := hE.sorted
      rw [hc] at hs
      rcases List.mem_cons.1 h0 with e | e
      · exact ⟨rest, by rw [e]⟩
      · have := (List.pairwise_cons.1 hs).1 0 e
        unfold Scal at hx; omega
  have hg : ∀ y ∈ edges2 a b, y < 55296 → (57344 : Int) ∈ edges2 a b := fun _ _ _ => hE.gap
  obtain ⟨n1, n2⟩ := makeP_ok (selQ i a b) (edges2 a b) [] hE.sorted hE.scal hg Nf.nil (fun t ht => by simp at ht)
  refine ⟨n1, fun r => ?_⟩
  unfold refP
  rw [n2]
  have hcov := cov_iff (selQ i a b) 0 rest (he ▸ hE.sorted) (he ▸ hE.scal) (he ▸ hg) (fun r hr h0 hn _ => by
    have hne : r ∉ edges2 a b := by
      rw [he]; intro hm
      rcases List.mem_cons.1 hm with e | e
      · omega
      · exact hn e
    exact selQ_congr i a b (hE.same (fun s hs => List.mem_append_left _ hs) hr hne) (hE.same (fun s hs => List.mem_append_right _ hs) hr hne)) r
  rw [← he] at hcov
  rw [hcov]
  constructor
  · rintro (h | ⟨h1, _, h3⟩)
    · exact absurd h (mem_nil r)
    · exact ⟨h1, h3⟩
  · rintro ⟨h1, h3⟩
    exact .inr ⟨h1, h1.1, h3⟩
theorem hasP_nil (r : Int) : hasP [] r = false := by unfold hasP; simp
theorem bitsQ_at (i : Int) (h : 0 ≤ i) (h2 : i ≤ 1000) : bitsQ i = [Int.tmod i 2, Int.tmod (Int.tdiv i 2) 2, Int.tmod (Int.tdiv i 4) 2, Int.tmod (Int.tdiv i 8) 2] := by
  unfold bitsQ
  have e2 := Int.tdiv_eq_ediv_of_nonneg (b := 2) h
  have e4 := Int.tdiv_eq_ediv_of_nonneg (b := 4) h
  have e8 := Int.tdiv_eq_ediv_of_nonneg (b := 8) h
  rw [wrap_in (i := Int.tdiv i 2) (by omega) (by omega), wrap_in (i := Int.tdiv i 4) (by omega) (by omega), wrap_in (i := Int.tdiv i 8) (by omega) (by omega)]
theorem selQ_at (i : Int) (h : 0 ≤ i) (h2 : i ≤ 1000) (a b : List S39) (r : Int) : selQ i a b r = decide (¬ rd [Int.tmod i 2, Int.tmod (Int.tdiv i 2) 2, Int.tmod (Int.tdiv i 4) 2, Int.tmod (Int.tdiv i 8) 2] (if hasP b r = true then (if hasP a r = true then 3 else 2) else (if hasP a r = true then 1 else 0)) = 0) := by
  unfold selQ ixQ
  rw [bitsQ_at i h h2, apply_ite (fun x : Int => wrap64 (x + 2)), w02, w03]
  rfl
theorem selQ_1 (a : List S39) (r : Int) : selQ 1 a [] r = !hasP a r := by
  rw [selQ_at 1 (by decide) (by decide), hasP_nil]; cases hasP a r <;> decide
theorem selQ_2 (a b : List S39) (r : Int) : selQ 2 a b r = (hasP a r && !hasP b r) := by
  rw [selQ_at 2 (by decide) (by decide)]; cases hasP a r <;> cases hasP b r <;> decide
theorem selQ_8 (a b : List S39) (r : Int) : selQ 8 a b r = (hasP a r && hasP b r) := by
  rw [selQ_at 8 (by decide) (by decide)]; cases hasP a r <;> cases hasP b r <;> decide
end
section
open Go.RowKit Go.Shelf Go.Proofs.YtpcljaidlihafaaW.PrintWords Go.Proofs.YtpcljaidlihafaaW.PrintLast Go.Proofs.YtpcljaidlihafaaW.PrintMore
attribute [local go_sem] max2_mx min2_mn max_two min_two
/-- What two have in common, as set.Inter goes through them. -/
def interL : List S39 → List S39 → List S39 → List S39
  | a :: xs, b :: ys, out =>
    let out' := if mx a.f0 b.f0 ≤ mn a.f1 b.f1 then out ++ [⟨mx a.f0 b.f0, mn a.f1 b.f1⟩] else out
    if a.f1 < b.f1 then interL xs (b :: ys) out' else interL (a :: xs) ys out'
  | _, _, out => out
  termination_by a b => a.length + b.length
def interP (l m : List S39) : List S39 := interL (normP l) (normP m) []
theorem interL_nil_l (b out : List S39) : interL [] b out = out := by unfold interL; rfl
theorem interL_nil_r (a out : List S39) : interL a [] out = out := by unfold interL; cases a <;> rfl
theorem interL_cons (x y : S39) (a b out : List S39) : interL (x :: a) (y :: b) out = if x.f1 < y.f1 then interL a (y :: b) (if mx x.f0 y.f0 ≤ mn x.f1 y.f1 then out ++ [⟨mx x.f0 y.f0, mn x.f1 y.f1⟩] else out) else interL (x :: a) b (if mx x.f0 y.f0 ≤ mn x.f1 y.f1 then out ++ [⟨mx x.f0 y.f0, mn x.f1 y.f1⟩] else out) := by
  rw [interL]
end
section
open Go.RowKit Go.Proofs.YtpcljaidlihafaaW.PrintWords Go.Proofs.YtpcljaidlihafaaW.PrintLast Go.Proofs.YtpcljaidlihafaaW.PrintMore
theorem Is.ext {a b : List S39} {p q : Int → Prop} (ha : Is a p) (hb : Is b q) (h : ∀ r, Scal r → (p r ↔ q r)) : a = b :=
  Nf.ext ha.1 hb.1 fun r => by rw [ha.2, hb.2]; exact ⟨fun ⟨h1, h2⟩ => ⟨h1, (h r h1).1 h2⟩, fun ⟨h1, h2⟩ => ⟨h1, (h r h1).2 h2⟩⟩
theorem mn_e (a b : Int) : mn a b = if b < a then b else a := rfl
theorem mx_e (a b : Int) : mx a b = if a < b then b else a := rfl
theorem interL_ok : ∀ (n : Nat) (a b out : List S39), a.length + b.length ≤ n → Nf a → Nf b → Nf out → (∀ t ∈ out, ∀ x ∈ a, ∀ y ∈ b, t.f1 + 1 < x.f0 ∨ t.f1 + 1 < y.f0) →
    Nf (interL a b out) ∧ ∀ r, mem (interL a b out) r ↔ mem out r ∨ (mem a r ∧ mem b r) := by
  intro n
  induction n with
  | zero =>
    intro a b out hn _ _ ho _
    obtain rfl : a = [] := List.length_eq_zero_iff.1 (by omega)
    rw [interL_nil_l]
    exact ⟨ho, fun r => ⟨.inl, fun h => h.elim id fun h => absurd h.1 (mem_nil r)⟩⟩
  | succ n ih =>
    intro a b out hn ha hb ho hs
    cases a with
    | nil => rw [interL_nil_l]; exact ⟨ho, fun r => ⟨.inl, fun h => h.elim id fun h => absurd h.1 (mem_nil r)⟩⟩
    | cons x xs =>
      cases b with
      | nil => rw [interL_nil_r]; exact ⟨ho, fun r => ⟨.inl, fun h => h.elim id fun h => absurd h.2 (mem_nil r)⟩⟩
      | cons y ys =>
        rw [interL_cons]
        have hx := ha.1 x List.mem_cons_self
        have hy := hb.1 y List.mem_cons_self
        have hxs := (List.pairwise_cons.1 ha.2).1
        have hys := (List.pairwise_cons.1 hb.2).1
        have h0 := hs
        obtain ⟨out', ho'⟩ : ∃ o, o = (if mx x.f0 y.f0 ≤ mn x.f1 y.f1 then out ++ [⟨mx x.f0 y.f0, mn x.f1 y.f1⟩] else out) := ⟨_, rfl⟩
        rw [← ho']
        have hnew : Nf out' ∧ (∀ r, mem out' r ↔ mem out r ∨ ((x.f0 ≤ r ∧ r ≤ x.f1) ∧ (y.f0 ≤ r ∧ r ≤ y.f1))) ∧ ∀ t ∈ out', t ∈ out ∨ t.f1 = mn x.f1 y.f1 := by
          rw [ho']
          by_cases c : mx x.f0 y.f0 ≤ mn x.f1 y.f1
          · rw [if_pos c]
            refine ⟨⟨fun t ht => ?_, List.pairwise_append.2 ⟨ho.2, List.pairwise_singleton _ _, fun t ht u hu => ?_⟩⟩, fun r => ?_, fun t ht => ?_⟩
            · rcases List.mem_append.1 ht with ht | ht
              · exact ho.1 t ht
              · simp only [List.mem_singleton] at ht; subst ht
                refine ⟨c, ?_⟩
                unfold Ok at hx hy
                simp only [mn_e, mx_e] at c ⊢
                split at c <;> split at c <;> simp only [*, if_true, if_false] <;> omega
            · simp only [List.mem_singleton] at hu; subst hu
              have := hs t ht x List.mem_cons_self y List.mem_cons_self
              simp only [mx_e]
              split <;> omega
            · rw [mem_append, mem_one]
              simp only [mn_e, mx_e]
              constructor
              · rintro (h | h)
                · exact .inl h
                · right; split at h <;> split at h <;> omega
              · rintro (h | h)
                · exact .inl h
                · right; split <;> split <;> omega
            · rcases List.mem_append.1 ht with ht | ht
              · exact .inl ht
              · simp only [List.mem_singleton] at ht; subst ht; exact .inr rfl
          · rw [if_neg c]
            refine ⟨ho, fun r => ⟨.inl, fun h => h.elim id fun h => absurd ?_ c⟩, fun t ht => .inl ht⟩
            simp only [mn_e, mx_e]
            split <;> split <;> omega
        obtain ⟨m1, m2, m3⟩ := hnew
        by_cases c : x.f1 < y.f1
        · rw [if_pos c]
          have hmn : mn x.f1 y.f1 = x.f1 := by rw [mn_e, if_neg (by omega)]
          obtain ⟨k1, k2⟩ := ih xs (y :: ys) out' (by simp at hn ⊢; omega) ha.tail hb m1 (fun t ht u hu v hv => by
            rcases m3 t ht with h | h
            · exact hs t h u (List.mem_cons_of_mem _ hu) v hv
            · rw [hmn] at h; left; have := hxs u hu; omega)
          refine ⟨k1, fun r => ?_⟩
          rw [k2, m2, mem_cons x, or_assoc]
          refine or_congr Iff.rfl ?_
          constructor
          · rintro (⟨h1, h2⟩ | ⟨h1, h2⟩)
            · exact ⟨.inl h1, (mem_cons _ _ _).2 (.inl h2)⟩
            · exact ⟨.inr h1, h2⟩
          · rintro ⟨h1 | h1, h2⟩
            · rcases (mem_cons _ _ _).1 h2 with h3 | h3
              · exact .inl ⟨h1, h3⟩
              · have := hb.above h3; omega
            · exact .inr ⟨h1, h2⟩
        · rw [if_neg c]
          have hmn : mn x.f1 y.f1 = y.f1 := by rw [mn_e]; split <;> omega
          obtain ⟨k1, k2⟩ := ih (x :: xs) ys out' (by simp at hn ⊢; omega) ha hb.tail m1 (fun t ht u hu v hv => by
            rcases m3 t ht with h | h
            · exact hs t h u hu v (List.mem_cons_of_mem _ hv)
            · rw [hmn] at h; right; have := hys v hv; omega)
          refine ⟨k1, fun r => ?_⟩
          rw [k2, m2, mem_cons y, or_assoc]
          refine or_congr Iff.rfl ?_
          constructor
          · rintro (⟨h1, h2⟩ | ⟨h1, h2⟩)
            · exact ⟨(mem_cons _ _ _).2 (.inl h1), .inl h2⟩
            · exact ⟨h1, .inr h2⟩
          · rintro ⟨h1, h2 | h2⟩
            · rcases (mem_cons _ _ _).1 h1 with h3 | h3
              · exact .inl ⟨h3, h2⟩
              · have := ha.above h3; omega
            · exact .inr ⟨h1, h2⟩
theorem is_inter (a b : List S39) : Is (interP a b) (fun r => mem a r ∧ mem b r) := by
  obtain ⟨h1, h2⟩ := interL_ok _ (normP a) (normP b) [] (Nat.le_refl _) (normP_nf a) (normP_nf b) Nf.nil (fun t ht => by simp at ht)
  refine ⟨h1, fun r => ?_⟩
  show mem (interL (normP a) (normP b) []) r ↔ _
  rw [h2, normP_mem, normP_mem]
  exact ⟨fun h => h.elim (fun h => absurd h (mem_nil r)) fun ⟨⟨h1, h2⟩, _, h3⟩ => ⟨h1, h2, h3⟩, fun ⟨h1, h2, h3⟩ => .inr ⟨⟨h1, h2⟩, h1, h3⟩⟩
def notRaw : Int → List S39 → List S39
  | x, [] => [⟨x, 1114111⟩]
  | x, s :: l => ⟨x, s.f0 - 1⟩ :: notRaw (s.f1 + 1) l
theorem notRaw_mem : ∀ (l : List S39) (x : Int), Nf l → (∀ s ∈ l, x ≤ s.f0) → ∀ r, mem (notRaw x l) r ↔ x ≤ r ∧ r ≤ 1114111 ∧ ¬ mem l r
  | [], x, _, _, r => by rw [notRaw, mem_one]; simp [mem_nil r]
  | s :: l, x, hn, hx, r => by
    have hs := hn.1 s List.mem_cons_self
    have hlo := hx s List.mem_cons_self
    have hlt := (List.pairwise_cons.1 hn.2).1
    have ih := notRaw_mem l (s.f1 + 1) hn.tail (fun t ht => by have := hlt t ht; omega) r
    rw [notRaw, mem_cons, mem_cons, ih]
    unfold Ok at hs
    have hab : mem l r → s.f1 + 1 < r := fun h => hn.above h
    by_cases c : mem l r
    · have := hab c
      simp only [c, not_true_eq_false, and_false, or_false, or_true]
      constructor
      · intro h; omega
      · intro h; exact h.elim
    · simp only [c, not_false_eq_true, and_true, or_false]
      omega
def notP (l : List S39) : List S39 := normP (notRaw 0 (normP l))
theorem is_not (l : List S39) : Is (notP l) (fun r => ¬ mem l r) := by
  refine ⟨normP_nf _, fun r => ?_⟩
  unfold notP
  rw [normP_mem, notRaw_mem _ _ (normP_nf l) (fun s hs => by have := (normP_nf l).1 s hs; unfold Ok at this; omega), normP_mem]
  unfold Scal
  constructor
  · rintro ⟨h1, h2, h3, h4⟩; exact ⟨h1, fun h => h4 ⟨h1, h⟩⟩
  · rintro ⟨h1, h2⟩; exact ⟨h1, h1.1, h1.2.1, fun h => h2 h.2⟩
def eqS : List S39 → List S39 → Bool
  | [], [] => true
  | x :: a, y :: b => ((x.f0 == y.f0) && (x.f1 == y.f1)) && eqS a b
  | _, _ => false
theorem eqS_rfl : ∀ a : List S39, eqS a a = true
  | [] => rfl
  | x :: a => by rw [eqS, eqS_rfl a]; simp
theorem eqS_len : ∀ a b : List S39, a.length ≠ b.length → eqS a b = false
  | [], [], h => absurd rfl h
  | x :: a, y :: b, h => by rw [eqS, eqS_len a b (fun e => h (by simp [e])), Bool.and_false]
  | [], _ :: _, _ => rfl
  | _ :: _, [], _ => rfl
theorem ref_alike (a b : List S39) (ha : a.length ≤ 1000000) : Ev (fun k => glyphcutterref01_Alike.f k a b) (eqS a b) := by
  unfold glyphcutterref01_Alike.f
  by_cases hl : a.length = b.length
  · refine Ev.pos (by omega) ?_
    have l0 : ∀ (d n : Nat), a.length - n = d → n ≤ a.length → Ev (fun k => glyphcutterref01_Alike.l0 k a b (n : Int)) (eqS (a.drop n) (b.drop n)) := by
      intro d
      induction d with
      | zero =>
        intro n hd hn
        rw [List.drop_of_length_le (by omega), List.drop_of_length_le (by omega)]
        exact Ev.step (fun k => by rw [glyphcutterref01_Alike.l0]) (Ev.neg (by omega) (Ev.now true))
      | succ d ih =>
        intro n hd hn
        have h1 : n < a.length := by omega
        have h2 : n < b.length := by omega
        rw [List.drop_eq_getElem_cons h1, List.drop_eq_getElem_cons h2, eqS]
        refine Ev.step (fun k => by rw [glyphcutterref01_Alike.l0]) (Ev.pos (by omega) (Ev.pos (by omega) (Ev.pos (by omega) ?_)))
        rw [rd_get a n h1, rd_get b n h2, wrap_in (by omega) (by omega), ← Bool.not_and]
        have ihn := ih (n + 1) (by omega) (by omega)
        cases c : (a[n].f0 == b[n].f0) && (a[n].f1 == b[n].f1) with
        | false => exact Ev.pos (by rfl) (Ev.now false)
        | true => exact Ev.neg (by simp) (by rw [Bool.true_and]; exact ihn)
    exact l0 _ 0 rfl (by omega)
  · refine Ev.neg (by omega) ?_
    rw [eqS_len a b hl]
    exact Ev.now false
theorem refP_1 (l : List S39) : refP 1 l [] = notP l := Nf.ext (refP_ok _ _ _).1 (is_not l).1 fun r => by
  rw [(refP_ok _ _ _).2, (is_not l).2, selQ_1, Bool.not_eq_true', ← Bool.not_eq_true, hasP_iff]
  exact ⟨fun ⟨h1, h2⟩ => ⟨h1, fun h => h2 ⟨h1, h⟩⟩, fun ⟨h1, h2⟩ => ⟨h1, fun h => h2 h.2⟩⟩
theorem refP_2 (a b : List S39) : refP 2 a b = interP a (notP b) := Nf.ext (refP_ok _ _ _).1 (is_inter _ _).1 fun r => by
  rw [(refP_ok _ _ _).2, (is_inter _ _).2, selQ_2, Bool.and_eq_true, Bool.not_eq_true', ← Bool.not_eq_true, hasP_iff, hasP_iff]
  show _ ↔ Scal r ∧ mem a r ∧ mem (notP b) r
  rw [(is_not b).2]
  exact ⟨fun ⟨h1, ⟨_, h2⟩, h3⟩ => ⟨h1, h2, h1, fun h => h3 ⟨h1, h⟩⟩, fun ⟨h1, h2, _, h3⟩ => ⟨h1, ⟨h1, h2⟩, fun h => h3 h.2⟩⟩
theorem refP_2n (a : List S39) : refP 2 a [] = normP a := Nf.ext (refP_ok _ _ _).1 (normP_nf a) fun r => by
  rw [(refP_ok _ _ _).2, normP_mem, selQ_2, hasP_nil, Bool.not_false, Bool.and_true, hasP_iff]
  exact ⟨fun h => h.2, fun h => ⟨h.1, h⟩⟩
theorem refP_8 (a b : List S39) : refP 8 a b = interP a b := Nf.ext (refP_ok _ _ _).1 (is_inter _ _).1 fun r => by
  rw [(refP_ok _ _ _).2, (is_inter _ _).2, selQ_8, Bool.and_eq_true, hasP_iff, hasP_iff]
  exact ⟨fun ⟨h1, ⟨_, h2⟩, _, h3⟩ => ⟨h1, h2, h3⟩, fun ⟨h1, h2, h3⟩ => ⟨h1, ⟨h1, h2⟩, h1, h3⟩⟩
theorem wf_nil : Wf [] := fun _ h => by simp at h
theorem ref_norm (l : List S39) (hl : l.length ≤ 20000) (hw : Wf l) : Ev (fun k => glyphcutterref01_Norm.f k l) (normP l) := by
  unfold glyphcutterref01_Norm.f
  have := ref_make 2 l [] (by omega) (by simp) hw wf_nil
  rw [← refP_2n]
  exact Ev.bind this (Ev.now _)
theorem ref_not (l : List S39) (hl : l.length ≤ 20000) (hw : Wf l) : Ev (fun k => glyphcutterref01_Not.f k l) (notP l) := by
  unfold glyphcutterref01_Not.f
  have := ref_make 1 l [] (by omega) (by simp) hw wf_nil
  rw [← refP_1]
  exact Ev.bind this (Ev.now _)
theorem ref_inter (a b : List S39) (ha : a.length ≤ 20000) (hb : b.length ≤ 20000) (wa : Wf a) (wb : Wf b) : Ev (fun k => glyphcutterref01_Inter.f k a b) (interP a b) := by
  unfold glyphcutterref01_Inter.f
  have := ref_make 8 a b (by omega) (by omega) wa wb
  rw [← refP_8]
  exact Ev.bind this (Ev.now _)
theorem ref_minus (a b : List S39) (ha : a.length ≤ 20000) (hb : b.length ≤ 20000) (wa : Wf a) (wb : Wf b) : Ev (fun k => glyphcutterref01_Minus.f k a b) (interP a (notP b)) := by
  unfold glyphcutterref01_Minus.f
  have := ref_make 2 a b (by omega) (by omega) wa wb
  rw [← refP_2]
  exact Ev.bind this (Ev.now _)
end
section
open Go.RowKit Go.Proofs.YtpcljaidlihafaaW.PrintWords Go.Proofs.YtpcljaidlihafaaW.PrintLast Go.Proofs.YtpcljaidlihafaaW.PrintMore
theorem mem_inter (a b : List S39) (r : Int) : mem (interP a b) r ↔ Scal r ∧ mem a r ∧ mem b r := (is_inter a b).2 r
theorem mem_not (a : List S39) (r : Int) : mem (notP a) r ↔ Scal r ∧ ¬ mem a r := (is_not a).2 r
end
section
open Go.RowKit Go.Proofs.YtpcljaidlihafaaW.PrintWords Go.Proofs.YtpcljaidlihafaaW.PrintLast Go.Proofs.YtpcljaidlihafaaW.PrintMore
theorem u8_in {x : Int} (h : (Lit.int .u8 x).wf = true) : 0 ≤ x ∧ x ≤ 255 := by
  simp [Lit.wf, IntKind.min, IntKind.max, IntKind.bits, IntKind.signed] at h
  omega
end
end Go.Proofs.Ytpcljaidlihafaa.P
