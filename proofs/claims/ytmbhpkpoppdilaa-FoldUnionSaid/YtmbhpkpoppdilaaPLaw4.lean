/- What fold.Close makes; the chapter's example: the plain side. -/
import Derived.Test.YtmbhpkpoppdilaaPx0
import Derived.Test.YtmbhpkpoppdilaaPx7
import Derived.Test.YtmbhpkpoppdilaaPx2
import Derived.Test.YtmbhpkpoppdilaaPx14
import Derived.Test.YtmbhpkpoppdilaaGClose
import Derived.Test.YtmbhpkpoppdilaaGConcat
import Derived.Test.YtmbhpkpoppdilaaGFold
import Derived.Test.YtmbhpkpoppdilaaGHas
import Derived.Test.YtmbhpkpoppdilaaGNorm
import Derived.Test.YtmbhpkpoppdilaaPBase
namespace Go.Proofs.Ytmbhpkpoppdilaa.P
set_option linter.unusedVariables false
set_option linter.unusedSimpArgs false
section
open Go.RowKit Go.Proofs.YtmbhpkpoppdilaaW.PrintWords Go.Proofs.YtmbhpkpoppdilaaW.PrintLast Go.Proofs.YtmbhpkpoppdilaaW.PrintMore
theorem hasP_iff (l : List S30) (r : Int) : hasP l r = true ↔ Scal r ∧ mem l r := by
  unfold hasP Scal mem
  simp only [Bool.and_eq_true, decide_eq_true_eq, List.any_eq_true]
  constructor
  · rintro ⟨h1, h2⟩; exact ⟨by omega, h2⟩
  · rintro ⟨h1, h2⟩; exact ⟨by omega, h2⟩
end
section
open Go.RowKit Go.Proofs.YtmbhpkpoppdilaaW.PrintWords Go.Proofs.YtmbhpkpoppdilaaW.PrintLast Go.Proofs.YtmbhpkpoppdilaaW.PrintMore
/-- The set of those that p tells. -/
def Is (l : List S30) (p : Int → Prop) : Prop := Nf l ∧ ∀ r, mem l r ↔ Scal r ∧ p r
theorem Is.ext {a b : List S30} {p q : Int → Prop} (ha : Is a p) (hb : Is b q) (h : ∀ r, Scal r → (p r ↔ q r)) : a = b :=
  Nf.ext ha.1 hb.1 fun r => by rw [ha.2, hb.2]; exact ⟨fun ⟨h1, h2⟩ => ⟨h1, (h r h1).1 h2⟩, fun ⟨h1, h2⟩ => ⟨h1, (h r h1).2 h2⟩⟩
theorem Is.has {a : List S30} {p : Int → Prop} (ha : Is a p) (r : Int) : hasP a r = true ↔ Scal r ∧ p r := by rw [hasP_iff, ha.2]; exact ⟨fun h => h.2, fun h => ⟨h.1, h⟩⟩
theorem set_norm (l : List S30) (hl : l.length ≤ 20000) : set_Norm.f l = some (normP l) := if_pos (by omega)
theorem set_union (ll : List (List S30)) (h1 : ll.flatten.length ≤ 20000) (h2 : ll.length ≤ 100000) : set_Union.f ll = some (normP ll.flatten) := by
  unfold set_Union.f
  rw [show api_Span.f ll = some ll.flatten from if_pos ⟨by omega, h2⟩]
  show (set_Norm.f ll.flatten).bind _ = _
  rw [set_norm _ h1]
  rfl
end
section
open Go.RowKit Go.Proofs.YtmbhpkpoppdilaaW.PrintWords Go.Proofs.YtmbhpkpoppdilaaW.PrintLast Go.Proofs.YtmbhpkpoppdilaaW.PrintMore
def closeP (l : List S30) : List S30 := normP [normP l, moreP (normP l)].flatten
theorem flatMap_len {α β : Type} (f : α → List β) (g : α → Nat) : ∀ l : List α, (∀ x ∈ l, (f x).length ≤ g x) → (l.flatMap f).length ≤ (l.map g).sum
  | [], _ => by simp
  | x :: l, h => by
    rw [List.flatMap_cons, List.length_append, List.map_cons, List.sum_cons]
    have h1 := h x List.mem_cons_self
    have h2 := flatMap_len f g l (fun y hy => h y (List.mem_cons_of_mem _ hy))
    omega
theorem moreP_len (out : List S30) : (moreP out).length ≤ 1632 := by
  have h := flatMap_len (fun x => moreX out x (runN x)) (fun x => 12 * runN x) runsL (fun x _ => moreX_len out x (runN x))
  have e : (runsL.map fun x => 12 * runN x).sum = 1632 := by decide
  unfold moreP
  omega
theorem closeP_len (l : List S30) : (closeP l).length ≤ 4 * l.length + 3264 := by
  have h1 := normP_len [normP l, moreP (normP l)].flatten
  have h2 := normP_len l
  have h3 := moreP_len (normP l)
  have e : [normP l, moreP (normP l)].flatten.length = (normP l).length + (moreP (normP l)).length := by simp
  unfold closeP
  omega
theorem close_f (l : List S30) (h : l.length ≤ 5000) : fold_Close.f l = some (closeP l) := by
  have h2 := normP_len l
  have h3 := moreP_len (normP l)
  unfold fold_Close.f
  rw [set_norm l (by omega)]
  exact set_union [normP l, moreP (normP l)] (by simp; omega) (by simp)
theorem mem_spanO (zs : List Int) (r : Int) : mem (spanO zs) r ↔ r ∈ zs := by
  unfold mem spanO
  constructor
  · rintro ⟨x, hx, h1, h2⟩
    obtain ⟨z, hz, rfl⟩ := List.mem_map.1 hx
    simp only at h1 h2
    rw [show r = z by omega]; exact hz
  · intro h
    exact ⟨⟨r, r⟩, List.mem_map.2 ⟨r, h, rfl⟩, Int.le_refl _, Int.le_refl _⟩
theorem mem_flatMap' {α : Type} (f : α → List S30) (l : List α) (r : Int) : mem (l.flatMap f) r ↔ ∃ x ∈ l, mem (f x) r := by
  unfold mem
  constructor
  · rintro ⟨s, hs, h⟩
    obtain ⟨x, hx, hs⟩ := List.mem_flatMap.1 hs
    exact ⟨x, hx, s, hs, h⟩
  · rintro ⟨x, hx, s, hs, h⟩
    exact ⟨s, List.mem_flatMap.2 ⟨x, hx, hs⟩, h⟩
theorem mem_moreR (out : List S30) (q r : Int) : mem (moreR out q) r ↔ (∃ o ∈ orbitP q, hasP out o = true) ∧ r ∈ orbitP q := by
  unfold moreR
  split
  · rename_i h
    rw [mem_spanO]
    exact ⟨fun h2 => ⟨List.any_eq_true.1 h, h2⟩, fun h2 => h2.2⟩
  · rename_i h
    constructor
    · intro h2; exact absurd h2 (mem_nil _)
    · intro h2; exact absurd (List.any_eq_true.2 h2.1) h
theorem mem_moreP (out : List S30) (r : Int) : mem (moreP out) r ↔ ∃ x ∈ runsL, ∃ q, x.lo ≤ q ∧ q ≤ x.hi ∧ (∃ o ∈ orbitP q, hasP out o = true) ∧ r ∈ orbitP q := by
  unfold moreP
  rw [mem_flatMap']
  constructor
  · rintro ⟨x, hx, h⟩
    unfold moreX at h
    rw [mem_flatMap'] at h
    obtain ⟨t, ht, h⟩ := h
    rw [mem_moreR] at h
    have ht := List.mem_range.1 ht
    have hb := runs_bd hx
    unfold runN at ht
    exact ⟨x, hx, x.lo + t, by omega, by omega, h⟩
  · rintro ⟨x, hx, q, h1, h2, h⟩
    refine ⟨x, hx, ?_⟩
    unfold moreX
    rw [mem_flatMap']
    refine ⟨(q - x.lo).toNat, List.mem_range.2 (by unfold runN; omega), ?_⟩
    rw [show x.lo + ((q - x.lo).toNat : Int) = q by omega, mem_moreR]
    exact h
/-- A closed set has a scalar just if one that is folded alike was in the set. -/
theorem is_close (l : List S30) : Is (closeP l) (fun r => ∃ o, foldF o = foldF r ∧ mem l o) := by
  refine ⟨normP_nf _, fun r => ?_⟩
  unfold closeP
  rw [normP_mem]
  refine and_congr_right fun hs => ?_
  rw [mem_flatten]
  constructor
  · rintro ⟨m, hm, h⟩
    simp only [List.mem_cons, List.not_mem_nil, or_false] at hm
    rcases hm with rfl | rfl
    · exact ⟨r, rfl, ((normP_mem l r).1 h).2⟩
    · obtain ⟨x, hx, q, h1, h2, ⟨o, ho, ho2⟩, h4⟩ := (mem_moreP _ _).1 h
      have h5 := (mem_orbit.1 ho).2
      have h6 := (mem_orbit.1 h4).2
      exact ⟨o, by rw [h5, h6], ((normP_mem l o).1 ((hasP_iff _ _).1 ho2).2).2⟩
  · rintro ⟨o, h1, h2⟩
    have hso : Scal o := fold_scal.1 (by rw [h1]; exact fold_scal.2 hs)
    have hno : mem (normP l) o := (normP_mem l o).2 ⟨hso, h2⟩
    by_cases he : o = r
    · exact ⟨normP l, by simp, he ▸ hno⟩
    · refine ⟨moreP (normP l), by simp, ?_⟩
      rw [mem_moreP]
      rcases fold_run (o := o) with h3 | ⟨x, hx, h3, h4, _⟩
      · rcases fold_run (o := r) with h5 | ⟨x, hx, h5, h6, _⟩
        · exact absurd (by rw [← h3, h1, h5]) he
        · exact ⟨x, hx, r, h5, h6, ⟨o, mem_orbit.2 ⟨hs, h1⟩, (hasP_iff _ _).2 ⟨hso, hno⟩⟩, mem_orbit.2 ⟨hs, rfl⟩⟩
      · exact ⟨x, hx, o, h3, h4, ⟨o, mem_orbit.2 ⟨hso, rfl⟩, (hasP_iff _ _).2 ⟨hso, hno⟩⟩, mem_orbit.2 ⟨hso, h1.symm⟩⟩
theorem lt_ext : ∀ {l m : List Int}, l.Pairwise (· < ·) → m.Pairwise (· < ·) → (∀ x, x ∈ l ↔ x ∈ m) → l = m
  | [], [], _, _, _ => rfl
  | [], y :: m, _, _, h => absurd ((h y).2 List.mem_cons_self) (by simp)
  | x :: l, [], _, _, h => absurd ((h x).1 List.mem_cons_self) (by simp)
  | x :: l, y :: m, hl, hm, h => by
    have h1 := List.pairwise_cons.1 hl
    have h2 := List.pairwise_cons.1 hm
    have e : x = y := by
      rcases List.mem_cons.1 ((h x).1 List.mem_cons_self) with e | e
      · exact e
      · rcases List.mem_cons.1 ((h y).2 List.mem_cons_self) with e2 | e2
        · exact e2.symm
        · have := h2.1 x e; have := h1.1 y e2; omega
    subst e
    rw [lt_ext h1.2 h2.2 fun z => ?_]
    constructor
    · intro hz
      rcases List.mem_cons.1 ((h z).1 (List.mem_cons_of_mem _ hz)) with e | e
      · have := h1.1 z hz; omega
      · exact e
    · intro hz
      rcases List.mem_cons.1 ((h z).2 (List.mem_cons_of_mem _ hz)) with e | e
      · have := h2.1 z hz; omega
      · exact e
theorem fold_k (o : Int) : foldF o = 107 ↔ o = 75 ∨ o = 107 ∨ o = 8490 := by
  have h := fold_cases o
  generalize foldF o = p at *
  omega
theorem orb_k : orbitP 107 = [75, 107, 8490] := by
  refine lt_ext (orbit_up 107) (by decide) fun x => ?_
  rw [mem_orbit, show foldF 107 = 107 by decide, fold_k]
  simp [Scal]
theorem close_k : closeP [⟨107, 107⟩] = [⟨75, 75⟩, ⟨107, 107⟩, ⟨8490, 8490⟩] := by
  refine Nf.ext (is_close _).1 ⟨by simp [Ok], by simp⟩ fun r => ?_
  rw [(is_close _).2]
  simp only [mem_one]
  have hm : mem [⟨75, 75⟩, ⟨107, 107⟩, ⟨8490, 8490⟩] r ↔ r = 75 ∨ r = 107 ∨ r = 8490 := by
    rw [mem_cons, mem_cons, mem_one]
    simp only
    omega
  rw [hm, ← fold_k]
  constructor
  · rintro ⟨_, o, h1, h2⟩
    rw [← h1, show o = 107 by omega]; decide
  · intro h
    refine ⟨fold_scal.1 (by rw [h]; decide), 107, ?_, by omega, by omega⟩
    rw [h]; decide
theorem known_f : glyphcutterlaw04_known.f = some true := by
  unfold glyphcutterlaw04_known.f
  rw [show fold_Orbit.f 107 = some [75, 107, 8490] from congrArg some orb_k, close_f _ (by simp), close_k, show fold_Fold.f 75 = some 107 by decide]
  decide
theorem near_f (a : Int) (h0 : 0 ≤ a) (h1 : a ≤ 65535) : ∃ v, glyphcutterlaw04_near.f a = some v ∧ 0 ≤ v ∧ v ≤ 9000 := by
  have t0 := Int.tmod_eq_emod_of_nonneg (b := 8) h0
  have t1 := Int.tdiv_eq_ediv_of_nonneg (b := 8) h0
  have hw : IntKind.u16.wrap (a / 8) = a / 8 := by
    simp [IntKind.wrap, IntKind.bits, IntKind.signed]
    omega
  have hn0 : 0 ≤ a / 8 := by omega
  have hn1 : a / 8 ≤ 8191 := by omega
  unfold glyphcutterlaw04_near.f
  rw [t0, t1, hw, wrap_in (i := a / 8) (by omega) (by omega)]
  generalize a / 8 = n at *
  have m1 := Int.tmod_eq_emod_of_nonneg (b := 192) hn0
  have m2 := Int.tmod_eq_emod_of_nonneg (b := 96) hn0
  have m3 := Int.tmod_eq_emod_of_nonneg (b := 112) hn0
  have m4 := Int.tmod_eq_emod_of_nonneg (b := 16) hn0
  have m5 := Int.tmod_eq_emod_of_nonneg (b := 8) hn0
  rw [m1, m2, m3, m4, m5]
  rw [wrap_in (i := 64 + n % 192) (by omega) (by omega), wrap_in (i := 896 + n % 96) (by omega) (by omega), wrap_in (i := 1016 + n % 112) (by omega) (by omega), wrap_in (i := 8480 + n % 16) (by omega) (by omega), wrap_in (i := 7832 + n % 8) (by omega) (by omega)]
  by_cases c1 : a % 8 = 0
  · exact ⟨_, if_pos c1, by omega, by omega⟩
  rw [if_neg c1]
  by_cases c2 : a % 8 = 1
  · exact ⟨_, if_pos c2, by omega, by omega⟩
  rw [if_neg c2]
  by_cases c3 : a % 8 = 2
  · exact ⟨_, if_pos c3, by omega, by omega⟩
  rw [if_neg c3]
  by_cases c4 : a % 8 = 3
  · exact ⟨_, if_pos c4, by omega, by omega⟩
  rw [if_neg c4]
  by_cases c5 : a % 8 = 4
  · exact ⟨_, if_pos c5, by omega, by omega⟩
  rw [if_neg c5]
  exact ⟨_, rfl, by omega, by omega⟩
theorem close_any (l : List S30) (x : Int) : hasP (closeP l) x = (orbitP x).any (hasP l) := by
  rw [Bool.eq_iff_iff, (is_close l).has, List.any_eq_true]
  constructor
  · rintro ⟨hs, o, h1, h2⟩
    exact ⟨o, mem_orbit.2 ⟨hs, h1⟩, (hasP_iff _ _).2 ⟨fold_scal.1 (h1 ▸ fold_scal.2 hs), h2⟩⟩
  · rintro ⟨o, h1, h2⟩
    obtain ⟨hs, h3⟩ := mem_orbit.1 h1
    exact ⟨hs, o, h3, ((hasP_iff _ _).1 h2).2⟩
end
end Go.Proofs.Ytmbhpkpoppdilaa.P
