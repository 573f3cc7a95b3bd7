/- The law NormPairs: the walk and the plain law together. -/
import Derived.Test.YtfaahcgoinkmlaaPx0
import Derived.Test.YtfaahcgoinkmlaaPx16
import Derived.Test.YtfaahcgoinkmlaaPx6
import Derived.Test.YtfaahcgoinkmlaaGCheck
import Derived.Test.YtfaahcgoinkmlaaGCompose
import Derived.Test.YtfaahcgoinkmlaaGFold
import Derived.Test.YtfaahcgoinkmlaaGKnown
import Derived.Test.YtfaahcgoinkmlaaGMapP
import Derived.Test.YtfaahcgoinkmlaaPBase
import Derived.Test.YtfaahcgoinkmlaaPCom16
import Derived.Test.YtfaahcgoinkmlaaPLaw0
import Derived.Test.YtfaahcgoinkmlaaPPairs16
import Derived.Deep.SlicePairs
import Derived.ChangeArms
import Derived.SizedLaws
import Derived.WalkKit
namespace Go.Proofs.Ytfaahcgoinkmlaa.P
set_option linter.unusedVariables false
set_option linter.unusedSimpArgs false
section
open Go.RowKit Go.Proofs.YtfaahcgoinkmlaaW.PrintWords Go.Proofs.YtfaahcgoinkmlaaW.PrintLast Go.Proofs.YtfaahcgoinkmlaaW.PrintMore
/-- The keys of both, in order. -/
def keysC (a b : List S45) : List Int := (a ++ b).map (·.f0)
def IsK (g : Int → Int) (ks : List Int) (l : List S45) : Prop := l.Pairwise (fun x y => x.f0 < y.f0) ∧ ∀ p : S45, p ∈ l ↔ p.f1 = g p.f0 ∧ g p.f0 ≠ p.f0 ∧ p.f0 ∈ ks
theorem IsK.same {g : Int → Int} {ks : List Int} {l : List S45} (h : IsK g ks l) {r : Int} (hr : g r = r ∨ ∃ q ∈ l, q.f0 = r) : IsK g (ks ++ [r]) l := by
  refine ⟨h.1, fun p => ?_⟩
  rw [h.2, List.mem_append, List.mem_singleton]
  constructor
  · rintro ⟨h1, h2, h3⟩; exact ⟨h1, h2, .inl h3⟩
  · rintro ⟨h1, h2, h3 | h3⟩
    · exact ⟨h1, h2, h3⟩
    · refine ⟨h1, h2, ?_⟩
      rcases hr with hr | ⟨q, hq, he⟩
      · rw [h3] at h2; exact absurd hr h2
      · rw [h3, ← he]; exact ((h.2 q).1 hq).2.2
theorem IsK.ins {g : Int → Int} {ks : List Int} {l : List S45} (h : IsK g ks l) {r : Int} (hr : g r ≠ r) (k : Nat) (hlo : ∀ q ∈ l.take k, q.f0 < r) (hhi : ∀ q ∈ l.drop k, r < q.f0) : IsK g (ks ++ [r]) (l.take k ++ [⟨r, g r⟩] ++ l.drop k) := by
  have hl := List.take_append_drop k l
  have hpw := h.1
  rw [← hl] at hpw
  obtain ⟨p1, p2, p3⟩ := List.pairwise_append.1 hpw
  refine ⟨?_, fun p => ?_⟩
  · refine List.pairwise_append.2 ⟨List.pairwise_append.2 ⟨p1, List.pairwise_singleton _ _, fun x hx y hy => ?_⟩, p2, fun x hx y hy => ?_⟩
    · rw [List.mem_singleton] at hy; subst hy; exact hlo x hx
    · rcases List.mem_append.1 hx with hx | hx
      · exact p3 x hx y hy
      · rw [List.mem_singleton] at hx; subst hx; exact hhi y hy
  · have hm : p ∈ l.take k ++ [⟨r, g r⟩] ++ l.drop k ↔ p ∈ l ∨ p = ⟨r, g r⟩ := by
      rw [List.mem_append, List.mem_append, List.mem_singleton]
      have : p ∈ l ↔ p ∈ l.take k ∨ p ∈ l.drop k := by rw [← List.mem_append, hl]
      rw [this]
      constructor
      · rintro ((h | h) | h)
        · exact .inl (.inl h)
        · exact .inr h
        · exact .inl (.inr h)
      · rintro ((h | h) | h)
        · exact .inl (.inl h)
        · exact .inr h
        · exact .inl (.inr h)
    rw [hm, h.2, List.mem_append, List.mem_singleton]
    constructor
    · rintro (⟨h1, h2, h3⟩ | h1)
      · exact ⟨h1, h2, .inl h3⟩
      · subst h1; exact ⟨rfl, hr, .inr rfl⟩
    · rintro ⟨h1, h2, h3 | h3⟩
      · exact .inl ⟨h1, h2, h3⟩
      · refine .inr ?_
        obtain ⟨p0, q1⟩ := p
        simp only at h1 h3 ⊢
        rw [h1, h3]
/-- The reference's Compose. -/
theorem ref_compose (a b : List S45) (hz : a.length + b.length ≤ 100000) : Ev (fun k => glyphcutterref16_Compose.f k a b) (composeP a b) := by
  obtain ⟨g, hg⟩ : ∃ g : Int → Int, g = fun x => mapP b (mapP a x) := ⟨_, rfl⟩
  have hgx : ∀ x, mapP b (mapP a x) = g x := fun x => by rw [hg]
  have hkl : (keysC a b).length = a.length + b.length := by unfold keysC; rw [List.length_map, List.length_append]
  have fin : ∀ l, IsK g (keysC a b) l → Ev (fun k => glyphcutterref16_Compose.l0 k a b l ((a.length + b.length : Nat) : Int)) (composeP a b) := by
    intro l hl
    have hc : IsC g l := ⟨hl.1, fun p => by
      rw [hl.2]
      constructor
      · rintro ⟨h1, h2, _⟩; exact ⟨h1, h2⟩
      · rintro ⟨h1, h2⟩
        refine ⟨h1, h2, ?_⟩
        have : p ∈ ledP a b (a ++ b) := (led_mem a b p).2 ⟨by rw [hgx]; exact h1, by rw [hgx]; exact h2⟩
        unfold ledP at this
        rw [List.mem_filterMap] at this
        obtain ⟨q, hq, he⟩ := this
        split at he
        · cases he
        · injection he with he
          subst he
          exact List.mem_map.2 ⟨q, hq, rfl⟩⟩
    have e : composeP a b = l := (is_compose a b).ext (hc.congr fun x => (hgx x).symm)
    rw [e]
    refine Ev.step (fun k => by rw [glyphcutterref16_Compose.l0]) ?_
    refine Ev.neg ?_ (Ev.now _)
    rw [wrap_in (by omega) (by omega)]; omega
  have loop : ∀ (d i : Nat) (l : List S45), a.length + b.length - i = d → i ≤ a.length + b.length → IsK g ((keysC a b).take i) l → l.length ≤ i → Ev (fun k => glyphcutterref16_Compose.l0 k a b l (i : Int)) (composeP a b) := by
    intro d
    induction d with
    | zero =>
      intro i l hd hi hl _
      obtain rfl : i = a.length + b.length := by omega
      rw [List.take_of_length_le (by omega)] at hl
      exact fin l hl
    | succ d ih =>
      intro i l hd hi hl hll
      have hlt : i < a.length + b.length := by omega
      have hik : i < (keysC a b).length := by omega
      obtain ⟨r, hr⟩ : ∃ r, (keysC a b)[i] = r := ⟨_, rfl⟩
      have htk : (keysC a b).take (i + 1) = (keysC a b).take i ++ [r] := by rw [List.take_succ_eq_append_getElem hik, hr]
      have nx : ∀ l', IsK g ((keysC a b).take i ++ [r]) l' → l'.length ≤ i + 1 → Ev (fun k => glyphcutterref16_Compose.l0 k a b l' ((i : Int) + 1)) (composeP a b) := fun l' h' hl' => by
        have := ih (i + 1) l' (by omega) (by omega) (by rw [htk]; exact h') hl'
        rwa [show ((i + 1 : Nat) : Int) = (i : Int) + 1 by omega] at this
      -- the inner search
      have ins : ∀ k : Nat, k ≤ l.length → g r ≠ r → (∀ q ∈ l.take k, q.f0 < r) → (∀ q ∈ l.drop k, r < q.f0) →
          Ev (fun n => (some (l.take ((k : Nat) : Int).toNat : List S45)).bind fun y => (if ([] : List S45).length + y.length < 8796093022208 then ((some (([] : List S45) ++ y : List S45)).bind fun y2 => (if y2.length < 8796093022208 then ((some (y2 ++ [(⟨r, g r⟩ : S45)] : List S45)).bind fun y3 => ((some (l.drop ((k : Nat) : Int).toNat : List S45)).bind fun y4 => (if y3.length + y4.length < 8796093022208 then (glyphcutterref16_Compose.l0 n a b (y3 ++ y4) (wrap64 ((i : Int) + 1))) else (none)))) else (none))) else (none))) (composeP a b) := by
        intro k hk hgr hlo hhi
        rw [Int.toNat_natCast, wr1N (by omega) (by omega)]
        have l1 : (l.take k).length ≤ l.length := by rw [List.length_take]; omega
        have l2 : (l.drop k).length ≤ l.length := by rw [List.length_drop]; omega
        refine Ev.bindc rfl (Ev.pos (by simp only [List.length_nil]; omega) (Ev.bindc rfl (Ev.pos (by simp only [List.nil_append]; omega) (Ev.bindc rfl (Ev.bindc rfl (Ev.pos (by simp only [List.nil_append, List.length_append, List.length_cons, List.length_nil]; omega) ?_))))))
        rw [List.nil_append]
        exact nx _ (hl.ins hgr k hlo hhi) (by simp only [List.length_append, List.length_cons, List.length_nil, List.length_take, List.length_drop]; omega)
      have inner : ∀ (e k : Nat), l.length - k = e → k ≤ l.length → (∀ q ∈ l.take k, q.f0 < r) → Ev (fun n => glyphcutterref16_Compose.l1 n a b l (i : Int) r (g r) (k : Int)) (composeP a b) := by
        intro e
        induction e with
        | zero =>
          intro k he hk hlo
          obtain rfl : k = l.length := by omega
          refine Ev.step (fun k => by rw [glyphcutterref16_Compose.l1]) ?_
          refine Ev.neg (by omega) ?_
          by_cases hgr : g r = r
          · refine Ev.pos hgr ?_
            rw [wr1N (by omega) (by omega)]
            exact nx l (hl.same (.inl hgr)) (by omega)
          · refine Ev.neg hgr (Ev.pos (by omega) (Ev.pos (by omega) ?_))
            exact ins l.length (Nat.le_refl _) hgr hlo (fun q hq => by rw [List.drop_of_length_le (Nat.le_refl _)] at hq; cases hq)
        | succ e ih2 =>
          intro k he hk hlo
          have hkl2 : k < l.length := by omega
          refine Ev.step (fun k => by rw [glyphcutterref16_Compose.l1]) ?_
          refine Ev.pos (by omega) (Ev.pos (by omega) ?_)
          rw [rdP_get l k hkl2]
          by_cases hlt2 : l[k].f0 < r
          · refine Ev.pos hlt2 ?_
            rw [wr1N (by omega) (by omega)]
            have := ih2 (k + 1) (by omega) (by omega) (fun q hq => by
              rw [List.take_succ_eq_append_getElem hkl2] at hq
              rcases List.mem_append.1 hq with hq | hq
              · exact hlo q hq
              · rw [List.mem_singleton] at hq; subst hq; exact hlt2)
            rwa [show ((k + 1 : Nat) : Int) = (k : Int) + 1 by omega] at this
          · refine Ev.neg hlt2 ?_
            by_cases hgr : g r = r
            · refine Ev.pos hgr ?_
              rw [wr1N (by omega) (by omega)]
              exact nx l (hl.same (.inl hgr)) (by omega)
            · refine Ev.neg hgr ?_
              by_cases heq : l[k].f0 = r
              · refine Ev.pos heq ?_
                rw [wr1N (by omega) (by omega)]
                exact nx l (hl.same (.inr ⟨l[k], List.getElem_mem hkl2, heq⟩)) (by omega)
              · refine Ev.neg heq (Ev.pos (by omega) ?_)
                refine ins k (by omega) hgr hlo (fun q hq => ?_)
                rw [List.drop_eq_getElem_cons hkl2] at hq
                rcases List.mem_cons.1 hq with rfl | hq
                · omega
                · have hpw := hl.1
                  rw [← List.take_append_drop k l, List.drop_eq_getElem_cons hkl2] at hpw
                  have := (List.pairwise_cons.1 (List.pairwise_append.1 hpw).2.1).1 q hq
                  omega
      have j1 : Ev (fun n => glyphcutterref16_Compose.j1 n a b l (i : Int) r) (composeP a b) := by
        refine Ev.step (fun k => by rw [glyphcutterref16_Compose.j1]) ?_
        refine Ev.bind (ref_map a r (by omega)) (Ev.bind (ref_map b _ (by omega)) ?_)
        rw [hgx]
        exact inner l.length 0 rfl (Nat.zero_le _) (fun q hq => by rw [List.take_zero] at hq; cases hq)
      have hkr : ∀ hi2 : i < a.length + b.length, (if h : i < a.length then (a[i]'h).f0 else (b[i - a.length]'(by omega)).f0) = r := by
        intro hi2
        have e1 : (keysC a b)[i]'hik = ((a ++ b)[i]'(by rw [List.length_append]; exact hi2)).f0 := List.getElem_map (fun p : S45 => p.f0)
        rw [← hr, e1, List.getElem_append]
        split <;> rfl
      have hkr := hkr hlt
      refine Ev.step (fun k => by rw [glyphcutterref16_Compose.l0]) ?_
      refine Ev.pos (by rw [wrap_in (by omega) (by omega)]; omega) ?_
      by_cases hia : i < a.length
      · rw [dif_pos hia] at hkr
        refine Ev.pos (by omega) (Ev.pos (by omega) ?_)
        rw [rdP_get a i hia, hkr]
        exact j1
      · rw [dif_neg hia] at hkr
        have ew : wrap64 ((i : Int) - (a.length : Int)) = ((i - a.length : Nat) : Int) := by rw [wrap_in (by omega) (by omega)]; omega
        refine Ev.neg (by omega) ?_
        rw [ew]
        refine Ev.pos (by omega) (Ev.pos (by omega) ?_)
        rw [rdP_get b (i - a.length) (by omega), hkr]
        exact j1
  have h := loop (a.length + b.length) 0 [] rfl (Nat.zero_le _) ⟨List.Pairwise.nil, fun p => by simp⟩ (Nat.le_refl _)
  exact h
end
section
open Go.RowKit Go.Proofs.YtfaahcgoinkmlaaW.PrintWords Go.Proofs.YtfaahcgoinkmlaaW.PrintLast Go.Proofs.YtfaahcgoinkmlaaW.PrintMore
theorem check_f {l : List S45} (h : WfP l) : norm_Check.f l = some (checkP l) := if_pos h
theorem law_pairs (a b : List S45) (c d : List S58) (r : Int) (ha : WfP a) (hb : WfP b) (hc : WfT c) (hd : WfT d) (hz : c.length ≤ 9000000000000000000) : Ev (fun k => glyphcutterlaw16_NormPairs.f k a b c d r) true := by
  have jt : Ev (fun k => glyphcutterlaw16_NormPairs.j0 k a b c d r true) true := by
    refine Ev.step (fun k => by rw [glyphcutterlaw16_NormPairs.j0]) ?_
    exact Ev.pos rfl (Ev.bindc known_f16 (Ev.now _))
  unfold glyphcutterlaw16_NormPairs.f
  by_cases h : (a.length : Int) > 250
  · exact Ev.pos h jt
  refine Ev.neg h ?_
  by_cases h2 : (b.length : Int) > 50
  · exact Ev.pos h2 jt
  refine Ev.neg h2 ?_
  by_cases h3 : (d.length : Int) > 50
  · exact Ev.pos h3 jt
  refine Ev.neg h3 (Ev.bindc known_f16 ?_)
  refine Ev.step (fun k => by rw [glyphcutterlaw16_NormPairs.j0]) ?_
  have lc := pairs_len c
  have ld := pairs_len d
  have m1 := compose_len a b
  have m2 := compose_len (pairsP c) (pairsP d)
  refine Ev.neg (by simp) (Ev.bind (pairs_ok c hc hz) (Ev.bind (pairs_ok d hd (by omega)) ?_))
  refine Ev.bindc (check_f ha) (Ev.bind (ref_check a (by omega)) (Ev.pos rfl ?_))
  refine Ev.bindc (check_f (pairs_wf hc)) (Ev.bind (ref_check _ (by omega)) (Ev.pos rfl ?_))
  refine Ev.bindc rfl (Ev.bind (ref_map a r (by omega)) (Ev.pos rfl ?_))
  refine Ev.bindc rfl (Ev.bind (ref_map _ r (by omega)) ?_)
  refine Ev.step (fun k => by rw [glyphcutterlaw16_NormPairs.j1]) ?_
  refine Ev.pos (by simp) (Ev.bindc (compose_f (by omega)) (Ev.bind (ref_compose a b (by omega)) (Ev.bind (ref_same _ (by omega)) (Ev.pos rfl ?_))))
  exact Ev.bindc (compose_f (by omega)) (Ev.bind (ref_compose _ _ (by omega)) (Ev.bind (ref_same _ (by omega)) (Ev.now _)))
end
section
open Go.RowKit Go.ChangeShapes Go.WideShapes Go.Proofs.YtfaahcgoinkmlaaW.PrintWords Go.Proofs.YtfaahcgoinkmlaaW.PrintLast Go.Proofs.YtfaahcgoinkmlaaW.PrintMore
theorem open_pairs_at {H : Type} {enc : TypeId × Value → H} {W : World} {base : Nat} {spare : Nat → Bool} {held : Bool} {fuel : Nat} {cs : List Value} {x : DataW H × List MemPlace} (h : DataW.trod enc Try.prog W base spare held fuel 31 cs = some x) :
    ∃ (l : List S45) (a : Option Addr) (cap : Nat), cs = [.slice a l.length cap] ∧ k45.C W a l.length l ∧ WfP l ∧ l.length ≤ cap ∧ l.length ≤ maxLen ∧ (l = [] ∨ ∃ es sp, x.1 = .slice es sp ∧ l.length ≤ es.length) := by
  rcases Go.Deep.open_slice_pairs Try.underlying31 Try.underlying45 (by kernel_rfl) rfl rfl (by kernel_rfl) (by kernel_rfl) h with ⟨rfl, _⟩ | ⟨a, len, cap, m, n, V0, V1, D0, D1, P0, P1, rfl, hb, hl, hc, hm, hx, hh⟩
  · exact ⟨[], none, 0, rfl, Kd.C_nil _ _, (fun _ h => by simp at h), Nat.le_refl _, Nat.zero_le _, .inl rfl⟩
  · have hlm : len ≤ m := by rw [hm]; split <;> omega
    have each : ∀ i, i < len → ∃ s : S45, W.cell? (a.add (i * 2)) = some (.int .i64 s.f0) ∧ W.cell? (a.add (i * 2 + 1)) = some (.int .i64 s.f1) ∧ (In64 s.f0 ∧ In64 s.f1) := by
      intro i hi
      obtain ⟨h0, h1, t0, t1⟩ := hh i (by omega)
      obtain ⟨n0, e0, _, w0⟩ := DataW.trod_int (k := .i64) Try.underlying3 t0
      obtain ⟨n1, e1, _, w1⟩ := DataW.trod_int (k := .i64) Try.underlying3 t1
      have v0 : V0 i = .int .i64 n0 := by simpa using e0
      have v1 : V1 i = .int .i64 n1 := by simpa using e1
      exact ⟨⟨n0, n1⟩, by rw [h0, v0], by rw [h1, v1], wf_i64 w0, wf_i64 w1⟩
    obtain ⟨g, hg⟩ := Go.Deep.choose_lt each
    have hln : ((List.range len).map g).length = len := by simp
    refine ⟨(List.range len).map g, some a, cap, by rw [hln], ⟨rfl, ?_, fun _ => ⟨a, rfl, fun j p hj => ?_⟩⟩, fun s hs => ?_, by rw [hln]; exact hl, by rw [hln]; omega, .inr ⟨_, _, by rw [hx], by simp⟩⟩
    · rw [hln]; have : maxLen ≤ 9223372036854775807 := by decide
      omega
    · have hjl : j < len := by
        have := (List.getElem?_eq_some_iff.1 hj).1
        rwa [hln] at this
      have hp : p = g j := by
        rw [List.getElem?_map, List.getElem?_range hjl] at hj
        simpa using hj.symm
      obtain ⟨c0, c1, _⟩ := hg j hjl
      refine ⟨[.int .i64 p.f0, .int .i64 p.f1], rfl, k45_mk _ p, fun i u hu => ?_⟩
      subst hp
      match i, hu with
      | 0, hu => simp at hu; subst hu; exact c0
      | 1, hu => simp at hu; subst hu; exact c1
    · obtain ⟨i, hi, rfl⟩ := List.mem_map.1 hs
      exact (hg i (List.mem_range.1 hi)).2.2
theorem open_pairs {H : Type} {enc : TypeId × Value → H} {W : World} {base : Nat} {spare : Nat → Bool} {held : Bool} {a : Option Addr} {len cap : Nat} {d : DataW H} {ps : List MemPlace} (h : DataW.Trod enc Try.prog W base spare held 31 (.slice a len cap) d ps) :
    ∃ l : List S45, len = l.length ∧ k45.C W a l.length l ∧ WfP l ∧ l.length ≤ cap ∧ (l = [] ∨ ∃ es sp, d = .slice es sp ∧ l.length ≤ es.length) := by
  obtain ⟨fuel, hf⟩ := h
  obtain ⟨l, A, c, hcs, hr, hw, hl, _, hd⟩ := open_pairs_at hf
  simp [Value.cells] at hcs
  obtain ⟨rfl, rfl, rfl⟩ := hcs
  exact ⟨l, rfl, hr, hw, hl, hd⟩
theorem sm_pairs {H : Type} {ts : List TypeId} {ds : List (DataW H)} {j : Nat} {d : DataW H} {l : List S45} (hsz : (DataW.weightsEach Try.prog ts ds).all (· ≤ reachBytes) = true) (ht : ts[j]? = some 31) (hd : ds[j]? = some d) (h : l = [] ∨ ∃ es sp, d = .slice es sp ∧ l.length ≤ es.length) : Sm l := by
  unfold Sm
  rcases h with rfl | ⟨es, sp, rfl, hl⟩
  · simp
  · have z := sized_slice hsz ht hd Try.underlying31
    have hb : Try.prog.bytesOf 45 = 16 := by kernel_rfl
    have := reachBytes_lt
    rw [hb] at z
    omega
end
section
open Go.RowKit Go.Proofs.YtfaahcgoinkmlaaW.PrintWords Go.Proofs.YtfaahcgoinkmlaaW.PrintLast Go.Proofs.YtfaahcgoinkmlaaW.PrintMore
theorem NormPairs.calls (W : World) (A0 : Option Addr) (c0 : Nat) (l0 : List S45) (hr0 : Kd.C k45 W A0 l0.length l0) (hc0 : l0.length ≤ c0) (u0 : WfP l0) (z0 : Sm l0) (A1 : Option Addr) (c1 : Nat) (l1 : List S45) (hr1 : Kd.C k45 W A1 l1.length l1) (hc1 : l1.length ≤ c1) (u1 : WfP l1) (z1 : Sm l1) (A2 : Option Addr) (c2 : Nat) (l2 : List S58) (hr2 : Kd.C k58 W A2 l2.length l2) (hc2 : l2.length ≤ c2) (u2 : WfT l2) (z2 : Sm l2) (A3 : Option Addr) (c3 : Nat) (l3 : List S58) (hr3 : Kd.C k58 W A3 l3.length l3) (hc3 : l3.length ≤ c3) (u3 : WfT l3) (z3 : Sm l3) (a4 : Int) (w4 : (Lit.int .i64 a4).wf = true) :
    Calls Try.prog 5 #[.slice A0 l0.length c0, .slice A1 l1.length c1, .slice A2 l2.length c2, .slice A3 l3.length c3, .int .i64 a4] W fun e W' => e = .returned (.bool true) ∧ Below W.heap.size W W' := by
  obtain ⟨k, hk⟩ := (law_pairs l0 l1 l2 l3 a4 u0 u1 u2 u3 (by unfold Sm at z2; omega)).rounds
  exact glyphcutterlaw16_NormPairs.calls k A0 c0 l0 A1 c1 l1 A2 c2 l2 A3 c3 l3 a4 true W rfl hr0 hc0 hr1 hc1 hr2 hc2 hr3 hc3 hk
end
end Go.Proofs.Ytfaahcgoinkmlaa.P
