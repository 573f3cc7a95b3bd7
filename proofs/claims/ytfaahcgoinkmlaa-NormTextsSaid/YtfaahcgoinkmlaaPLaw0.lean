/- What the laws of the chapter share: the plain side; arguments opened. -/
import Derived.Test.YtfaahcgoinkmlaaPx0
import Derived.Test.YtfaahcgoinkmlaaPx2
import Derived.Test.YtfaahcgoinkmlaaGApply
import Derived.Test.YtfaahcgoinkmlaaGCheck
import Derived.Test.YtfaahcgoinkmlaaGDecode
import Derived.Test.YtfaahcgoinkmlaaGFold
import Derived.Test.YtfaahcgoinkmlaaGKnown
import Derived.Test.YtfaahcgoinkmlaaGMapP
import Derived.Test.YtfaahcgoinkmlaaGSteps
import Derived.Test.YtfaahcgoinkmlaaPBase
import Derived.Test.YtfaahcgoinkmlaaPPairs16
import Derived.Deep.SlicePairs
import Derived.ChangeArms
import Derived.SizedLaws
import Derived.WalkKit
namespace Go.Proofs.Ytfaahcgoinkmlaa.P
set_option linter.unusedVariables false
set_option linter.unusedSimpArgs false
section
open Go.RowKit Go.Proofs.YtfaahcgoinkmlaaW.PrintWords Go.Proofs.YtfaahcgoinkmlaaW.PrintLast Go.Proofs.YtfaahcgoinkmlaaW.PrintMore
theorem known_f16 : glyphcutterlaw16_known.f = some true := rfl
theorem steps_f {kinds : List Int} {c : List S58} (hk : U8B kinds) (hc : WfT c) (hz : c.length ≤ 9000000000000000000) : glyphcutterlaw16_Steps.f kinds c = some (stepsP kinds c) := if_pos ⟨hk, hc, hz⟩
theorem steps_len (kinds : List Int) (c : List S58) : (stepsP kinds c).length ≤ 8 := by unfold stepsP; rw [List.length_map, List.length_take]; omega
theorem apply_append (a b : List S33) (r : Int) : applyP (a ++ b) r = applyP b (applyP a r) := by unfold applyP; rw [List.foldl_append]
theorem tm8b {x : Int} (h : 0 ≤ x) : 0 ≤ Int.tmod x 8 ∧ Int.tmod x 8 < 8 := by rw [tm8 h]; omega
theorem pairs_ok (c : List S58) (hc : WfT c) (hz : c.length ≤ 9000000000000000000) : Ev (fun k => glyphcutterlaw16_Pairs.f k c) (pairsP c) := ev_pairs c hc hz
end
section
open Go.RowKit Go.ChangeShapes Go.WideShapes Go.Proofs.YtfaahcgoinkmlaaW.PrintWords Go.Proofs.YtfaahcgoinkmlaaW.PrintLast Go.Proofs.YtfaahcgoinkmlaaW.PrintMore
theorem wf_i64 {x : Int} (h : (Lit.int .i64 x).wf = true) : In64 x := by
  simp [Lit.wf, IntKind.min, IntKind.max, IntKind.bits, IntKind.signed] at h
  unfold In64; omega
theorem wf_u8 {x : Int} (h : (Lit.int .u8 x).wf = true) : 0 ≤ x ∧ x ≤ 255 := by
  simp [Lit.wf, IntKind.min, IntKind.max, IntKind.bits, IntKind.signed] at h
  omega
theorem u8_of {l : List Int} (h : ∀ x ∈ l, (Lit.int .u8 x).wf = true) : U8B l := fun x hx => wf_u8 (h x hx)
theorem sm_of {n : Nat} {l : List Int} (h : l.length * n ≤ 140737488351232) (hn : 0 < n := by decide) : Sm l := by
  have := Nat.le_mul_of_pos_right l.length hn
  unfold Sm; omega
instance : Inhabited S58 := ⟨z58⟩
set_option maxRecDepth 100000 in
theorem open_twos {H : Type} {enc : TypeId × Value → H} {W : World} {base : Nat} {spare : Nat → Bool} {held : Bool} {a : Option Addr} {len cap : Nat} {d : DataW H} {ps : List MemPlace} (h : DataW.Trod enc Try.prog W base spare held 23 (.slice a len cap) d ps) :
    ∃ l : List S58, len = l.length ∧ k58.C W a l.length l ∧ WfT l ∧ l.length ≤ cap ∧ (l = [] ∨ ∃ es sp, d = .slice es sp ∧ l.length ≤ es.length) := by
  obtain ⟨fuel, hf⟩ := h
  rcases Go.Deep.open_slice Try.underlying23 hf with ⟨hcs, _⟩ | ⟨a', len', cap', m, n, D, Pl, hcs, hb, hl, hc, hm, hx, hh⟩
  · simp [Value.cells] at hcs
    obtain ⟨rfl, rfl, rfl⟩ := hcs
    exact ⟨[], rfl, Kd.C_nil _ _, fun _ h => by simp at h, Nat.le_refl _, .inl rfl⟩
  · simp [Value.cells] at hcs
    obtain ⟨rfl, rfl, rfl⟩ := hcs
    have hlm : len ≤ m := by rw [hm]; split <;> omega
    have ce : Try.prog.cellsOf 58 = 3 := by kernel_rfl
    have each : ∀ i, i < len → ∃ s : S58, W.cell? (a'.add (i * 3)) = some (.int .u8 s.f0) ∧ W.cell? (a'.add (i * 3 + 1)) = some (.int .u8 s.f1) ∧ W.cell? (a'.add (i * 3 + 2)) = some (.int .i64 s.f2) ∧ (0 ≤ s.f0 ∧ s.f0 ≤ 255) ∧ (0 ≤ s.f1 ∧ s.f1 ≤ 255) ∧ In64 s.f2 := by
      intro i hi
      obtain ⟨cs', h1, h2⟩ := hh i (by omega)
      rw [ce] at h1
      obtain ⟨_, hlen, hcell⟩ := World.cells?_some h1
      obtain ⟨xs, k, hk, hxy, _, hxl, hfl⟩ := DataW.trod_struct Try.underlying58 h2
      match xs, hxl, cs', hlen with
      | [y0, y1, y2], _, [v0, v1, v2], _ =>
        have g0 := hfl 0 _ rfl
        have g1 := hfl 1 _ rfl
        have g2 := hfl 2 _ rfl
        have c5 : Try.prog.cellsOf 5 = 1 := by kernel_rfl
        have c3 : Try.prog.cellsOf 3 = 1 := by kernel_rfl
        simp [c5, c3] at g0 g1 g2
        have e0 := hcell 0 (by omega)
        have e1 := hcell 1 (by omega)
        have e2 := hcell 2 (by omega)
        rw [Go.Deep.add_add] at e0 e1 e2
        obtain ⟨n0, x0, _, w0⟩ := DataW.trod_int (k := .u8) Try.underlying5 g0
        obtain ⟨n1, x1, _, w1⟩ := DataW.trod_int (k := .u8) Try.underlying5 g1
        obtain ⟨n2, x2, _, w2⟩ := DataW.trod_int (k := .i64) Try.underlying3 g2
        have v0e : v0 = .int .u8 n0 := by simpa using x0
        have v1e : v1 = .int .u8 n1 := by simpa using x1
        have v2e : v2 = .int .i64 n2 := by simpa using x2
        exact ⟨⟨n0, n1, n2⟩, by rw [← v0e]; simpa using e0, by rw [← v1e]; simpa using e1, by rw [← v2e]; simpa using e2, wf_u8 w0, wf_u8 w1, wf_i64 w2⟩
    obtain ⟨g, hg⟩ := Go.Deep.choose_lt each
    have hln : ((List.range len).map g).length = len := by simp
    have d0 : d = .slice ((List.range len).map D) ((List.range (m - len)).map fun j => D (len + j)) := congrArg Prod.fst hx
    refine ⟨(List.range len).map g, hln.symm, ⟨rfl, ?_, fun _ => ⟨a', rfl, fun j p hj => ?_⟩⟩, fun s hs => ?_, by rw [hln]; exact hl, .inr ⟨_, _, d0, by simp⟩⟩
    · rw [hln]; have : maxLen ≤ 9223372036854775807 := by decide
      omega
    · have hjl : j < len := by
        have := (List.getElem?_eq_some_iff.1 hj).1
        rwa [hln] at this
      have hp : p = g j := by
        rw [List.getElem?_map, List.getElem?_range hjl] at hj
        simpa using hj.symm
      obtain ⟨c0, c1, c2, _⟩ := hg j hjl
      refine ⟨[.int .u8 p.f0, .int .u8 p.f1, .int .i64 p.f2], rfl, k58_mk _ p, fun i u hu => ?_⟩
      subst hp
      match i, hu with
      | 0, hu => simp at hu; subst hu; exact c0
      | 1, hu => simp at hu; subst hu; exact c1
      | 2, hu => simp at hu; subst hu; exact c2
    · obtain ⟨i, hi, rfl⟩ := List.mem_map.1 hs
      exact (hg i (List.mem_range.1 hi)).2.2.2
theorem sm_twos {H : Type} {ts : List TypeId} {ds : List (DataW H)} {j : Nat} {d : DataW H} {l : List S58} (hsz : (DataW.weightsEach Try.prog ts ds).all (· ≤ reachBytes) = true) (ht : ts[j]? = some 23) (hd : ds[j]? = some d) (h : l = [] ∨ ∃ es sp, d = .slice es sp ∧ l.length ≤ es.length) : Sm l := by
  unfold Sm
  rcases h with rfl | ⟨es, sp, rfl, hl⟩
  · simp
  · have z := sized_slice hsz ht hd Try.underlying23
    have hb : Try.prog.bytesOf 58 = 16 := by kernel_rfl
    have := reachBytes_lt
    rw [hb] at z
    omega
end
end Go.Proofs.Ytfaahcgoinkmlaa.P
