/- The law TermsFew: the walk and the plain law together. -/
import Derived.Test.YtgpkhnkppkepnaaPx0
import Derived.Test.YtgpkhnkppkepnaaPx18
import Derived.Test.YtgpkhnkppkepnaaGBase
import Derived.Test.YtgpkhnkppkepnaaGEdges
import Derived.Test.YtgpkhnkppkepnaaGHas
import Derived.Test.YtgpkhnkppkepnaaGInter
import Derived.Test.YtgpkhnkppkepnaaGMapH
import Derived.Test.YtgpkhnkppkepnaaGNorm
import Derived.Test.YtgpkhnkppkepnaaGRowsO
import Derived.Test.YtgpkhnkppkepnaaGTerms
import Derived.Test.YtgpkhnkppkepnaaPBase
import Derived.Test.YtgpkhnkppkepnaaPLaw10
import Derived.Test.YtgpkhnkppkepnaaPLaws10
import Derived.Test.YtgpkhnkppkepnaaPParts
import Derived.Test.YtgpkhnkppkepnaaPRef10
import Derived.Test.YtgpkhnkppkepnaaPTermsA
import Derived.Test.YtgpkhnkppkepnaaWOpen10
namespace Go.Proofs.Ytgpkhnkppkepnaa.P
set_option linter.unusedVariables false
set_option linter.unusedSimpArgs false
section
open Go.RowKit Go.Shelf Go.Proofs.YtgpkhnkppkepnaaW.PrintWords Go.Proofs.YtgpkhnkppkepnaaW.PrintLast Go.Proofs.YtgpkhnkppkepnaaW.PrintMore
theorem few_in (L ps : List (List S42)) (i j : Nat) (hi : i < ps.length) (hj : j < ps.length) (hpi : 0 < (ps[i]).length) (hpj : 0 < (ps[j]).length) (hL : L.length ≤ 1000) (hLs : ∀ s ∈ L, Sm s) (hps : ps.length ≤ 1000000) (r : Bool)
    (hany : (L.any fun s => hasP s (loP ps[i]) != hasP s (loP ps[j])) = true) (hnx : Ev (fun k => glyphcutterlaw10_TermsFew.l1 k L ps (i : Int) ((j + 1 : Nat) : Int)) r) : ∀ (d m : Nat), L.length - m = d → m ≤ L.length → Ev (fun k => glyphcutterlaw10_TermsFew.l2 k L ps (i : Int) (j : Int) ((L.take m).any fun s => hasP s (loP ps[i]) != hasP s (loP ps[j])) (m : Int)) r := by
  intro d
  induction d with
  | zero =>
    intro m hd hm
    obtain rfl : m = L.length := by omega
    rw [List.take_of_length_le (Nat.le_refl _), hany]
    refine Ev.step (fun k => by rw [glyphcutterlaw10_TermsFew.l2]) ?_
    refine Ev.neg (by omega) ?_
    refine Ev.pos rfl ?_
    rw [wr1 (by omega)]
    exact hnx
  | succ d ih =>
    intro m hd hm
    have hlt : m < L.length := by omega
    have nx := ih (m + 1) (by omega) (by omega)
    have hs : ((L.take (m + 1)).any fun s => hasP s (loP ps[i]) != hasP s (loP ps[j])) = (((L.take m).any fun s => hasP s (loP ps[i]) != hasP s (loP ps[j])) || (hasP L[m] (loP ps[i]) != hasP L[m] (loP ps[j]))) := by
      rw [List.take_succ_eq_append_getElem hlt, List.any_append]; simp
    rw [hs] at nx
    refine Ev.step (fun k => by rw [glyphcutterlaw10_TermsFew.l2]) ?_
    refine Ev.pos (by omega) ?_
    rw [wr1 (by omega)]
    cases hb : ((L.take m).any fun s => hasP s (loP ps[i]) != hasP s (loP ps[j])) with
    | true =>
      rw [hb, Bool.true_or] at nx
      exact Ev.pos rfl nx
    | false =>
      rw [hb, Bool.false_or] at nx
      refine Ev.neg (by decide) ?_
      refine Ev.pos (by omega) ?_
      refine Ev.pos (by omega) ?_
      refine Ev.pos (by omega) ?_
      rw [lo_get ps i hi, lo_get ps j hj, rdL_get ps i hi, rdL_get ps j hj, rdL_get L m hlt]
      refine Ev.pos (by omega) ?_
      refine Ev.bind (ref_has L[m] (loP ps[i]) (hLs _ (List.getElem_mem hlt))) ?_
      refine Ev.pos (by omega) ?_
      refine Ev.pos (by omega) ?_
      refine Ev.pos (by omega) ?_
      refine Ev.bind (ref_has L[m] (loP ps[j]) (hLs _ (List.getElem_mem hlt))) ?_
      exact nx
theorem few_mid (L ps : List (List S42)) (h : IsParts L ps) (i : Nat) (hi : i < ps.length) (hL : L.length ≤ 1000) (hLs : ∀ s ∈ L, Sm s) (hps : ps.length ≤ 1000000) (r : Bool) (hnx : Ev (fun k => glyphcutterlaw10_TermsFew.l0 k L ps ((i + 1 : Nat) : Int)) r) : ∀ (d j : Nat), i - j = d → j ≤ i → Ev (fun k => glyphcutterlaw10_TermsFew.l1 k L ps (i : Int) (j : Int)) r := by
  intro d
  induction d with
  | zero =>
    intro j hd hj
    obtain rfl : j = i := by omega
    refine Ev.step (fun k => by rw [glyphcutterlaw10_TermsFew.l1]) ?_
    refine Ev.neg (by omega) ?_
    rw [wr1 (by omega)]
    exact hnx
  | succ d ih =>
    intro j hd hj
    have hji : j < i := by omega
    have nx := ih (j + 1) (by omega) (by omega)
    refine Ev.step (fun k => by rw [glyphcutterlaw10_TermsFew.l1]) ?_
    refine Ev.pos (by omega) ?_
    have := few_in L ps i j hi (by omega) (part_lo h i hi).1 (part_lo h j (by omega)).1 hL hLs hps r (apart_words h hji hi) nx L.length 0 rfl (Nat.zero_le _)
    exact this
theorem few_out (L ps : List (List S42)) (h : IsParts L ps) (hL : L.length ≤ 1000) (hLs : ∀ s ∈ L, Sm s) (hps : ps.length ≤ 1000000) : ∀ (d i : Nat), ps.length - i = d → i ≤ ps.length → Ev (fun k => glyphcutterlaw10_TermsFew.l0 k L ps (i : Int)) true := by
  intro d
  induction d with
  | zero =>
    intro i hd hi
    obtain rfl : i = ps.length := by omega
    refine Ev.step (fun k => by rw [glyphcutterlaw10_TermsFew.l0]) ?_
    refine Ev.neg (by omega) ?_
    exact Ev.bind known_ev (Ev.now _)
  | succ d ih =>
    intro i hd hi
    refine Ev.step (fun k => by rw [glyphcutterlaw10_TermsFew.l0]) ?_
    refine Ev.pos (by omega) ?_
    have := few_mid L ps h i (by omega) hL hLs hps true (ih (i + 1) (by omega) (by omega)) i 0 rfl (Nat.zero_le _)
    exact this
theorem law_few (c : List (List Int)) (hu : UL c) (hs : SmLL c) : Ev (fun k => glyphcutterlaw10_TermsFew.f k c) true := by
  obtain ⟨L, hL, h8, hsm, hf⟩ := list_ev c hu hs
  have hpl := parts_len L
  have hfl := hf.2.1
  unfold glyphcutterlaw10_TermsFew.f
  refine Ev.bind hL (Ev.bindc (of_fine L hf) ?_)
  exact few_out L (partsA L) (parts_is L) (by omega) (small_sm hsm) (by omega) _ 0 rfl (Nat.zero_le _)
end
section
open Go.RowKit Go.Proofs.YtgpkhnkppkepnaaW.PrintWords Go.Proofs.YtgpkhnkppkepnaaW.PrintLast Go.Proofs.YtgpkhnkppkepnaaW.PrintMore
theorem TermsFew.calls (W : World) (A0 : Option Addr) (c0 : Nat) (l0 : List (List Int)) (hr0 : Kd.C (Kd.slice 54 (Kd.int .u16)) W A0 l0.length l0) (hc0 : l0.length ≤ c0) (u0 : UL l0) (z0 : SmLL l0) :
    Calls Try.prog 8 #[.slice A0 l0.length c0] W fun e W' => e = .returned (.bool true) ∧ Below W.heap.size W W' := by
  obtain ⟨k, hk⟩ := (law_few l0 u0 z0).rounds
  exact glyphcutterlaw10_TermsFew.calls k A0 c0 l0 true W rfl hr0 hc0 hk
end
end Go.Proofs.Ytgpkhnkppkepnaa.P
