/- props: the reference's Of, and the law PropsOf: the plain side. -/
import Derived.Test.YtpcljaidlihafaaPx0
import Derived.Test.YtpcljaidlihafaaPx12
import Derived.Test.YtpcljaidlihafaaPx7
import Derived.Test.YtpcljaidlihafaaPx8
import Derived.Test.YtpcljaidlihafaaGConcat
import Derived.Test.YtpcljaidlihafaaGNames
import Derived.Test.YtpcljaidlihafaaGNorm
import Derived.Test.YtpcljaidlihafaaGProps
import Derived.Test.YtpcljaidlihafaaGProps2
import Derived.Test.YtpcljaidlihafaaGPropsOf
import Derived.Test.YtpcljaidlihafaaPBase
import Derived.Test.YtpcljaidlihafaaPLoose
import Derived.Test.YtpcljaidlihafaaPProps
import Derived.Test.YtpcljaidlihafaaPPropsR
import Derived.Test.YtpcljaidlihafaaPSpec
namespace Go.Proofs.Ytpcljaidlihafaa.P
set_option linter.unusedVariables false
set_option linter.unusedSimpArgs false
section
open Go.RowKit Go.Proofs.YtpcljaidlihafaaW.PrintWords Go.Proofs.YtpcljaidlihafaaW.PrintLast Go.Proofs.YtpcljaidlihafaaW.PrintMore
theorem selQ_14 (a b : List S39) (r : Int) : selQ 14 a b r = (hasP a r || hasP b r) := by
  rw [selQ_at 14 (by decide) (by decide)]; cases hasP a r <;> cases hasP b r <;> decide
end
section
open Go.RowKit Go.Proofs.YtpcljaidlihafaaW.PrintWords Go.Proofs.YtpcljaidlihafaaW.PrintLast Go.Proofs.YtpcljaidlihafaaW.PrintMore
theorem refP_14 (a b : List S39) : refP 14 a b = normP (a ++ b) := Nf.ext (refP_ok _ _ _).1 (normP_nf _) fun r => by
  rw [(refP_ok _ _ _).2, normP_mem, selQ_14, Bool.or_eq_true, hasP_iff, hasP_iff, mem_append]
  exact ⟨fun ⟨h1, h⟩ => ⟨h1, h.imp (fun h => h.2) (fun h => h.2)⟩, fun ⟨h1, h⟩ => ⟨h1, h.imp (fun h => ⟨h1, h⟩) (fun h => ⟨h1, h⟩)⟩⟩
end
section
open Go.RowKit Go.Proofs.YtpcljaidlihafaaW.PrintWords Go.Proofs.YtpcljaidlihafaaW.PrintLast Go.Proofs.YtpcljaidlihafaaW.PrintMore
theorem mem_norm_append (a b : List S39) : normP (normP a ++ b) = normP (a ++ b) := Nf.ext (normP_nf _) (normP_nf _) fun r => by
  rw [normP_mem, normP_mem, mem_append, mem_append, normP_mem]
  exact ⟨fun ⟨h1, h⟩ => ⟨h1, h.imp (fun h => h.2) id⟩, fun ⟨h1, h⟩ => ⟨h1, h.imp (fun h => ⟨h1, h⟩) id⟩⟩
theorem len_of_flatten {ll : List (List S39)} {l : List S39} (h : l ∈ ll) : l.length ≤ ll.flatten.length := by
  obtain ⟨a, b, rfl⟩ := List.append_of_mem h
  simp
  omega
theorem take_flatten_len (ll : List (List S39)) (n : Nat) : (ll.take n).flatten.length ≤ ll.flatten.length := by
  have h : ll.flatten = (ll.take n).flatten ++ (ll.drop n).flatten := by rw [← List.flatten_append, List.take_append_drop]
  rw [h, List.length_append]; omega
theorem ref_union (ll : List (List S39)) (h1 : ll.flatten.length ≤ 20000) (h2 : ll.length ≤ 100000) (hw : ∀ l ∈ ll, Wf l) : Ev (fun k => glyphcutterref01_Union.f k ll) (normP ll.flatten) := by
  have l0 : ∀ (d n : Nat), ll.length - n = d → n ≤ ll.length → Ev (fun k => glyphcutterref01_Union.l0 k ll (normP (ll.take n).flatten) (n : Int)) (normP ll.flatten) := by
    intro d
    induction d with
    | zero =>
      intro n hd hn
      rw [List.take_of_length_le (by omega)]
      exact Ev.step (fun k => by rw [glyphcutterref01_Union.l0]) (Ev.neg (by omega) (Ev.now _))
    | succ d ih =>
      intro n hd hn
      have hlt : n < ll.length := by omega
      refine Ev.step (fun k => by rw [glyphcutterref01_Union.l0]) (Ev.pos (by omega) (Ev.pos (by omega) ?_))
      have hrd : rd_L4 ll (n : Int) = ll[n] := by
        unfold rd_L4
        rw [Int.toNat_natCast, List.getD_eq_getElem?_getD, List.getElem?_eq_getElem hlt]; rfl
      have hm : ll[n] ∈ ll := List.getElem_mem hlt
      have hl := len_of_flatten hm
      have hl2 := take_flatten_len ll n
      have hl3 := normP_len (ll.take n).flatten
      have hmk := ref_make 14 (normP (ll.take n).flatten) ll[n] (by omega) (by omega) (normP_nf _).wf (hw _ hm)
      rw [hrd, wrap_in (by omega) (by omega)]
      refine Ev.bind hmk ?_
      show Ev (fun k => glyphcutterref01_Union.l0 k ll (refP 14 (normP (ll.take n).flatten) ll[n]) _) _
      rw [refP_14, mem_norm_append]
      have ih1 := ih (n + 1) (by omega) (by omega)
      rw [take_snocL ll n hlt, List.getD_eq_getElem?_getD, List.getElem?_eq_getElem hlt] at ih1
      exact ih1
  have h0 := l0 _ 0 rfl (by omega)
  have e : normP ([] : List (List S39)).flatten = [] := normP_of_nf Nf.nil
  rw [List.take_zero, e] at h0
  exact h0
end
section
open Go.RowKit Go.Proofs.YtpcljaidlihafaaW.PrintWords Go.Proofs.YtpcljaidlihafaaW.PrintLast Go.Proofs.YtpcljaidlihafaaW.PrintMore
theorem of_ne {b : ByteArray} {i : Int} (h0 : 0 ≤ i) (h1 : i < 13) (hne : (rdOf ByteArray.empty namesB i).data.toList ≠ b.data.toList) {r : List S39 × Bool} (n : Ev (fun k => glyphcutterref05_Of.l0 k b namesB (i + 1)) r) : Ev (fun k => glyphcutterref05_Of.l0 k b namesB i) r := by
  refine Ev.step (fun k => by rw [glyphcutterref05_Of.l0]) (Ev.pos (show i < (namesB.length : Int) from h1) (Ev.pos h0 (Ev.neg (fun h => hne ?_) ?_)))
  · rwa [Lib.toList_data, Lib.toList_data] at h
  · rw [wrap_in (by omega) (by omega)]; exact n
theorem of_eq {b : ByteArray} {i : Int} (h0 : 0 ≤ i) (h1 : i < 13) (he : (rdOf ByteArray.empty namesB i).data.toList = b.data.toList) (c : Bool) (hc : (if b.data.toList = ([108, 101, 116, 116, 101, 114] : List UInt8) then false else b.data.toList != ([119, 111, 114, 100] : List UInt8)) = c) {r : List S39 × Bool} (n : Ev (fun k => glyphcutterref05_Of.j1 k b c) r) : Ev (fun k => glyphcutterref05_Of.l0 k b namesB i) r := by
  refine Ev.step (fun k => by rw [glyphcutterref05_Of.l0]) (Ev.pos (show i < (namesB.length : Int) from h1) (Ev.pos h0 (Ev.pos (show (rdOf ByteArray.empty namesB i).toList = b.toList by rw [Lib.toList_data, Lib.toList_data]; exact he) ?_)))
  by_cases hl : b.data.toList = ([108, 101, 116, 116, 101, 114] : List UInt8)
  · rw [if_pos hl] at hc
    subst hc
    exact Ev.pos (by rw [Lib.toList_data]; exact hl) n
  · rw [if_neg hl] at hc
    refine Ev.neg (by rw [Lib.toList_data]; exact hl) ?_
    rw [show b.toList = b.data.toList from Lib.toList_data b, hc]
    exact n
def endsL (L : List S39) : List Int := L.flatMap fun x => [x.f0, x.f1]
theorem spans_ends : ∀ L : List S39, spansP (endsL L) = L
  | [] => rfl
  | x :: L => by
    show (⟨x.f0, x.f1⟩ : S39) :: spansP (endsL L) = x :: L
    rw [spans_ends L]
theorem of_plain {b : ByteArray} {L : List S39} (he : glyphcutterref05_ends.f b = some (endsL L)) (hE : (endsL L).length ≤ 1000) (hw : Wf L) (hn : L.length ≤ 1000) : Ev (fun k => glyphcutterref05_Of.j1 k b true) (normP L, true) := by
  have h1 := ref_spans _ hE
  rw [spans_ends] at h1
  refine Ev.step (fun k => by rw [glyphcutterref05_Of.j1]) (Ev.pos rfl (Ev.bindc he (Ev.bind h1 (Ev.bind (ref_norm _ (by omega) hw) ?_))))
  exact Ev.now _
def eLatin : List Int := [65, 90, 97, 122, 170, 170, 186, 186, 192, 214, 216, 246, 248, 591]
def eGreek : List Int := [880, 883, 885, 887, 890, 895, 900, 900, 902, 902, 904, 906, 908, 908, 910, 929, 931, 993, 1008, 1023]
def eCyr : List Int := [1024, 1279]
def eHan : List Int := [13312, 19903, 19968, 40959, 131072, 173791]
def eDigit : List Int := [48, 57, 1632, 1641, 2406, 2415, 65296, 65305]
theorem end_latin : glyphcutterref05_ends.f (⟨#[108, 97, 116, 105, 110]⟩ : ByteArray) = some eLatin := by kernel_rfl
theorem end_greek : glyphcutterref05_ends.f (⟨#[103, 114, 101, 101, 107]⟩ : ByteArray) = some eGreek := by kernel_rfl
theorem end_cyr : glyphcutterref05_ends.f (⟨#[99, 121, 114, 105, 108, 108, 105, 99]⟩ : ByteArray) = some eCyr := by kernel_rfl
theorem end_han : glyphcutterref05_ends.f (⟨#[104, 97, 110]⟩ : ByteArray) = some eHan := by kernel_rfl
theorem end_digit : glyphcutterref05_ends.f (⟨#[100, 105, 103, 105, 116]⟩ : ByteArray) = some eDigit := by kernel_rfl
theorem wf_L : Wf latinL ∧ Wf greekL ∧ Wf cyrL ∧ Wf hanL ∧ Wf digitL := ⟨by unfold Wf; decide, by unfold Wf; decide, by unfold Wf; decide, by unfold Wf; decide, by unfold Wf; decide⟩
theorem of_letter {b : ByteArray} (h : b.toList ≠ ([119, 111, 114, 100] : List UInt8)) : Ev (fun k => glyphcutterref05_Of.j1 k b false) (normP letterL, true) := by
  obtain ⟨w1, w2, w3, w4, w5⟩ := wf_L
  have hu := ref_union [latinL, greekL, cyrL, hanL] (by decide) (by decide) (by
    intro l hl
    simp only [List.mem_cons, List.not_mem_nil, or_false] at hl
    rcases hl with rfl | rfl | rfl | rfl <;> assumption)
  have e : [latinL, greekL, cyrL, hanL].flatten = letterL := rfl
  rw [e] at hu
  refine Ev.step (fun k => by rw [glyphcutterref05_Of.j1]) (Ev.neg (by decide) ?_)
  refine Ev.bindc end_latin (Ev.bind (ref_spans eLatin (by decide)) (Ev.bindc end_greek (Ev.bind (ref_spans eGreek (by decide)) (Ev.bindc end_cyr (Ev.bind (ref_spans eCyr (by decide)) (Ev.bindc end_han (Ev.bind (ref_spans eHan (by decide)) (Ev.bindc rfl (Ev.neg h ?_)))))))))
  exact Ev.bind hu (Ev.now _)
theorem of_word {b : ByteArray} (h : b.toList = ([119, 111, 114, 100] : List UInt8)) : Ev (fun k => glyphcutterref05_Of.j1 k b false) (normP wordL, true) := by
  obtain ⟨w1, w2, w3, w4, w5⟩ := wf_L
  have w6 : Wf [⟨95, 95⟩] := by unfold Wf; decide
  have hu := ref_union [latinL, greekL, cyrL, hanL, digitL, [⟨95, 95⟩]] (by decide) (by decide) (by
    intro l hl
    simp only [List.mem_cons, List.not_mem_nil, or_false] at hl
    rcases hl with rfl | rfl | rfl | rfl | rfl | rfl <;> assumption)
  have e : [latinL, greekL, cyrL, hanL, digitL, [⟨95, 95⟩]].flatten = wordL := rfl
  rw [e] at hu
  refine Ev.step (fun k => by rw [glyphcutterref05_Of.j1]) (Ev.neg (by decide) ?_)
  refine Ev.bindc end_latin (Ev.bind (ref_spans eLatin (by decide)) (Ev.bindc end_greek (Ev.bind (ref_spans eGreek (by decide)) (Ev.bindc end_cyr (Ev.bind (ref_spans eCyr (by decide)) (Ev.bindc end_han (Ev.bind (ref_spans eHan (by decide)) (Ev.bindc rfl (Ev.pos h ?_)))))))))
  refine Ev.bindc end_digit (Ev.bind (ref_spans eDigit (by decide)) (Ev.bind (ref_spans [95, 95] (by decide)) (Ev.bindc rfl (Ev.pos (by decide) ?_))))
  exact Ev.bind hu (Ev.now _)
theorem names_fst : ∀ i : Fin 13, (rdOf ByteArray.empty namesB (i.val : Int)).data.toList ∈ allL.map Prod.fst := by decide +kernel
theorem of_none_at {b : ByteArray} (hb : ∀ q ∈ allL, q.1 ≠ b.data.toList) : ∀ (d i : Nat), 13 - i = d → i ≤ 13 → Ev (fun k => glyphcutterref05_Of.l0 k b namesB (i : Int)) ([], false) := by
  intro d
  induction d with
  | zero =>
    intro i hd hi
    obtain rfl : i = 13 := by omega
    exact Ev.step (fun k => by rw [glyphcutterref05_Of.l0]) (Ev.neg (by decide) (Ev.now _))
  | succ d ih =>
    intro i hd hi
    refine of_ne (by omega) (by omega) ?_ (ih (i + 1) (by omega) (by omega))
    intro h
    obtain ⟨q, hq, he⟩ := List.mem_map.1 (names_fst ⟨i, by omega⟩)
    exact hb q hq (he.trans h)
theorem of_found {b : ByteArray} {q : List UInt8 × List S39} (hq : q ∈ allL) (hb : q.1 = b.data.toList) : Ev (fun k => glyphcutterref05_Of.l0 k b namesB 0) (normP q.2, true) := by
  obtain ⟨w1, w2, w3, w4, w5⟩ := wf_L
  obtain rfl : b = ⟨q.1.toArray⟩ := by
    cases b
    simp only at hb
    rw [hb]
  clear hb
  unfold allL plainL at hq
  simp only [List.cons_append, List.nil_append, List.mem_cons, List.not_mem_nil, or_false] at hq
  rcases hq with rfl | rfl | rfl | rfl | rfl | rfl | rfl | rfl | rfl | rfl | rfl | rfl | rfl <;> dsimp only
  all_goals
    repeat (first
      | refine of_eq (by decide) (by decide) (by decide +kernel) false (by decide +kernel) ?_
      | refine of_eq (by decide) (by decide) (by decide +kernel) true (by decide +kernel) ?_
      | refine of_ne (by decide) (by decide) (by decide +kernel) ?_)
  all_goals
    first
    | exact of_plain (by kernel_rfl) (by decide) (by unfold Wf; decide) (by decide)
    | exact of_letter (by rw [Lib.toList_data]; decide)
    | exact of_word (by rw [Lib.toList_data])
theorem ref_props {s : ByteArray} (hs : s.size ≤ 1000000) : ∃ p, props_Of.f s = some p ∧ Ev (fun k => glyphcutterref05_Of.f k s) p ∧ p.1.length ≤ 60 := by
  have hl := ref_loose s hs
  cases hc : classP s with
  | none =>
    refine ⟨_, of_none hc hs, ?_, by simp⟩
    have hn : ∀ q ∈ allL, q.1 ≠ (looseB s).data.toList := by
      intro q hq he
      have := List.find?_eq_none.1 hc q hq
      exact this (by rw [he]; exact beq_self_eq_true _)
    unfold glyphcutterref05_Of.f
    exact Ev.bind hl (Ev.bindc (a := namesB) rfl (of_none_at hn 13 0 rfl (by omega)))
  | some q =>
    have l1 := normP_len q.2
    have l2 := allL_small (class_mem hc)
    refine ⟨_, of_f hc hs, ?_, by simp only; omega⟩
    have he : q.1 = (looseB s).data.toList := eq_of_beq (List.find?_some (p := fun q : List UInt8 × List S39 => q.1 == (looseB s).data.toList) hc)
    unfold glyphcutterref05_Of.f
    exact Ev.bind hl (Ev.bindc (a := namesB) rfl (of_found (class_mem hc) he))
theorem law_of (s : ByteArray) (a : Int) (h0 : 0 ≤ a) (h1 : a ≤ 255) : Ev (fun k => glyphcutterlaw05_PropsOf.f k s a) true := by
  have hm : 0 ≤ Int.tmod (wrap64 a) (namesB.length : Int) ∧ Int.tmod (wrap64 a) (namesB.length : Int) < 13 := by
    rw [wrap_in (by omega) (by omega), Int.tmod_eq_emod_of_nonneg h0]
    exact ⟨Int.emod_nonneg _ (by decide), Int.emod_lt_of_pos _ (by decide)⟩
  have J1 : Ev (fun k => glyphcutterlaw05_PropsOf.j0 k s a true) true := Ev.step (fun k => by rw [glyphcutterlaw05_PropsOf.j0]) (Ev.pos rfl (Ev.bind known_ev (Ev.now true)))
  unfold glyphcutterlaw05_PropsOf.f
  by_cases hz : (s.size : Int) > 200
  · exact Ev.pos hz J1
  refine Ev.neg hz (Ev.bind known_ev ?_)
  obtain ⟨hs, q, hq⟩ := names_class _ hm.1 hm.2
  obtain ⟨p, hp, hr, hn⟩ := ref_props (s := s) (by omega)
  obtain ⟨p2, hp2, hr2, hn2⟩ := ref_props (s := rdOf ByteArray.empty namesB (Int.tmod (wrap64 a) (namesB.length : Int))) (by omega)
  have e2 : p2.2 = true := by
    rw [of_f hq (by omega)] at hp2
    obtain rfl := Option.some.inj hp2
    rfl
  refine Ev.step (fun k => by rw [glyphcutterlaw05_PropsOf.j0]) (Ev.neg (by decide) (Ev.bindc hp (Ev.bind hr (Ev.bindc (a := namesB) rfl (Ev.neg (show ¬ (namesB.length : Int) = 0 by decide) (Ev.pos hm.1 (Ev.pos (by have := hm.2; exact this) (Ev.bindc hp2 (Ev.bind hr2 ?_)))))))))
  have a1 := ref_alike p.1 p.1 (by omega)
  have a2 := ref_alike p2.1 p2.1 (by omega)
  rw [eqS_rfl] at a1 a2
  refine Ev.bind a1 (Ev.pos rfl (Ev.pos (beq_self_eq_true _) (Ev.bind a2 (Ev.pos rfl (Ev.pos e2 (Ev.pos e2 (Ev.bind (loose_ev s (by omega)) (Ev.bind (ref_loose s (by omega)) ?_))))))))
  rw [beq_self_eq_true]
  exact Ev.now true
end
end Go.Proofs.Ytpcljaidlihafaa.P
