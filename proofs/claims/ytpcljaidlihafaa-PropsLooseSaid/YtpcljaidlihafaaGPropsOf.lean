/- props.Of, as a contract in the print's own form. -/
import Derived.Test.YtpcljaidlihafaaPx0
import Derived.Test.YtpcljaidlihafaaPx2
import Derived.Test.YtpcljaidlihafaaGBase
import Derived.Test.YtpcljaidlihafaaGConcat
import Derived.Test.YtpcljaidlihafaaGMapH
import Derived.Test.YtpcljaidlihafaaGNorm
import Derived.Test.YtpcljaidlihafaaGProps
import Derived.Test.YtpcljaidlihafaaGProps2
import Derived.Test.YtpcljaidlihafaaPBase
import Derived.Test.YtpcljaidlihafaaPLoose
import Derived.Outline
namespace Go.Proofs.Ytpcljaidlihafaa.P
set_option linter.unusedVariables false
set_option linter.unusedSimpArgs false
section
open Go.RowKit Go.Shelf Go.Maps Go.Proofs.YtpcljaidlihafaaW.PrintWords Go.Proofs.YtpcljaidlihafaaW.PrintLast Go.Proofs.YtpcljaidlihafaaW.PrintMore
def classP (s : ByteArray) : Option (List UInt8 × List S39) := allL.find? fun q => q.1 == (looseB s).data.toList
def props_Of.f (a0 : ByteArray) : Option (List S39 × Bool) := if a0.size ≤ 1000000 then (match classP a0 with | some q => some (normP q.2, true) | none => some ([], false)) else none
theorem allL_small {q : List UInt8 × List S39} (h : q ∈ allL) : q.2.length ≤ 26 := by
  unfold allL plainL at h
  simp only [List.cons_append, List.nil_append, List.mem_cons, List.not_mem_nil, or_false] at h
  rcases h with rfl | rfl | rfl | rfl | rfl | rfl | rfl | rfl | rfl | rfl | rfl | rfl | rfl <;> decide
theorem rows_find {w : World} {E : List (List UInt8 × Value)} (h : RowsOk w E) (s : List UInt8) :
    (∀ q, allL.find? (fun q => q.1 == s) = some q → ∃ p A c, E.find? (fun q => q.1 == s) = some p ∧ p.2 = .slice A q.2.length c ∧ Kd.C k39 w A q.2.length q.2 ∧ q.2.length ≤ c) ∧
    (allL.find? (fun q => q.1 == s) = none → E.find? (fun q => q.1 == s) = none) := by
  have hl : E.length = allL.length := h.1
  have hk : ∀ i (hi : i < allL.length), (E[i]'(by omega)).1 = (allL[i]).1 := fun i hi => (h.2 i _ _ (List.getElem?_eq_getElem (by omega)) (List.getElem?_eq_getElem hi)).1
  constructor
  · intro q hq
    rw [List.find?_eq_some_iff_getElem] at hq
    obtain ⟨h1, i, hi, h2, h3⟩ := hq
    obtain ⟨_, A, c, h4, h5, h6⟩ := h.2 i (E[i]'(by omega)) q (List.getElem?_eq_getElem (by omega)) (by rw [List.getElem?_eq_getElem hi, h2])
    refine ⟨E[i]'(by omega), A, c, ?_, h4, h5, h6⟩
    rw [List.find?_eq_some_iff_getElem]
    refine ⟨by rw [hk i hi, h2]; exact h1, i, by omega, rfl, fun j hj => ?_⟩
    rw [hk j (by omega)]
    exact h3 j hj
  · intro hn
    rw [List.find?_eq_none] at hn ⊢
    intro p hp
    obtain ⟨i, hi, rfl⟩ := List.mem_iff_getElem.1 hp
    rw [hk i (by omega)]
    exact hn _ (List.getElem_mem (by omega))
theorem look_ok_at {w : World} {b n : Nat} {E : List (List UInt8 × Value)} (hM : w.ownsMap Try.prog 9 RH b n (datD (.map []) E)) (hp : E.Pairwise (fun p q => p.1 ≠ q.1)) (s : ByteArray) (hs : s.size ≤ maxLen) :
    (Instr.lookup 45 (.map (some b)) (.string s) true).run Try.prog w = .ok (.tuple #[(match E.find? (fun q => q.1 == s.data.toList) with | some p => p.2 | none => .slice none 0 0), .bool ((E.find? (fun q => q.1 == s.data.toList)).isSome)]) w := by
  have hz : (zeroValue 27).run Try.prog w = .ok (.slice none 0 0) w := by kernel_rfl
  obtain ⟨v, ps, hrun, hv⟩ := hM.look_ok (string_keyed Try.underlying9) Try.underlying45 hz (zd := .held (.slice none 0 0)) (zp := []) rfl (WideMaps.keyOf_string_mk Try.underlying9 hs)
  rw [atKey_datD E _ _ _ isMap_empty hp] at hv
  rw [has_datD E _ _ isMap_empty hp] at hrun
  rw [hrun]
  cases hf : E.find? (fun q => q.1 == s.data.toList) with
  | some p => rw [hf] at hv; rw [RH_inv hv]; rfl
  | none =>
    rw [hf] at hv
    rw [RH_inv (u := .slice none 0 0) (v := v) (ps := ps) hv]
    rfl
theorem rows_apart {w : World} {E : List (List UInt8 × Value)} (h : RowsOk w E) : E.Pairwise (fun (p q : List UInt8 × Value) => p.1 ≠ q.1) := by
  refine apart_of (n := 13) ?_
  have hl : E.length = allL.length := h.1
  rw [show names13.take 13 = allL.map Prod.fst from rfl]
  apply List.ext_getElem (by simp [hl])
  intro i h1 h2
  rw [List.getElem_map, List.getElem_map]
  have hi : i < allL.length := by simpa using h2
  exact (h.2 i _ _ (List.getElem?_eq_getElem (by omega)) (List.getElem?_eq_getElem hi)).1
theorem looseB_size (s : ByteArray) : (looseB s).size ≤ s.size := by
  unfold looseB
  rw [strOfNums_size]
  have h1 := stripN_len (numsS s)
  have h2 := numsS_len s
  unfold cutIs
  split
  · rw [List.length_drop]; omega
  · omega
set_option maxRecDepth 100000 in
set_option maxHeartbeats 4000000 in
theorem props_Of.calls (a0 : ByteArray) (r : List S39) (b : Bool) (w : World) (h : props_Of.f a0 = some (r, b)) :
    Calls Try.prog 12 #[.string a0] w fun e w' => ∃ v0_ : Value, e = .returned (.tuple #[v0_, .bool b]) ∧ Kd.R k39 39 w' w.heap.size (fun _ => True) v0_ r ∧ Below w.heap.size w w' := by
  unfold props_Of.f at h
  split at h
  case isFalse => cases h
  rename_i hsz
  obtain ⟨k, hk⟩ := (loose_ev a0 hsz).rounds
  have HK := Aside0.mk hk
  have hls := looseB_size a0
  obtain ⟨L, hL⟩ : ∃ L, looseB a0 = L := ⟨_, rfl⟩
  unfold classP at h
  rw [hL] at HK hls h
  have hmx : L.size ≤ maxLen := by unfold maxLen; omega
  clear hk hL hls
  cases hc : allL.find? (fun q => q.1 == L.data.toList) with
  | none =>
    rw [hc] at h
    injection h with h
    injection h with h1 h2
    subst h1; subst h2
    have HC := Aside0.mk hc
    clear hc
    go_enter Try.func12, Try.ntmps12
    go_wp2_with (first
      | (go_at_call 26; refine (all_calls _).mono ?_; rintro e w1 ⟨E, rfl, hM, hR, hb1⟩)
      | (go_at_call 20; refine (props_Loose.calls k a0 L _ HK.out).mono ?_; rintro e w2 ⟨rfl, hb2⟩; have hlk := look_ok_at (ownsMap_below hM hb2) (rows_apart hR) L hmx; rw [(rows_find hR L.data.toList).2 HC.out] at hlk; simp only [Option.isSome_none] at hlk))
    go_ret2
    exact ⟨_, rfl, Kd.R_nil _ _ _ _ _, hb1.trans (hb2.mono hb1.size)⟩
  | some q =>
    rw [hc] at h
    injection h with h
    injection h with h1 h2
    subst h1; subst h2
    have hqs := allL_small (List.mem_of_find?_eq_some hc)
    have HC := Aside0.mk hc
    have hnf : set_Norm.f q.2 = some (normP q.2) := if_pos (by omega)
    have HN := Aside0.mk hnf
    obtain ⟨ql, hql⟩ : ∃ ql, q.2 = ql := ⟨_, rfl⟩
    obtain ⟨nq, hnq⟩ : ∃ nq, normP q.2 = nq := ⟨_, rfl⟩
    have HQ := Aside0.mk hql
    rw [hnq] at HN ⊢
    rw [hql] at HN
    clear hc hnf hql hnq hqs
    go_enter Try.func12, Try.ntmps12
    go_wp2_with (first
      | (go_at_call 26; refine (all_calls _).mono ?_; rintro e w1 ⟨E, rfl, hM, hR, hb1⟩)
      | (go_at_call 20; refine (props_Loose.calls k a0 L _ HK.out).mono ?_; rintro e w2 ⟨rfl, hb2⟩; have hlk := look_ok_at (ownsMap_below hM hb2) (rows_apart hR) L hmx; obtain ⟨p, A, c, hf, hp, hC, hlc⟩ := (rows_find hR L.data.toList).1 q HC.out; rw [hf] at hlk; simp only [Option.isSome_some] at hlk; rw [hp] at hlk; rw [HQ.out] at hC hlc hlk; have CC := Aside0.mk (Kd.C_below hC hb2); have LC := Aside0.mk hlc; have HB2 := Aside0.mk (hb1.trans (hb2.mono hb1.size)); clear hf hp hC hlc hM hR hb1 hb2)
      | (go_at_call 27; refine (set_Norm.calls A c ql nq _ CC.out LC.out HN.out).mono ?_; rintro e w3 ⟨v3, rfl, ho3, hb3⟩))
    go_ret2
    exact ⟨_, rfl, Kd.R_lower ho3 HB2.out.size, HB2.out.trans (hb3.mono HB2.out.size)⟩
end
end Go.Proofs.Ytpcljaidlihafaa.P
