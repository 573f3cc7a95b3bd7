/- The law PropsLoose: the plain side. -/
import Derived.Test.YtpcljaidlihafaaPx0
import Derived.Test.YtpcljaidlihafaaPx14
import Derived.Test.YtpcljaidlihafaaGMapH
import Derived.Test.YtpcljaidlihafaaGNames
import Derived.Test.YtpcljaidlihafaaGNorm
import Derived.Test.YtpcljaidlihafaaGProps
import Derived.Test.YtpcljaidlihafaaGProps2
import Derived.Test.YtpcljaidlihafaaGPropsOf
import Derived.Test.YtpcljaidlihafaaPBase
import Derived.Test.YtpcljaidlihafaaPLoose
import Derived.Test.YtpcljaidlihafaaPNameAt
import Derived.Test.YtpcljaidlihafaaPProps
import Derived.Test.YtpcljaidlihafaaPPropsR
import Derived.Test.YtpcljaidlihafaaPSpec
namespace Go.Proofs.Ytpcljaidlihafaa.P
set_option linter.unusedVariables false
set_option linter.unusedSimpArgs false
section
open Go.RowKit Go.Proofs.YtpcljaidlihafaaW.PrintWords Go.Proofs.YtpcljaidlihafaaW.PrintLast Go.Proofs.YtpcljaidlihafaaW.PrintMore
theorem numsS_str {A : List Int} (h : ∀ x ∈ A, 0 ≤ x ∧ x ≤ 255) : numsS (strOfNums A) = A := by
  unfold numsS
  rw [strOfNums_data, List.map_map]
  conv => rhs; rw [← List.map_id A]
  refine List.map_congr_left fun x hx => ?_
  have := h x hx
  simp only [Function.comp, id, UInt8.toNat_ofNat']
  omega
theorem stripN_app (a b : List Int) : stripN (a ++ b) = stripN a ++ stripN b := by unfold stripN; rw [List.flatMap_append]
theorem names_letters (i : Int) (h0 : 0 ≤ i) (h1 : i < 13) : (numsS (nameAt i)).all (fun c => decide (97 ≤ c ∧ c ≤ 122)) = true ∧ (nameAt i).size ≤ 8 ∧ 0 < (nameAt i).size ∧ looseB (nameAt i) = nameAt i := by
  rcases (by omega : i = 0 ∨ i = 1 ∨ i = 2 ∨ i = 3 ∨ i = 4 ∨ i = 5 ∨ i = 6 ∨ i = 7 ∨ i = 8 ∨ i = 9 ∨ i = 10 ∨ i = 11 ∨ i = 12) with rfl | rfl | rfl | rfl | rfl | rfl | rfl | rfl | rfl | rfl | rfl | rfl | rfl
  all_goals exact ⟨by kernel_rfl, by decide +kernel, by decide +kernel, by kernel_rfl⟩
def sepN (j : Int) : List Int := if j = 1 then [45] else if j = 2 then [95] else if j = 3 then [32] else []
theorem sep_eq (j : Int) (h0 : 0 ≤ j) (h1 : j < 4) : rdOf ByteArray.empty ([(⟨#[]⟩ : ByteArray), (⟨#[45]⟩ : ByteArray), (⟨#[95]⟩ : ByteArray), (⟨#[32]⟩ : ByteArray)] : List ByteArray) j = strOfNums (sepN j) ∧ stripN (sepN j) = [] ∧ (sepN j).length ≤ 1 ∧ ∀ x ∈ sepN j, 0 ≤ x ∧ x ≤ 255 := by
  rcases (by omega : j = 0 ∨ j = 1 ∨ j = 2 ∨ j = 3) with rfl | rfl | rfl | rfl
  all_goals exact ⟨by kernel_rfl, by decide, by decide, by decide⟩
theorem law_loose (a : Int) (h0 : 0 ≤ a) (h1 : a ≤ 255) (how : List Int) (hu : ∀ x ∈ how, 0 ≤ x ∧ x ≤ 255) (hz : Sm how) (is : Bool) : Ev (fun k => glyphcutterlaw05_PropsLoose.f k a how is) true := by
  have hm := idx_in a h0 h1
  have hz' : how.length ≤ 140737488355328 := hz
  obtain ⟨hs, q, hq⟩ := names_class _ hm.1 hm.2
  obtain ⟨hlet, -, hpos, hlo⟩ := names_letters _ hm.1 hm.2
  have hlet : ∀ c ∈ numsS (nameAt (Int.tmod (wrap64 a) (namesB.length : Int))), 97 ≤ c ∧ c ≤ 122 := by
    intro c hc
    have := List.all_eq_true.1 hlet c hc
    exact of_decide_eq_true this
  unfold glyphcutterlaw05_PropsLoose.f
  refine Ev.bindc (a := namesB) rfl (Ev.neg (by decide) (Ev.pos hm.1 (Ev.pos (by have := hm.2; exact this) ?_)))
  change classP (nameAt _) = _ at hq
  change (nameAt _).size ≤ 8 at hs
  change Ev (fun k => if is = true then (glyphcutterlaw05_PropsLoose.j0 k how (nameAt (Int.tmod (wrap64 a) (namesB.length : Int))) (⟨#[105, 83]⟩ : ByteArray)) else (glyphcutterlaw05_PropsLoose.j0 k how (nameAt (Int.tmod (wrap64 a) (namesB.length : Int))) (⟨#[]⟩ : ByteArray))) true
  generalize nameAt (Int.tmod (wrap64 a) (namesB.length : Int)) = nm at *
  have l1 := normP_len q.2
  have l2 := allL_small (class_mem hq)
  have ra := ref_alike (normP q.2) (normP q.2) (by omega)
  rw [eqS_rfl] at ra
  have hn := numsS_len nm
  have hstrip : ∀ xs : List Int, (∀ c ∈ xs, 97 ≤ c ∧ c ≤ 122) → stripN xs = xs := by
    intro xs
    induction xs with
    | nil => intro _; rfl
    | cons c xs ih =>
      intro h
      have hc := h c List.mem_cons_self
      have := ih fun x hx => h x (List.mem_cons_of_mem _ hx)
      unfold stripN at this ⊢
      rw [List.flatMap_cons, this, stepN, if_neg (by omega), if_neg (by omega)]
      rfl
  have loop : ∀ (pre : List Int), (pre = [105, 115] ∨ pre = []) → ∀ (d i : Nat) (A : List Int), nm.size - i = d → i ≤ nm.size → (∀ x ∈ A, 0 ≤ x ∧ x ≤ 255) → A.length ≤ 2 + 2 * i → stripN A = pre ++ (numsS nm).take i → Ev (fun k => glyphcutterlaw05_PropsLoose.l0 k how nm (strOfNums A) (i : Int)) true := by
    intro pre hpre d
    induction d with
    | zero =>
      intro i A hd hi hA hl hst
      rw [List.take_of_length_le (by omega)] at hst
      have hsz : (strOfNums A).size ≤ 1000000 := by rw [strOfNums_size]; omega
      have hloose : looseB (strOfNums A) = nm := by
        unfold looseB
        rw [numsS_str hA, hst]
        unfold looseB at hlo
        rw [hstrip _ hlet] at hlo
        rcases hpre with rfl | rfl
        · have : cutIs ([105, 115] ++ numsS nm) = numsS nm := by
            unfold cutIs
            rw [if_pos ⟨rfl, by simp; omega⟩]
            rfl
          rw [this]
          refine Eq.trans ?_ hlo
          by_cases hc : (numsS nm).take 2 = [105, 115] ∧ 2 < (numsS nm).length
          · exfalso
            have hx := congrArg ByteArray.size hlo
            rw [strOfNums_size] at hx
            unfold cutIs at hx
            rw [if_pos hc, List.length_drop] at hx
            omega
          · unfold cutIs
            rw [if_neg hc]
        · rw [List.nil_append]
          exact hlo
      have hc : classP (strOfNums A) = some q := by
        unfold classP at hq ⊢
        rw [hloose]
        rw [hlo] at hq
        exact hq
      refine Ev.step (fun k => by rw [glyphcutterlaw05_PropsLoose.l0]) (Ev.neg (by omega) (Ev.bindc (of_f hc hsz) (Ev.bindc (of_f hq (by omega)) (Ev.bind known_ev (Ev.pos rfl (Ev.pos rfl (Ev.pos rfl (Ev.bind ra ?_))))))))
      exact Ev.now true
    | succ d ih =>
      intro i A hd hi hA hl hst
      have hlt : i < (numsS nm).length := by omega
      have hc0 := hlet _ (List.getElem_mem hlt)
      rw [numsS_get nm i hlt] at hc0
      have hget := numsS_get nm i hlt
      obtain ⟨c, hbc⟩ : ∃ c, bt nm (i : Int) = c := ⟨_, rfl⟩
      rw [hbc] at hc0 hget
      have nxt : ∀ (j c2 : Int), 0 ≤ j → j < 4 → (c2 = c ∨ c2 = c - 32) → Ev (fun k => glyphcutterlaw05_PropsLoose.l0 k how nm ((strOfNums A ++ strOfNums (sepN j)) ++ strOfNums [c2]) (wrap64 ((i : Int) + 1))) true := by
        intro j c2 j0 j1 hc2
        obtain ⟨-, s1, s2, s3⟩ := sep_eq j j0 j1
        rw [str_app, str_app, wrap_in (by omega) (by omega)]
        have hstep : stripN [c2] = [c] := by
          unfold stripN stepN
          rcases hc2 with rfl | rfl
          · rw [List.flatMap_cons, if_neg (by omega), if_neg (by omega)]; rfl
          · rw [List.flatMap_cons, if_neg (by omega), if_pos (by omega)]
            show [c - 32 + 32] ++ [] = [c]
            rw [List.append_nil, show c - 32 + 32 = c by omega]
        refine ih (i + 1) _ (by omega) (by omega) ?_ ?_ ?_
        · intro x hx
          rcases List.mem_append.1 hx with hx | hx
          · rcases List.mem_append.1 hx with hx | hx
            · exact hA x hx
            · exact s3 x hx
          · rw [List.mem_singleton] at hx
            subst hx
            rcases hc2 with rfl | rfl <;> omega
        · rw [List.length_append, List.length_append, List.length_singleton]; omega
        · rw [stripN_app, stripN_app, hst, s1, List.append_nil, hstep, List.take_succ_eq_append_getElem hlt, hget, List.append_assoc]
      have hsz : ∀ j : Int, 0 ≤ j → j < 4 → (strOfNums A).size + (strOfNums (sepN j)).size ≤ 9223372036854775807 ∧ ∀ c2 : Int, (strOfNums A ++ strOfNums (sepN j)).size + (strOfNums [c2]).size ≤ 9223372036854775807 := by
        intro j j0 j1
        obtain ⟨-, -, s2, -⟩ := sep_eq j j0 j1
        refine ⟨by rw [strOfNums_size, strOfNums_size]; omega, fun c2 => ?_⟩
        rw [str_app, strOfNums_size, strOfNums_size, List.length_append, List.length_singleton]
        omega
      have way : ∀ (j c2 : Int), 0 ≤ j → j < 4 → (c2 = c ∨ c2 = c - 32) → Ev (fun k => (some (([(⟨#[]⟩ : ByteArray), (⟨#[45]⟩ : ByteArray), (⟨#[95]⟩ : ByteArray), (⟨#[32]⟩ : ByteArray)] : List ByteArray) : List ByteArray)).bind fun y444 => (if 0 ≤ j then (if j < (y444.length : Int) then (if (strOfNums A).size + (rdOf ByteArray.empty y444 j).size ≤ 9223372036854775807 then ((some (([c2] : List Int) : List Int)).bind fun y448 => (if ((strOfNums A) ++ (rdOf ByteArray.empty y444 j)).size + (strOfNums y448).size ≤ 9223372036854775807 then (glyphcutterlaw05_PropsLoose.l0 k how nm (((strOfNums A) ++ (rdOf ByteArray.empty y444 j)) ++ (strOfNums y448)) (wrap64 ((i : Int) + 1))) else (none))) else (none)) else (none)) else (none))) true := by
        intro j c2 j0 j1 hc2
        obtain ⟨se, -, -, -⟩ := sep_eq j j0 j1
        refine Ev.bindc rfl (Ev.pos j0 (Ev.pos j1 ?_))
        rw [se]
        exact Ev.pos (hsz j j0 j1).1 (Ev.bindc rfl (Ev.pos ((hsz j j0 j1).2 c2) (nxt j c2 j0 j1 hc2)))
      refine Ev.step (fun k => by rw [glyphcutterlaw05_PropsLoose.l0]) (Ev.pos (by omega) (Ev.pos (by omega) ?_))
      rw [hbc, show (c - 32) % 256 = c - 32 by omega]
      by_cases hh : (how.length : Int) > 0
      · have t0 := Int.emod_nonneg (i : Int) (show (how.length : Int) ≠ 0 by omega)
        have t1 := Int.emod_lt_of_pos (i : Int) hh
        have te : Int.tmod (i : Int) (how.length : Int) = (i : Int) % (how.length : Int) := Int.tmod_eq_emod_of_nonneg (by omega)
        refine Ev.pos hh (Ev.neg (by omega) (Ev.pos (by omega) (Ev.pos (by omega) ?_)))
        have hx : 0 ≤ rd how (Int.tmod (i : Int) (how.length : Int)) ∧ rd how (Int.tmod (i : Int) (how.length : Int)) ≤ 255 := by
          rw [te]
          obtain ⟨n, hn'⟩ : ∃ n : Nat, (i : Int) % (how.length : Int) = (n : Int) := ⟨((i : Int) % (how.length : Int)).toNat, by omega⟩
          rw [hn', rdi_get how n (by omega)]
          exact hu _ (List.getElem_mem _)
        generalize rd how (Int.tmod (i : Int) (how.length : Int)) = h at hx ⊢
        by_cases hod : Int.tmod h 2 = 1
        · exact Ev.pos hod (way _ _ (by omega) (by omega) (.inr rfl))
        · exact Ev.neg hod (way _ _ (by omega) (by omega) (.inl rfl))
      · exact Ev.neg hh (Ev.neg (by decide) (way _ _ (by decide) (by decide) (.inl rfl)))
  cases is with
  | true =>
    refine Ev.pos rfl (Ev.step (fun k => by rw [glyphcutterlaw05_PropsLoose.j0]) ?_)
    have := loop [105, 115] (.inl rfl) nm.size 0 [105, 83] rfl (by omega) (by decide) (by decide) (by rfl)
    exact this
  | false =>
    refine Ev.neg (by decide) (Ev.step (fun k => by rw [glyphcutterlaw05_PropsLoose.j0]) ?_)
    have := loop [] (.inr rfl) nm.size 0 [] rfl (by omega) (by decide) (by decide) (by rfl)
    exact this
end
end Go.Proofs.Ytpcljaidlihafaa.P
