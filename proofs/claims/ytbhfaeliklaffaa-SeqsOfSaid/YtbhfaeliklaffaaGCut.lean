/- ref03.cut and ref03.both, which call each other: the knot of the two walks, and what they compute. -/
import Derived.Test.YtbhfaeliklaffaaPx0
import Derived.Test.YtbhfaeliklaffaaGParts
import Derived.Test.YtbhfaeliklaffaaPBase
import Derived.Test.YtbhfaeliklaffaaPLaw3
import Derived.Test.YtbhfaeliklaffaaPRowAll
import Derived.Test.YtbhfaeliklaffaaPSeq
import Derived.Test.YtbhfaeliklaffaaGCutA
import Derived.Test.YtbhfaeliklaffaaGCutB
namespace Go.Proofs.Ytbhfaeliklaffaa.P
set_option linter.unusedVariables false
set_option linter.unusedSimpArgs false
section
open Go.RowKit Go.Proofs.YtbhfaeliklaffaaW.PrintWords Go.Proofs.YtbhfaeliklaffaaW.PrintLast Go.Proofs.YtbhfaeliklaffaaW.PrintMore
def cutN : Nat → Int → Int → Int → Option (List (List S57))
  | 0, _, _, _ => none
  | k + 1, a, b, n => cutA.f (bothB.f (cutN k)) k a b n
theorem cutN_calls : ∀ (k : Nat) (a0 a1 a2 : Int) (r : List (List S57)) (w : World) (h : cutN k a0 a1 a2 = some r), Calls Try.prog 39 #[.int .i64 a0, .int .i64 a1, .int .i64 a2] w fun e w' => ∃ v0_ : Value, e = .returned (v0_) ∧ Kd.N (Kd.slice 57 k57) 37 w' w.heap.size (fun k_ => (w.heap.size ≤ k_)) v0_ r ∧ Below w.heap.size w w'
  | 0, _, _, _, _, _, h => by cases h
  | k + 1, a0, a1, a2, r, w, h => cutA.calls (bothB.f (cutN k)) (fun b0 b1 b2 b3 r w h => bothB.calls (cutN k) (cutN_calls k) b0 b1 b2 b3 r w h) k a0 a1 a2 r w h
theorem Ev.shift {α : Type} {g : Nat → Option α} {r : α} (h : Ev g r) (c : Nat) : Ev (fun k => g (k + c)) r := by
  obtain ⟨K, hK⟩ := h
  exact ⟨K, fun k hk => hK (k + c) (by omega)⟩
theorem cut_l1 (B : Int → Int → Int → Int → Option (List (List S57))) (n : Int) (x y : List Int) (hx : (x.length : Int) = n) (hy : y.length = x.length) (hn : n ≤ 4) : ∀ (d j : Nat) (out : List S57), x.length - j = d → j ≤ x.length → out.length ≤ j →
    cutA.l1 B (d + 1) n x y out (j : Int) = some [out ++ zipR (x.drop j) (y.drop j)] := by
  intro d
  induction d with
  | zero =>
    intro j out hd hj ho
    rw [List.drop_of_length_le (by omega), List.drop_of_length_le (by omega), cutA.l1, if_neg (by omega)]
    simp [zipR]
  | succ d ih =>
    intro j out hd hj ho
    have hlt : j < x.length := by omega
    have hlt2 : j < y.length := by omega
    rw [cutA.l1, if_pos (by omega), if_pos (by omega), if_pos (by omega), if_pos (by omega), if_pos (by omega), rdi_get x j hlt, rdi_get y j hlt2, show wrap64 ((j : Int) + 1) = ((j + 1 : Nat) : Int) from wrap_in (by omega) (by omega)]
    rw [ih (j + 1) _ (by omega) (by omega) (by simp; omega), List.drop_eq_getElem_cons hlt, List.drop_eq_getElem_cons hlt2]
    simp [zipR]
/-- Where it is cut, it is cut; where not, it is one row. -/
def CutR (B : Nat → Int → Int → Int → Int → Option (List (List S57))) (a b n p : Int) (r : List (List S57)) : Prop :=
  if 0 < p then Ev (fun k => B k a p b n) r else r = [zipR (encP a) (encP b)]
theorem cut_l0 (B : Nat → Int → Int → Int → Int → Option (List (List S57))) (a b n : Int) (ha : 0 ≤ a) (hab : a ≤ b) (hb : b ≤ 1114111) (hn : n = ((encP a).length : Int)) (hl : (encP b).length = (encP a).length) (r : List (List S57)) : ∀ (j : Nat) (m : Int) (x8 : Int) (c : Nat), n = x8 + j → 1 ≤ x8 → 1 ≤ m → ((1 ≤ j → m ≤ 4096) ∧ (2 ≤ j → m ≤ 64) ∧ (3 ≤ j → m ≤ 1)) → j ≤ 3 → CutR B a b n (cutAt j (m * 64) a b) r → Ev (fun k => cutA.l0 (B (k + c)) k a b n m x8) r := by
  have h4 := enc_len a
  intro j
  induction j with
  | zero =>
    intro m x8 c hx h1 h2 _ _ hr
    unfold CutR at hr
    rw [cutAt, if_neg (by omega)] at hr
    subst hr
    refine Ev.step (fun k => by rw [cutA.l0]) (Ev.neg (by omega) (Ev.bind (ref_encode a) (Ev.bind (ref_encode b) ?_)))
    refine ⟨(encP a).length + 1, fun k hk => ?_⟩
    have h := cut_l1 (B (k + 1 + c)) n (encP a) (encP b) hn.symm hl (by omega) _ 0 [] rfl (Nat.zero_le _) (by simp)
    have hm := (cutA.mono_l (B (k + 1 + c))) 
    obtain ⟨q, rfl⟩ : ∃ q, k = (encP a).length - 0 + 1 + q := ⟨k - ((encP a).length + 1), by omega⟩
    have : ∀ q, cutA.l1 (B ((encP a).length - 0 + 1 + q + 1 + c)) ((encP a).length - 0 + 1 + q) n (encP a) (encP b) [] 0 = some [zipR (encP a) (encP b)] := by
      intro q
      have hb0 := cut_l1 (B ((encP a).length - 0 + 1 + q + 1 + c)) n (encP a) (encP b) hn.symm hl (by omega) _ 0 [] rfl (Nat.zero_le _) (by simp)
      have : ∀ q' : Nat, cutA.l1 (B ((encP a).length - 0 + 1 + q + 1 + c)) ((encP a).length - 0 + 1 + q') n (encP a) (encP b) [] 0 = some [zipR (encP a) (encP b)] := by
        intro q'
        induction q' with
        | zero => simpa using hb0
        | succ q' ih => exact (cutA.mono_l (B ((encP a).length - 0 + 1 + q + 1 + c)) ((encP a).length - 0 + 1 + q')).2 _ _ _ _ _ _ ih
      exact this q
    exact this q
  | succ j ih =>
    intro m x8 c hx h1 h2 h5 h6 hr
    have h3 : m ≤ 4096 := h5.1 (by omega)
    have e : wrap64 (m * 64) = m * 64 := wrap_in (by omega) (by omega)
    have qa : 0 ≤ a / (m * 64) := Int.ediv_nonneg ha (by omega)
    have qb : a / (m * 64) ≤ b / (m * 64) := Int.ediv_le_ediv (by omega) hab
    have q1 : a / (m * 64) ≤ a := Int.ediv_le_self _ ha
    have q2 : b / (m * 64) ≤ b := Int.ediv_le_self _ (by omega)
    have ea : Int.tdiv a (m * 64) = a / (m * 64) := Int.tdiv_eq_ediv_of_nonneg ha
    have eb : Int.tdiv b (m * 64) = b / (m * 64) := Int.tdiv_eq_ediv_of_nonneg (by omega)
    have ma : Int.tmod a (m * 64) = a % (m * 64) := Int.tmod_eq_emod_of_nonneg ha
    have mb : Int.tmod b (m * 64) = b % (m * 64) := Int.tmod_eq_emod_of_nonneg (by omega)
    have ra := Int.emod_nonneg a (show m * 64 ≠ 0 by omega)
    have rb := Int.emod_nonneg b (show m * 64 ≠ 0 by omega)
    have la := Int.emod_lt_of_pos a (show 0 < m * 64 by omega)
    have lb := Int.emod_lt_of_pos b (show 0 < m * 64 by omega)
    have sa : a % (m * 64) + a / (m * 64) * (m * 64) = a := by have h := Int.emod_add_mul_ediv a (m * 64); rw [Int.mul_comm (m * 64) (a / (m * 64))] at h; exact h
    have sb : b % (m * 64) + b / (m * 64) * (m * 64) = b := by have h := Int.emod_add_mul_ediv b (m * 64); rw [Int.mul_comm (m * 64) (b / (m * 64))] at h; exact h
    have wa : wrap64 (x8 + 1) = x8 + 1 := wrap_in (by omega) (by omega)
    have next : CutR B a b n (cutAt j (m * 64 * 64) a b) r → Ev (fun k => cutA.l0 (B (k + (c + 1))) k a b n (m * 64) (x8 + 1)) r := fun h => ih (m * 64) (x8 + 1) (c + 1) (by omega) (by omega) (by omega) ⟨fun _ => by have := h5.2.1 (by omega); omega, fun _ => by have := h5.2.2 (by omega); omega, fun _ => by omega⟩ (by omega) h
    have hk : ∀ k, k + 1 + c = k + (c + 1) := fun k => by omega
    refine Ev.step (f := fun k => _) (fun k => by rw [cutA.l0, e, ea, eb, ma, mb, wrap_in (i := a / (m * 64)) (by omega) (by omega), wrap_in (i := b / (m * 64)) (by omega) (by omega), wa, hk k]) ?_
    refine Ev.pos (by omega) (Ev.neg (by omega) ?_)
    unfold CutR at hr
    rw [cutAt] at hr
    by_cases c1 : a / (m * 64) = b / (m * 64)
    · rw [if_pos c1] at hr
      exact Ev.pos c1 (next hr)
    · rw [if_neg c1] at hr
      refine Ev.neg c1 ?_
      have hpos : 0 < b / (m * 64) * (m * 64) := Int.mul_pos (by omega) (by omega)
      have hpa : 0 ≤ a / (m * 64) * (m * 64) := Int.mul_nonneg qa (by omega)
      by_cases c2 : a % (m * 64) = 0
      · rw [if_pos c2] at hr
        refine Ev.pos c2 ?_
        rw [wrap_in (i := m * 64 - 1) (by omega) (by omega)]
        by_cases c3 : b % (m * 64) = m * 64 - 1
        · rw [if_pos c3] at hr
          exact Ev.pos c3 (next hr)
        · rw [if_neg c3, if_pos hpos] at hr
          refine Ev.neg c3 ?_
          rw [wrap_in (i := b - b % (m * 64)) (by omega) (by omega), show b - b % (m * 64) = b / (m * 64) * (m * 64) by omega]
          exact Ev.bind (Ev.shift hr (c + 1)) (Ev.now r)
      · rw [if_neg c2, if_pos (by omega)] at hr
        refine Ev.neg c2 ?_
        rw [wrap_in (i := a - a % (m * 64)) (by omega) (by omega), wrap_in (by omega) (by omega), show a - a % (m * 64) + m * 64 = a / (m * 64) * (m * 64) + m * 64 by omega]
        exact Ev.bind (Ev.shift hr (c + 1)) (Ev.now r)
theorem parts_append (l m : List S43) (hl : ∀ s ∈ l, Cls s) (hm : ∀ s ∈ m, Cls s) : partsP (l ++ m) = partsP l ++ partsP m := by
  have h : (fun l ps => (∀ s ∈ l, Cls s) → partsP (l ++ m) = ps ++ partsP m) l (partsP l) := by
    refine parts_ind (fun l ps => (∀ s ∈ l, Cls s) → partsP (l ++ m) = ps ++ partsP m) (fun _ => rfl) (fun s st ps hs hp ih hcl => ?_) (fun s st ps hs hp ih hcl => ?_) _ l (Nat.le_refl _) hl
    · have hall : ∀ x ∈ s :: (st ++ m), Cls x := fun x hx => by
        rcases List.mem_cons.1 hx with rfl | hx
        · exact hs
        · rcases List.mem_append.1 hx with hx | hx
          · exact hcl x (List.mem_cons_of_mem _ hx)
          · exact hm x hx
      rw [List.cons_append, parts_cut hall hp]
      refine ih (fun x hx => ?_)
      rcases List.mem_cons.1 hx with rfl | hx
      · exact (hs.cut hp).1
      · rcases List.mem_cons.1 hx with rfl | hx
        · exact (hs.cut hp).2
        · exact hcl x (List.mem_cons_of_mem _ hx)
    · have hall : ∀ x ∈ s :: (st ++ m), Cls x := fun x hx => by
        rcases List.mem_cons.1 hx with rfl | hx
        · exact hs
        · rcases List.mem_append.1 hx with hx | hx
          · exact hcl x (List.mem_cons_of_mem _ hx)
          · exact hm x hx
      rw [List.cons_append, parts_keep hall hp, ih (fun x hx => hcl x (List.mem_cons_of_mem _ hx)), List.cons_append]
  exact h hl
theorem cut_all : ∀ (d : Nat) (s : S43), Cls s → wt s ≤ d → Ev (fun k => cutN k s.f0 s.f1 ((encP s.f0).length : Int)) ((partsP [s]).map rowP) := by
  intro d
  induction d with
  | zero => intro s _ h; unfold wt at h; omega
  | succ d ih =>
    intro s hs hd
    have hb := hs.bd
    have h4 := enc_len s.f0
    have hne : 0 < (encP s.f0).length := by
      obtain ⟨h0, h1, h | h | h | h | h⟩ := hs
      · rw [enc_1 h0 (by omega)]; simp
      · rw [enc_2 (by omega) (by omega)]; simp
      · rw [enc_3 (by omega) (by omega) (by omega)]; simp
      · rw [enc_3 (by omega) (by omega) (by omega)]; simp
      · rw [enc_4 (by omega) (by omega)]; simp
    refine Ev.step (fun k => by rw [cutN]) ?_
    have key := cut_l0 (fun k => bothB.f (cutN k)) s.f0 s.f1 ((encP s.f0).length : Int) hb.1 hb.2.1 hb.2.2 rfl hs.len.symm ((partsP [s]).map rowP) ((encP s.f0).length - 1) 1 1 0 (by omega) (by omega) (by omega) ⟨fun _ => by omega, fun _ => by omega, fun _ => by omega⟩ (by omega)
    refine key ?_
    rw [show cutAt ((encP s.f0).length - 1) (1 * 64) s.f0 s.f1 = placeP s from rfl]
    unfold CutR
    split
    · rename_i hp
      have hp1 := place_in hs
      have hc := hs.cut hp
      have hw := wt_cut hs hp
      have l1 := hc.1.len
      have l2 := hc.2.len
      have l3 := hs.len
      simp only at l1 l2
      have e1 := ih ⟨s.f0, placeP s - 1⟩ hc.1 (by omega)
      have e2 := ih ⟨placeP s, s.f1⟩ hc.2 (by omega)
      simp only at e1 e2
      rw [l2, ← l3] at e2
      have ep : partsP [s] = partsP [⟨s.f0, placeP s - 1⟩] ++ partsP [⟨placeP s, s.f1⟩] := by
        rw [parts_cut (fun x hx => by rw [List.mem_singleton.1 hx]; exact hs) hp]
        exact parts_append [⟨s.f0, placeP s - 1⟩] [⟨placeP s, s.f1⟩] (fun x hx => by rw [List.mem_singleton.1 hx]; exact hc.1) (fun x hx => by rw [List.mem_singleton.1 hx]; exact hc.2)
      have hlen : ∀ t : S43, Cls t → (partsP [t]).length ≤ 3000000 := fun t ht => by
        have h1 := parts_sum [t] (fun x hx => by rw [List.mem_singleton.1 hx]; exact ht)
        have h2 := sum_len (partsP [t]) (fun x hx => (parts_ok [t] (fun y hy => by rw [List.mem_singleton.1 hy]; exact ht) x hx).1.bd.2.1)
        have h3 := ht.bd
        simp only [sumS] at h1
        omega
      have n1 := hlen _ hc.1
      have n2 := hlen _ hc.2
      refine Ev.congr (f := fun k => (cutN k s.f0 (placeP s - 1) ((encP s.f0).length : Int)).bind fun t101 => (cutN k (placeP s) s.f1 ((encP s.f0).length : Int)).bind fun t104 => if t101.length + t104.length < 5864062014805 then some (t101 ++ t104) else none) (fun k => by show bothB.f _ _ _ _ _ = _; unfold bothB.f; rw [wrap_in (i := placeP s - 1) (by omega) (by omega)]) ?_
      refine Ev.bind e1 (Ev.bind e2 (Ev.pos (by simp only [List.length_map]; omega) ?_))
      rw [ep, List.map_append]
      exact Ev.now _
    · rename_i hp
      rw [parts_keep (fun x hx => by rw [List.mem_singleton.1 hx]; exact hs) hp, parts_nil]
      rfl
instance cls_dec (s : S43) : Decidable (Cls s) := by unfold Cls; infer_instance
def glyphcutterref03_cut.f (a0 a1 a2 : Int) : Option (List (List S57)) := if Cls ⟨a0, a1⟩ ∧ a2 = ((encP a0).length : Int) then some ((partsP [⟨a0, a1⟩]).map rowP) else none
theorem glyphcutterref03_cut.calls (a0 a1 a2 : Int) (r : List (List S57)) (w : World) (h : glyphcutterref03_cut.f a0 a1 a2 = some r) : Calls Try.prog 39 #[.int .i64 a0, .int .i64 a1, .int .i64 a2] w fun e w' => ∃ v0_ : Value, e = .returned (v0_) ∧ Kd.N (Kd.slice 57 k57) 37 w' w.heap.size (fun k_ => (w.heap.size ≤ k_)) v0_ r ∧ Below w.heap.size w w' := by
  unfold glyphcutterref03_cut.f at h
  split at h
  · rename_i hc
    cases h
    obtain ⟨hc, rfl⟩ := hc
    obtain ⟨k, hk⟩ := (cut_all _ ⟨a0, a1⟩ hc (Nat.le_refl _)).rounds
    exact cutN_calls k a0 a1 _ _ w hk
  · cases h
end
end Go.Proofs.Ytbhfaeliklaffaa.P
