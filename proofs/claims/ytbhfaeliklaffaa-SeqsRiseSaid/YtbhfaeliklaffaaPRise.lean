/- Rows rise: the plain side. -/
import Derived.Test.YtbhfaeliklaffaaPx0
import Derived.Test.YtbhfaeliklaffaaPx19
import Derived.Test.YtbhfaeliklaffaaPx7
import Derived.Test.YtbhfaeliklaffaaGBase
import Derived.Test.YtbhfaeliklaffaaGParts
import Derived.Test.YtbhfaeliklaffaaPBase
import Derived.Test.YtbhfaeliklaffaaPLaw3
import Derived.Test.YtbhfaeliklaffaaPMat
import Derived.Test.YtbhfaeliklaffaaPRow
import Derived.Test.YtbhfaeliklaffaaPRowAll
import Derived.Test.YtbhfaeliklaffaaPSeq
import Derived.Lib.AppendStr
namespace Go.Proofs.Ytbhfaeliklaffaa.P
set_option linter.unusedVariables false
set_option linter.unusedSimpArgs false
section
open Go.RowKit Go.Proofs.YtbhfaeliklaffaaW.PrintWords Go.Proofs.YtbhfaeliklaffaaW.PrintLast Go.Proofs.YtbhfaeliklaffaaW.PrintMore
/-- The order of bytes. -/
def lexB : List Int → List Int → Bool
  | _, [] => false
  | [], _ :: _ => true
  | x :: a, y :: b => decide (x < y) || (decide (x = y) && lexB a b)
theorem u8_lt {x y : Int} (hx : 0 ≤ x ∧ x < 256) (hy : 0 ≤ y ∧ y < 256) : decide (UInt8.ofNat x.toNat < UInt8.ofNat y.toNat) = decide (x < y) := by
  rw [decide_eq_decide, UInt8.lt_iff_toNat_lt, UInt8.toNat_ofNat', UInt8.toNat_ofNat']
  omega
theorem u8_eq {x y : Int} (hx : 0 ≤ x ∧ x < 256) (hy : 0 ≤ y ∧ y < 256) : (UInt8.ofNat x.toNat == UInt8.ofNat y.toNat) = decide (x = y) := by
  rw [Bool.eq_iff_iff, beq_iff_eq, decide_eq_true_eq]
  constructor
  · intro h
    have := congrArg UInt8.toNat h
    rw [UInt8.toNat_ofNat', UInt8.toNat_ofNat'] at this
    omega
  · rintro rfl; rfl
theorem less_lex : ∀ (a b : List Int), (∀ x ∈ a, 0 ≤ x ∧ x < 256) → (∀ x ∈ b, 0 ≤ x ∧ x < 256) → Op.bytesLess (a.map fun n => UInt8.ofNat n.toNat) (b.map fun n => UInt8.ofNat n.toNat) = lexB a b
  | [], [], _, _ => rfl
  | _ :: _, [], _, _ => rfl
  | [], _ :: _, _, _ => rfl
  | x :: a, y :: b, ha, hb => by
    have ih := less_lex a b (fun z hz => ha z (List.mem_cons_of_mem _ hz)) (fun z hz => hb z (List.mem_cons_of_mem _ hz))
    rw [List.map_cons, List.map_cons, Op.bytesLess, lexB, ih, u8_lt (ha x List.mem_cons_self) (hb y List.mem_cons_self), u8_eq (ha x List.mem_cons_self) (hb y List.mem_cons_self)]
theorem lex_1 {x y : Int} {a b : List Int} (h : x < y) : lexB (x :: a) (y :: b) = true := by simp [lexB, h]
theorem lex_2 {x y : Int} {a b : List Int} (h : x ≤ y) (k : x = y → lexB a b = true) : lexB (x :: a) (y :: b) = true := by
  rcases Int.lt_or_eq_of_le h with h | h
  · exact lex_1 h
  · simp [lexB, h, k h]
/-- Greater scalars have greater bytes. -/
theorem enc_lex {r q : Int} (hr : Scal r) (hq : Scal q) (h : r < q) : lexB (encP r) (encP q) = true := by
  unfold Scal at hr hq
  by_cases r1 : r < 128
  · rw [enc_1 hr.1 r1]
    by_cases q1 : q < 128
    · rw [enc_1 hq.1 q1]; exact lex_1 h
    by_cases q2 : q < 2048
    · rw [enc_2 (by omega) q2]; exact lex_1 (by omega)
    by_cases q3 : q < 65536
    · rw [enc_3 (by omega) q3 hq.2.2]; exact lex_1 (by omega)
    · rw [enc_4 (by omega) hq.2.1]; exact lex_1 (by omega)
  by_cases r2 : r < 2048
  · rw [enc_2 (by omega) r2]
    by_cases q2 : q < 2048
    · rw [enc_2 (by omega) q2]
      exact lex_2 (by omega) fun e => lex_1 (by omega)
    by_cases q3 : q < 65536
    · rw [enc_3 (by omega) q3 hq.2.2]; exact lex_1 (by omega)
    · rw [enc_4 (by omega) hq.2.1]; exact lex_1 (by omega)
  by_cases r3 : r < 65536
  · rw [enc_3 (by omega) r3 hr.2.2]
    by_cases q3 : q < 65536
    · rw [enc_3 (by omega) q3 hq.2.2]
      have d1 : r / 4096 ≤ q / 4096 := Int.ediv_le_ediv (by decide) (Int.le_of_lt h)
      have d2 : r / 64 ≤ q / 64 := Int.ediv_le_ediv (by decide) (Int.le_of_lt h)
      refine lex_2 (Int.add_le_add_left d1 _) fun e => lex_2 ?_ fun e' => lex_1 ?_
      · have e1 : r / 4096 = q / 4096 := by omega
        have h1 : r / 64 / 64 = r / 4096 := dd r 64 (by decide)
        have h2 : q / 64 / 64 = q / 4096 := dd q 64 (by decide)
        clear e h r1 r2 r3 q3 hr hq d1
        omega
      · have e1 : r / 4096 = q / 4096 := by omega
        have e2 : r / 64 % 64 = q / 64 % 64 := by omega
        have s1 := split3 r
        have s2 := split3 q
        rw [e1, e2] at s1
        generalize q / 4096 = x at s1 s2
        generalize q / 64 % 64 = y at s1 s2
        clear e e' e1 e2 d1 d2 r1 r2 r3 q3 hr hq
        omega
    · rw [enc_4 (by omega) hq.2.1]; exact lex_1 (by omega)
  · rw [enc_4 (by omega) hr.2.1, enc_4 (by omega) hq.2.1]
    have d0 : r / 262144 ≤ q / 262144 := Int.ediv_le_ediv (by decide) (Int.le_of_lt h)
    have d1 : r / 4096 ≤ q / 4096 := Int.ediv_le_ediv (by decide) (Int.le_of_lt h)
    have d2 : r / 64 ≤ q / 64 := Int.ediv_le_ediv (by decide) (Int.le_of_lt h)
    clear r1 r2 r3 hr hq
    have a1 : r / 4096 / 64 = r / 262144 := dd r 4096 (by decide)
    have a2 : q / 4096 / 64 = q / 262144 := dd q 4096 (by decide)
    have a3 : r / 64 / 64 = r / 4096 := dd r 64 (by decide)
    have a4 : q / 64 / 64 = q / 4096 := dd q 64 (by decide)
    refine lex_2 (Int.add_le_add_left d0 _) fun e => lex_2 ?_ fun e' => lex_2 ?_ fun e'' => lex_1 ?_
    · have e1 : r / 4096 / 64 = q / 4096 / 64 := by rw [a1, a2]; exact Int.add_left_cancel e
      refine Int.add_le_add_left ?_ _
      clear e h d0 d2 a1 a2 a3 a4
      omega
    · have e1 : r / 4096 / 64 = q / 4096 / 64 := by rw [a1, a2]; exact Int.add_left_cancel e
      have e2 : r / 4096 % 64 = q / 4096 % 64 := Int.add_left_cancel e'
      have e3 : r / 4096 = q / 4096 := by clear e e' h d0 d2 a1 a2 a3 a4; omega
      have e4 : r / 64 / 64 = q / 64 / 64 := by rw [a3, a4]; exact e3
      refine Int.add_le_add_left ?_ _
      clear e e' h d0 d1 a1 a2 a3 a4 e1 e2 e3
      omega
    · have s1 := split4 r
      have s2 := split4 q
      rw [Int.add_left_cancel e, Int.add_left_cancel e', Int.add_left_cancel e''] at s1
      refine Int.add_lt_add_left ?_ _
      generalize q / 262144 * 262144 + q / 4096 % 64 * 4096 + q / 64 % 64 * 64 = z at s1 s2
      clear e e' e'' d0 d1 d2 a1 a2 a3 a4
      omega
def Lt (s t : S43) : Prop := s.f1 < t.f0
theorem sizes_rise {s : S43} (h : Ok s) : (sizesP s).Pairwise Lt := by
  have one : ∀ (a b lo hi : Int) t, t ∈ oneP ⟨mx a lo, mn b hi⟩ → lo ≤ t.f0 ∧ t.f1 ≤ hi := by
    intro a b lo hi t ht
    unfold oneP at ht
    split at ht
    · rw [List.mem_singleton.1 ht]
      exact ⟨(mx_sp a lo).2.1, (mn_sp b hi).2.1⟩
    · cases ht
  have pw : ∀ x : S43, (oneP x).Pairwise Lt := fun x => by
    unfold oneP
    split
    · exact List.pairwise_singleton _ _
    · exact List.Pairwise.nil
  unfold sizesP
  rw [List.pairwise_append, List.pairwise_append, List.pairwise_append]
  refine ⟨⟨⟨pw _, pw _, fun x hx y hy => ?_⟩, pw _, fun x hx y hy => ?_⟩, pw _, fun x hx y hy => ?_⟩
  · have h1 := one _ _ _ _ _ hx
    have h2 := one _ _ _ _ _ hy
    unfold Lt; omega
  · have h2 := one _ _ _ _ _ hy
    rcases List.mem_append.1 hx with hx | hx
    · have h1 := one _ _ _ _ _ hx
      unfold Lt; omega
    · have h1 := one _ _ _ _ _ hx
      unfold Lt; omega
  · have h2 := one _ _ _ _ _ hy
    rcases List.mem_append.1 hx with hx | hx
    · rcases List.mem_append.1 hx with hx | hx
      · have h1 := one _ _ _ _ _ hx
        unfold Lt; omega
      · have h1 := one _ _ _ _ _ hx
        unfold Lt; omega
    · have h1 := one _ _ _ _ _ hx
      unfold Lt; omega
theorem flat_rise : ∀ (l : List S43), Nf l → (l.flatMap sizesP).Pairwise Lt
  | [], _ => List.Pairwise.nil
  | s :: l, h => by
    rw [List.flatMap_cons, List.pairwise_append]
    have hs := h.1 s List.mem_cons_self
    refine ⟨sizes_rise hs, flat_rise l h.tail, fun x hx y hy => ?_⟩
    have hxc := sizes_cls hs hx
    have h1 := (sizes_mem hs x.f1).1 ⟨x, hx, hxc.bd.2.1, Int.le_refl _⟩
    have hyc := flat_cls h.tail.1 y hy
    have h2 := (flat_mem l h.tail.1 y.f0).1 ⟨y, hy, Int.le_refl _, hyc.bd.2.1⟩
    have h3 := h.above h2
    unfold Lt
    omega
theorem parts_rise (l : List S43) (hc : ∀ s ∈ l, Cls s) (h : l.Pairwise Lt) : (partsP l).Pairwise Lt := by
  refine (parts_ind (fun l ps => (∀ s ∈ ps, Cls s) ∧ (∀ r, mem ps r → mem l r) ∧ (l.Pairwise Lt → ps.Pairwise Lt)) ⟨(fun _ h => by cases h), (fun _ h => h), (fun h => h)⟩ (fun s st ps hs hp ih => ?_) (fun s st ps hs hp ih => ?_) _ l (Nat.le_refl _) hc).2.2 h
  · have hp1 := place_in hs
    refine ⟨ih.1, fun r hr => ?_, fun hpw => ih.2.2 ?_⟩
    · have := ih.2.1 r hr
      rw [mem_cons_iff, mem_cons_iff] at this
      rw [mem_cons_iff]
      simp only at this
      rcases this with h | h | h
      · exact .inl (by omega)
      · exact .inl (by omega)
      · exact .inr h
    · rw [List.pairwise_cons] at hpw
      rw [List.pairwise_cons, List.pairwise_cons]
      refine ⟨fun x hx => ?_, fun x hx => hpw.1 x hx, hpw.2⟩
      rcases List.mem_cons.1 hx with rfl | hx
      · unfold Lt; simp only; omega
      · have := hpw.1 x hx
        unfold Lt at this ⊢
        simp only
        omega
  · refine ⟨fun x hx => ?_, fun r hr => ?_, fun hpw => ?_⟩
    · rcases List.mem_cons.1 hx with rfl | hx
      · exact hs
      · exact ih.1 x hx
    · rw [mem_cons_iff] at hr ⊢
      exact hr.imp id (ih.2.1 r)
    · rw [List.pairwise_cons] at hpw ⊢
      refine ⟨fun x hx => ?_, ih.2.2 hpw.2⟩
      obtain ⟨y, hy, h1, h2⟩ := ih.2.1 x.f0 ⟨x, hx, Int.le_refl _, (ih.1 x hx).bd.2.1⟩
      have := hpw.1 y hy
      unfold Lt at this ⊢
      omega
def Fit : Bool → List S57 → Prop
  | _, [] => True
  | w, x :: l => x.f0 ≤ x.f1 ∧ (w = true → x.f0 = 128 ∧ x.f1 = 191) ∧ Fit (if w = true then true else decide (x.f0 < x.f1)) l
theorem fit_wide : ∀ (l : List S57), (∀ x ∈ l, x.f0 = 128 ∧ x.f1 = 191) → ∀ w, Fit w l
  | [], _, _ => trivial
  | x :: l, h, w => by
    have hx := h x List.mem_cons_self
    exact ⟨by omega, fun _ => hx, fit_wide l (fun y hy => h y (List.mem_cons_of_mem _ hy)) _⟩
theorem fit_cons {x : S57} {l : List S57} (h : x.f0 ≤ x.f1) (k : (x.f0 < x.f1 ∧ ∀ y ∈ l, y.f0 = 128 ∧ y.f1 = 191) ∨ (x.f0 = x.f1 ∧ Fit false l)) : Fit false (x :: l) := by
  refine ⟨h, (fun e => by cases e), ?_⟩
  rcases k with ⟨_, k⟩ | ⟨e, k⟩
  · exact fit_wide l k _
  · have : decide (x.f0 < x.f1) = false := decide_eq_false (by omega)
    rw [if_neg (by simp), this]
    exact k
theorem fit_1 {a b : Int} (h : a ≤ b) : Fit false [⟨a, b⟩] :=
  fit_cons h ((Int.lt_or_eq_of_le h).imp (fun h => ⟨h, fun _ h => by cases h⟩) (fun h => ⟨h, trivial⟩))
theorem fit_d {c a b : Int} {l : List S57} (h : a ≤ b) (hl : Fit false l) (k : a = b ∨ ∀ y ∈ l, y.f0 = 128 ∧ y.f1 = 191) : Fit false (⟨c + a, c + b⟩ :: l) := by
  refine fit_cons (Int.add_le_add_left h _) ?_
  rcases Int.lt_or_eq_of_le h with h1 | h1
  · rcases k with k | k
    · omega
    · exact .inl ⟨Int.add_lt_add_left h1 _, k⟩
  · exact .inr ⟨by simp only [h1], hl⟩
theorem fit_2 {c a1 a0 b1 b0 : Int} (h1 : a1 ≤ b1) (h0 : a0 ≤ b0) (p : a1 = b1 ∨ (a0 = 0 ∧ b0 = 63)) : Fit false [⟨c + a1, c + b1⟩, ⟨128 + a0, 128 + b0⟩] :=
  fit_d h1 (fit_1 (Int.add_le_add_left h0 _)) (p.imp id fun h y hy => by rw [List.mem_singleton.1 hy, h.1, h.2]; exact ⟨rfl, rfl⟩)
theorem fit_3 {c a2 a1 a0 b2 b1 b0 : Int} (h2 : a2 ≤ b2) (h1 : a1 ≤ b1) (h0 : a0 ≤ b0) (p1 : a1 = b1 ∨ (a0 = 0 ∧ b0 = 63)) (p2 : a2 = b2 ∨ (a1 = 0 ∧ b1 = 63 ∧ a0 = 0 ∧ b0 = 63)) : Fit false [⟨c + a2, c + b2⟩, ⟨128 + a1, 128 + b1⟩, ⟨128 + a0, 128 + b0⟩] :=
  fit_d h2 (fit_2 h1 h0 p1) (p2.imp id fun h y hy => by
    rcases List.mem_cons.1 hy with rfl | hy
    · rw [h.1, h.2.1]; exact ⟨rfl, rfl⟩
    · rw [List.mem_singleton.1 hy, h.2.2.1, h.2.2.2]; exact ⟨rfl, rfl⟩)
theorem fit_4 {c a3 a2 a1 a0 b3 b2 b1 b0 : Int} (h3 : a3 ≤ b3) (h2 : a2 ≤ b2) (h1 : a1 ≤ b1) (h0 : a0 ≤ b0) (p1 : a1 = b1 ∨ (a0 = 0 ∧ b0 = 63)) (p2 : a2 = b2 ∨ (a1 = 0 ∧ b1 = 63 ∧ a0 = 0 ∧ b0 = 63)) (p3 : a3 = b3 ∨ (a2 = 0 ∧ b2 = 63 ∧ a1 = 0 ∧ b1 = 63 ∧ a0 = 0 ∧ b0 = 63)) :
    Fit false [⟨c + a3, c + b3⟩, ⟨128 + a2, 128 + b2⟩, ⟨128 + a1, 128 + b1⟩, ⟨128 + a0, 128 + b0⟩] :=
  fit_d h3 (fit_3 h2 h1 h0 p1 p2) (p3.imp id fun h y hy => by
    rcases List.mem_cons.1 hy with rfl | hy
    · rw [h.1, h.2.1]; exact ⟨rfl, rfl⟩
    · rcases List.mem_cons.1 hy with rfl | hy
      · rw [h.2.2.1, h.2.2.2.1]; exact ⟨rfl, rfl⟩
      · rw [List.mem_singleton.1 hy, h.2.2.2.2.1, h.2.2.2.2.2]; exact ⟨rfl, rfl⟩)
theorem fit_three {u v : Int} (h2 : 2048 ≤ u) (h1 : u ≤ v) (h3 : v ≤ 65535) (h4 : v ≤ 55295 ∨ 57344 ≤ u) (hp : ¬ 0 < cutAt ((encP u).length - 1) 64 u v) : Fit false (zipR (encP u) (encP v)) := by
  rw [enc_3 h2 (by omega) (by omega)] at hp
  obtain ⟨p1, p2⟩ := place_3 (a := u) (b := v) hp (by omega) h1
  rw [enc_3 h2 (by omega) (by omega), enc_3 (by omega) (by omega) (by omega)]
  have m1 := (mid (A := u / 64) (R := u / 64) (B := v / 64) (Int.le_refl _) (Int.ediv_le_ediv (by decide) h1) (by rw [dd _ _ (by decide), dd _ _ (by decide)]; exact p2.imp id fun h => ⟨(r4096 h.1).1, (s4096 h.2).1⟩)).2
  have m0 := (mid (Int.le_refl _) h1 p1).2
  exact fit_3 (Int.ediv_le_ediv (by decide) h1) m1 m0 (p1.imp (fun h => (q64 h).2) id) (p2.imp id fun h => ⟨(r4096 h.1).1, (s4096 h.2).1, (r4096 h.1).2, (s4096 h.2).2⟩)
theorem fit_row {s : S43} (h : Cls s) (hp : ¬ 0 < placeP s) : Fit false (rowP s) := by
  unfold rowP
  unfold placeP at hp
  obtain ⟨h0, h1, h2 | ⟨h2, h3⟩ | ⟨h2, h3⟩ | ⟨h2, h3⟩ | ⟨h2, h3⟩⟩ := h
  · rw [enc_1 h0 (by omega), enc_1 (by omega) (by omega)]
    exact fit_1 h1
  · rw [enc_2 h2 (by omega)] at hp
    have p1 := place_2 (a := s.f0) (b := s.f1) hp h0 h1
    rw [enc_2 h2 (by omega), enc_2 (by omega) (by omega)]
    exact fit_2 (Int.ediv_le_ediv (by decide) h1) (mid (Int.le_refl _) h1 p1).2 p1
  · exact fit_three h2 h1 (by omega) (.inl h3) hp
  · exact fit_three (by omega) h1 h3 (.inr h2) hp
  · rw [enc_4 h2 (Int.le_trans h1 h3)] at hp
    obtain ⟨p1, p2, p3⟩ := place_4 (a := s.f0) (b := s.f1) hp h0 h1
    obtain ⟨q1, q2, q3, q4⟩ := four_back p1 p2 p3 (Int.le_refl s.f0) h1
    rw [enc_4 h2 (Int.le_trans h1 h3), enc_4 (Int.le_trans h2 h1) h3]
    exact fit_4 q1.2 q2.2 q3.2 q4.2 (p1.imp (fun h => (q64 h).2) id) (p2.imp (fun h => (q4096 h).2) fun h => ⟨(r4096 h.1).1, (s4096 h.2).1, (r4096 h.1).2, (s4096 h.2).2⟩)
      (p3.imp id fun h => ⟨(r262144 h.1).1, (s262144 h.2).1, (r4096 (r262144 h.1).2).1, (s4096 (s262144 h.2).2).1, (r4096 (r262144 h.1).2).2, (s4096 (s262144 h.2).2).2⟩)
theorem zip_f0 : ∀ (a b : List Int), a.length = b.length → (zipR a b).map (·.f0) = a
  | [], [], _ => rfl
  | [], _ :: _, h => by cases h
  | _ :: _, [], h => by cases h
  | a :: l, b :: m, h => by simp only [zipR, List.map_cons, List.length_cons] at h ⊢; rw [zip_f0 l m (by omega)]
theorem zip_f1 : ∀ (a b : List Int), a.length = b.length → (zipR a b).map (·.f1) = b
  | [], [], _ => rfl
  | [], _ :: _, h => by cases h
  | _ :: _, [], h => by cases h
  | a :: l, b :: m, h => by simp only [zipR, List.map_cons, List.length_cons] at h ⊢; rw [zip_f1 l m (by omega)]
theorem rise_1 (rows : List (List S57)) (hl : rows.length ≤ 2000000) (x3 : ByteArray) (i : Nat) (hi : i < rows.length) (hrow : rows[i].length ≤ 4) (hne : 1 ≤ rows[i].length)
    (hless : 0 < i → Op.bytesLess x3.toList (strOfNums (rows[i].map (·.f0))).toList = true) (hnext : Ev (fun k => glyphcutterlaw03_rise.l0 k rows (strOfNums (rows[i].map (·.f1))) ((i + 1 : Nat) : Int)) true) :
    ∀ (d j : Nat) (w : Bool), rows[i].length - j = d → j ≤ rows[i].length → Fit w (rows[i].drop j) → Ev (fun k => glyphcutterlaw03_rise.l1 k rows x3 (i : Int) ((rows[i].take j).map (·.f0)) ((rows[i].take j).map (·.f1)) w (j : Int)) true := by
  intro d
  have hw : wrap64 ((i : Int) + 1) = ((i + 1 : Nat) : Int) := wrap_in (by omega) (by omega)
  induction d with
  | zero =>
    intro j w hd hj hf
    refine Ev.step (f := fun k => _) (fun k => by rw [glyphcutterlaw03_rise.l1, rdl_get rows i hi, hw]) (Ev.pos (by omega) (Ev.pos (by omega) (Ev.neg (by omega) ?_)))
    rw [List.take_of_length_le (by omega)]
    refine Ev.neg (by simp only [List.length_map]; omega) (Ev.neg (by simp only [List.length_map]; omega) ?_)
    by_cases c : (i : Int) > 0
    · exact Ev.pos c (Ev.pos (hless (by omega)) hnext)
    · exact Ev.neg c hnext
  | succ d ih =>
    intro j w hd hj hf
    have hlt : j < rows[i].length := by omega
    have hwj : wrap64 ((j : Int) + 1) = ((j + 1 : Nat) : Int) := wrap_in (by omega) (by omega)
    rw [List.drop_eq_getElem_cons hlt] at hf
    obtain ⟨f1, f2, f3⟩ := hf
    have l0 : ((rows[i].take j).map (·.f0)).length < 140737488355328 := by rw [List.length_map, List.length_take]; omega
    have l1 : ((rows[i].take j).map (·.f1)).length < 140737488355328 := by rw [List.length_map, List.length_take]; omega
    have t0 : (rows[i].take j).map (·.f0) ++ [rows[i][j].f0] = (rows[i].take (j + 1)).map (·.f0) := by rw [List.take_succ_eq_append_getElem hlt, List.map_append]; rfl
    have t1 : (rows[i].take j).map (·.f1) ++ [rows[i][j].f1] = (rows[i].take (j + 1)).map (·.f1) := by rw [List.take_succ_eq_append_getElem hlt, List.map_append]; rfl
    have hn := fun w' h => ih (j + 1) w' (by omega) (by omega) h
    refine Ev.step (f := fun k => _) (fun k => by rw [glyphcutterlaw03_rise.l1, rdl_get rows i hi, rdr_get rows[i] j hlt, hwj, t0, t1]) (Ev.pos (by omega) (Ev.pos (by omega) (Ev.pos (by omega) (Ev.pos (by omega) (Ev.neg (by omega) ?_)))))
    cases w with
    | true =>
      obtain ⟨g0, g1⟩ := f2 rfl
      exact Ev.pos rfl (Ev.pos g0 (Ev.pos g1 (Ev.pos l0 (Ev.pos l1 (hn _ f3)))))
    | false => exact Ev.neg (by simp) (Ev.pos l0 (Ev.pos l1 (hn _ f3)))
theorem str_list (xs : List Int) : (strOfNums xs).toList = xs.map fun n => UInt8.ofNat n.toNat := by
  rw [ByteArray.toList_eq]
  exact strOfNums_data xs
theorem rise_of (ps : List S43) (hl : ps.length ≤ 2000000) (hp : ∀ s ∈ ps, Cls s ∧ ¬ 0 < placeP s) (hr : ps.Pairwise Lt) : Ev (fun k => glyphcutterlaw03_rise.f k (ps.map rowP)) true := by
  have h0 : ∀ (d i : Nat) (x3 : ByteArray), ps.length - i = d → i ≤ ps.length → (∀ (hi : i < ps.length), 0 < i → Op.bytesLess x3.toList (strOfNums (encP ps[i].f0)).toList = true) → Ev (fun k => glyphcutterlaw03_rise.l0 k (ps.map rowP) x3 (i : Int)) true := by
    intro d
    induction d with
    | zero =>
      intro i x3 hd hi _
      refine Ev.step (fun k => by rw [glyphcutterlaw03_rise.l0]) (Ev.neg (by rw [List.length_map]; omega) ?_)
      exact Ev.now true
    | succ d ih =>
      intro i x3 hd hi hx
      have hlt : i < ps.length := by omega
      have hs := hp _ (List.getElem_mem hlt)
      have hlm : i < (ps.map rowP).length := by rw [List.length_map]; exact hlt
      have e : (ps.map rowP)[i] = rowP ps[i] := List.getElem_map _
      have ef0 : (rowP ps[i]).map (·.f0) = encP ps[i].f0 := zip_f0 _ _ hs.1.len
      have ef1 : (rowP ps[i]).map (·.f1) = encP ps[i].f1 := zip_f1 _ _ hs.1.len
      have h4 := row_len ps[i]
      have hb := hs.1.bd
      have sc : ∀ s ∈ ps, Scal s.f0 ∧ Scal s.f1 := fun s hs' => by
        have := (hp s hs').1
        unfold Cls at this
        unfold Scal
        omega
      have hne : 1 ≤ (rowP ps[i]).length := by
        have := enc_ne (sc _ (List.getElem_mem hlt)).1
        rw [← ef0, List.length_map] at this
        exact this
      refine Ev.step (fun k => by rw [glyphcutterlaw03_rise.l0]) (Ev.pos (by rw [List.length_map]; omega) ?_)
      refine rise_1 (ps.map rowP) (by rw [List.length_map]; exact hl) x3 i hlm (by rw [e]; exact h4) (by rw [e]; exact hne) (by rw [e, ef0]; exact hx hlt) ?_ _ 0 false rfl (Nat.zero_le _) (by rw [e, List.drop_zero]; exact fit_row hs.1 hs.2)
      rw [e, ef1]
      refine ih (i + 1) _ (by omega) (by omega) (fun hi2 _ => ?_)
      have hlt2 := List.pairwise_iff_getElem.1 hr i (i + 1) hlt hi2 (by omega)
      rw [str_list, str_list, less_lex _ _ (enc_u8 _) (enc_u8 _)]
      exact enc_lex (sc _ (List.getElem_mem hlt)).2 (sc _ (List.getElem_mem hi2)).1 hlt2
  unfold glyphcutterlaw03_rise.f
  exact h0 _ 0 _ rfl (Nat.zero_le _) (fun _ h => absurd h (by decide))
theorem rise_set (l : List S43) : Ev (fun k => glyphcutterlaw03_rise.f k (ofP l)) true := by
  have hn := normP_nf l
  have hc := flat_cls hn.1
  have hlen := of_len l
  unfold ofP at hlen ⊢
  rw [List.length_map] at hlen
  exact rise_of _ (by omega) (parts_ok _ hc) (parts_rise _ hc (flat_rise _ hn))
theorem law_rise (c : List Int) (l : List S43) (hc : U16 c) (hs : Sm c) (wl : Wf l) : Ev (fun k => glyphcutterlaw03_SeqsRise.f k c l) true := by
  have jt : Ev (fun k => glyphcutterlaw03_SeqsRise.j0 k c l true) true := Ev.step (fun k => by rw [glyphcutterlaw03_SeqsRise.j0]) (Ev.pos rfl (Ev.bind known_f (Ev.now true)))
  unfold glyphcutterlaw03_SeqsRise.f
  refine Ev.bindc (a := decide ((l.length : Int) > 30)) rfl ?_
  by_cases h1 : (l.length : Int) > 30
  · exact Ev.pos (decide_eq_true h1) jt
  refine Ev.neg (by simpa using h1) ?_
  by_cases h2 : (c.length : Int) > 60
  · exact Ev.pos h2 jt
  refine Ev.neg h2 (Ev.bind known_f ?_)
  obtain ⟨m, hm, hm1, hm2⟩ := law_make c hc hs
  refine Ev.step (fun k => by rw [glyphcutterlaw03_SeqsRise.j0]) (Ev.neg (by simp) ?_)
  refine Ev.bind hm (Ev.bindc (of_f m (by omega)) (Ev.bind (rise_set m) (Ev.pos rfl ?_)))
  exact Ev.bindc (of_f l (by omega)) (Ev.bind (rise_set l) (Ev.now true))
end
end Go.Proofs.Ytbhfaeliklaffaa.P
