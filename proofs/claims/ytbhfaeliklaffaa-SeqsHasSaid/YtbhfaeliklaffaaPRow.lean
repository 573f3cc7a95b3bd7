/- What the rows of a part tell: the plain side. -/
import Derived.Test.YtbhfaeliklaffaaPx0
import Derived.Test.YtbhfaeliklaffaaGMatch
import Derived.Test.YtbhfaeliklaffaaGParts
import Derived.Test.YtbhfaeliklaffaaPBase
import Derived.Test.YtbhfaeliklaffaaPMat
import Derived.Test.YtbhfaeliklaffaaPSeq
namespace Go.Proofs.Ytbhfaeliklaffaa.P
set_option linter.unusedVariables false
set_option linter.unusedSimpArgs false
section
open Go.RowKit Go.Proofs.YtbhfaeliklaffaaW.PrintWords Go.Proofs.YtbhfaeliklaffaaW.PrintLast Go.Proofs.YtbhfaeliklaffaaW.PrintMore
theorem eqRow_nil (b : List Int) : eqRow [] b = true ↔ b = [] := by cases b <;> simp [eqRow]
theorem eqRow_cons (r : S57) (l : List S57) (b : List Int) : eqRow (r :: l) b = true ↔ ∃ x t, b = x :: t ∧ r.f0 ≤ x ∧ x ≤ r.f1 ∧ eqRow l t = true := by
  cases b with
  | nil => simp [eqRow]
  | cons x t => simp [eqRow, inR, and_assoc]
/-- Where nothing is cut, the last digits are whole or the front is one. -/
theorem place_2 {a b : Int} (h : ¬ 0 < cutAt 1 64 a b) (h0 : 0 ≤ a) (h1 : a ≤ b) : a / 64 = b / 64 ∨ (a % 64 = 0 ∧ b % 64 = 63) := by
  simp only [cutAt] at h
  split at h
  · exact .inl ‹_›
  · split at h
    · split at h
      · exact .inr ⟨‹_›, by omega⟩
      · exfalso; omega
    · exfalso; omega
theorem place_3 {a b : Int} (h : ¬ 0 < cutAt 2 64 a b) (h0 : 0 ≤ a) (h1 : a ≤ b) : (a / 64 = b / 64 ∨ (a % 64 = 0 ∧ b % 64 = 63)) ∧ (a / 4096 = b / 4096 ∨ (a % 4096 = 0 ∧ b % 4096 = 4095)) := by
  simp only [cutAt, show (64 : Int) * 64 = 4096 from rfl] at h
  constructor
  · split at h
    · exact .inl ‹_›
    · split at h
      · split at h
        · exact .inr ⟨‹_›, by omega⟩
        · exfalso; omega
      · exfalso; omega
  · have h2 : ¬ 0 < (if a / 4096 = b / 4096 then 0 else if a % 4096 = 0 then if b % 4096 = 4096 - 1 then 0 else b / 4096 * 4096 else a / 4096 * 4096 + 4096) := by
      split at h
      · exact h
      · split at h
        · split at h
          · exact h
          · exfalso; omega
        · exfalso; omega
    split at h2
    · exact .inl ‹_›
    · split at h2
      · split at h2
        · exact .inr ⟨‹_›, by omega⟩
        · exfalso; omega
      · exfalso; omega
theorem cut_step {j : Nat} {m a b : Int} (h : ¬ 0 < cutAt (j + 1) m a b) (h0 : 0 ≤ a) (h1 : a ≤ b) (hm : 0 < m) : (a / m = b / m ∨ (a % m = 0 ∧ b % m = m - 1)) ∧ ¬ 0 < cutAt j (m * 64) a b := by
  rw [cutAt] at h
  have ha : 0 ≤ a / m := Int.ediv_nonneg h0 (by omega)
  have hb : a / m ≤ b / m := Int.ediv_le_ediv hm h1
  split at h
  · exact ⟨.inl ‹_›, h⟩
  · split at h
    · split at h
      · exact ⟨.inr ⟨‹_›, ‹_›⟩, h⟩
      · exfalso
        refine h (Int.mul_pos ?_ hm)
        omega
    · exfalso
      have := Int.mul_nonneg ha (show 0 ≤ m by omega)
      omega
theorem place_4 {a b : Int} (h : ¬ 0 < cutAt 3 64 a b) (h0 : 0 ≤ a) (h1 : a ≤ b) : (a / 64 = b / 64 ∨ (a % 64 = 0 ∧ b % 64 = 63)) ∧ (a / 4096 = b / 4096 ∨ (a % 4096 = 0 ∧ b % 4096 = 4095)) ∧ (a / 262144 = b / 262144 ∨ (a % 262144 = 0 ∧ b % 262144 = 262143)) := by
  obtain ⟨p1, h⟩ := cut_step h h0 h1 (by omega)
  obtain ⟨p2, h⟩ := cut_step h h0 h1 (by omega)
  obtain ⟨p3, h⟩ := cut_step h h0 h1 (by omega)
  exact ⟨p1, p2, p3⟩
theorem digits4 {x y z t r : Int} (hr : (x - 240) * 262144 + (y - 128) * 4096 + (z - 128) * 64 + (t - 128) = r) (hy : 128 ≤ y ∧ y ≤ 191) (hz : 128 ≤ z ∧ z ≤ 191) (ht : 128 ≤ t ∧ t ≤ 191) :
    x = 240 + r / 262144 ∧ y = 128 + r / 4096 % 64 ∧ z = 128 + r / 64 % 64 ∧ t = 128 + r % 64 := by
  have e1 : r / 64 = (x - 240) * 4096 + (y - 128) * 64 + (z - 128) := by omega
  have e2 : r / 4096 = (x - 240) * 64 + (y - 128) := by omega
  have e3 : r / 262144 = (x - 240) := by omega
  have e4 : r % 64 = t - 128 := by omega
  rw [e1, e2, e3, e4]
  refine ⟨by omega, by omega, by omega, by omega⟩
theorem split4 (a : Int) : a = a / 262144 * 262144 + a / 4096 % 64 * 4096 + a / 64 % 64 * 64 + a % 64 := by
  have h1 : a = a / 64 * 64 + a % 64 := by omega
  have h2 : a / 64 = a / 4096 * 64 + a / 64 % 64 := by omega
  have h3 : a / 4096 = a / 262144 * 64 + a / 4096 % 64 := by omega
  generalize a / 262144 = x at *
  generalize a / 4096 % 64 = y at *
  generalize a / 64 % 64 = z at *
  generalize a % 64 = t at *
  generalize a / 4096 = p at *
  generalize a / 64 = q at *
  omega
theorem four_lin {x y z t a3 a2 a1 a0 b3 b2 b1 b0 : Int}
    (hx : 240 + a3 ≤ x ∧ x ≤ 240 + b3) (hy : 128 + a2 ≤ y ∧ y ≤ 128 + b2) (hz : 128 + a1 ≤ z ∧ z ≤ 128 + b1) (ht : 128 + a0 ≤ t ∧ t ≤ 128 + b0) :
    a3 * 262144 + a2 * 4096 + a1 * 64 + a0 ≤ (x - 240) * 262144 + (y - 128) * 4096 + (z - 128) * 64 + (t - 128) ∧ (x - 240) * 262144 + (y - 128) * 4096 + (z - 128) * 64 + (t - 128) ≤ b3 * 262144 + b2 * 4096 + b1 * 64 + b0 := by
  omega
theorem four_in {a b x y z t : Int}
    (hx : 240 + a / 262144 ≤ x ∧ x ≤ 240 + b / 262144) (hy : 128 + a / 4096 % 64 ≤ y ∧ y ≤ 128 + b / 4096 % 64) (hz : 128 + a / 64 % 64 ≤ z ∧ z ≤ 128 + b / 64 % 64) (ht : 128 + a % 64 ≤ t ∧ t ≤ 128 + b % 64) :
    a ≤ (x - 240) * 262144 + (y - 128) * 4096 + (z - 128) * 64 + (t - 128) ∧ (x - 240) * 262144 + (y - 128) * 4096 + (z - 128) * 64 + (t - 128) ≤ b := by
  have h := four_lin hx hy hz ht
  rw [← split4 a, ← split4 b] at h
  exact h
theorem mid {A R B : Int} (h1 : A ≤ R) (h2 : R ≤ B) (h : A / 64 = B / 64 ∨ (A % 64 = 0 ∧ B % 64 = 63)) : A % 64 ≤ R % 64 ∧ R % 64 ≤ B % 64 := by
  rcases h with h | h
  · have : A / 64 ≤ R / 64 := Int.ediv_le_ediv (by decide) h1
    have : R / 64 ≤ B / 64 := Int.ediv_le_ediv (by decide) h2
    omega
  · omega
theorem dd (a m : Int) (hm : 0 < m) : a / m / 64 = a / (m * 64) := Int.ediv_ediv_of_nonneg (by omega)
theorem md (a : Int) : a % 262144 = 0 → a / 4096 % 64 = 0 := by omega
theorem md' (a : Int) : a % 262144 = 262143 → a / 4096 % 64 = 63 := by omega
theorem me (a : Int) : a % 4096 = 0 → a / 64 % 64 = 0 := by omega
theorem me' (a : Int) : a % 4096 = 4095 → a / 64 % 64 = 63 := by omega
theorem four_back {a b r : Int} (p1 : a / 64 = b / 64 ∨ (a % 64 = 0 ∧ b % 64 = 63)) (p2 : a / 4096 = b / 4096 ∨ (a % 4096 = 0 ∧ b % 4096 = 4095)) (p3 : a / 262144 = b / 262144 ∨ (a % 262144 = 0 ∧ b % 262144 = 262143)) (h1 : a ≤ r) (h2 : r ≤ b) :
    (a / 262144 ≤ r / 262144 ∧ r / 262144 ≤ b / 262144) ∧ (a / 4096 % 64 ≤ r / 4096 % 64 ∧ r / 4096 % 64 ≤ b / 4096 % 64) ∧ (a / 64 % 64 ≤ r / 64 % 64 ∧ r / 64 % 64 ≤ b / 64 % 64) ∧ (a % 64 ≤ r % 64 ∧ r % 64 ≤ b % 64) :=
  ⟨⟨Int.ediv_le_ediv (by decide) h1, Int.ediv_le_ediv (by decide) h2⟩,
    mid (Int.ediv_le_ediv (by decide) h1) (Int.ediv_le_ediv (by decide) h2) (by rw [dd _ _ (by decide), dd _ _ (by decide)]; exact p3.imp id fun h => ⟨md _ h.1, md' _ h.2⟩),
    mid (Int.ediv_le_ediv (by decide) h1) (Int.ediv_le_ediv (by decide) h2) (by rw [dd _ _ (by decide), dd _ _ (by decide)]; exact p2.imp id fun h => ⟨me _ h.1, me' _ h.2⟩),
    mid h1 h2 p1⟩
theorem dig {c d y : Int} (h0 : 128 + c % 64 ≤ y) (h1 : y ≤ 128 + d % 64) : 128 ≤ y ∧ y ≤ 191 := by omega
theorem four_eq {u v : Int} (h2 : 65536 ≤ u) (h1 : u ≤ v) (h3 : v ≤ 1114111) (hp : ¬ 0 < cutAt ((encP u).length - 1) 64 u v) (b : List Int) : eqRow (zipR (encP u) (encP v)) b = true ↔ ∃ r, u ≤ r ∧ r ≤ v ∧ b = encP r := by
  rw [enc_4 h2 (Int.le_trans h1 h3)] at hp
  obtain ⟨p1, p2, p3⟩ := place_4 (a := u) (b := v) hp (Int.le_trans (by decide) h2) h1
  rw [enc_4 h2 (Int.le_trans h1 h3), enc_4 (Int.le_trans h2 h1) h3]
  simp only [zipR, eqRow_cons, eqRow_nil]
  clear hp
  constructor
  · rintro ⟨x, _, rfl, hx0, hx1, y, _, rfl, hy0, hy1, z, _, rfl, hz0, hz1, t, _, rfl, ht0, ht1, rfl⟩
    obtain ⟨q1, q2⟩ := four_in ⟨hx0, hx1⟩ ⟨hy0, hy1⟩ ⟨hz0, hz1⟩ ⟨ht0, ht1⟩
    obtain ⟨e1, e2, e3, e4⟩ := digits4 rfl (dig hy0 hy1) (dig hz0 hz1) (dig ht0 ht1)
    refine ⟨_, q1, q2, ?_⟩
    rw [enc_4 (Int.le_trans h2 q1) (Int.le_trans q2 h3), ← e1, ← e2, ← e3, ← e4]
  · rintro ⟨r, hr0, hr1, rfl⟩
    obtain ⟨q1, q2, q3, q4⟩ := four_back p1 p2 p3 hr0 hr1
    rw [enc_4 (Int.le_trans h2 hr0) (Int.le_trans hr1 h3)]
    exact ⟨_, _, rfl, Int.add_le_add_left q1.1 _, Int.add_le_add_left q1.2 _, _, _, rfl, Int.add_le_add_left q2.1 _, Int.add_le_add_left q2.2 _, _, _, rfl, Int.add_le_add_left q3.1 _, Int.add_le_add_left q3.2 _, _, _, rfl, Int.add_le_add_left q4.1 _, Int.add_le_add_left q4.2 _, rfl⟩
/-- The bytes that a part's row tells are those of the part's scalars. -/
theorem part_eq {s : S43} (h : Cls s) (hp : ¬ 0 < placeP s) (b : List Int) : eqRow (rowP s) b = true ↔ ∃ r, s.f0 ≤ r ∧ r ≤ s.f1 ∧ b = encP r := by
  have two : ∀ {u v : Int}, 2048 ≤ u → u ≤ v → v ≤ 65535 → (v ≤ 55295 ∨ 57344 ≤ u) → ¬ 0 < cutAt ((encP u).length - 1) 64 u v → (eqRow (zipR (encP u) (encP v)) b = true ↔ ∃ r, u ≤ r ∧ r ≤ v ∧ b = encP r) := by
    intro u v h1 h2 h3 h4 hp
    rw [enc_3 h1 (by omega) (by omega)] at hp
    obtain ⟨p1, p2⟩ := place_3 (a := u) (b := v) (by simpa using hp) (by omega) h2
    rw [enc_3 h1 (by omega) (by omega), enc_3 (by omega) (by omega) (by omega)]
    simp only [zipR, eqRow_cons, eqRow_nil]
    constructor
    · rintro ⟨x, _, rfl, hx0, hx1, y, _, rfl, hy0, hy1, z, _, rfl, hz0, hz1, rfl⟩
      have e : (x - 224) * 4096 + (y - 128) * 64 + (z - 128) = (x - 224) * 4096 + (y - 128) * 64 + (z - 128) := rfl
      generalize hr : (x - 224) * 4096 + (y - 128) * 64 + (z - 128) = r at e
      refine ⟨r, by omega, by omega, ?_⟩
      rw [enc_3 (by omega) (by omega) (by omega)]
      have e1 : x = 224 + r / 4096 := by omega
      have e2 : y = 128 + r / 64 % 64 := by omega
      have e3 : z = 128 + r % 64 := by omega
      rw [← e1, ← e2, ← e3]
    · rintro ⟨r, hr0, hr1, rfl⟩
      rw [enc_3 (by omega) (by omega) (by omega)]
      exact ⟨_, _, rfl, by omega, by omega, _, _, rfl, by omega, by omega, _, _, rfl, by omega, by omega, rfl⟩
  unfold rowP
  unfold placeP at hp
  obtain ⟨h0, h1, h2 | ⟨h2, h3⟩ | ⟨h2, h3⟩ | ⟨h2, h3⟩ | ⟨h2, h3⟩⟩ := h
  · rw [enc_1 h0 (by omega), enc_1 (by omega) (by omega)]
    simp only [zipR, eqRow_cons, eqRow_nil]
    constructor
    · rintro ⟨x, _, rfl, hx0, hx1, rfl⟩
      exact ⟨x, hx0, hx1, (enc_1 (by omega) (by omega)).symm⟩
    · rintro ⟨r, hr0, hr1, rfl⟩
      exact ⟨r, [], enc_1 (by omega) (by omega), hr0, hr1, rfl⟩
  · rw [enc_2 h2 (by omega)] at hp
    have p1 := place_2 (a := s.f0) (b := s.f1) (by simpa using hp) h0 h1
    rw [enc_2 h2 (by omega), enc_2 (by omega) (by omega)]
    simp only [zipR, eqRow_cons, eqRow_nil]
    constructor
    · rintro ⟨x, _, rfl, hx0, hx1, y, _, rfl, hy0, hy1, rfl⟩
      generalize hr : (x - 192) * 64 + (y - 128) = r
      refine ⟨r, by omega, by omega, ?_⟩
      rw [enc_2 (by omega) (by omega)]
      have e1 : x = 192 + r / 64 := by omega
      have e2 : y = 128 + r % 64 := by omega
      rw [← e1, ← e2]
    · rintro ⟨r, hr0, hr1, rfl⟩
      rw [enc_2 (by omega) (by omega)]
      exact ⟨_, _, rfl, by omega, by omega, _, _, rfl, by omega, by omega, rfl⟩
  · exact two h2 h1 (by omega) (by omega) hp
  · exact two (by omega) h1 (by omega) (by omega) hp
  · exact four_eq h2 h1 h3 hp b
theorem stepW_in {a lo hi : Int} (h0 : 0 ≤ a) (h1 : a ≤ 1000000000) (h2 : 0 ≤ lo) (h3 : lo ≤ hi) (h4 : hi ≤ 255) : stepW a ⟨lo, hi⟩ = a * (hi - lo + 1) := by
  unfold stepW
  simp only
  rw [wrap_in (i := hi) (by omega) (by omega), wrap_in (i := lo) (by omega) (by omega), wrap_in (i := hi - lo) (by omega) (by omega), wrap_in (i := hi - lo + 1) (by omega) (by omega), show mx (hi - lo + 1) 0 = hi - lo + 1 by unfold mx; omega]
  have h5 : 0 ≤ a * (hi - lo + 1) := Int.mul_nonneg h0 (by omega)
  have h6 : a * (hi - lo + 1) ≤ 1000000000 * (hi - lo + 1) := Int.mul_le_mul_of_nonneg_right h1 (by omega)
  exact wrap_in (by omega) (by omega)
end
end Go.Proofs.Ytbhfaeliklaffaa.P
