/- What the rows of a set tell: the plain side. -/
import Derived.Test.YtbhfaeliklaffaaPx0
import Derived.Test.YtbhfaeliklaffaaGMatch
import Derived.Test.YtbhfaeliklaffaaGParts
import Derived.Test.YtbhfaeliklaffaaPBase
import Derived.Test.YtbhfaeliklaffaaPMat
import Derived.Test.YtbhfaeliklaffaaPRow
import Derived.Test.YtbhfaeliklaffaaPSeq
import Derived.Shelf.Abstract
import Derived.Shelf.RegionOpen
import Derived.Outline
import Derived.RangeFuncBox
namespace Go.Proofs.Ytbhfaeliklaffaa.P
set_option linter.unusedVariables false
set_option linter.unusedSimpArgs false
section
open Go.RowKit Go.Shelf Go.Proofs.YtbhfaeliklaffaaW.PrintWords Go.Proofs.YtbhfaeliklaffaaW.PrintLast Go.Proofs.YtbhfaeliklaffaaW.PrintMore
def hasP (l : List S43) (r : Int) : Bool := decide (0 ≤ r ∧ r ≤ 1114111 ∧ ¬ (55296 ≤ r ∧ r ≤ 57343)) && l.any fun s => decide (s.f0 ≤ r) && decide (r ≤ s.f1)
end
section
open Go.RowKit Go.Proofs.YtbhfaeliklaffaaW.PrintWords Go.Proofs.YtbhfaeliklaffaaW.PrintLast Go.Proofs.YtbhfaeliklaffaaW.PrintMore
theorem hasP_iff (l : List S43) (r : Int) : hasP l r = true ↔ Scal r ∧ mem l r := by
  unfold hasP Scal mem
  simp only [Bool.and_eq_true, decide_eq_true_eq, List.any_eq_true]
  constructor
  · rintro ⟨h1, h2⟩; exact ⟨by omega, h2⟩
  · rintro ⟨h1, h2⟩; exact ⟨by omega, h2⟩
end
section
open Go.RowKit Go.Proofs.YtbhfaeliklaffaaW.PrintWords Go.Proofs.YtbhfaeliklaffaaW.PrintLast Go.Proofs.YtbhfaeliklaffaaW.PrintMore
def sizeW (l : List S43) (n : Int) : Int := l.foldl (fun n s => wrap64 (n + wrap64 (wrap64 (s.f1 - s.f0) + 1))) n
end
section
open Go.RowKit Go.Proofs.YtbhfaeliklaffaaW.PrintWords Go.Proofs.YtbhfaeliklaffaaW.PrintLast Go.Proofs.YtbhfaeliklaffaaW.PrintMore
/-- What holds of cut spans holds of the parts. -/
theorem parts_ind (Q : List S43 → List S43 → Prop) (h0 : Q [] [])
    (hc : ∀ s st ps, Cls s → 0 < placeP s → Q (⟨s.f0, placeP s - 1⟩ :: ⟨placeP s, s.f1⟩ :: st) ps → Q (s :: st) ps)
    (hk : ∀ s st ps, Cls s → ¬ 0 < placeP s → Q st ps → Q (s :: st) (s :: ps)) : ∀ (n : Nat) (l : List S43), wts l ≤ n → (∀ s ∈ l, Cls s) → Q l (partsP l) := by
  intro n
  induction n with
  | zero =>
    intro l hl _
    cases l with
    | nil => exact h0
    | cons s l => exfalso; simp only [wts, wt] at hl; omega
  | succ n ih =>
    intro l hl hcl
    cases l with
    | nil => exact h0
    | cons s st =>
      have hs := hcl s List.mem_cons_self
      by_cases hp : 0 < placeP s
      · rw [parts_cut hcl hp]
        have hw := wt_cut hs hp
        have hcc := hs.cut hp
        refine hc s st _ hs hp (ih _ ?_ ?_)
        · simp only [wts] at hl ⊢; omega
        · intro x hx
          rcases List.mem_cons.1 hx with rfl | hx
          · exact hcc.1
          · rcases List.mem_cons.1 hx with rfl | hx
            · exact hcc.2
            · exact hcl x (List.mem_cons_of_mem _ hx)
      · rw [parts_keep hcl hp]
        refine hk s st _ hs hp (ih _ ?_ (fun x hx => hcl x (List.mem_cons_of_mem _ hx)))
        simp only [wts, wt] at hl ⊢; omega
def sumS : List S43 → Int
  | [] => 0
  | s :: l => (s.f1 - s.f0 + 1) + sumS l
theorem sumS_append (a b : List S43) : sumS (a ++ b) = sumS a + sumS b := by
  induction a with
  | nil => simp [sumS]
  | cons s a ih => simp only [List.cons_append, sumS, ih]; omega
theorem parts_ok (l : List S43) (h : ∀ s ∈ l, Cls s) : ∀ s ∈ partsP l, Cls s ∧ ¬ 0 < placeP s := by
  refine parts_ind (fun _ ps => ∀ s ∈ ps, Cls s ∧ ¬ 0 < placeP s) (fun _ h => by cases h) (fun _ _ _ _ _ h => h) (fun s st ps hs hp h x hx => ?_) _ l (Nat.le_refl _) h
  rcases List.mem_cons.1 hx with rfl | hx
  · exact ⟨hs, hp⟩
  · exact h x hx
theorem mem_cons_iff (s : S43) (l : List S43) (r : Int) : mem (s :: l) r ↔ (s.f0 ≤ r ∧ r ≤ s.f1) ∨ mem l r := by
  unfold mem
  constructor
  · rintro ⟨x, hx, h⟩
    rcases List.mem_cons.1 hx with rfl | hx
    · exact .inl h
    · exact .inr ⟨x, hx, h⟩
  · rintro (h | ⟨x, hx, h⟩)
    · exact ⟨s, List.mem_cons_self, h⟩
    · exact ⟨x, List.mem_cons_of_mem _ hx, h⟩
theorem parts_mem (l : List S43) (h : ∀ s ∈ l, Cls s) (r : Int) : mem (partsP l) r ↔ mem l r := by
  refine parts_ind (fun l ps => mem ps r ↔ mem l r) Iff.rfl (fun s st ps hs hp h => ?_) (fun s st ps hs hp h => ?_) _ l (Nat.le_refl _) h
  · have := place_in hs
    rw [h, mem_cons_iff, mem_cons_iff, mem_cons_iff]
    simp only
    constructor
    · rintro (h | h | h)
      · exact .inl (by omega)
      · exact .inl (by omega)
      · exact .inr h
    · rintro (h | h)
      · by_cases c : r < placeP s
        · exact .inl (by omega)
        · exact .inr (.inl (by omega))
      · exact .inr (.inr h)
  · rw [mem_cons_iff, mem_cons_iff, h]
theorem parts_sum (l : List S43) (h : ∀ s ∈ l, Cls s) : sumS (partsP l) = sumS l := by
  refine parts_ind (fun l ps => sumS ps = sumS l) rfl (fun s st ps hs hp h => ?_) (fun s st ps hs hp h => ?_) _ l (Nat.le_refl _) h
  · rw [h]; simp only [sumS]; omega
  · simp only [sumS, h]
def clip (a b lo hi : Int) : Int := if mx a lo ≤ mn b hi then mn b hi - mx a lo + 1 else 0
theorem clip_join (a b lo m hi : Int) (h : a ≤ b) (h1 : lo ≤ m) (h2 : m + 1 ≤ hi) : clip a b lo m + clip a b (m + 1) hi = clip a b lo hi := by
  unfold clip mx mn
  by_cases c1 : a ≤ m
  · by_cases c2 : b ≤ m
    · rw [if_neg (c := _ ≤ _) (show ¬ (if a < m + 1 then m + 1 else a) ≤ (if b > hi then hi else b) by split <;> split <;> omega)]
      repeat' split
      all_goals omega
    · repeat' split
      all_goals omega
  · repeat' split
    all_goals omega
theorem sum_one (s : S43) (lo hi : Int) : sumS (oneP ⟨mx s.f0 lo, mn s.f1 hi⟩) = clip s.f0 s.f1 lo hi := by
  unfold oneP clip
  simp only
  split
  · simp [sumS]
  · rfl
theorem sizes_sum {s : S43} (h : Ok s) : sumS (sizesP s) = s.f1 - s.f0 + 1 := by
  have hb : s.f0 ≤ s.f1 ∧ 0 ≤ s.f0 ∧ s.f1 ≤ 1114111 := by unfold Ok at h; omega
  unfold sizesP
  rw [sumS_append, sumS_append, sumS_append, sum_one, sum_one, sum_one, sum_one]
  have j1 := clip_join s.f0 s.f1 0 127 2047 hb.1 (by decide) (by decide)
  have j2 := clip_join s.f0 s.f1 0 2047 65535 hb.1 (by decide) (by decide)
  have j3 := clip_join s.f0 s.f1 0 65535 1114111 hb.1 (by decide) (by decide)
  have e : clip s.f0 s.f1 0 1114111 = s.f1 - s.f0 + 1 := by
    unfold clip mx mn
    repeat' split
    all_goals omega
  have k1 : (127 + 1 : Int) = 128 := rfl
  have k2 : (2047 + 1 : Int) = 2048 := rfl
  have k3 : (65535 + 1 : Int) = 65536 := rfl
  rw [k1] at j1
  rw [k2] at j2
  rw [k3] at j3
  rw [j1, j2, j3, e]
theorem mem_append_iff (a b : List S43) (r : Int) : mem (a ++ b) r ↔ mem a r ∨ mem b r := by
  unfold mem
  constructor
  · rintro ⟨x, hx, h⟩
    rcases List.mem_append.1 hx with hx | hx
    · exact .inl ⟨x, hx, h⟩
    · exact .inr ⟨x, hx, h⟩
  · rintro (⟨x, hx, h⟩ | ⟨x, hx, h⟩)
    · exact ⟨x, List.mem_append_left _ hx, h⟩
    · exact ⟨x, List.mem_append_right _ hx, h⟩
theorem mem_oneR (x : S43) (r : Int) : mem (oneP x) r ↔ x.f0 ≤ r ∧ r ≤ x.f1 := by
  unfold oneP mem
  split
  · simp
  · constructor
    · rintro ⟨_, h, _⟩; cases h
    · intro h; omega
theorem sizes_mem {s : S43} (h : Ok s) (r : Int) : mem (sizesP s) r ↔ s.f0 ≤ r ∧ r ≤ s.f1 := by
  unfold Ok at h
  unfold sizesP
  simp only [mem_append_iff, mem_oneR]
  unfold mx mn
  omega
theorem flat_mem (l : List S43) (h : ∀ s ∈ l, Ok s) (r : Int) : mem (l.flatMap sizesP) r ↔ mem l r := by
  induction l with
  | nil => exact Iff.rfl
  | cons s l ih => rw [List.flatMap_cons, mem_append_iff, mem_cons_iff, sizes_mem (h s List.mem_cons_self), ih (fun x hx => h x (List.mem_cons_of_mem _ hx))]
theorem flat_sum (l : List S43) (h : ∀ s ∈ l, Ok s) : sumS (l.flatMap sizesP) = sumS l := by
  induction l with
  | nil => rfl
  | cons s l ih => rw [List.flatMap_cons, sumS_append, sizes_sum (h s List.mem_cons_self), ih (fun x hx => h x (List.mem_cons_of_mem _ hx)), sumS]
theorem flat_cls {l : List S43} (h : ∀ s ∈ l, Ok s) : ∀ s ∈ l.flatMap sizesP, Cls s := fun s hs => by
  obtain ⟨x, hx, hs⟩ := List.mem_flatMap.1 hs
  exact sizes_cls (h x hx) hs
/-- The rows tell just the bytes of the set's scalars. -/
theorem of_match (l : List S43) (b : List Int) : matchP (ofP l) b = true ↔ ∃ r, mem (normP l) r ∧ b = encP r := by
  have hn := normP_nf l
  have hc := flat_cls hn.1
  unfold matchP ofP
  rw [List.any_map]
  simp only [List.any_eq_true, Function.comp]
  constructor
  · rintro ⟨s, hs, h⟩
    obtain ⟨r, h0, h1, rfl⟩ := (part_eq (parts_ok _ hc s hs).1 (parts_ok _ hc s hs).2 b).1 h
    exact ⟨r, (flat_mem _ hn.1 r).1 ((parts_mem _ hc r).1 ⟨s, hs, h0, h1⟩), rfl⟩
  · rintro ⟨r, hr, rfl⟩
    obtain ⟨s, hs, h0, h1⟩ := (parts_mem _ hc r).2 ((flat_mem _ hn.1 r).2 hr)
    exact ⟨s, hs, (part_eq (parts_ok _ hc s hs).1 (parts_ok _ hc s hs).2 _).2 ⟨r, h0, h1, rfl⟩⟩
/-- Bytes back to their scalar. -/
def decP : List Int → Int
  | [a] => a
  | [a, b] => (a - 192) * 64 + (b - 128)
  | [a, b, c] => (a - 224) * 4096 + (b - 128) * 64 + (c - 128)
  | [a, b, c, d] => (a - 240) * 262144 + (b - 128) * 4096 + (c - 128) * 64 + (d - 128)
  | _ => 0
theorem dec_enc {r : Int} (h : Scal r) : decP (encP r) = r := by
  unfold Scal at h
  by_cases h1 : r < 128
  · rw [enc_1 h.1 h1]; rfl
  by_cases h2 : r < 2048
  · rw [enc_2 (by omega) h2]; simp only [decP]; omega
  by_cases h3 : r < 65536
  · rw [enc_3 (by omega) h3 h.2.2]; simp only [decP]; omega
  · rw [enc_4 (by omega) h.2.1]; simp only [decP]; omega
theorem of_has (l : List S43) {r : Int} (h : Scal r) : matchP (ofP l) (encP r) = hasP l r := by
  rw [Bool.eq_iff_iff, of_match, hasP_iff]
  constructor
  · rintro ⟨q, hq, e⟩
    have h1 := dec_enc h
    rw [e, dec_enc ((normP_nf l).scal hq)] at h1
    subst h1
    exact (normP_mem l _).1 hq
  · rintro ⟨_, hm⟩
    exact ⟨r, (normP_mem l r).2 ⟨h, hm⟩, rfl⟩
theorem mul_in {x y m n : Int} (h0 : 0 ≤ x) (h1 : x ≤ m) (h2 : 0 ≤ y) (h3 : y ≤ n) : 0 ≤ x * y ∧ x * y ≤ m * n := ⟨Int.mul_nonneg h0 h2, Int.mul_le_mul h1 h3 h2 (Int.le_trans h0 h1)⟩
/-- Two ends of a digit. -/
def Dg (a b : Int) : Prop := 0 ≤ a ∧ a ≤ b ∧ b ≤ 255
theorem cnt_1 {a b : Int} (h : Dg a b) : stepW 1 ⟨a, b⟩ = b - a + 1 := by
  obtain ⟨h0, h1, h2⟩ := h
  rw [stepW_in (by omega) (by omega) h0 h1 h2, Int.one_mul]
theorem cnt_m {x a b : Int} (hx : 0 ≤ x ∧ x ≤ 1000000000) (h : Dg a b) : stepW x ⟨a, b⟩ = x * (b - a + 1) := stepW_in hx.1 hx.2 h.1 h.2.1 h.2.2
theorem Dg.w {a b : Int} (h : Dg a b) : 0 ≤ b - a + 1 ∧ b - a + 1 ≤ 256 := by unfold Dg at h; omega
theorem cnt_2 {a b c d : Int} (h : Dg a b) (k : Dg c d) : stepW (stepW 1 ⟨a, b⟩) ⟨c, d⟩ = (b - a + 1) * (d - c + 1) := by
  have := h.w
  rw [cnt_1 h, cnt_m (by omega) k]
theorem cnt_3 {a b c d e f : Int} (h : Dg a b) (k : Dg c d) (l : Dg e f) : stepW (stepW (stepW 1 ⟨a, b⟩) ⟨c, d⟩) ⟨e, f⟩ = (b - a + 1) * (d - c + 1) * (f - e + 1) := by
  have := mul_in h.w.1 h.w.2 k.w.1 k.w.2
  rw [cnt_2 h k, cnt_m (by omega) l]
theorem cnt_4 {a b c d e f g i : Int} (h : Dg a b) (k : Dg c d) (l : Dg e f) (m : Dg g i) : stepW (stepW (stepW (stepW 1 ⟨a, b⟩) ⟨c, d⟩) ⟨e, f⟩) ⟨g, i⟩ = (b - a + 1) * (d - c + 1) * (f - e + 1) * (i - g + 1) := by
  have h1 := mul_in h.w.1 h.w.2 k.w.1 k.w.2
  have h2 := mul_in h1.1 h1.2 l.w.1 l.w.2
  rw [cnt_3 h k l, cnt_m (by omega) m]
theorem cnt_two_eq {a1 a0 b1 b0 : Int} (p : a1 = b1 ∨ (a0 = 0 ∧ b0 = 63)) : ((192 + b1) - (192 + a1) + 1) * ((128 + b0) - (128 + a0) + 1) = (b1 * 64 + b0) - (a1 * 64 + a0) + 1 := by
  rcases p with rfl | ⟨rfl, rfl⟩
  · rw [show (192 + a1) - (192 + a1) + 1 = 1 by omega]; omega
  · omega
theorem cnt_three_eq {a2 a1 a0 b2 b1 b0 : Int} (p1 : (a2 = b2 ∧ a1 = b1) ∨ (a0 = 0 ∧ b0 = 63)) (p2 : a2 = b2 ∨ (a1 = 0 ∧ b1 = 63 ∧ a0 = 0 ∧ b0 = 63)) : ((224 + b2) - (224 + a2) + 1) * ((128 + b1) - (128 + a1) + 1) * ((128 + b0) - (128 + a0) + 1) = (b2 * 4096 + b1 * 64 + b0) - (a2 * 4096 + a1 * 64 + a0) + 1 := by
  rcases p2 with rfl | ⟨rfl, rfl, rfl, rfl⟩
  · rw [show (224 + a2) - (224 + a2) + 1 = 1 by omega, Int.one_mul]
    rcases p1 with ⟨_, rfl⟩ | ⟨rfl, rfl⟩
    · rw [show (128 + a1) - (128 + a1) + 1 = 1 by omega]; omega
    · omega
  · omega
theorem cnt_four_eq {a3 a2 a1 a0 b3 b2 b1 b0 : Int} (p1 : (a3 = b3 ∧ a2 = b2 ∧ a1 = b1) ∨ (a0 = 0 ∧ b0 = 63)) (p2 : (a3 = b3 ∧ a2 = b2) ∨ (a1 = 0 ∧ b1 = 63 ∧ a0 = 0 ∧ b0 = 63)) (p3 : a3 = b3 ∨ (a2 = 0 ∧ b2 = 63 ∧ a1 = 0 ∧ b1 = 63 ∧ a0 = 0 ∧ b0 = 63)) :
    ((240 + b3) - (240 + a3) + 1) * ((128 + b2) - (128 + a2) + 1) * ((128 + b1) - (128 + a1) + 1) * ((128 + b0) - (128 + a0) + 1) = (b3 * 262144 + b2 * 4096 + b1 * 64 + b0) - (a3 * 262144 + a2 * 4096 + a1 * 64 + a0) + 1 := by
  rcases p3 with rfl | ⟨rfl, rfl, rfl, rfl, rfl, rfl⟩
  · rw [show (240 + a3) - (240 + a3) + 1 = 1 by omega, Int.one_mul]
    rcases p2 with ⟨_, rfl⟩ | ⟨rfl, rfl, rfl, rfl⟩
    · rw [show (128 + a2) - (128 + a2) + 1 = 1 by omega, Int.one_mul]
      rcases p1 with ⟨_, _, rfl⟩ | ⟨rfl, rfl⟩
      · rw [show (128 + a1) - (128 + a1) + 1 = 1 by omega]; omega
      · omega
    · omega
  · omega
theorem split2 (a : Int) : a = a / 64 * 64 + a % 64 := by omega
theorem split3 (a : Int) : a = a / 4096 * 4096 + a / 64 % 64 * 64 + a % 64 := by
  have h1 : a = a / 64 * 64 + a % 64 := by omega
  have h2 : a / 64 = a / 4096 * 64 + a / 64 % 64 := by omega
  omega
theorem q64 {a b : Int} (h : a / 64 = b / 64) : a / 4096 = b / 4096 ∧ a / 64 % 64 = b / 64 % 64 := by
  have h1 : a / 64 / 64 = a / 4096 := dd a 64 (by decide)
  have h2 : b / 64 / 64 = b / 4096 := dd b 64 (by decide)
  rw [← h1, ← h2, h]; exact ⟨rfl, rfl⟩
theorem q4096 {a b : Int} (h : a / 4096 = b / 4096) : a / 262144 = b / 262144 ∧ a / 4096 % 64 = b / 4096 % 64 := by
  have h1 : a / 4096 / 64 = a / 262144 := dd a 4096 (by decide)
  have h2 : b / 4096 / 64 = b / 262144 := dd b 4096 (by decide)
  rw [← h1, ← h2, h]; exact ⟨rfl, rfl⟩
theorem r4096 {a : Int} (h : a % 4096 = 0) : a / 64 % 64 = 0 ∧ a % 64 = 0 := by omega
theorem s4096 {a : Int} (h : a % 4096 = 4095) : a / 64 % 64 = 63 ∧ a % 64 = 63 := by omega
theorem r262144 {a : Int} (h : a % 262144 = 0) : a / 4096 % 64 = 0 ∧ a % 4096 = 0 := by omega
theorem s262144 {a : Int} (h : a % 262144 = 262143) : a / 4096 % 64 = 63 ∧ a % 4096 = 4095 := by omega
theorem dg_lo {a b : Int} (h : a % 64 ≤ b % 64) : Dg (128 + a % 64) (128 + b % 64) := by unfold Dg; omega
theorem two_count {u v : Int} (h2 : 128 ≤ u) (h1 : u ≤ v) (h3 : v < 2048) (hp : ¬ 0 < cutAt ((encP u).length - 1) 64 u v) : (zipR (encP u) (encP v)).foldl stepW 1 = v - u + 1 := by
  rw [enc_2 h2 (by omega)] at hp
  have p1 := place_2 (a := u) (b := v) hp (by omega) h1
  rw [enc_2 h2 (by omega), enc_2 (by omega) h3]
  simp only [zipR, List.foldl_cons, List.foldl_nil]
  rw [cnt_2 (by unfold Dg; omega) (dg_lo (mid (Int.le_refl _) h1 p1).2), cnt_two_eq p1, ← split2, ← split2]
theorem three_count {u v : Int} (h2 : 2048 ≤ u) (h1 : u ≤ v) (h3 : v ≤ 65535) (h4 : v ≤ 55295 ∨ 57344 ≤ u) (hp : ¬ 0 < cutAt ((encP u).length - 1) 64 u v) : (zipR (encP u) (encP v)).foldl stepW 1 = v - u + 1 := by
  rw [enc_3 h2 (by omega) (by omega)] at hp
  obtain ⟨p1, p2⟩ := place_3 (a := u) (b := v) hp (by omega) h1
  rw [enc_3 h2 (by omega) (by omega), enc_3 (by omega) (by omega) (by omega)]
  simp only [zipR, List.foldl_cons, List.foldl_nil]
  have m1 := (mid (A := u / 64) (R := u / 64) (B := v / 64) (Int.le_refl _) (Int.ediv_le_ediv (by decide) h1) (by rw [dd _ _ (by decide), dd _ _ (by decide)]; exact p2.imp id fun h => ⟨(r4096 h.1).1, (s4096 h.2).1⟩)).2
  have m0 := (mid (Int.le_refl _) h1 p1).2
  have m2 : u / 4096 ≤ v / 4096 := Int.ediv_le_ediv (by decide) h1
  have b2 : 0 ≤ u / 4096 ∧ v / 4096 ≤ 15 := by clear p1 p2 m0 m1 hp h4; omega
  rw [cnt_3 (by clear p1 p2 m0 m1 hp h4; unfold Dg; omega) (dg_lo m1) (dg_lo m0), cnt_three_eq (p1.imp (fun h => q64 h) id) (p2.imp id fun h => ⟨(r4096 h.1).1, (s4096 h.2).1, (r4096 h.1).2, (s4096 h.2).2⟩), ← split3, ← split3]
theorem four_count {u v : Int} (h2 : 65536 ≤ u) (h1 : u ≤ v) (h3 : v ≤ 1114111) (hp : ¬ 0 < cutAt ((encP u).length - 1) 64 u v) : (zipR (encP u) (encP v)).foldl stepW 1 = v - u + 1 := by
  rw [enc_4 h2 (Int.le_trans h1 h3)] at hp
  obtain ⟨p1, p2, p3⟩ := place_4 (a := u) (b := v) hp (Int.le_trans (by decide) h2) h1
  obtain ⟨q1, q2, q3, q4⟩ := four_back p1 p2 p3 (Int.le_refl u) h1
  rw [enc_4 h2 (Int.le_trans h1 h3), enc_4 (Int.le_trans h2 h1) h3]
  simp only [zipR, List.foldl_cons, List.foldl_nil]
  have b3 : 0 ≤ u / 262144 ∧ v / 262144 ≤ 4 := by clear p1 p2 p3 hp q1 q2 q3 q4; omega
  rw [cnt_4 (by clear p1 p2 p3 hp q2 q3 q4; unfold Dg; omega) (dg_lo q2.2) (dg_lo q3.2) (dg_lo q4.2),
    cnt_four_eq (p1.imp (fun h => ⟨(q4096 (q64 h).1).1, (q4096 (q64 h).1).2, (q64 h).2⟩) id) (p2.imp (fun h => q4096 h) fun h => ⟨(r4096 h.1).1, (s4096 h.2).1, (r4096 h.1).2, (s4096 h.2).2⟩)
      (p3.imp id fun h => ⟨(r262144 h.1).1, (s262144 h.2).1, (r4096 (r262144 h.1).2).1, (s4096 (s262144 h.2).2).1, (r4096 (r262144 h.1).2).2, (s4096 (s262144 h.2).2).2⟩), ← split4, ← split4]
theorem part_count {s : S43} (h : Cls s) (hp : ¬ 0 < placeP s) : (rowP s).foldl stepW 1 = s.f1 - s.f0 + 1 := by
  unfold rowP
  unfold placeP at hp
  obtain ⟨h0, h1, h2 | ⟨h2, h3⟩ | ⟨h2, h3⟩ | ⟨h2, h3⟩ | ⟨h2, h3⟩⟩ := h
  · rw [enc_1 h0 (by omega), enc_1 (by omega) (by omega)]
    simp only [zipR, List.foldl_cons, List.foldl_nil]
    exact cnt_1 ⟨h0, h1, by omega⟩
  · exact two_count h2 h1 (by omega) hp
  · exact three_count h2 h1 (by omega) (.inl h3) hp
  · exact three_count (by omega) h1 h3 (.inr h2) hp
  · exact four_count h2 h1 h3 hp
theorem sumS_nn (l : List S43) (h : ∀ s ∈ l, s.f0 ≤ s.f1) : 0 ≤ sumS l := by
  induction l with
  | nil => simp [sumS]
  | cons s l ih =>
    have h1 := h s List.mem_cons_self
    have h2 := ih (fun x hx => h x (List.mem_cons_of_mem _ hx))
    simp only [sumS]; omega
theorem cnt_parts : ∀ (ps : List S43) (n : Int), (∀ s ∈ ps, Cls s ∧ ¬ 0 < placeP s) → 0 ≤ n → n + sumS ps ≤ 1000000000000 → cntW (ps.map rowP) n = n + sumS ps
  | [], n, _, _, _ => by simp [cntW, sumS]
  | s :: ps, n, h, h0, h1 => by
    have hs := h s List.mem_cons_self
    have hn := sumS_nn ps (fun x hx => (h x (List.mem_cons_of_mem _ hx)).1.bd.2.1)
    have hb := hs.1.bd
    simp only [sumS] at h1
    have := cnt_parts ps (n + (s.f1 - s.f0 + 1)) (fun x hx => h x (List.mem_cons_of_mem _ hx)) (by omega) (by omega)
    rw [List.map_cons, cntW, List.foldl_cons, part_count hs.1 hs.2, wrap_in (by omega) (by omega)]
    rw [cntW] at this
    rw [this]
    simp only [sumS]; omega
theorem sizeW_sum : ∀ (l : List S43) (n : Int), (∀ s ∈ l, Ok s) → 0 ≤ n → n + sumS l ≤ 1000000000000 → sizeW l n = n + sumS l
  | [], n, _, _, _ => by simp [sizeW, sumS]
  | s :: l, n, h, h0, h1 => by
    have hs := h s List.mem_cons_self
    have hn := sumS_nn l (fun x hx => (h x (List.mem_cons_of_mem _ hx)).1)
    unfold Ok at hs
    simp only [sumS] at h1
    have := sizeW_sum l (n + (s.f1 - s.f0 + 1)) (fun x hx => h x (List.mem_cons_of_mem _ hx)) (by omega) (by omega)
    rw [sizeW, List.foldl_cons, wrap_in (i := s.f1 - s.f0) (by omega) (by omega), wrap_in (i := s.f1 - s.f0 + 1) (by omega) (by omega), wrap_in (by omega) (by omega)]
    rw [sizeW] at this
    rw [this]
    simp only [sumS]; omega
theorem sumS_nf : ∀ (l : List S43) (lo : Int), Nf l → (∀ s ∈ l, lo ≤ s.f0) → lo ≤ 1114112 → sumS l ≤ 1114112 - lo
  | [], lo, _, _, h => by simp only [sumS]; omega
  | s :: l, lo, h, h1, h2 => by
    have hs := h.1 s List.mem_cons_self
    unfold Ok at hs
    have := sumS_nf l (s.f1 + 1) h.tail (fun x hx => by have := (List.pairwise_cons.1 h.2).1 x hx; omega) (by omega)
    have h3 := h1 s List.mem_cons_self
    simp only [sumS]; omega
/-- As many rows of bytes as scalars. -/
theorem of_count (l : List S43) : cntW (ofP l) 0 = sizeW (normP l) 0 := by
  have hn := normP_nf l
  have hc := flat_cls hn.1
  have hb := sumS_nf (normP l) 0 hn (fun s hs => by have := hn.1 s hs; unfold Ok at this; omega) (by omega)
  have e : sumS (partsP ((normP l).flatMap sizesP)) = sumS (normP l) := by rw [parts_sum _ hc, flat_sum _ hn.1]
  unfold ofP
  rw [cnt_parts _ 0 (parts_ok _ hc) (by omega) (by omega), sizeW_sum _ 0 hn.1 (by omega) (by omega), e]
theorem row_len (s : S43) : (rowP s).length ≤ 4 := by
  have h1 := enc_len s.f0
  have : ∀ a b : List Int, (zipR a b).length ≤ a.length := by
    intro a
    induction a with
    | nil => intro b; simp [zipR]
    | cons x a ih => intro b; cases b with
      | nil => simp [zipR]
      | cons y b => have := ih b; simp only [zipR, List.length_cons]; omega
  have := this (encP s.f0) (encP s.f1)
  unfold rowP
  omega
theorem sum_len (l : List S43) (h : ∀ s ∈ l, s.f0 ≤ s.f1) : (l.length : Int) ≤ sumS l := by
  induction l with
  | nil => simp [sumS]
  | cons s l ih =>
    have h1 := h s List.mem_cons_self
    have h2 := ih (fun x hx => h x (List.mem_cons_of_mem _ hx))
    simp only [sumS, List.length_cons]; omega
theorem of_len (l : List S43) : (ofP l).length ≤ 1114112 := by
  have hn := normP_nf l
  have hc := flat_cls hn.1
  have hb := sumS_nf (normP l) 0 hn (fun s hs => by have := hn.1 s hs; unfold Ok at this; omega) (by omega)
  have e : sumS (partsP ((normP l).flatMap sizesP)) = sumS (normP l) := by rw [parts_sum _ hc, flat_sum _ hn.1]
  have h1 := sum_len (partsP ((normP l).flatMap sizesP)) (fun s hs => (parts_ok _ hc s hs).1.bd.2.1)
  unfold ofP
  rw [List.length_map]
  omega
theorem of_row {l : List S43} {r : List S57} (h : r ∈ ofP l) : r.length ≤ 4 := by
  unfold ofP at h
  obtain ⟨s, _, rfl⟩ := List.mem_map.1 h
  exact row_len s
end
end Go.Proofs.Ytbhfaeliklaffaa.P
