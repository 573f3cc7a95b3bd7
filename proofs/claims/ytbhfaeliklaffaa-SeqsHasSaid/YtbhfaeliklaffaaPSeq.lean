/- Scalars as bytes, and where a span is cut: the plain side. -/
import Derived.Test.YtbhfaeliklaffaaPx0
import Derived.Test.YtbhfaeliklaffaaPx9
import Derived.Test.YtbhfaeliklaffaaPx8
import Derived.Test.YtbhfaeliklaffaaPx12
import Derived.Test.YtbhfaeliklaffaaGEnc
import Derived.Test.YtbhfaeliklaffaaPBase
import Derived.Laws.BitsLemmas
namespace Go.Proofs.Ytbhfaeliklaffaa.P
set_option linter.unusedVariables false
set_option linter.unusedSimpArgs false
section
open Go.RowKit Go.Proofs.YtbhfaeliklaffaaW.PrintWords Go.Proofs.YtbhfaeliklaffaaW.PrintLast Go.Proofs.YtbhfaeliklaffaaW.PrintMore
theorem not_mask (i : Nat) (a : Nat) (ha : a < 2 ^ 32) : bits .andNot .i64 (a : Int) ((2 ^ i - 1 : Nat) : Int) = ((a / 2 ^ i * 2 ^ i : Nat) : Int) := by
  have h1 : (BitVec.ofInt 64 (a : Int) &&& ~~~ BitVec.ofInt 64 (((2 ^ i - 1 : Nat)) : Int)) = BitVec.ofNat 64 (a / 2 ^ i * 2 ^ i) := by
    apply BitVec.eq_of_getLsbD_eq
    intro j hj
    simp only [BitVec.ofInt_natCast, BitVec.getLsbD_and, BitVec.getLsbD_not, BitVec.getLsbD_ofNat, hj, decide_true, Bool.true_and]
    rw [Nat.testBit_two_pow_sub_one, Nat.testBit_mul_two_pow, Nat.testBit_div_two_pow]
    by_cases c : j < i
    · rw [decide_eq_true c, decide_eq_false (by omega)]; simp
    · rw [decide_eq_false c, decide_eq_true (show i ≤ j by omega), show j - i + i = j by omega]; simp
  have h2 : a / 2 ^ i * 2 ^ i ≤ a := Nat.div_mul_le_self a _
  show IntKind.i64.wrap (BitVec.ofInt 64 (a : Int) &&& ~~~ BitVec.ofInt 64 (((2 ^ i - 1 : Nat)) : Int)).toNat = _
  rw [h1, BitVec.toNat_ofNat, Nat.mod_eq_of_lt (by omega)]
  rw [IntKind.wrap_i64]
  omega
theorem wraps_i64 (n : Int) (h0 : 0 ≤ n) (h1 : n < 2 ^ 62) : IntKind.i64.wrap n = n := by rw [IntKind.wrap_i64]; omega
theorem or_mask (i : Nat) (hi : i ≤ 32) (a : Nat) (ha : a < 2 ^ 32) : bits .or .i64 (a : Int) ((2 ^ i - 1 : Nat) : Int) = ((a / 2 ^ i * 2 ^ i + (2 ^ i - 1) : Nat) : Int) := by
  have hp : 0 < 2 ^ i := Nat.two_pow_pos i
  have hle : 2 ^ i ≤ 2 ^ 32 := Nat.pow_le_pow_right (by decide) hi
  rw [(bits_nat .i64 62 (by decide) wraps_i64 a (2 ^ i - 1) (by omega) (by omega)).2]
  congr 1
  rw [Nat.mul_comm, Nat.two_pow_add_eq_or_of_lt (by omega)]
  apply Nat.eq_of_testBit_eq
  intro j
  rw [Nat.testBit_or, Nat.testBit_or, Nat.testBit_two_pow_sub_one, Nat.testBit_two_pow_mul, Nat.testBit_div_two_pow]
  by_cases c : j < i
  · rw [decide_eq_true c]; simp
  · rw [decide_eq_false c, decide_eq_true (show j ≥ i by omega), show j - i + i = j by omega]; simp
theorem and_mask (i : Nat) (hi : i ≤ 32) (a : Nat) (ha : a < 2 ^ 32) : bits .and .i64 (a : Int) ((2 ^ i - 1 : Nat) : Int) = ((a % 2 ^ i : Nat) : Int) := by
  have hp : 0 < 2 ^ i := Nat.two_pow_pos i
  have hle : 2 ^ i ≤ 2 ^ 32 := Nat.pow_le_pow_right (by decide) hi
  rw [(bits_nat .i64 62 (by decide) wraps_i64 a (2 ^ i - 1) (by omega) (by omega)).1, Nat.and_two_pow_sub_one_eq_mod]
def cutAt : Nat → Int → Int → Int → Int
  | 0, _, _, _ => 0
  | j + 1, m, a, b => if a / m = b / m then cutAt j (m * 64) a b else if a % m = 0 then (if b % m = m - 1 then cutAt j (m * 64) a b else b / m * m) else a / m * m + m
/-- Where a span is cut in two; 0: nowhere. -/
def placeP (s : S43) : Int := cutAt ((encP s.f0).length - 1) 64 s.f0 s.f1
theorem place_step (i : Nat) (hi : i ≤ 32) (j : Nat) (k : Nat) (n a b : Int) (low : Int) (hlow : wrap64 (shl .i64 1 (wrap64 (6 * (j : Int))) - 1) = low) (hl : low = ((2 ^ i - 1 : Nat) : Int)) (h6 : 0 ≤ wrap64 (6 * (j : Int)))
    (hj : (j : Int) < n) (ha : 0 ≤ a) (ha2 : a ≤ 1114111) (hb : 0 ≤ b) (hb2 : b ≤ 1114111) (hj2 : wrap64 ((j : Int) + 1) = (j : Int) + 1) :
    seqs_place.l0 (k + 1) n (j : Int) a b = if a / 2 ^ i = b / 2 ^ i then seqs_place.l0 k n ((j : Int) + 1) a b else if a % 2 ^ i = 0 then (if b % 2 ^ i = 2 ^ i - 1 then seqs_place.l0 k n ((j : Int) + 1) a b else some (b / 2 ^ i * 2 ^ i)) else some (a / 2 ^ i * 2 ^ i + 2 ^ i) := by
  obtain ⟨A, rfl⟩ := Int.eq_ofNat_of_zero_le ha
  obtain ⟨B, rfl⟩ := Int.eq_ofNat_of_zero_le hb
  have hp : 0 < 2 ^ i := Nat.two_pow_pos i
  have hle : 2 ^ i ≤ 2 ^ 32 := Nat.pow_le_pow_right (by decide) hi
  have hA : A < 2 ^ 32 := by omega
  have hB : B < 2 ^ 32 := by omega
  have e1 := not_mask i A hA
  have e2 := not_mask i B hB
  have e3 := and_mask i hi A hA
  have e4 := and_mask i hi B hB
  have e5 := or_mask i hi A hA
  have dA : A / 2 ^ i * 2 ^ i ≤ A := Nat.div_mul_le_self A _
  rw [seqs_place.l0, if_pos hj, if_pos h6, hlow, hl, e1, e2, e3, e4, e5, hj2]
  have hw : wrap64 (((A / 2 ^ i * 2 ^ i + (2 ^ i - 1) : Nat) : Int) + 1) = (A : Int) / 2 ^ i * 2 ^ i + 2 ^ i := by
    rw [show wrap64 (((A / 2 ^ i * 2 ^ i + (2 ^ i - 1) : Nat) : Int) + 1) = ((A / 2 ^ i * 2 ^ i + (2 ^ i - 1) : Nat) : Int) + 1 by unfold wrap64; omega]
    push_cast
    rw [Int.natCast_sub hp]
    push_cast
    omega
  rw [hw]
  have c1 : (((A / 2 ^ i * 2 ^ i : Nat) : Int) = ((B / 2 ^ i * 2 ^ i : Nat) : Int)) ↔ (A : Int) / 2 ^ i = (B : Int) / 2 ^ i := by
    constructor
    · intro h
      have h2 : A / 2 ^ i * 2 ^ i = B / 2 ^ i * 2 ^ i := by exact_mod_cast h
      have h3 := Nat.eq_of_mul_eq_mul_right hp h2
      exact_mod_cast h3
    · intro h
      have h3 : A / 2 ^ i = B / 2 ^ i := by exact_mod_cast h
      rw [h3]
  have c2 : (((A % 2 ^ i : Nat) : Int) = 0) ↔ (A : Int) % 2 ^ i = 0 := by push_cast; exact Iff.rfl
  have c3 : (((B % 2 ^ i : Nat) : Int) = ((2 ^ i - 1 : Nat) : Int)) ↔ (B : Int) % 2 ^ i = 2 ^ i - 1 := by rw [Int.natCast_sub hp]; push_cast; exact Iff.rfl
  have c4 : ((B / 2 ^ i * 2 ^ i : Nat) : Int) = (B : Int) / 2 ^ i * 2 ^ i := by push_cast; rfl
  rw [c4]
  by_cases d1 : (A : Int) / 2 ^ i = (B : Int) / 2 ^ i
  · rw [← c4, if_pos (c1.2 d1), if_pos d1]
  · rw [← c4, if_neg (fun h => d1 (c1.1 h)), if_neg d1]
    by_cases d2 : (A : Int) % 2 ^ i = 0
    · rw [if_pos (c2.2 d2), if_pos d2]
      by_cases d3 : (B : Int) % 2 ^ i = 2 ^ i - 1
      · rw [if_pos (c3.2 d3), if_pos d3]
      · rw [if_neg (fun h => d3 (c3.1 h)), if_neg d3]
    · rw [if_neg (fun h => d2 (c2.1 h)), if_neg d2]
theorem place_go (i j n : Nat) (M a b : Int) (hi : i ≤ 32) (hM : (2 : Int) ^ i = M) (hlow : wrap64 (shl .i64 1 (wrap64 (6 * (j : Int))) - 1) = M - 1) (h6 : 0 ≤ wrap64 (6 * (j : Int))) (hj2 : wrap64 ((j : Int) + 1) = (j : Int) + 1)
    (ha : 0 ≤ a) (ha2 : a ≤ 1114111) (hb : 0 ≤ b) (hb2 : b ≤ 1114111) (hn : j < n → Ev (fun k => seqs_place.l0 k (n : Int) (j + 1 : Nat) a b) (cutAt (n - (j + 1)) (M * 64) a b)) :
    Ev (fun k => seqs_place.l0 k (n : Int) (j : Int) a b) (cutAt (n - j) M a b) := by
  by_cases c : j < n
  · have h := hn c
    obtain ⟨d, hd⟩ : ∃ d, n - j = d + 1 := ⟨n - j - 1, by omega⟩
    have e : ((2 ^ i - 1 : Nat) : Int) = M - 1 := by rw [Int.natCast_sub (Nat.two_pow_pos i)]; push_cast; rw [hM]
    rw [hd]
    refine Ev.step (fun k => place_step i hi j k n a b (M - 1) hlow e.symm h6 (by omega) ha ha2 hb hb2 hj2) ?_
    rw [hM]
    unfold cutAt
    rw [show n - (j + 1) = d by omega] at h
    push_cast at h
    by_cases c1 : a / M = b / M
    · rw [if_pos c1]; exact Ev.pos c1 h
    · rw [if_neg c1]
      refine Ev.neg c1 ?_
      by_cases c2 : a % M = 0
      · rw [if_pos c2]
        refine Ev.pos c2 ?_
        by_cases c3 : b % M = M - 1
        · rw [if_pos c3]; exact Ev.pos c3 h
        · rw [if_neg c3]; exact Ev.neg c3 (Ev.now _)
      · rw [if_neg c2]
        exact Ev.neg c2 (Ev.now _)
  · rw [show n - j = 0 by omega]
    unfold cutAt
    refine Ev.step (fun k => by rw [seqs_place.l0]) (Ev.neg (by omega) (Ev.now _))
theorem seq_place (a b : Int) (h0 : 0 ≤ a) (h1 : a ≤ 1114111) (h2 : 0 ≤ b) (h3 : b ≤ 1114111) : Ev (fun k => seqs_place.f k a b) (placeP ⟨a, b⟩) := by
  unfold seqs_place.f placeP
  refine Ev.bindc (show utf_Encode.f a = some (encP a) from rfl) ?_
  have hl := enc_len a
  obtain ⟨n, hn⟩ : ∃ n, (encP a).length = n := ⟨_, rfl⟩
  simp only [hn]
  rw [hn] at hl
  have k4 : Ev (fun k => seqs_place.l0 k (n : Int) ((3 + 1 : Nat) : Int) a b) (cutAt (n - (3 + 1)) (262144 * 64) a b) := by
    rw [show n - (3 + 1) = 0 by omega]
    unfold cutAt
    refine Ev.step (fun k => by rw [seqs_place.l0]) (Ev.neg (by omega) (Ev.now _))
  have k3 := place_go 18 3 n 262144 a b (by decide) (by decide) (by decide +kernel) (by decide +kernel) (by decide +kernel) h0 h1 h2 h3 (fun _ => k4)
  have k2 := place_go 12 2 n 4096 a b (by decide) (by decide) (by decide +kernel) (by decide +kernel) (by decide +kernel) h0 h1 h2 h3 (fun _ => k3)
  exact place_go 6 1 n 64 a b (by decide) (by decide) (by decide +kernel) (by decide +kernel) (by decide +kernel) h0 h1 h2 h3 (fun _ => k2)
def Cls (s : S43) : Prop := 0 ≤ s.f0 ∧ s.f0 ≤ s.f1 ∧ (s.f1 ≤ 127 ∨ (128 ≤ s.f0 ∧ s.f1 ≤ 2047) ∨ (2048 ≤ s.f0 ∧ s.f1 ≤ 55295) ∨ (57344 ≤ s.f0 ∧ s.f1 ≤ 65535) ∨ (65536 ≤ s.f0 ∧ s.f1 ≤ 1114111))
theorem Cls.len {s : S43} (h : Cls s) : (encP s.f0).length = (encP s.f1).length := by
  obtain ⟨h0, h1, h | h | h | h | h⟩ := h
  · rw [enc_1 h0 (by omega), enc_1 (by omega) (by omega)]; rfl
  · rw [enc_2 (by omega) (by omega), enc_2 (by omega) (by omega)]; rfl
  · rw [enc_3 (by omega) (by omega) (by omega), enc_3 (by omega) (by omega) (by omega)]; rfl
  · rw [enc_3 (by omega) (by omega) (by omega), enc_3 (by omega) (by omega) (by omega)]; rfl
  · rw [enc_4 (by omega) (by omega), enc_4 (by omega) (by omega)]; rfl
theorem Cls.bd {s : S43} (h : Cls s) : 0 ≤ s.f0 ∧ s.f0 ≤ s.f1 ∧ s.f1 ≤ 1114111 := by unfold Cls at h; omega
theorem cut_in (n : Nat) (hn : n ≤ 3) (a b : Int) (h0 : 0 ≤ a) (h1 : a ≤ b) : cutAt n 64 a b = 0 ∨ (a < cutAt n 64 a b ∧ cutAt n 64 a b ≤ b) := by
  rcases (show n = 0 ∨ n = 1 ∨ n = 2 ∨ n = 3 by omega) with rfl | rfl | rfl | rfl
  · exact .inl rfl
  · simp only [cutAt]; repeat' split
    all_goals omega
  · simp only [cutAt]; repeat' split
    all_goals omega
  · simp only [cutAt]; repeat' split
    all_goals omega
theorem place_in {s : S43} (h : Cls s) : placeP s = 0 ∨ (s.f0 < placeP s ∧ placeP s ≤ s.f1) := by
  have := enc_len s.f0
  exact cut_in _ (by omega) _ _ h.bd.1 h.bd.2.1
theorem Cls.cut {s : S43} (h : Cls s) (hp : 0 < placeP s) : Cls ⟨s.f0, placeP s - 1⟩ ∧ Cls ⟨placeP s, s.f1⟩ := by
  have := place_in h
  unfold Cls at h ⊢
  simp only
  omega
def wt (s : S43) : Nat := 2 * (s.f1 - s.f0).toNat + 1
def wts : List S43 → Nat
  | [] => 0
  | s :: l => wt s + wts l
def partsD : Nat → List S43 → List S43
  | 0, _ => []
  | _ + 1, [] => []
  | n + 1, s :: st => if 0 < placeP s then partsD n (⟨s.f0, placeP s - 1⟩ :: ⟨placeP s, s.f1⟩ :: st) else s :: partsD n st
def partsP (l : List S43) : List S43 := partsD (wts l) l
theorem wt_cut {s : S43} (h : Cls s) (hp : 0 < placeP s) : wt ⟨s.f0, placeP s - 1⟩ + wt ⟨placeP s, s.f1⟩ + 1 ≤ wt s := by
  have := place_in h
  unfold wt
  simp only
  omega
theorem partsD_enough : ∀ (n m : Nat) (st : List S43), (∀ s ∈ st, Cls s) → wts st ≤ n → wts st ≤ m → partsD n st = partsD m st
  | 0, 0, _, _, _, _ => rfl
  | n, m, [], _, _, _ => by cases n <;> cases m <;> rfl
  | 0, m + 1, s :: st, _, h, _ => by unfold wts wt at h; omega
  | n + 1, 0, s :: st, _, _, h => by unfold wts wt at h; omega
  | n + 1, m + 1, s :: st, hc, h1, h2 => by
    have hs := hc s List.mem_cons_self
    unfold partsD
    by_cases c : 0 < placeP s
    · rw [if_pos c, if_pos c]
      have hw := wt_cut hs c
      have hk := hs.cut c
      refine partsD_enough n m _ (fun x hx => ?_) ?_ ?_
      · rcases List.mem_cons.1 hx with rfl | hx
        · exact hk.1
        · rcases List.mem_cons.1 hx with rfl | hx
          · exact hk.2
          · exact hc x (List.mem_cons_of_mem _ hx)
      · simp only [wts] at h1 ⊢; omega
      · simp only [wts] at h2 ⊢; omega
    · rw [if_neg c, if_neg c]
      congr 1
      refine partsD_enough n m _ (fun x hx => hc x (List.mem_cons_of_mem _ hx)) ?_ ?_
      · simp only [wts, wt] at h1 ⊢; omega
      · simp only [wts, wt] at h2 ⊢; omega
theorem parts_nil : partsP [] = [] := rfl
theorem parts_cut {s : S43} {st : List S43} (hc : ∀ x ∈ s :: st, Cls x) (hp : 0 < placeP s) : partsP (s :: st) = partsP (⟨s.f0, placeP s - 1⟩ :: ⟨placeP s, s.f1⟩ :: st) := by
  have hs := hc s List.mem_cons_self
  have hw := wt_cut hs hp
  have hk := hs.cut hp
  obtain ⟨n, hn⟩ : ∃ n, wts (s :: st) = n + 1 := ⟨wts (s :: st) - 1, by simp only [wts, wt]; omega⟩
  unfold partsP
  rw [hn, partsD, if_pos hp]
  refine partsD_enough _ _ _ (fun x hx => ?_) ?_ (Nat.le_refl _)
  · rcases List.mem_cons.1 hx with rfl | hx
    · exact hk.1
    · rcases List.mem_cons.1 hx with rfl | hx
      · exact hk.2
      · exact hc x (List.mem_cons_of_mem _ hx)
  · simp only [wts] at hn ⊢; omega
theorem parts_keep {s : S43} {st : List S43} (hc : ∀ x ∈ s :: st, Cls x) (hp : ¬ 0 < placeP s) : partsP (s :: st) = s :: partsP st := by
  obtain ⟨n, hn⟩ : ∃ n, wts (s :: st) = n + 1 := ⟨wts (s :: st) - 1, by simp only [wts, wt]; omega⟩
  unfold partsP
  rw [hn, partsD, if_neg hp]
  congr 1
  exact partsD_enough _ _ _ (fun x hx => hc x (List.mem_cons_of_mem _ hx)) (by simp only [wts, wt] at hn ⊢; omega) (Nat.le_refl _)
theorem partsD_cls : ∀ (n : Nat) (st : List S43), (∀ s ∈ st, Cls s) → ∀ x ∈ partsD n st, Cls x ∧ placeP x = 0
  | 0, _, _, x, hx => by simp [partsD] at hx
  | n + 1, [], _, x, hx => by simp [partsD] at hx
  | n + 1, s :: st, hc, x, hx => by
    have hs := hc s List.mem_cons_self
    unfold partsD at hx
    by_cases c : 0 < placeP s
    · rw [if_pos c] at hx
      have hk := hs.cut c
      refine partsD_cls n _ (fun x hx => ?_) x hx
      rcases List.mem_cons.1 hx with rfl | hx
      · exact hk.1
      · rcases List.mem_cons.1 hx with rfl | hx
        · exact hk.2
        · exact hc x (List.mem_cons_of_mem _ hx)
    · rw [if_neg c] at hx
      rcases List.mem_cons.1 hx with rfl | hx
      · exact ⟨hs, by have := place_in hs; have := hs.bd; omega⟩
      · exact partsD_cls n _ (fun x hx => hc x (List.mem_cons_of_mem _ hx)) x hx
theorem partsD_len : ∀ (n : Nat) (st : List S43), (partsD n st).length ≤ n
  | 0, _ => by simp [partsD]
  | n + 1, [] => by simp [partsD]
  | n + 1, s :: st => by
    unfold partsD
    split
    · have := partsD_len n (⟨s.f0, placeP s - 1⟩ :: ⟨placeP s, s.f1⟩ :: st); omega
    · have := partsD_len n st; simp only [List.length_cons]; omega
theorem wts_le (l : List S43) (h : ∀ s ∈ l, Cls s) : wts l ≤ l.length * 2228223 := by
  induction l with
  | nil => simp [wts]
  | cons s l ih =>
    have h1 := (h s List.mem_cons_self).bd
    have h2 := ih (fun x hx => h x (List.mem_cons_of_mem _ hx))
    simp only [wts, wt, List.length_cons, Nat.add_mul]
    omega
theorem wts_len (l : List S43) : l.length ≤ wts l := by
  induction l with
  | nil => simp
  | cons s l ih => simp only [wts, wt, List.length_cons]; omega
def sizesP (s : S43) : List S43 := oneP ⟨mx s.f0 0, mn s.f1 127⟩ ++ oneP ⟨mx s.f0 128, mn s.f1 2047⟩ ++ oneP ⟨mx s.f0 2048, mn s.f1 65535⟩ ++ oneP ⟨mx s.f0 65536, mn s.f1 1114111⟩
theorem oneP_len (x : S43) : (oneP x).length ≤ 1 := by unfold oneP; split <;> simp
theorem sizes_len (s : S43) : (sizesP s).length ≤ 4 := by
  unfold sizesP
  have h1 := oneP_len ⟨mx s.f0 0, mn s.f1 127⟩
  have h2 := oneP_len ⟨mx s.f0 128, mn s.f1 2047⟩
  have h3 := oneP_len ⟨mx s.f0 2048, mn s.f1 65535⟩
  have h4 := oneP_len ⟨mx s.f0 65536, mn s.f1 1114111⟩
  simp only [List.length_append]; omega
theorem flat_sizes_len (l : List S43) : (l.flatMap sizesP).length ≤ 4 * l.length := by
  induction l with
  | nil => simp
  | cons s l ih => have := sizes_len s; simp only [List.flatMap_cons, List.length_append, List.length_cons]; omega
theorem mem_oneP' {x y : S43} (h : x ∈ oneP y) : x = y ∧ y.f0 ≤ y.f1 := by
  unfold oneP at h
  split at h
  · exact ⟨List.mem_singleton.1 h, by assumption⟩
  · simp at h
theorem sizes_cls {s x : S43} (h : Ok s) (hx : x ∈ sizesP s) : Cls x := by
  unfold sizesP at hx
  unfold Ok at h
  simp only [List.mem_append] at hx
  rcases hx with ((hx | hx) | hx) | hx
  all_goals
    obtain ⟨rfl, hle⟩ := mem_oneP' hx
    unfold Cls
    simp only at hle ⊢
  · have a := mx_sp s.f0 0
    have b := mn_sp s.f1 127
    omega
  · have a := mx_sp s.f0 128
    have b := mn_sp s.f1 2047
    omega
  · have a := mx_sp s.f0 2048
    have b := mn_sp s.f1 65535
    omega
  · have a := mx_sp s.f0 65536
    have b := mn_sp s.f1 1114111
    omega
theorem limits_f : seqs_limits.f = some [127, 2047, 65535, 1114111] := rfl
theorem bySize_l1 (l : List S43) (a b : Int) (n i : Nat) (ha : 0 ≤ a) (ha2 : a ≤ 1114111) (hb : 0 ≤ b) (hb2 : b ≤ 1114111) (out : List S43) (ho : out.length ≤ 1000000) {r : List S43}
    (h : Ev (fun k => seqs_bySize.l0 k (out ++ sizesP ⟨a, b⟩) l (n : Int) (wrap64 ((i : Int) + 1))) r) (hi1 : i < l.length) :
    Ev (fun k => seqs_bySize.l1 k out 0 l (n : Int) (i : Int) [127, 2047, 65535, 1114111] (([127, 2047, 65535, 1114111] : List Int).length : Int) 0 a b) r := by
  have one : ∀ (o : List S43) (from_ to_ x y : Int) (f : Nat → List S43 → Option (List S43)), o.length ≤ 1000010 →
      Ev (fun k => f k (o ++ oneP ⟨mx a from_, mn b to_⟩)) r →
      Ev (fun k => if mx a from_ ≤ mn b to_ then (if o.length < 8796093022208 then f k (o ++ [⟨mx a from_, mn b to_⟩]) else none) else f k o) r := by
    intro o from_ to_ x y f hl hf
    unfold oneP at hf
    by_cases c : mx a from_ ≤ mn b to_
    · rw [if_pos c] at hf
      exact Ev.pos c (Ev.pos (by omega) hf)
    · rw [if_neg c, List.append_nil] at hf
      exact Ev.neg c hf
  have len1 : ∀ x : S43, (oneP x).length ≤ 1 := oneP_len
  have r0 : rd [127, 2047, 65535, 1114111] 0 = 127 := rfl
  have r1 : rd [127, 2047, 65535, 1114111] 1 = 2047 := rfl
  have r2 : rd [127, 2047, 65535, 1114111] 2 = 65535 := rfl
  have r3 : rd [127, 2047, 65535, 1114111] 3 = 1114111 := rfl
  have w1 : wrap64 (0 + 1) = 1 := wrap_in (by decide) (by decide)
  have w2 : wrap64 (1 + 1) = 2 := wrap_in (by decide) (by decide)
  have w3 : wrap64 (2 + 1) = 3 := wrap_in (by decide) (by decide)
  have w4 : wrap64 (3 + 1) = 4 := wrap_in (by decide) (by decide)
  have f1 : wrap64 (127 + 1) = 128 := wrap_in (by decide) (by decide)
  have f2 : wrap64 (2047 + 1) = 2048 := wrap_in (by decide) (by decide)
  have f3 : wrap64 (65535 + 1) = 65536 := wrap_in (by decide) (by decide)
  have e4 : (([127, 2047, 65535, 1114111] : List Int).length : Int) = 4 := rfl
  rw [e4]
  refine Ev.step (fun k => by rw [seqs_bySize.l1, e4, r0, f1, w1]) (Ev.pos (by decide) (Ev.pos (by decide) (Ev.pos (by decide) ?_)))
  refine one _ 0 127 0 0 (fun k o => seqs_bySize.l1 k o _ _ _ _ _ _ _ _ _) (by omega) ?_
  refine Ev.step (fun k => by rw [seqs_bySize.l1, e4, r1, f2, w2]) (Ev.pos (by decide) (Ev.pos (by decide) (Ev.pos (by decide) ?_)))
  refine one _ 128 2047 0 0 (fun k o => seqs_bySize.l1 k o _ _ _ _ _ _ _ _ _) (by have := len1 ⟨mx a 0, mn b 127⟩; simp only [List.length_append]; omega) ?_
  refine Ev.step (fun k => by rw [seqs_bySize.l1, e4, r2, f3, w3]) (Ev.pos (by decide) (Ev.pos (by decide) (Ev.pos (by decide) ?_)))
  refine one _ 2048 65535 0 0 (fun k o => seqs_bySize.l1 k o _ _ _ _ _ _ _ _ _) (by have := len1 ⟨mx a 0, mn b 127⟩; have := len1 ⟨mx a 128, mn b 2047⟩; simp only [List.length_append]; omega) ?_
  refine Ev.step (fun k => by rw [seqs_bySize.l1, e4, r3, w4]) (Ev.pos (by decide) (Ev.pos (by decide) (Ev.pos (by decide) ?_)))
  refine one _ 65536 1114111 0 0 (fun k o => seqs_bySize.l1 k o _ _ _ _ _ _ _ _ _) (by have := len1 ⟨mx a 0, mn b 127⟩; have := len1 ⟨mx a 128, mn b 2047⟩; have := len1 ⟨mx a 2048, mn b 65535⟩; simp only [List.length_append]; omega) ?_
  refine Ev.step (fun k => by rw [seqs_bySize.l1]) (Ev.neg (by decide) ?_)
  unfold sizesP at h
  simpa [List.append_assoc] using h
theorem seq_bySize (l : List S43) (hl : l.length ≤ 10000) (hn : Nf l) : Ev (fun k => seqs_bySize.f k l) (l.flatMap sizesP) := by
  have l0 : ∀ (d i : Nat) (out : List S43), l.length - i = d → i ≤ l.length → out.length ≤ 4 * i → Ev (fun k => seqs_bySize.l0 k out l (l.length : Int) (i : Int)) (out ++ (l.drop i).flatMap sizesP) := by
    intro d
    induction d with
    | zero =>
      intro i out hd hi ho
      rw [List.drop_of_length_le (by omega)]
      refine Ev.step (fun k => by rw [seqs_bySize.l0]) (Ev.neg (by omega) ?_)
      simpa using Ev.now out
    | succ d ih =>
      intro i out hd hi ho
      have hlt : i < l.length := by omega
      have hs := hn.1 _ (List.getElem_mem hlt)
      unfold Ok at hs
      have hz := sizes_len l[i]
      refine Ev.step (fun k => by rw [seqs_bySize.l0]) (Ev.pos (by omega) (Ev.pos (by omega) (Ev.pos (by omega) (Ev.bindc limits_f ?_))))
      rw [rd_get l i hlt, List.drop_eq_getElem_cons hlt, List.flatMap_cons, ← List.append_assoc]
      refine bySize_l1 l _ _ l.length i (by omega) (by omega) (by omega) (by omega) out (by omega) ?_ hlt
      rw [wrap_in (by omega) (by omega)]
      exact ih (i + 1) _ (by omega) (by omega) (by simp only [List.length_append]; have : (⟨l[i].f0, l[i].f1⟩ : S43) = l[i] := rfl; rw [this]; omega)
  have := l0 l.length 0 [] (by omega) (by omega) (by simp)
  simpa [seqs_bySize.f] using this
end
section
open Go.RowKit Go.Proofs.YtbhfaeliklaffaaW.PrintWords Go.Proofs.YtbhfaeliklaffaaW.PrintLast Go.Proofs.YtbhfaeliklaffaaW.PrintMore
theorem rev_at (l : List S43) (hl : l.length ≤ 1000000) : ∀ (d i : Nat) (x : List S43), l.length - 2 * i = d → i ≤ l.length → x.length = l.length →
    (∀ p (h : p < l.length) (h2 : p < x.length), x[p] = if p < i ∨ l.length ≤ p + i then l[l.length - 1 - p]'(by omega) else l[p]) →
    Ev (fun k => api_Span.l0 k x (i : Int) ((l.length : Int) - 1 - i)) l.reverse := by
  intro d
  induction d using Nat.strongRecOn with
  | ind d ih =>
  intro i x hd hi hx hp
  by_cases c : 2 * i + 1 < l.length
  · have h1 : i < x.length := by omega
    have h2 : l.length - 1 - i < x.length := by omega
    have e : ((l.length : Int) - 1 - (i : Int)) = ((l.length - 1 - i : Nat) : Int) := by omega
    refine Ev.step (fun k => by rw [api_Span.l0]) (Ev.pos (by omega) (Ev.pos (by omega) (Ev.pos (by omega) (Ev.pos (by omega) (Ev.pos (by omega) ?_)))))
    rw [e, rd_get x i h1, rd_get x (l.length - 1 - i) h2, Int.toNat_natCast, Int.toNat_natCast, wrap_in (by omega) (by omega), wrap_in (by omega) (by omega)]
    have e2 : ((l.length - 1 - i : Nat) : Int) - 1 = (l.length : Int) - 1 - ((i + 1 : Nat) : Int) := by omega
    have e3 : (i : Int) + 1 = ((i + 1 : Nat) : Int) := by omega
    rw [e2, e3]
    refine ih (l.length - 2 * (i + 1)) (by omega) (i + 1) _ rfl (by omega) (by simp; exact hx) (fun p h3 h4 => ?_)
    have ha := hp i (by omega) h1
    have hb := hp (l.length - 1 - i) (by omega) h2
    rw [if_neg (by omega)] at ha hb
    rw [List.getElem_set, List.getElem_set]
    by_cases c1 : l.length - 1 - i = p
    · rw [if_pos c1, if_pos (by omega)]
      have e5 : l[l.length - 1 - p]'(by omega) = l[i]'(by omega) := by congr 1; omega
      rw [ha, e5]
    · rw [if_neg c1]
      by_cases c2 : i = p
      · have e5 : l[l.length - 1 - p]'(by omega) = l[l.length - 1 - i]'(by omega) := by congr 1; omega
        rw [if_pos c2, if_pos (by omega), hb, e5]
      · rw [if_neg c2, hp p h3 (by omega)]
        by_cases c3 : p < i ∨ l.length ≤ p + i
        · rw [if_pos c3, if_pos (by omega)]
        · rw [if_neg c3, if_neg (by omega)]
  · refine Ev.step (fun k => by rw [api_Span.l0]) (Ev.neg (by omega) ?_)
    have : x = l.reverse := by
      apply List.ext_getElem (by simp; exact hx)
      intro p h3 h4
      rw [hp p (by omega) h3, List.getElem_reverse]
      by_cases c3 : p < i ∨ l.length ≤ p + i
      · rw [if_pos c3]
      · rw [if_neg c3]
        congr 1
        omega
    rw [this]
    exact Ev.now _
theorem rev_ev (l : List S43) (hl : l.length ≤ 1000000) : Ev (fun k => api_Span.f k l) l.reverse := by
  unfold api_Span.f
  rw [wrap_in (by omega) (by omega)]
  have := rev_at l hl _ 0 l rfl (by omega) rfl (fun p h h2 => by rw [if_neg (by omega)])
  simpa using this
end
end Go.Proofs.Ytbhfaeliklaffaa.P
