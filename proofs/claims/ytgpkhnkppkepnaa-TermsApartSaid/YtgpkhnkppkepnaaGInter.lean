/- set.Inter, as a contract in the print's own form. -/
import Derived.Test.YtgpkhnkppkepnaaPx0
import Derived.Test.YtgpkhnkppkepnaaGBase
import Derived.Test.YtgpkhnkppkepnaaGNorm
import Derived.Test.YtgpkhnkppkepnaaPBase
namespace Go.Proofs.Ytgpkhnkppkepnaa.P
set_option linter.unusedVariables false
set_option linter.unusedSimpArgs false
section
open Go.RowKit Go.Shelf Go.Proofs.YtgpkhnkppkepnaaW.PrintWords Go.Proofs.YtgpkhnkppkepnaaW.PrintLast Go.Proofs.YtgpkhnkppkepnaaW.PrintMore
attribute [local go_sem] max2_mx min2_mn max_two min_two
/-- What two have in common, as set.Inter goes through them. -/
def interL : List S42 → List S42 → List S42 → List S42
  | a :: xs, b :: ys, out =>
    let out' := if mx a.f0 b.f0 ≤ mn a.f1 b.f1 then out ++ [⟨mx a.f0 b.f0, mn a.f1 b.f1⟩] else out
    if a.f1 < b.f1 then interL xs (b :: ys) out' else interL (a :: xs) ys out'
  | _, _, out => out
  termination_by a b => a.length + b.length
def interP (l m : List S42) : List S42 := interL (normP l) (normP m) []
def set_Inter.f (l0 l1 : List S42) : Option (List S42) := if l0.length ≤ 100000 ∧ l1.length ≤ 100000 then some (interP l0 l1) else none
theorem interL_nil_l (b out : List S42) : interL [] b out = out := by unfold interL; rfl
theorem interL_nil_r (a out : List S42) : interL a [] out = out := by unfold interL; cases a <;> rfl
theorem interL_cons (x y : S42) (a b out : List S42) : interL (x :: a) (y :: b) out = if x.f1 < y.f1 then interL a (y :: b) (if mx x.f0 y.f0 ≤ mn x.f1 y.f1 then out ++ [⟨mx x.f0 y.f0, mn x.f1 y.f1⟩] else out) else interL (x :: a) b (if mx x.f0 y.f0 ≤ mn x.f1 y.f1 then out ++ [⟨mx x.f0 y.f0, mn x.f1 y.f1⟩] else out) := by
  rw [interL]
theorem C_head {w : World} {A : Option Addr} {x : S42} {xs : List S42} (h : Kd.C k42 w A (x :: xs).length (x :: xs)) : ∃ ad : Addr, A = some ad ∧ w.cell? ad = some (.int .i64 x.f0) ∧ w.cell? ⟨ad.block, ad.off + 1, none⟩ = some (.int .i64 x.f1) := by
  obtain ⟨ad, e, h0, h1⟩ := at_T42 h 0 (by omega) (by simp)
  have hz : ad.add ((0 : Int).toNat * 2) = ad := by unfold Addr.add; simp
  rw [hz] at h0 h1
  exact ⟨ad, e, h0, h1⟩
theorem cutC {w : World} {A : Option Addr} {c : Nat} {x : S42} {xs : List S42} (h : Kd.C k42 w A (x :: xs).length (x :: xs)) (hc : (x :: xs).length ≤ c) :
    ∃ Av cv, Aside0 (∀ W : World, (Instr.slice 28 (.slice A (xs.length + 1) c) (some (.int .i64 1)) none none).run Try.prog W = .ok (.slice Av xs.length cv) W) ∧ Aside0 (Kd.C k42 w Av xs.length xs) ∧ Aside0 (xs.length ≤ cv) := by
  obtain ⟨i0, hi, hz0, hz1, hz2⟩ := info_parts info42
  refine ⟨if c = 1 then A else A.map (·.add (1 * 2)), c - 1, ⟨fun W => ?_⟩, ⟨?_⟩, ⟨?_⟩⟩
  · have := cut_from (P := Try.prog) 28 42 .i64 Try.underlying28 hi 2 hz1 A (xs.length + 1) c 1 (by omega) (by omega) W
    exact this
  · have := Kd.C_drop (m := 1) (c := c) h (by simp) hc
    exact this
  · simp at hc; omega
set_option maxRecDepth 100000 in
set_option maxHeartbeats 4000000 in
theorem set_Inter.calls (A0 : Option Addr) (c0 : Nat) (l0 : List S42) (A1 : Option Addr) (c1 : Nat) (l1 : List S42) (r : List S42) (w : World) (hr0 : Kd.C k42 w A0 l0.length l0) (hc0 : l0.length ≤ c0) (hr1 : Kd.C k42 w A1 l1.length l1) (hc1 : l1.length ≤ c1) (h : set_Inter.f l0 l1 = some r) :
    Calls Try.prog 37 #[.slice A0 l0.length c0, .slice A1 l1.length c1] w fun e w' => ∃ v0_ : Value, e = .returned (v0_) ∧ Kd.R k42 42 w' w.heap.size (fun _ => True) v0_ r ∧ Below w.heap.size w w' := by
  unfold set_Inter.f at h
  split at h
  case isFalse => cases h
  rename_i hlen
  obtain rfl := Option.some.inj h
  clear h
  have hn0 : set_Norm.f l0 = some (normP l0) := if_pos hlen.1
  have hn1 : set_Norm.f l1 = some (normP l1) := if_pos hlen.2
  have HN0 := Aside0.mk hn0
  have HN1 := Aside0.mk hn1
  have hp0 := normP_len l0
  have hp1 := normP_len l1
  have HR0 := Aside0.mk hr0
  have HR1 := Aside0.mk hr1
  obtain ⟨i0, hi, hz0, hz1, hz2⟩ := info_parts info42
  have hbnd : (normP l0).length + (normP l1).length ≤ 400000 := by omega
  clear hn0 hn1 hr0 hr1 hp0 hp1 hlen
  unfold interP
  go_enter Try.func37, Try.ntmps37
  go_wp2_with (first
    | (go_at_call 26; (with_reducible refine (set_Norm.calls A0 c0 l0 (normP l0) _ HR0.out hc0 HN0.out).mono ?_); rintro e w1 ⟨v1, rfl, ho1, hb1⟩; have HO1 := Aside0.mk ho1; have HB1 := Aside0.mk hb1; clear ho1 hb1)
    | (go_at_call 26; (with_reducible refine (set_Norm.calls A1 c1 l1 (normP l1) _ (Kd.C_below HR1.out HB1.out) hc1 HN1.out).mono ?_); rintro e w2 ⟨v2, rfl, ho2, hb2⟩; have HO2 := Aside0.mk ho2; have HB2 := Aside0.mk hb2; clear ho2 hb2))
  obtain ⟨Aa, ca, rfl⟩ := Kd.R_slice HO1.out
  obtain ⟨Ab, cb, rfl⟩ := Kd.R_slice HO2.out
  have CA := Aside0.mk (Kd.C_below (Kd.R_reads' HO1.out).2.2 HB2.out)
  have CB := Aside0.mk (Kd.R_reads' HO2.out).2.2
  have LA := Aside0.mk (Kd.R_reads' HO1.out).2.1
  have LB := Aside0.mk (Kd.R_reads' HO2.out).2.1
  have HB := Aside0.mk (HB1.out.trans (HB2.out.mono HB1.out.size))
  have HBN := Aside0.mk hbnd
  clear HO1 HO2 HB1 HB2 HN0 HN1 HR0 HR1 hc0 hc1
  obtain ⟨fa, hfa⟩ : ∃ fa, normP l0 = fa := ⟨_, rfl⟩
  obtain ⟨fb, hfb⟩ : ∃ fb, normP l1 = fb := ⟨_, rfl⟩
  rw [hfa, hfb] at hbnd
  rw [hfa] at CA LA HBN ⊢
  rw [hfb] at CB LB HBN ⊢
  have HFA := Aside0.mk hfa
  have HFB := Aside0.mk hfb
  clear hfa hfb
  go_loopg [0, 1, 5] (fa.length + fb.length) (fun gg s0 s1 s5 wr => ∃ (a b out : List S42) (Aa Ab : Option Addr) (ca cb : Nat), s0 = .slice Aa a.length ca ∧ s1 = .slice Ab b.length cb ∧ Aside0 (a.length + b.length ≤ gg) ∧ Aside0 (a.length ≤ ca) ∧ Aside0 (b.length ≤ cb) ∧ Aside0 (Kd.C k42 w2 Aa a.length a) ∧ Aside0 (Kd.C k42 w2 Ab b.length b) ∧ Aside0 (interL a b out = interL fa fb []) ∧ Aside0 (out.length + a.length + b.length ≤ 400000) ∧ Aside0 (wr.ownsRow w2.heap.size 42 2 s5 out.length (scs out)) ∧ Aside0 (Below w2.heap.size w2 wr))
  case atStart => exact ⟨fa, fb, [], Aa, Ab, ca, cb, rfl, rfl, ⟨Nat.le_refl _⟩, LA, LB, CA, CB, ⟨rfl⟩, ⟨by simp; omega⟩, ⟨World.ownsRow_nil _ _ _ _⟩, ⟨Below.refl _ _⟩⟩
  case round =>
    clear CA CB LA LB hbnd HBN
    obtain ⟨a, b, out, Aa, Ab, ca, cb, rfl, rfl, HM, LA, LB, CA, CB, HE, HL, HO, HW⟩ := hrel
    rcases a with _ | ⟨x, a⟩
    · have he := HE.out
      rw [interL_nil_l] at he
      have HE2 := Aside0.mk he
      clear he
      simp only [List.length_nil]
      go_wp2
      go_ret
      exact ⟨_, rfl, by rw [HFA.out, HFB.out, ← HE2.out]; exact Kd.R_lower (R_of_rows rfl HO.out) HB.out.size, HB.out.trans (HW.out.mono HB.out.size)⟩
    · rcases b with _ | ⟨y, b⟩
      · have he := HE.out
        rw [interL_nil_r] at he
        have HE2 := Aside0.mk he
        clear he
        simp only [List.length_nil]
        go_wp2
        go_ret
        exact ⟨_, rfl, by rw [HFA.out, HFB.out, ← HE2.out]; exact Kd.R_lower (R_of_rows rfl HO.out) HB.out.size, HB.out.trans (HW.out.mono HB.out.size)⟩
      · obtain ⟨ax, ea, hx0, hx1⟩ := C_head CA.out
        obtain ⟨ay, eb, hy0, hy1⟩ := C_head CB.out
        cases ea
        cases eb
        have HX := Aside0.mk hx0
        have HY := Aside0.mk hy0
        have HX1 := Aside0.mk hx1
        have HY1 := Aside0.mk hy1
        replace hx0 := (HW.out.cell (World.block_lt_of_cell? w2 _ hx0)).trans hx0
        replace hx1 := (HW.out.cell (World.block_lt_of_cell? w2 _ hx1)).trans hx1
        replace hy0 := (HW.out.cell (World.block_lt_of_cell? w2 _ hy0)).trans hy0
        replace hy1 := (HW.out.cell (World.block_lt_of_cell? w2 _ hy1)).trans hy1
        simp only [List.length_cons]
        have hbx := World.block_lt_of_cell? wr _ hx0
        have hby := World.block_lt_of_cell? wr _ hy0
        have hex := HE.out
        rw [interL_cons] at hex
        have HEX := Aside0.mk hex
        have hlx := World.block_lt_of_cell? w2 _ HX.out
        have hly := World.block_lt_of_cell? w2 _ HY.out
        have HLX := Aside0.mk hlx
        have HLY := Aside0.mk hly
        have HI := Aside0.mk hi
        have HZ0 := Aside0.mk hz0
        have HZ1 := Aside0.mk hz1
        have HZ2 := Aside0.mk hz2
        obtain ⟨Aad, cad, HC0, CAd, LAd⟩ := cutC CA.out LA.out
        obtain ⟨Abd, cbd, HC1, CBd, LBd⟩ := cutC CB.out LB.out
        have hW : ∃ W5, (wr.alloc (.cells #[.int .i64 (mx x.f0 y.f0), .int .i64 (mn x.f1 y.f1)] 42)).drew = W5 := ⟨_, rfl⟩
        obtain ⟨W5, hW5⟩ := hW
        have hbe : Below wr.heap.size wr W5 := by rw [← hW5]; exact below_drew (below_alloc2 (Below.refl _ _) (Nat.le_refl _) _)
        have HB6 := Aside0.mk (HW.out.trans (hbe.mono HW.out.size))
        have HO5 := Aside0.mk (pw_own_below HO.out hbe)
        have HBX : Aside0 (BoxS W5 wr.heap.size ⟨mx x.f0 y.f0, mn x.f1 y.f1⟩) := ⟨by rw [← hW5]; exact BoxS.new wr ⟨mx x.f0 y.f0, mn x.f1 y.f1⟩⟩
        have HW5 := Aside0.mk hW5
        clear hex hlx hly hi hz0 hz1 hz2 hbe hW5
        go_wp2
        go_region
        rw [HW5.out]
        clear hx0 hx1 hy0 hy1 hbx hby
        have hcz0 := HBX.out.cell0
        have hcz1 := HBX.out.cell1
        have hcz2 := HBX.out.lt
        simp only at hcz0 hcz1
        by_cases hs : mx x.f0 y.f0 ≤ mn x.f1 y.f1
        · have hs' : decide (mx x.f0 y.f0 ≤ mn x.f1 y.f1) = true := decide_eq_true hs
          have HS := Aside0.mk hs
          clear hs
          go_wp2_with (at_builtin; refine wpList_append_own _ rfl _ _ 28 rfl w2.heap.size 42 i0 (.agg #[.int .i64 0, .int .i64 0]) 2 16 Try.underlying28 HI.out HZ0.out HZ1.out HZ2.out rfl (by decide) _ _ _ rfl (HO5.out.alloc _) ⟨W5.heap.size, 0, none⟩ 1 1 [.int .i64 (mx x.f0 y.f0), .int .i64 (mn x.f1 y.f1)] rfl rfl ?c1 ?c2 ?c3 ?c4 ?c5 ?_; (case c1 => exact World.news_of_block (cs := #[.int .i64 (mx x.f0 y.f0), .int .i64 (mn x.f1 y.f1)]) (t := 42) (fr := (0, 0)) (heap_alloc_new W5 _)); (case c2 => simp [Value.oneCell']); (case c3 => have := HL.out; simp only [List.length_cons] at this; unfold maxLen; omega); (case c4 => have := HL.out; simp only [List.length_cons] at this; omega); (case c5 => have := HB6.out.size; simp; omega); intro v' w6 hown' hgrow _)
          have HB7 := Aside0.mk ((below_alloc2 HB6.out HB6.out.size _).grown hgrow (by have := HB6.out.size; simp; omega) (fun k hk => (HO5.out.lt k hk).1))
          have HO7 := Aside0.mk hown'
          clear hown' hgrow
          have hx1 := HX1.out
          have hy1 := HY1.out
          replace hx1 := (HB7.out.cell (p := ⟨ax.block, ax.off + 1, none⟩) HLX.out).trans hx1
          replace hy1 := (HB7.out.cell (p := ⟨ay.block, ay.off + 1, none⟩) HLY.out).trans hy1
          by_cases hd : x.f1 < y.f1
          · have hd' : decide (x.f1 < y.f1) = true := decide_eq_true hd
            have HD := Aside0.mk hd
            clear hd
            go_quiet (fail)
            have hcut := HC0.out
            go_wp2
            clear hcut
            go_roundg (a.length + (b.length + 1))
            case measure => have := HM.out; simp only [List.length_cons] at this; omega
            case rel => exact ⟨a, y :: b, out ++ [⟨mx x.f0 y.f0, mn x.f1 y.f1⟩], _, some ay, _, cb, rfl, rfl, ⟨by first | exact Nat.le_refl _ | (simp only [List.length_cons]; omega)⟩, LAd, LB, CAd, CB, ⟨by have := HEX.out; rw [if_pos HD.out, if_pos HS.out] at this; exact this⟩, ⟨by have := HL.out; simp only [List.length_cons, List.length_append, List.length_nil] at this ⊢; omega⟩, ⟨by rw [scs_append, scs_one, List.length_append]; exact pw_own_drewN HO7.out _⟩, ⟨pw_below_drewN HB7.out _⟩⟩
          · have hd' : decide (x.f1 < y.f1) = false := decide_eq_false hd
            have HD := Aside0.mk hd
            clear hd
            go_quiet (fail)
            have hcut := HC1.out
            go_wp2
            clear hcut
            go_roundg (a.length + 1 + b.length)
            case measure => have := HM.out; simp only [List.length_cons] at this; omega
            case rel => exact ⟨x :: a, b, out ++ [⟨mx x.f0 y.f0, mn x.f1 y.f1⟩], some ax, _, ca, _, rfl, rfl, ⟨by first | exact Nat.le_refl _ | (simp only [List.length_cons]; omega)⟩, LA, LBd, CA, CBd, ⟨by have := HEX.out; rw [if_neg (by have := HD.out; omega), if_pos HS.out] at this; exact this⟩, ⟨by have := HL.out; simp only [List.length_cons, List.length_append, List.length_nil] at this ⊢; omega⟩, ⟨by rw [scs_append, scs_one, List.length_append]; exact pw_own_drewN HO7.out _⟩, ⟨pw_below_drewN HB7.out _⟩⟩
        · have hs' : decide (mx x.f0 y.f0 ≤ mn x.f1 y.f1) = false := decide_eq_false hs
          have HS := Aside0.mk hs
          clear hs
          go_wp2
          have HB7 := HB6
          have HO7 := HO5
          have hx1 := HX1.out
          have hy1 := HY1.out
          replace hx1 := (HB7.out.cell (p := ⟨ax.block, ax.off + 1, none⟩) HLX.out).trans hx1
          replace hy1 := (HB7.out.cell (p := ⟨ay.block, ay.off + 1, none⟩) HLY.out).trans hy1
          by_cases hd : x.f1 < y.f1
          · have hd' : decide (x.f1 < y.f1) = true := decide_eq_true hd
            have HD := Aside0.mk hd
            clear hd
            go_quiet (fail)
            have hcut := HC0.out
            go_wp2
            clear hcut
            go_roundg (a.length + (b.length + 1))
            case measure => have := HM.out; simp only [List.length_cons] at this; omega
            case rel => exact ⟨a, y :: b, out, _, some ay, _, cb, rfl, rfl, ⟨by first | exact Nat.le_refl _ | (simp only [List.length_cons]; omega)⟩, LAd, LB, CAd, CB, ⟨by have := HEX.out; rw [if_pos HD.out, if_neg (by have := HS.out; omega)] at this; exact this⟩, ⟨by have := HL.out; simp only [List.length_cons, List.length_append, List.length_nil] at this ⊢; omega⟩, ⟨pw_own_drewN HO7.out _⟩, ⟨pw_below_drewN HB7.out _⟩⟩
          · have hd' : decide (x.f1 < y.f1) = false := decide_eq_false hd
            have HD := Aside0.mk hd
            clear hd
            go_quiet (fail)
            have hcut := HC1.out
            go_wp2
            clear hcut
            go_roundg (a.length + 1 + b.length)
            case measure => have := HM.out; simp only [List.length_cons] at this; omega
            case rel => exact ⟨x :: a, b, out, some ax, _, ca, _, rfl, rfl, ⟨by first | exact Nat.le_refl _ | (simp only [List.length_cons]; omega)⟩, LA, LBd, CA, CBd, ⟨by have := HEX.out; rw [if_neg (by have := HD.out; omega), if_neg (by have := HS.out; omega)] at this; exact this⟩, ⟨by have := HL.out; simp only [List.length_cons, List.length_append, List.length_nil] at this ⊢; omega⟩, ⟨pw_own_drewN HO7.out _⟩, ⟨pw_below_drewN HB7.out _⟩⟩
end
end Go.Proofs.Ytgpkhnkppkepnaa.P
