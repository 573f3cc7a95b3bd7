/- seqs.Of, as a contract in the print's own form. -/
import Derived.Test.YtbhfaeliklaffaaPx0
import Derived.Test.YtbhfaeliklaffaaPx8
import Derived.Test.YtbhfaeliklaffaaGBase
import Derived.Test.YtbhfaeliklaffaaGEnc
import Derived.Test.YtbhfaeliklaffaaGMatch
import Derived.Test.YtbhfaeliklaffaaGNorm
import Derived.Test.YtbhfaeliklaffaaGParts
import Derived.Test.YtbhfaeliklaffaaPBase
import Derived.Test.YtbhfaeliklaffaaPSeq
import Derived.RangeFuncNested
import Derived.RangeFuncBound
import Derived.RangeFuncCalls
import Derived.RangeFuncLeaves
import Derived.Shelf.Abstract
import Derived.Shelf.RegionOpen
import Derived.WalkKit
import Derived.OwnWalkIn
import Derived.TacticsInMore
import Derived.LoopNIn
import Derived.LoopIn
import Derived.Maps.AppendAt
import Derived.Maps.OwnIn
import Derived.Outline
import Derived.ArgAppend
import Derived.Sort.LoopGhostIn
namespace Go.Proofs.Ytbhfaeliklaffaa.P
set_option linter.unusedVariables false
set_option linter.unusedSimpArgs false
section
open Go.RowKit Go.Shelf Go.Proofs.YtbhfaeliklaffaaW.PrintWords Go.Proofs.YtbhfaeliklaffaaW.PrintLast Go.Proofs.YtbhfaeliklaffaaW.PrintMore
attribute [local go_sem] Oper.semAt_some
theorem R_kept {α : Type} {d : Kd α} {e : Nat} {W W' : World} {base : Nat} {ok : Nat → Prop} {v : Value} {xs : List α} {row : Option Nat} (h : d.R e W base ok v xs) (hg : W.grownBy W' row) (hr : ∀ r, row = some r → ∃ o : Obj, W.heap[r]? = some o ∧ o.isCells = false) : d.R e W' base ok v xs :=
  Kd.R_mono (Kd.R_move (Kd.R_bound h) (fun k hk => hg.block k hk.2.2.1 (fun e => by
    obtain ⟨o, ho, hc⟩ := hr k e.symm
    obtain ⟨q, hq, cells, hcells⟩ := hk.2.2.2
    rw [ho] at hcells
    cases hcells
    cases hc))) (fun _ hk => hk.1)
abbrev kRR := Kd.slice 57 k57
/-- A row's cells. -/
def rcl (l : List S57) : List Value := l.flatMap fun r => [.int .u8 r.f0, .int .u8 r.f1]
theorem rcl_len (l : List S57) : (rcl l).length = l.length * 2 := by
  induction l with
  | nil => rfl
  | cons a l ih => simp only [rcl, List.flatMap_cons, List.length_append, List.length_cons, List.length_nil] at ih ⊢; omega
theorem zipR_len : ∀ (a b : List Int), a.length = b.length → (zipR a b).length = a.length
  | [], [], _ => rfl
  | [], _ :: _, h => by cases h
  | _ :: _, [], h => by cases h
  | a :: l, b :: m, h => by simp only [zipR, List.length_cons] at h ⊢; rw [zipR_len l m (by omega)]
theorem zipR_get : ∀ (a b : List Int) (j : Nat), j < a.length → a.length = b.length → (zipR a b)[j]? = some ⟨a.getD j 0, b.getD j 0⟩
  | [], _, _, h, _ => by cases h
  | _ :: _, [], _, _, h => by cases h
  | a :: l, b :: m, 0, _, _ => rfl
  | a :: l, b :: m, j + 1, h, h2 => by simp only [zipR, List.length_cons, List.getElem?_cons_succ, List.getD_cons_succ] at h h2 ⊢; exact zipR_get l m j (by omega) (by omega)
theorem toList_madeR (m : Nat) : (madeCells (Value.agg #[.int .u8 0, .int .u8 0]).cells (m * 2)).toList = List.replicate (m * 2) (.int .u8 0) := by
  apply List.ext_getElem
  · simp [size_madeCells]
  · intro i h1 h2
    simp [madeCells, Value.cells]
    rcases Nat.mod_two_eq_zero_or_one i with h | h <;> rw [h] <;> rfl
theorem set_two (l : List Value) (p k : Nat) (a b z : Value) (h : l.length = p) : ((l ++ List.replicate (k + 2) z).set p a).set (p + 1) b = l ++ [a, b] ++ List.replicate k z := by
  subst h
  rw [List.set_append_right _ _ (Nat.le_refl _), Nat.sub_self, List.set_append_right _ _ (by omega), Nat.add_sub_cancel_left, List.replicate_succ, List.replicate_succ]
  simp
theorem row_step {l : List S57} {j m : Nat} {a b : Int} (hl : l[j]? = some ⟨a, b⟩) (hj : j < m) : ((rcl (l.take j) ++ List.replicate ((m - j) * 2) (Value.int .u8 0)).set (j * 2) (Value.int .u8 a)).set (j * 2 + 1) (Value.int .u8 b) = rcl (l.take (j + 1)) ++ List.replicate ((m - (j + 1)) * 2) (Value.int .u8 0) := by
  have hlt := (List.getElem?_eq_some_iff.1 hl).1
  rw [show (m - j) * 2 = (m - (j + 1)) * 2 + 2 by omega, set_two _ _ _ _ _ _ (by rw [rcl_len, List.length_take, Nat.min_eq_left (by omega)]), List.take_add_one, hl]
  simp [rcl]
theorem row_z (l : List S57) (j m : Nat) (hj : j < m) (hl : j ≤ l.length) : (rcl (l.take j) ++ List.replicate ((m - j) * 2) (Value.int .u8 0))[j * 2]? = some (.int .u8 0) ∧ (rcl (l.take j) ++ List.replicate ((m - j) * 2) (Value.int .u8 0))[j * 2 + 1]? = some (.int .u8 0) := by
  have e : (rcl (l.take j)).length = j * 2 := by rw [rcl_len, List.length_take, Nat.min_eq_left hl]
  constructor
  · rw [List.getElem?_append_right (by omega), List.getElem?_replicate_of_lt (by omega)]
  · rw [List.getElem?_append_right (by omega), List.getElem?_replicate_of_lt (by omega)]
theorem reps_rcl (w : World) (base : Nat) (ok : Nat → Prop) (xs : List S57) : Reps (k57.M w base ok) 2 xs (rcl xs) := by
  induction xs with
  | nil => exact ⟨rfl, fun j p h => by cases h⟩
  | cons a l ih =>
    refine ⟨rcl_len _, fun j p h => ?_⟩
    cases j with
    | zero => cases h; exact k57_mkM w base ok a
    | succ j =>
      have := ih.2 j p h
      rw [show rcl (a :: l) = .int .u8 a.f0 :: .int .u8 a.f1 :: rcl l from rfl, show (j + 1) * 2 = j * 2 + 1 + 1 by omega]
      exact this
theorem R_of_rcl {w : World} {base n : Nat} {v : Value} {xs : List S57} {ok : Nat → Prop} (hn : n = xs.length) (h : w.ownsRow base 57 2 v n (rcl xs)) (hok : ∀ k, v.ownBlock = some k → ok k) : Kd.R k57 57 w base ok v xs := by
  subst hn
  exact ⟨hok, rcl xs, h, reps_rcl _ _ _ _⟩
def OfI (w : World) (pre : List Gs) (W : World) : Prop := (∃ v, Boxed W w.heap.size 27 v ∧ kRR.R 37 W w.heap.size (fun k => w.heap.size ≤ k) v (pre.map fun x => rowP x.1)) ∧ Below w.heap.size w W
theorem ofI_own (w : World) (B : Nat) (hB : w.heap.size ≤ B) : OwnFrom B (OfI w) := fun s A A' row hs hg hr => by
  obtain ⟨⟨v, h1, h2⟩, h3⟩ := hs
  refine ⟨⟨v, h1.kept hg (fun e => ?_), R_kept h2 hg (fun r e => (hr r e).2)⟩, h3.grown hg h3.size (fun k e => by have := (hr k e).1; omega)⟩
  obtain ⟨o, ho, hc⟩ := (hr _ e.symm).2
  rw [show A.heap[w.heap.size]? = _ from h1] at ho
  cases ho
  cases hc
set_option maxRecDepth 100000 in
set_option maxHeartbeats 4000000 in
theorem of_in (n : Nat) (hn : 8 ≤ n) (A0 : Option Addr) (c0 : Nat) (l0 : List S43) (w : World) (hr0 : Kd.C k43 w A0 l0.length l0) (hc0 : l0.length ≤ c0) (hl0 : l0.length ≤ 1000) :
    CallsIn Fence.wide n Try.prog 12 #[.slice A0 l0.length c0] w fun e w' => ∃ v0_ : Value, e = .returned (v0_) ∧ Kd.N (Kd.slice 57 k57) 37 w' w.heap.size (fun k_ => (w.heap.size ≤ k_)) v0_ (ofP l0) ∧ Below w.heap.size w w' := by
  have hro : Fence.wide.round = none := rfl
  refine callsIn_of_wp_marks Try.func12 rfl trivial ?_ hro
  simp only [Try.ntmps12, List.size_toArray, List.length_cons, List.length_nil, Nat.reduceAdd, Nat.reduceSub, Array.replicate_succ, Array.replicate_zero, List.push_toArray, List.append_toArray, List.nil_append, List.cons_append]
  have HR0 := Aside0.mk hr0
  have hbs : set_Norm.f l0 = some (normP l0) := if_pos (by omega)
  have HBS := Aside0.mk hbs
  have hnl := normP_len l0
  have hnf := normP_nf l0
  have hcl : ∀ s ∈ (normP l0).flatMap sizesP, Cls s := fun s hs => by
    obtain ⟨x, hx, hs⟩ := List.mem_flatMap.1 hs
    exact sizes_cls (hnf.1 x hx) hs
  obtain ⟨kb, hkb⟩ := (seq_bySize (normP l0) (by omega) hnf).rounds
  have HKB := Aside0.mk hkb
  have hfl := flat_sizes_len (normP l0)
  have HCL := Aside0.mk hcl
  have HFL := Aside0.mk (show ((normP l0).flatMap sizesP).length ≤ 100000 by omega)
  clear hr0 hbs hnl hnf hcl hkb hfl
  gi_wp2
  refine ⟨trivial, (fun h => by omega), ?_⟩
  refine (callsIn_wide.2 (set_Norm.calls A0 c0 l0 (normP l0) _ (Kd.C_alloc HR0.out _) hc0 HBS.out)).mono ?_
  rintro e w1 ⟨v1, rfl, ho1, hb1⟩
  obtain ⟨A1, c1, rfl⟩ := Kd.R_slice ho1
  have HO1 := Aside0.mk (Kd.R_reads' ho1).2.2
  have HL1 := Aside0.mk (Kd.R_reads' ho1).2.1
  have HB1 := Aside0.mk ((below_alloc2' (Below.refl w.heap.size w) (Nat.le_refl _) (.cells #[.slice none 0 0] 27)).trans (hb1.mono (by simp)))
  have bS1 := (Boxed.new w 27 (.slice none 0 0))
  replace bS1 := Aside0.mk (bS1.kept (grown_of_below hb1) (by simp))
  clear ho1 hb1
  gi_wp2
  refine ⟨trivial, (fun h => by omega), ?_⟩
  refine (callsIn_wide.2 (seqs_bySize.calls kb A1 c1 (normP l0) _ _ HO1.out HL1.out HKB.out)).mono ?_
  rintro e w2 ⟨v2, rfl, ho2, hb2⟩
  obtain ⟨A2, c2, rfl⟩ := Kd.R_slice ho2
  have HO2 := Aside0.mk (Kd.R_reads' ho2).2.2
  have HL2 := Aside0.mk (Kd.R_reads' ho2).2.1
  have HB2 := Aside0.mk (HB1.out.trans (hb2.mono HB1.out.size))
  have bS2 := Aside0.mk (bS1.out.kept (grown_of_below hb2) (by simp))
  clear ho2 hb2 HO1 HL1 bS1 HKB HBS HR0
  have HSZ2 := Aside0.mk (show w.heap.size < w2.heap.size from bS2.out.lt)
  clear HB1
  obtain ⟨ps, hps⟩ : ∃ ps, (normP l0).flatMap sizesP = ps := ⟨_, rfl⟩
  have HPS := Aside0.mk hps
  rw [hps] at HO2 HL2 HCL HFL ⊢
  clear hps
  gi_wp2
  refine ⟨trivial, (fun h => by omega), ?_⟩
  refine (callsIn_wide.2 (parts_calls A2 ps.length c2 _)).mono ?_
  rintro e w3 ⟨rfl, rfl⟩
  have HST := Aside0.mk (parts_stops (n - 1) (by omega) w2.heap.size A2 c2 ps HCL.out HFL.out (w2.alloc (.cells #[.slice A2 ps.length c2] 25)) (by simp) (Boxed.new w2 25 (.slice A2 ps.length c2)).cell (Kd.C_alloc HO2.out _) HL2.out)
  have HB3 := Aside0.mk (HB2.out.alloc HB2.out.size (.cells #[.slice A2 ps.length c2] 25))
  have bS3 := Aside0.mk (bS2.out.alloc (.cells #[.slice A2 ps.length c2] 25))
  have HSZ3 := Aside0.mk (show (w2.alloc (.cells #[.slice A2 ps.length c2] 25)).heap.size = w2.heap.size + 1 by simp)
  obtain ⟨W0, hW0⟩ : ∃ W0, w2.alloc (.cells #[.slice A2 ps.length c2] 25) = W0 := ⟨_, rfl⟩
  rw [hW0] at HST HB3 bS3 HSZ3 ⊢
  clear hW0 HO2 HL2 HB2 bS2
  gi_wp2
  refine wpIn_rangeFunc_ownH hro (by omega) (gf := 44) (lb := #[.pointer (some ⟨w2.heap.size, 0, none⟩)]) rfl trivial (enters_of Try.func44 (by kernel_rfl) rfl)
    HST.out KpT.trans (fun W l o o' _ h1 h2 h3 => KpT.putObj W l o o' h1 h2 h3) (Below.refl _ _) (fun _ => rfl)
    (OfI w) (fun _ _ _ => False) (ofI_own w _ (by have := HSZ2.out; have := HSZ3.out; omega)) (fun _ _ _ _ _ hs _ _ => hs)
    ⟨⟨_, bS3.out, Kd.R_nil _ _ _ _ _⟩, HB3.out⟩
    (fun x a' W => ∃ Bx, w.heap.size < Bx ∧ BoxS W Bx x.1 ∧ a' = { tmps := #[.slice A0 l0.length c0, undef, .slice none 0 0, .pointer (some ⟨w.heap.size, 0, none⟩), .pointer (some ⟨Bx, 0, none⟩), undef, undef, undef, undef, .slice A0 l0.length c0, .slice A1 (normP l0).length c1, .slice A2 ps.length c2, .func (.func 44) #[] #[.pointer (some ⟨w2.heap.size, 0, none⟩)], .agg #[.int .i64 x.1.f0, .int .i64 x.1.f1], undef, undef, undef, undef, undef, undef, undef, undef, undef, undef, undef, undef, undef, undef, undef, undef, undef, undef, undef, undef, undef, undef, undef, undef, undef, undef, undef, undef, undef, undef, undef, undef], defers := [] })
    (fun x a' _ X Y row hs hg hr => by obtain ⟨Bx, h1, h2, h3⟩ := hs; exact ⟨Bx, h1, boxS_own Bx (fun (_ : Unit) => x.1) () X Y row h2 hg (fun r e => (hr r e).2), h3⟩)
    ?assign ?body ?done ?stop
  case assign =>
    rintro l pre x W K ⟨⟨v1, b1, r1⟩, hB1⟩ hK
    unfold sv
    gi_wp2
    have hs1 := hB1.size
    exact hK _ _ ((KeepsOthers.alloc _ _).from _) ⟨KeepsWalks.alloc _ _, fun k cs hk => (Below.heap_alloc W _ k (Array.getElem?_eq_some_iff.1 hk).1).trans hk⟩ ⟨⟨v1, b1.alloc _, Kd.R_alloc r1 _⟩, hB1.alloc (by omega) _⟩ ⟨W.heap.size, b1.lt, BoxS.new W x.1, rfl⟩
  case body =>
    rintro l pre x a' W hl hr ⟨⟨v1, b1, r1⟩, hB1⟩ ⟨Bx, hBx, bX, rfl⟩ hlt
    have hx0 := bX.cell0
    have hx1 := bX.cell1
    have hx2 := bX.lt
    have hf32 : Fence.wide.fn 32 := trivial
    have hd : 1 ≤ n - 1 - 1 := by omega
    obtain ⟨i0, hi, hz0, hz1, hz2⟩ := info_parts info57
    gi_wp2
    rename_i K hK
    have rest : ∀ (wb : World) (Aa Ab : Option Addr) (ca cb : Nat), Below W.heap.size W wb → Kd.C (Kd.int .u8) wb Aa (encP x.1.f0).length (encP x.1.f0) → Kd.C (Kd.int .u8) wb Ab (encP x.1.f1).length (encP x.1.f1) →
        K { tmps := #[.slice A0 l0.length c0, undef, .slice none 0 0, .pointer (some ⟨w.heap.size, 0, none⟩), .pointer (some ⟨Bx, 0, none⟩), .slice Aa (encP x.1.f0).length ca, .slice Ab (encP x.1.f1).length cb, undef, undef, .slice A0 l0.length c0, .slice A1 (normP l0).length c1, .slice A2 ps.length c2, .func (.func 44) #[] #[.pointer (some ⟨w2.heap.size, 0, none⟩)], .agg #[.int .i64 x.1.f0, .int .i64 x.1.f1], .pointer (some ⟨Bx, 0, none⟩), .int .i64 x.1.f0, .slice Aa (encP x.1.f0).length ca, .pointer (some ⟨Bx, 1, none⟩), .int .i64 x.1.f1, .slice Ab (encP x.1.f1).length cb, undef, undef, undef, undef, undef, undef, undef, undef, undef, undef, undef, undef, undef, undef, undef, undef, undef, undef, undef, undef, undef, undef, undef, undef, undef, undef], defers := [] } wb := by
      intro wb Aa Ab ca cb hbb hra hrb
      have hml : (encP x.1.f0).length = (encP x.1.f1).length := x.2.len
      refine hK _ _ ?_
      clear hK K
      obtain ⟨m, hm⟩ : ∃ m, (encP x.1.f0).length = m := ⟨_, rfl⟩
      have hm4 : m ≤ 4 := by rw [← hm]; exact enc_len x.1.f0
      rw [hm] at hml
      rw [← hml] at hrb ⊢
      rw [hm] at hra ⊢
      obtain ⟨wc, hmk, hoc, hgc⟩ := run_make_full (P := Try.prog) wb wb.heap.size 37 57 i0 (.agg #[.int .u8 0, .int .u8 0]) 2 Try.underlying37 hi hz0 hz1 .i64 .i64 m (by rw [hz2]; omega) (by unfold maxLen; omega) (Nat.le_refl _)
      rw [toList_madeR] at hoc
      have hzl := zipR_len (encP x.1.f0) (encP x.1.f1) (by omega)
      have HZL := Aside0.mk (hzl.trans hm)
      have HM := Aside0.mk hm
      have HML := Aside0.mk hml
      have HRA := Aside0.mk hra
      have HRB := Aside0.mk hrb
      have HOC := Aside0.mk hoc
      have HGC := Aside0.mk hgc
      have HBB := Aside0.mk hbb
      have H4 := Aside0.mk hm4
      have HBC := Aside0.mk ((Below.refl wb.heap.size wb).grown hgc (Nat.le_refl _) (by simp))
      have HR1 := Aside0.mk r1
      have HB1 := Aside0.mk hB1
      clear hzl hoc hgc hml hra hrb hbb hm r1 hB1
      gi_wp2
      clear hmk
      gi_loopg [8, 25, 26, 27, 28, 29, 30, 31, 32, 33, 34, 35, 36, 37, 38, 39, 40] m (fun gg _ v25 _ _ _ _ _ _ _ _ _ _ _ _ _ _ _ wr => ∃ j : Nat, j ≤ m ∧ m - j ≤ gg ∧ v25 = .int .i64 j ∧ Aside0 (Below wb.heap.size wb wr) ∧ Aside0 (wr.ownsRow wb.heap.size 57 2 (.slice (some ⟨wb.heap.size, 0, none⟩) m m) m (rcl ((rowP x.1).take j) ++ List.replicate ((m - j) * 2) (.int .u8 0))))
      case atStart => exact ⟨0, Nat.zero_le _, by omega, rfl, HBC, ⟨by simpa [rcl] using HOC.out⟩⟩
      case round =>
        obtain ⟨j, hj, hg, rfl, BW, OW⟩ := hrel
        by_cases hlt : j < m
        · have hltz : (j : Int) < (m : Int) := by omega
          obtain ⟨ad, e1, hy0⟩ := at_I HRA.out j hlt
          obtain ⟨bd, e2, hy1⟩ := at_I HRB.out j hlt
          cases e1
          cases e2
          replace hy0 := (BW.out.cell (World.block_lt_of_cell? wb _ hy0)).trans hy0
          replace hy1 := (BW.out.cell (World.block_lt_of_cell? wb _ hy1)).trans hy1
          have hfr0 := OW.out.frozenAt (j * 2)
          have hfr1 := OW.out.frozenAt (j * 2 + 1)
          have hzg := zipR_get (encP x.1.f0) (encP x.1.f1) j (by rw [HM.out]; exact hlt) (by rw [HM.out, HML.out])
          have HZG := Aside0.mk hzg
          clear hzg
          have hfd0 : wr.drew.frozen? ⟨wb.heap.size, j * 2, none⟩ = false := hfr0
          have hfd1 : wr.drew.frozen? ⟨wb.heap.size, j * 2 + 1, none⟩ = false := hfr1
          have hz := row_z (rowP x.1) j m hlt (by rw [show (rowP x.1).length = m from HZL.out]; omega)
          have hcl0 : wr.drew.cell? ⟨wb.heap.size, j * 2, none⟩ = some (.int .u8 0) := (OW.out.cellAt (j * 2) (by omega)).trans hz.1
          have hcl1 : wr.drew.cell? ⟨wb.heap.size, j * 2 + 1, none⟩ = some (.int .u8 0) := (OW.out.cellAt (j * 2 + 1) (by omega)).trans hz.2
          have HZ := Aside0.mk hz
          clear hz
          gi_wp2
          have hs0 : (wr.setCell ⟨wb.heap.size, j * 2, none⟩ (.int .u8 ((encP x.1.f0)[j]?.getD 0))).drew.cell? ⟨wb.heap.size, j * 2 + 1, none⟩ = some (.int .u8 0) := ((OW.out.stored (j * 2) _).1.cellAt (j * 2 + 1) (by omega)).trans (by rw [List.getElem?_set_ne (by omega)]; exact HZ.out.2)
          have hs1 : (wr.setCell ⟨wb.heap.size, j * 2, none⟩ (.int .u8 ((encP x.1.f0)[j]?.getD 0))).drew.frozen? ⟨wb.heap.size, j * 2 + 1, none⟩ = false := (OW.out.stored (j * 2) _).1.frozenAt (j * 2 + 1)
          refine wpIn_region_round rfl (by kernel_rfl) (by kernel_rfl) ?_
          refine wpAnyIn_take (i := 0) (v := ?v1) rfl rfl (by kernel_rfl) (by kernel_rfl) (by kernel_rfl) (fun _ _ _ h => h) ⟨Or.inl ⟨by rfl, ?y1⟩, fun _ => rfl⟩ ?_
          case y1 => intro w; go_simp; with_reducible rfl
          refine wpAnyIn_take (i := 1) (v := ?v2) rfl rfl (by kernel_rfl) (by kernel_rfl) (by kernel_rfl) (fun _ _ _ h => h) ⟨Or.inl ⟨by rfl, ?y2⟩, fun _ => rfl⟩ ?_
          case y2 => intro w; go_simp; with_reducible rfl
          refine wpAnyIn_take (i := 2) (v := ?v3) rfl rfl (by kernel_rfl) (by kernel_rfl) (by kernel_rfl) (fun _ _ _ h => h) ⟨Or.inl ⟨by rfl, ?y3⟩, fun _ => rfl⟩ ?_
          case y3 => intro w; go_simp; with_reducible rfl
          refine wpAnyIn_take (i := 3) (v := ?v4) rfl rfl (by kernel_rfl) (by kernel_rfl) (by kernel_rfl) (fun _ _ _ h => h) ⟨Or.inl ⟨by rfl, ?y4⟩, fun _ => rfl⟩ ?_
          case y4 => intro w; go_simp; with_reducible rfl
          refine wpAnyIn_take (i := 4) (v := ?v5) rfl rfl (by kernel_rfl) (by kernel_rfl) (by kernel_rfl) (fun _ _ _ h => h) ⟨Or.inl ⟨by rfl, ?y5⟩, fun _ => rfl⟩ ?_
          case y5 => intro w; go_simp; with_reducible rfl
          refine wpAnyIn_take (i := 6) (v := ?v6) rfl rfl (by kernel_rfl) (by kernel_rfl) (by kernel_rfl) (fun _ _ _ h => h) ⟨Or.inl ⟨by rfl, ?y6⟩, fun _ => rfl⟩ ?_
          case y6 => intro w; go_simp; with_reducible rfl
          refine wpAnyIn_take (i := 7) (v := ?v7) rfl rfl (by kernel_rfl) (by kernel_rfl) (by kernel_rfl) (fun _ _ _ h => h) ⟨Or.inl ⟨by rfl, ?y7⟩, fun _ => rfl⟩ ?_
          case y7 => intro w; go_simp; with_reducible rfl
          refine wpAnyIn_take (i := 8) (v := ?v8) rfl rfl (by kernel_rfl) (by kernel_rfl) (by kernel_rfl) (fun _ _ _ h => h) ⟨Or.inl ⟨by rfl, ?y8⟩, fun _ => rfl⟩ ?_
          case y8 => intro w; go_simp; with_reducible rfl
          refine wpAnyIn_ready (rs := [5, 9]) (by kernel_rfl) (by simp) ?_
          refine AllReadyIn.cons rfl (fun K1 hK1 => ?_) (AllReadyIn.cons rfl (fun K1 hK1 => ?_) AllReadyIn.nil)
          · go_simp
            refine hK1 _ _ ?_
            clear hK1 K1
            refine wpAnyIn_ready (rs := [9]) (by kernel_rfl) (by simp) ?_
            refine AllReadyIn.cons rfl (fun K2 hK2 => ?_) AllReadyIn.nil
            go_simp
            refine hK2 _ _ ?_
            clear hK2 K2
            refine wpAnyIn_take (i := 10) (v := ?v9) rfl rfl (by kernel_rfl) (by kernel_rfl) (by kernel_rfl) (fun _ _ _ h => h) ⟨Or.inl ⟨by rfl, ?y9⟩, fun _ => rfl⟩ ?_
            case y9 => intro w; go_simp; with_reducible rfl
            refine wpAnyIn_take (i := 11) (v := ?v10) rfl rfl (by kernel_rfl) (by kernel_rfl) (by kernel_rfl) (fun _ _ _ h => h) ⟨Or.inl ⟨by rfl, ?y10⟩, fun _ => rfl⟩ ?_
            case y10 => intro w; go_simp; with_reducible rfl
            refine wpAnyIn_ready (rs := [12]) (by kernel_rfl) (by simp) ?_
            refine AllReadyIn.cons rfl (fun K3 hK3 => ?_) AllReadyIn.nil
            go_simp
            refine hK3 _ _ ?_
            clear hK3 K3
            refine wpAnyIn_done (by kernel_rfl) ?_ _
            gi_wp2
            gi_roundg (m - (j + 1))
            case measure => omega
            case rel =>
              refine ⟨j + 1, by omega, Nat.le_refl _, by go_num, ⟨below_drew ((BW.out.setCell (p := ⟨wb.heap.size, j * 2, none⟩) (Nat.le_refl _) _).setCell (p := ⟨wb.heap.size, j * 2 + 1, none⟩) (Nat.le_refl _) _)⟩, ⟨?_⟩⟩
              have h9 := ((OW.out.stored (j * 2) (.int .u8 ((encP x.1.f0).getD j 0))).1.stored (j * 2 + 1) (.int .u8 ((encP x.1.f1).getD j 0))).1
              rw [row_step (l := rowP x.1) HZG.out hlt] at h9
              refine World.ownsRow.drew ?_
              simpa using h9
          · go_simp
            refine hK1 _ _ ?_
            clear hK1 K1
            refine wpAnyIn_ready (rs := [5]) (by kernel_rfl) (by simp) ?_
            refine AllReadyIn.cons rfl (fun K2 hK2 => ?_) AllReadyIn.nil
            go_simp
            refine hK2 _ _ ?_
            clear hK2 K2
            refine wpAnyIn_take (i := 10) (v := ?v11) rfl rfl (by kernel_rfl) (by kernel_rfl) (by kernel_rfl) (fun _ _ _ h => h) ⟨Or.inl ⟨by rfl, ?y11⟩, fun _ => rfl⟩ ?_
            case y11 => intro w; go_simp; with_reducible rfl
            refine wpAnyIn_take (i := 11) (v := ?v12) rfl rfl (by kernel_rfl) (by kernel_rfl) (by kernel_rfl) (fun _ _ _ h => h) ⟨Or.inl ⟨by rfl, ?y12⟩, fun _ => rfl⟩ ?_
            case y12 => intro w; go_simp; with_reducible rfl
            refine wpAnyIn_ready (rs := [12]) (by kernel_rfl) (by simp) ?_
            refine AllReadyIn.cons rfl (fun K3 hK3 => ?_) AllReadyIn.nil
            go_simp
            refine hK3 _ _ ?_
            clear hK3 K3
            refine wpAnyIn_done (by kernel_rfl) ?_ _
            gi_wp2
            gi_roundg (m - (j + 1))
            case measure => omega
            case rel =>
              refine ⟨j + 1, by omega, Nat.le_refl _, by go_num, ⟨below_drew ((BW.out.setCell (p := ⟨wb.heap.size, j * 2, none⟩) (Nat.le_refl _) _).setCell (p := ⟨wb.heap.size, j * 2 + 1, none⟩) (Nat.le_refl _) _)⟩, ⟨?_⟩⟩
              have h9 := ((OW.out.stored (j * 2) (.int .u8 ((encP x.1.f0).getD j 0))).1.stored (j * 2 + 1) (.int .u8 ((encP x.1.f1).getD j 0))).1
              rw [row_step (l := rowP x.1) HZG.out hlt] at h9
              refine World.ownsRow.drew ?_
              simpa using h9
        · have hltz : ¬ (j : Int) < (m : Int) := by omega
          obtain rfl : j = m := by omega
          have bR := (b1.kept (grown_of_below HBB.out) (by simp)).kept (grown_of_below BW.out) (by simp)
          have hcb := bR.cell
          have hfb := bR.frozen
          have hBW : Below W.heap.size W wr := HBB.out.trans (BW.out.mono HBB.out.size)
          have r3 := R_kept (R_kept HR1.out (grown_of_below HBB.out) (by simp)) (grown_of_below BW.out) (by simp)
          have hrow : Kd.R k57 57 wr w.heap.size (fun k => wb.heap.size ≤ k) (.slice (some ⟨wb.heap.size, 0, none⟩) j j) (rowP x.1) :=
            Kd.R_lower (R_of_rcl HZL.out.symm (by have := OW.out; rwa [List.take_of_length_le (by rw [show (rowP x.1).length = j from HZL.out]; exact Nat.le_refl _), Nat.sub_self, Nat.zero_mul, List.replicate_zero, List.append_nil] at this) (fun k hk => by cases hk; exact Nat.le_refl _)) (by have h1 := HB1.out.size; have h2 := HBB.out.size; omega)
          have r4 := Kd.R_alloc r3 (.cells #[.slice (some ⟨wb.heap.size, 0, none⟩) j j] 37)
          obtain ⟨q0, inner, hown, hreps⟩ := r4
          obtain ⟨_, inner3, hown3, _⟩ := id r3
          have hv1 : ∀ k, v1.ownBlock = some k → k < W.heap.size := Kd.R_lt HR1.out
          obtain ⟨i1, hi1, hz3, hz4, hz5⟩ := info_parts info37
          obtain ⟨pl, hpl⟩ : ∃ pl, (List.map (fun x => rowP x.1) pre) = pl := ⟨_, rfl⟩
          rw [hpl] at hown hreps
          have hpll : pl.length ≤ 230000000000 := by
            rw [← hpl, List.length_map]
            have h1 := partsD_len (wts ps) ps
            have h2 := wts_le ps HCL.out
            have h3 := HFL.out
            have h4 : (partsP ps).length ≤ wts ps := h1
            omega
          gi_wp2_with (gi_at_builtin; refine wpListIn_append_own_at _ rfl _ _ 27 rfl w.heap.size 37 i1 (.slice none 0 0) 1 24 Try.underlying27 hi1 hz3 hz4 hz5 rfl (by decide) _ _ _ rfl hown ⟨wr.heap.size, 0, none⟩ 1 1 [.slice (some ⟨wb.heap.size, 0, none⟩) j j] rfl rfl (World.news_of_block (heap_alloc_new wr _)) (by simp [Value.oneCell']) (by simp [maxLen]; omega) (by omega) (by have h1 := HB1.out.size; have h2 := hBW.size; simp; omega) ?_; intro v' w4 hown4 hgrow4 _ hat4; obtain ⟨g4, cap4, rfl⟩ := ownsRow_succ hown4; obtain ⟨hv1', hv2', hr2', hk2', hb2'⟩ := bR.appended (by decide) hown3 (by have h1 := HB1.out.size; have h2 := hBW.size; omega) (Nat.le_refl _) hown4 hgrow4; have hc4 := hv1'.cell; have hf4 := hv1'.frozen)
          have hR4 : kRR.R 37 w4 w.heap.size (fun k => w.heap.size ≤ k) (.slice (some ⟨g4, 0, none⟩) (pl.length + 1) cap4) (pl ++ [rowP x.1]) :=
            Kd.R_appended q0 hreps (p := rowP x.1) (okp := fun k => wb.heap.size ≤ k) ⟨_, rfl, Kd.R_alloc hrow _⟩ (fun k hk => ⟨by have h1 := HB1.out.size; have h2 := HBB.out.size; omega, fun e => by have h1 := hv1 k e.symm; have h2 := HBB.out.size; omega⟩) (fun k hk => by have h1 := HB1.out.size; have h2 := hBW.size; simp at hk; omega) hown4 hgrow4 (hat4.imp id fun h => ⟨_, h, Nat.le_refl _⟩)
          have hKW : KeepsOthers W wr := ⟨hBW.size, fun k o hk _ => same_of_below hBW k o hk⟩
          have hKA := hKW.trans hk2'
          have hsm : ∀ (k : Nat) (cs : Array Value), W.heap[k]? = some (.cells cs 43 (0, 0)) → (w4.setCell ⟨w.heap.size, 0, none⟩ (.slice (some ⟨g4, 0, none⟩) (pl.length + 1) cap4)).heap[k]? = some (.cells cs 43 (0, 0)) := by
            intro k cs hk
            have h1 := same_of_below hBW k _ hk
            have hlt := (Array.getElem?_eq_some_iff.1 h1).1
            have h2 := (Below.heap_alloc wr (.cells #[.slice (some ⟨wb.heap.size, 0, none⟩) j j] 37) k hlt).trans h1
            have h3 := (hgrow4.block k (by simp; omega) (Kd.R_ne r3 h1 (by decide))).trans h2
            refine (Below.heap_setCell w4 ⟨w.heap.size, 0, none⟩ _ k (fun e => ?_)).trans h3
            subst e
            rw [show wr.heap[w.heap.size]? = _ from bR] at h1
            cases h1
          refine ⟨hKA.from _, ⟨hKA.walks, hsm⟩, ⟨_, hv2', ?_⟩, HB1.out.trans ((hBW.mono HB1.out.size).trans hb2')⟩
          rw [List.map_append, hpl]
          exact Kd.R_set hR4 hv1' (by decide) 0 _
    gi_region_with (first
      | (gi_at_call 32; (with_reducible refine (CallsIn.inRound l (callsIn_wide.2 (utf_Encode.calls x.1.f0 (encP x.1.f0) _ rfl))).mono ?_); rintro e wa ⟨va, rfl, hoa, hba⟩; have hxa := (hba.cell (p := ⟨Bx, 1, none⟩) hx2).trans hx1; obtain ⟨Aa, ca, rfl⟩ := Kd.R_slice hoa)
      | (gi_at_call 32; (with_reducible refine (CallsIn.inRound l (callsIn_wide.2 (utf_Encode.calls x.1.f1 (encP x.1.f1) _ rfl))).mono ?_); rintro e wb ⟨vb, rfl, hob, hbb⟩; obtain ⟨Ab, cb, rfl⟩ := Kd.R_slice hob))
    all_goals exact rest _ _ _ _ _ ((below_drew1 (Below.refl _ _)).trans ((hba.mono (Nat.le_refl _)).trans (hbb.mono hba.size))) (Kd.C_below (Kd.R_reads' hoa).2.2 hbb) (Kd.R_reads' hob).2.2
  case done =>
    rintro D ys W hD hys ⟨⟨v1, b1, r1⟩, hB1⟩ hK
    have hc := b1.cell
    gi_wp2
    refine ⟨by simp, .inl ⟨_, _, rfl, run_takeDeferred hK, ?_⟩⟩
    refine ⟨_, results_tmp rfl _ _ _, _, rfl, ?_, hB1.trans (belowK_b (w := w) (Nat.le_refl _) W D _ _ (by have := HSZ2.out; have := HSZ3.out; omega) hK rfl rfl)⟩
    have r2 := R_kept r1 (grownBy_putObj' W D (.deferred none)) (fun r e => by cases e; exact ⟨_, hK, rfl⟩)
    have e : (ys.map fun x => rowP x.1) = ofP l0 := by
      unfold ofP
      rw [HPS.out, ← hys, List.map_map]
      rfl
    rw [e] at r2
    exact Kd.R_N r2
  case stop =>
    rintro D c pre W _ _ h _
    exact h.elim
theorem seqs_Of.calls (A0 : Option Addr) (c0 : Nat) (l0 : List S43) (r : List (List S57)) (w : World) (hr0 : Kd.C k43 w A0 l0.length l0) (hc0 : l0.length ≤ c0) (h : seqs_Of.f l0 = some r) :
    Calls Try.prog 12 #[.slice A0 l0.length c0] w fun e w' => ∃ v0_ : Value, e = .returned (v0_) ∧ Kd.N (Kd.slice 57 k57) 37 w' w.heap.size (fun k_ => (w.heap.size ≤ k_)) v0_ r ∧ Below w.heap.size w w' := by
  unfold seqs_Of.f at h
  split at h
  · rename_i hl
    cases h
    exact callsIn_wide.1 (of_in 8 (Nat.le_refl _) A0 c0 l0 w hr0 hc0 hl)
  · cases h
end
end Go.Proofs.Ytbhfaeliklaffaa.P
