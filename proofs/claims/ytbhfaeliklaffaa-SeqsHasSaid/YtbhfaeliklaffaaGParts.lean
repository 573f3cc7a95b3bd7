/- The iterator of seqs.parts. -/
import Derived.Test.YtbhfaeliklaffaaPx0
import Derived.Test.YtbhfaeliklaffaaPx9
import Derived.Test.YtbhfaeliklaffaaPx12
import Derived.Test.YtbhfaeliklaffaaGBase
import Derived.Test.YtbhfaeliklaffaaGEnc
import Derived.Test.YtbhfaeliklaffaaPBase
import Derived.Test.YtbhfaeliklaffaaPSeq
import Derived.RangeFuncNested
import Derived.RangeFuncBound
import Derived.RangeFuncCalls
import Derived.RangeFuncLeaves
import Derived.Shelf.Abstract
import Derived.Shelf.RegionOpen
import Derived.WalkKit
import Derived.OwnWalkIn
import Derived.TacticsInMore
import Derived.LoopNIn
import Derived.LoopIn
import Derived.Maps.AppendAt
import Derived.Outline
import Derived.ArgAppend
import Derived.Sort.LoopGhostIn
namespace Go.Proofs.Ytbhfaeliklaffaa.P
set_option linter.unusedVariables false
set_option linter.unusedSimpArgs false
section
open Go.RowKit Go.Shelf Go.Proofs.YtbhfaeliklaffaaW.PrintWords Go.Proofs.YtbhfaeliklaffaaW.PrintLast Go.Proofs.YtbhfaeliklaffaaW.PrintMore
attribute [local go_sem] Oper.semAt_some
/-- What a round of the loop over the parts keeps: rows of spans. -/
structure KpT (W W' : World) : Prop where
  walks : KeepsWalks W W'
  same : ∀ (k : Nat) (cs : Array Value), W.heap[k]? = some (.cells cs 43 (0, 0)) → W'.heap[k]? = some (.cells cs 43 (0, 0))
theorem KpT.trans {A B C : World} (h : KpT A B) (k : KpT B C) : KpT A C := ⟨h.walks.trans k.walks, fun i cs hi => k.same i cs (h.same i cs hi)⟩
theorem KpT.putObj (W : World) (l : Nat) (o o' : Obj) (h : W.heap[l]? = some o) (hc : o.isCells = false) (hw : o.isWalk = false) : KpT W (W.putObj l o') :=
  ⟨KeepsWalks.putObj _ h hw, fun k cs hk => by
    by_cases e : k = l
    · subst e; rw [h] at hk; cases hk; cases hc
    · exact (World.putObj_heap_other e).trans hk⟩
/-- The stack, as it lies: its top is the row's last one. -/
def StackAt (W : World) (A : Option Addr) (st : List S43) : Prop :=
  (A = none ∧ st = []) ∨ ∃ g cur, A = some ⟨g, 0, none⟩ ∧ W.heap[g]? = some (.cells cur 43 (0, 0)) ∧ cur.toList.take (st.length * 2) = scs st.reverse
theorem StackAt.keep {W W' : World} {A : Option Addr} {st : List S43} (h : StackAt W A st) (hk : ∀ (k : Nat) (cs : Array Value), W.heap[k]? = some (.cells cs 43 (0, 0)) → W'.heap[k]? = some (.cells cs 43 (0, 0))) : StackAt W' A st := by
  rcases h with h | ⟨g, cur, h1, h2, h3⟩
  · exact .inl h
  · exact .inr ⟨g, cur, h1, hk g cur h2, h3⟩
theorem StackAt.of_own {W : World} {b n : Nat} {A : Option Addr} {c : Nat} {st : List S43} (h : W.ownsRow b 43 2 (.slice A n c) n (scs st.reverse)) (hn : n = st.length) : StackAt W A st := by
  obtain ⟨h1, h2⟩ := h
  rcases h2 with ⟨h2, h3⟩ | ⟨g, cap, cur, h2, h3, h4, h5, h6, h7, h8⟩
  · injection h2 with h2 _ _
    exact .inl ⟨h2, List.length_eq_zero_iff.1 (by omega)⟩
  · injection h2 with h2 _ _
    exact .inr ⟨g, cur, h2, h4, by rw [← hn]; exact h8⟩
theorem grown_of_below {W W' : World} (h : Below W.heap.size W W') : W.grownBy W' none := ⟨h.os, h.tape, h.output, h.size, fun k hk _ => h.block k hk⟩
theorem same_of_below {W W' : World} (h : Below W.heap.size W W') (k : Nat) (o : Obj) (hk : W.heap[k]? = some o) : W'.heap[k]? = some o := (h.block k (Array.getElem?_eq_some_iff.1 hk).1).trans hk
theorem own_of_RS {e : Nat} {w : World} {base : Nat} {ok : Nat → Prop} {v : Value} {xs : List S43} (h : Kd.R k43 e w base ok v xs) : w.ownsRow base e 2 v xs.length (scs xs) := by
  obtain ⟨_, inner, ho, hr⟩ := h
  have hi : inner.length = xs.length * 2 := hr.1
  have : inner = scs xs := by
    apply List.ext_getElem?
    intro t
    by_cases ht : t < xs.length * 2
    · have hj : t / 2 < xs.length := by omega
      have h2 := k43_openM (hr.2 (t / 2) _ (List.getElem?_eq_getElem hj))
      rw [scs_get _ _ ht, getElem!_pos xs (t / 2) hj]
      have h3 : inner[t]? = ((inner.drop (t / 2 * 2)).take 2)[t % 2]? := by
        rw [List.getElem?_take, if_pos (by omega), List.getElem?_drop, show t / 2 * 2 + t % 2 = t by omega]
      have h2' : (inner.drop (t / 2 * 2)).take 2 = sc xs[t / 2] := h2
      rw [h3, h2', getElem!_pos (sc xs[t / 2]) (t % 2) (by simp [sc]; omega), List.getElem?_eq_getElem]
    · rw [List.getElem?_eq_none (by omega), List.getElem?_eq_none (by rw [scs_length]; omega)]
  rw [← this]
  exact ho
/-- The stack's top. -/
theorem StackAt.top {W : World} {A : Option Addr} {s : S43} {st : List S43} (h : StackAt W A (s :: st)) : ∃ g, A = some ⟨g, 0, none⟩ ∧ W.cell? ⟨g, st.length * 2, none⟩ = some (.int .i64 s.f0) ∧ W.cell? ⟨g, st.length * 2 + 1, none⟩ = some (.int .i64 s.f1) ∧ StackAt W A st ∧ ∀ j u, (scs st.reverse)[j]? = some u → W.cell? ⟨g, j, none⟩ = some u := by
  rcases h with ⟨_, h⟩ | ⟨g, cur, h1, h2, h3⟩
  · cases h
  · have e : scs (s :: st).reverse = scs st.reverse ++ sc s := by rw [List.reverse_cons, scs_append, scs_one]
    rw [e] at h3
    have hl : (scs st.reverse).length = st.length * 2 := by rw [scs_length, List.length_reverse]
    have at_ : ∀ j u, (scs st.reverse ++ sc s)[j]? = some u → W.cell? ⟨g, j, none⟩ = some u := by
      intro j u hj
      rw [← h3, List.getElem?_take] at hj
      split at hj
      · simp [World.cell?, h2]
        simpa using hj
      · cases hj
    refine ⟨g, h1, at_ _ _ ?_, at_ _ _ ?_, .inr ⟨g, cur, h1, h2, ?_⟩, fun j u hj => at_ j u ?_⟩
    · rw [List.getElem?_append_right (by omega), hl, Nat.sub_self]; rfl
    · rw [List.getElem?_append_right (by omega), hl, show st.length * 2 + 1 - st.length * 2 = 1 by omega]; rfl
    · have h4 := congrArg (List.take (st.length * 2)) h3
      rw [List.take_take, ← hl, List.take_left, hl] at h4
      rw [← h4]
      congr 1
      simp
    · rw [List.getElem?_append_left (List.getElem?_eq_some_iff.1 hj).1]; exact hj
theorem wpListIn_append_grows {F : Fence} {n : Nat} {P : Program} (w : World) {ops : Array Oper} {rest : List Oper} {o : Oper} {a : Act} {Q : Exit → Act → World → Prop}
    (hg : o.guard = none) (s x : Operand) (t : TypeId) (hop : o.op = Op.call { callee := Callee.builtin Builtin.append, args := #[s, x], argTypes := #[t, t] })
    (e : TypeId) (i : TypeInfo) (z : Value) (size bytes : Nat) (h1 : P.underlying t = some (.slice e)) (h2 : P.info? e = some i) (h3 : i.zero = some z) (h4 : i.size = size) (h5 : i.bytes = bytes) (h6 : z.cells.size = size) (h7 : 0 < size)
    (b : Addr) (k cap : Nat) (olds : List Value) (hs : a.eval s = .slice (some b) k cap) (hlo : olds.length = k * size) (holds : ∀ j u, olds[j]? = some u → w.cell? (b.add j) = some u)
    (ad : Addr) (m c : Nat) (news : List Value) (hx : a.eval x = .slice (some ad) m c) (hn : news.length = m * size) (hc : ∀ j u, news[j]? = some u → w.cell? (ad.add j) = some u)
    (hfull : cap < k + m) (b1 : k + m ≤ maxLen) (b2 : (k + m) * bytes ≤ 140737488355328)
    (hK : ∀ v' w', w'.ownsRow w.heap.size e size v' (k + m) (olds ++ news) → w.grownBy w' none → wpListIn F n P ops Q rest (a.put o.dst v') w') :
    wpListIn F n P ops Q (o :: rest) a w := by
  refine wpListIn_plain hg fun K hK' => ?_
  obtain ⟨v', w', hrun, r1, r2⟩ := run_append_arg_grows (P := P) w t o.type e i z size bytes h1 h2 h3 h4 h5 h6 h7 b k cap olds hlo holds ad m c news hn hc hfull b1 b2
  unfold Oper.wpIn
  refine ⟨?_, ?_⟩
  · simp [Oper.about, hop, resolve, Target.leads, Sem.run_pure]
  · rw [Oper.semAt_plain F _ _ (by rw [hop]; intro c hc'; cases hc')]
    simp [execOp, hop, resolve, invoke, builtin, hs, hx, hrun, Result.andThen]
    exact hK' _ _ (hK v' w' r1 r2)
abbrev Gs := { s : S43 // Cls s }
set_option maxRecDepth 100000 in
set_option maxHeartbeats 2000000 in
theorem parts1_in (n : Nat) (hn : 4 ≤ n) (l Bn : Nat) (A0 : Option Addr) (c0 : Nat) (l0 : List S43) (hcl : ∀ s ∈ l0, Cls s) (hlen : l0.length ≤ 100000) (J Jx : List Gs → World → Prop)
    (hY : ∀ (pre : List Gs) x W, J pre W → pre.length < (partsP l0).length → YieldAt Fence.wide (n - 1) Try.prog l #[sv x.1] W fun e W' => (e = .returned (.bool true) ∧ J (pre ++ [x]) W' ∧ KpT W W') ∨ (e = .returned (.bool false) ∧ Jx (pre ++ [x]) W'))
    (W : World) (hJ : AbidesFrom W.heap.size J) (hc : W.cell? ⟨Bn, 0, none⟩ = some (.slice A0 l0.length c0)) (hr : Kd.C k43 W A0 l0.length l0) (hc0 : l0.length ≤ c0) (h0 : J [] W) :
    CallsIn Fence.wide n Try.prog 44 #[.func (.yield l) #[] #[], .pointer (some ⟨Bn, 0, none⟩)] W fun e W' => (∃ v, e = .returned v) ∧
      ((∃ ys : List Gs, ys.map (·.1) = partsP l0 ∧ J ys W') ∨ (∃ pre : List Gs, pre.map (·.1) <+: partsP l0 ∧ Jx pre W')) := by
  have hro : Fence.wide.round = none := rfl
  refine callsIn_of_wp Try.func44 rfl trivial ?_ hro
  simp only [Try.ntmps44, List.size_toArray, List.length_cons, List.length_nil, Nat.reduceAdd, Nat.reduceSub, Array.replicate_succ, Array.replicate_zero, List.push_toArray, List.append_toArray, List.nil_append, List.cons_append]
  have hB := World.block_lt_of_cell? W _ hc
  simp only at hB
  obtain ⟨kr, hkr⟩ := (rev_ev l0 (by omega)).rounds
  have HKR := Aside0.mk hkr
  have HR := Aside0.mk hr
  have HC0 := Aside0.mk hc0
  have HLEN := Aside0.mk hlen
  clear hkr hr hc0 hlen
  gi_wp2
  refine ⟨trivial, (fun h => by omega), ?_⟩
  refine (callsIn_wide.2 (cloneS A0 c0 l0 _ HR.out HC0.out (by have := HLEN.out; omega))).mono ?_
  rintro e w1 ⟨v1, rfl, ho1, hb1⟩
  have HO1 := Aside0.mk ho1
  have HB1 := Aside0.mk hb1
  clear ho1 hb1
  gi_wp2
  refine ⟨trivial, (fun h => by omega), ?_⟩
  refine (callsIn_wide.2 (api_Span.calls kr (fun _ => True) _ l0 l0.reverse W _ HB1.out HO1.out HKR.out)).mono ?_
  rintro e w2 ⟨rfl, ho2, hb2, _⟩
  have HO2 := Aside0.mk ho2
  have HB2 := Aside0.mk hb2
  clear ho2 hb2
  gi_wp2
  obtain ⟨A1, c1, rfl⟩ := Kd.R_slice HO2.out
  have hst := StackAt.of_own (st := l0) (own_of_RS HO2.out) (by simp)
  have hcc := (Kd.R_reads' HO2.out).2.1
  rw [List.length_reverse] at hcc ⊢
  have HST := Aside0.mk hst
  have HCC := Aside0.mk hcc
  have HJ := Aside0.mk (hJ [] W w2 none h0 (grown_of_below HB2.out) (fun r e => by cases e))
  have HCL := Aside0.mk hcl
  have hwl := wts_le l0 hcl
  have HWL := Aside0.mk (show wts l0 ≤ 222822300000 by have := HLEN.out; omega)
  have HHJ := Aside0.mk hJ
  have HSZ := Aside0.mk HB2.out.size
  clear hst hcc HO2 HB2 HO1 HB1 HR HKR hcl hwl hJ h0 hc hB
  gi_loopg [3, 4, 5, 6] (wts l0) (fun gg v3 _ _ _ wr => ∃ (pre : List Gs) (st : List S43) (A : Option Addr) (c : Nat), v3 = .slice A st.length c ∧ Aside0 (wts st ≤ gg) ∧ Aside0 (st.length ≤ c) ∧ Aside0 (∀ s ∈ st, Cls s) ∧ Aside0 (pre.map (·.1) ++ partsP st = partsP l0) ∧ Aside0 (StackAt wr A st) ∧ Aside0 (wts st ≤ 222822300000) ∧ Aside0 (J pre wr) ∧ Aside0 (W.heap.size ≤ wr.heap.size))
  case atStart => exact ⟨[], l0, A1, c1, rfl, ⟨Nat.le_refl _⟩, HCC, HCL, ⟨rfl⟩, HST, HWL, HJ, HSZ⟩
  case round =>
    clear HST HCC HJ HCL HWL HSZ
    obtain ⟨pre, st, A, c, rfl, HG, HC, HCL, HE, HST, HW, HJ, HSZ⟩ := hrel
    cases st with
    | nil =>
      simp only [List.length_nil]
      gi_wp2
      go_end0
      exact ⟨⟨_, rfl⟩, .inl ⟨pre, by have := HE.out; rwa [parts_nil, List.append_nil] at this, HJ.out⟩⟩
    | cons s st =>
      obtain ⟨g, e1, hx0, hx1, hs2, hcs⟩ := HST.out.top
      cases e1
      simp only [List.length_cons]
      have HS2 := Aside0.mk hs2
      have HCS := Aside0.mk hcs
      have hg := World.block_lt_of_cell? wr _ hx0
      simp only at hg
      have hln : st.length + 1 ≤ c := HC.out
      obtain ⟨p, hp⟩ : ∃ p, st.length = p := ⟨_, rfl⟩
      have HP := Aside0.mk hp
      rw [hp] at hx0 hx1 hln ⊢
      have hpb : p ≤ 222822300000 := by have h1 := wts_len (s :: st); have h2 := HW.out; simp only [List.length_cons] at h1; omega
      clear hp hs2 hcs
      have hcs0 : Cls s := HCL.out s List.mem_cons_self
      have hbd := hcs0.bd
      obtain ⟨kp, hkp⟩ := (seq_place s.f0 s.f1 (by omega) (by omega) (by omega) (by omega)).rounds
      have HKP := Aside0.mk hkp
      have HCS0 := Aside0.mk hcs0
      have hpi := place_in hcs0
      clear hkp hcs0
      gi_wp2
      refine ⟨trivial, (fun h => by omega), ?_⟩
      refine (callsIn_wide.2 (seqs_place.calls kp s.f0 s.f1 (placeP ⟨s.f0, s.f1⟩) _ HKP.out)).mono ?_
      rintro e w3 ⟨rfl, hb3⟩
      have hb3' : Below wr.heap.size wr w3 := (below_alloc2' (Below.refl _ _) (Nat.le_refl _) _).trans (hb3.mono (by simp))
      have hbx0 : w3.cell? ⟨wr.heap.size, 0, none⟩ = some (.int .i64 s.f0) := (hb3.cell (p := ⟨wr.heap.size, 0, none⟩) (by simp)).trans (BoxS.new wr s).cell0
      have hbx1 : w3.cell? ⟨wr.heap.size, 1, none⟩ = some (.int .i64 s.f1) := (hb3.cell (p := ⟨wr.heap.size, 1, none⟩) (by simp)).trans (BoxS.new wr s).cell1
      have hbs : wr.heap.size < w3.heap.size := by have := hb3.size; simp at this; omega
      have HB3 := Aside0.mk hb3'
      have HJ3 := Aside0.mk (HHJ.out pre wr w3 none HJ.out (grown_of_below hb3') (fun r e => by cases e))
      have HS3 := Aside0.mk (HS2.out.keep (fun k cs hk => same_of_below hb3' k _ hk))
      have HCS3 := Aside0.mk (fun j u hj => (hb3'.cell (p := ⟨g, j, none⟩) hg).trans (HCS.out j u hj))
      clear hb3 hb3' hx0 hx1
      obtain ⟨x, hx⟩ : ∃ x, placeP s = x := ⟨_, rfl⟩
      rw [show placeP ⟨s.f0, s.f1⟩ = x from hx]
      rw [hx] at hpi
      have HX := Aside0.mk hx
      clear hx
      by_cases hlt : 0 < x
      · have hd : decide (0 < x) = true := decide_eq_true hlt
        obtain ⟨i0, hi, hz0, hz1, hz2⟩ := info_parts info43
        have hol : (scs st.reverse).length = p * 2 := by rw [scs_length, List.length_reverse, HP.out]
        have hcat := HCS3.out
        gi_wp2_with (gi_at_builtin; refine wpListIn_append_grows _ rfl _ _ 25 rfl 43 i0 (.agg #[.int .i64 0, .int .i64 0]) 2 16 Try.underlying25 hi hz0 hz1 hz2 rfl (by decide) ⟨g, 0, none⟩ p p (scs st.reverse) rfl hol (fun j u hj => by rw [Addr.add_lit, Nat.zero_add]; exact (World.cell?_alloc_lt _ _ _ (by simp; omega)).trans (hcat j u hj)) ⟨w3.heap.size, 0, none⟩ 2 2 [.int .i64 x, .int .i64 s.f1, .int .i64 s.f0, .int .i64 (x - 1)] rfl rfl (World.news_of_block (cs := #[.int .i64 x, .int .i64 s.f1, .int .i64 s.f0, .int .i64 (x - 1)]) (t := 43) (fr := (0, 0)) (heap_alloc_new w3 _)) (by omega) (by unfold maxLen; omega) (by omega) ?_; intro v' w4 hown hgrow; obtain ⟨g', cap', rfl⟩ := ownsRow_succ hown)
        have hg4 : w3.grownBy w4 none := (World.grownBy_alloc w3 _ none).trans hgrow
        have hcut := HCS0.out.cut (by rw [HX.out]; exact hlt)
        have hwc := wt_cut HCS0.out (by rw [HX.out]; exact hlt)
        have hpc := parts_cut HCL.out (by rw [HX.out]; exact hlt)
        rw [HX.out] at hcut hwc hpc
        have hcn : cap' ≥ p + 2 := by
          rcases hown.2 with ⟨e, _⟩ | ⟨g2, cap2, cur, e, _, _, h5, _⟩
          · cases e
          · injection e with _ _ e; omega
        gi_roundg (wts (⟨s.f0, x - 1⟩ :: ⟨x, s.f1⟩ :: st))
        case measure => have := HG.out; simp only [wts] at this hwc ⊢; omega
        case rel =>
          refine ⟨pre, ⟨s.f0, x - 1⟩ :: ⟨x, s.f1⟩ :: st, some ⟨g', 0, none⟩, cap', by simp only [List.length_cons, HP.out], ⟨Nat.le_refl _⟩, ⟨by simp only [List.length_cons, HP.out]; omega⟩, ⟨fun y hy => ?_⟩, ⟨by rw [← hpc]; exact HE.out⟩, ⟨?_⟩, ⟨by have := HW.out; simp only [wts] at this hwc ⊢; omega⟩, ⟨HHJ.out pre w3 w4 none HJ3.out hg4 (fun r e => by cases e)⟩, ⟨by have h1 := HSZ.out; have h2 := HB3.out.size; have h3 := hg4.size; omega⟩⟩
          · rcases List.mem_cons.1 hy with rfl | hy
            · exact hcut.1
            · rcases List.mem_cons.1 hy with rfl | hy
              · exact hcut.2
              · exact HCL.out y (List.mem_cons_of_mem _ hy)
          · refine StackAt.of_own (b := (w3.alloc (.cells #[.int .i64 x, .int .i64 s.f1, .int .i64 s.f0, .int .i64 (x - 1)] 43)).heap.size) (n := p + 2) (c := cap') ?_ (by simp only [List.length_cons, HP.out])
            have e : scs (⟨s.f0, x - 1⟩ :: ⟨x, s.f1⟩ :: st).reverse = scs st.reverse ++ [.int .i64 x, .int .i64 s.f1, .int .i64 s.f0, .int .i64 (x - 1)] := by
              rw [List.reverse_cons, List.reverse_cons, List.append_assoc, scs_append]; rfl
            rw [e]
            exact hown
      · have hd : decide (0 < x) = false := decide_eq_false hlt
        have hpk := parts_keep HCL.out (by rw [HX.out]; exact hlt)
        have hpl : pre.length < (partsP l0).length := by
          rw [← HE.out, hpk]
          simp
        have hpe : (pre ++ [(⟨s, HCS0.out⟩ : Gs)]).map (·.1) ++ partsP st = partsP l0 := by
          rw [← HE.out, hpk, List.map_append, List.append_assoc]
          rfl
        have HPE := Aside0.mk hpe
        obtain ⟨fn, tmps, assign, body, hy, hR⟩ := hY pre ⟨s, HCS0.out⟩ w3 HJ3.out hpl
        simp only [sv] at hy hR
        clear hpl hpk hpe
        gi_wp2
        refine ⟨(fun h => by omega), ?_⟩
        refine hR.mono ?_
        rintro e W3 (⟨rfl, hJ4, hk4⟩ | ⟨rfl, hJx4⟩)
        · gi_wp2
          gi_roundg (wts st)
          case measure => have := HG.out; simp only [wts, wt] at this ⊢; omega
          case rel => exact ⟨pre ++ [⟨s, HCS0.out⟩], st, some ⟨g, 0, none⟩, p, by rw [HP.out], ⟨Nat.le_refl _⟩, ⟨by rw [HP.out]; exact Nat.le_refl _⟩, ⟨fun y hy => HCL.out y (List.mem_cons_of_mem _ hy)⟩, HPE, ⟨HS3.out.keep hk4.same⟩, ⟨by have := HW.out; simp only [wts] at this; omega⟩, ⟨hJ4⟩, ⟨by have h1 := HSZ.out; have h2 := HB3.out.size; have h3 := hk4.walks.size; omega⟩⟩
        · gi_wp2
          refine bodyPost_ret (results_none rfl _ _ _) rfl ?_
          exact ⟨⟨_, rfl⟩, .inr ⟨_, ⟨partsP st, HPE.out⟩, hJx4⟩⟩
def zipR : List Int → List Int → List S57
  | a :: l, b :: m => ⟨a, b⟩ :: zipR l m
  | _, _ => []
/-- A part as a row of ranges. -/
def rowP (s : S43) : List S57 := zipR (encP s.f0) (encP s.f1)
def ofP (l : List S43) : List (List S57) := (partsP ((normP l).flatMap sizesP)).map rowP
def seqs_Of.f (l0 : List S43) : Option (List (List S57)) := if l0.length ≤ 1000 then some (ofP l0) else none
theorem parts_calls (A : Option Addr) (n c : Nat) (w : World) :
    Calls Try.prog 29 #[.slice A n c] w fun e w' => e = .returned (.func (.func 44) #[] #[.pointer (some ⟨w.heap.size, 0, none⟩)]) ∧ w' = w.alloc (.cells #[.slice A n c] 25) := by
  go_enter Try.func29, Try.ntmps29
  go_wp2
  go_ret
  exact ⟨rfl, rfl⟩
theorem parts_stops (n : Nat) (hn : 4 ≤ n) (Bn : Nat) (A0 : Option Addr) (c0 : Nat) (l0 : List S43) (hcl : ∀ s ∈ l0, Cls s) (hlen : l0.length ≤ 100000) (w : World) (hB : Bn < w.heap.size) (hc : w.cell? ⟨Bn, 0, none⟩ = some (.slice A0 l0.length c0)) (hr : Kd.C k43 w A0 l0.length l0) (hc0 : l0.length ≤ c0) :
    SeqStopsK Fence.wide n Try.prog 44 #[.pointer (some ⟨Bn, 0, none⟩)] (fun x : Gs => #[sv x.1]) KpT (fun ys => ys.map (·.1) = partsP l0) (fun pre => pre.map (·.1) <+: partsP l0) (partsP l0).length w := fun l J Jx W hW hJ _ hY h0 =>
  parts1_in n hn l Bn A0 c0 l0 hcl hlen J Jx hY W hJ ((hW.cell (p := ⟨Bn, 0, none⟩) hB).trans hc) (Kd.C_below hr hW) hc0 h0
end
end Go.Proofs.Ytbhfaeliklaffaa.P
