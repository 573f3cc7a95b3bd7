/- set.Norm, as a contract in the print's own form. -/
import Derived.Test.YtpcljaidlihafaaPx0
import Derived.Test.YtpcljaidlihafaaGBase
import Derived.Test.YtpcljaidlihafaaPBase
import Derived.Test.YtpcljaidlihafaaShelf
import Derived.Lib.Hide
import Derived.BigRegion
import Derived.Deep.QuietTactic
import Derived.BigQuiet
import Derived.WalkMore
import Derived.Deep.DeepFit
namespace Go.Proofs.Ytpcljaidlihafaa.P
set_option linter.unusedVariables false
set_option linter.unusedSimpArgs false
section
open Go.RowKit Go.Shelf Go.Sort Go.Proofs.YtpcljaidlihafaaW.PrintWords Go.Proofs.YtpcljaidlihafaaW.PrintLast Go.Proofs.YtpcljaidlihafaaW.PrintMore
attribute [local go_sem] max2_mx min2_mn max_two min_two
/-- The comparison of set.Norm: by the spans' begins. -/
def cfS (x y : S39) : Int := if x.f0 < y.f0 then -1 else if y.f0 < x.f0 then 1 else 0
theorem ltS (x y : S39) : ltOf cfS x y = decide (x.f0 < y.f0) := by
  unfold ltOf cfS
  by_cases h1 : x.f0 < y.f0
  · simp [h1]
  · by_cases h2 : y.f0 < x.f0 <;> simp [h1, h2]
theorem swoS : SWO (ltOf cfS) where
  irrefl x := by rw [ltS]; simp
  trans x y z h1 h2 := by rw [ltS] at *; simp at *; omega
  ntrans x y z h1 h2 := by rw [ltS] at *; simp at *; omega
set_option maxHeartbeats 2000000 in
theorem norm1_calls (x y : S39) (W : World) : Calls Try.prog 43 #[.agg #[.int .i64 x.f0, .int .i64 x.f1], .agg #[.int .i64 y.f0, .int .i64 y.f1]] W fun e w' => e = .returned (.int .i64 (cfS x y)) ∧ ∃ q os', w' = grow (W.drewN q) os' := by
  unfold cfS
  by_cases h1 : x.f0 < y.f0
  · rw [if_pos h1]
    go_enter Try.func43, Try.ntmps43
    go_wp2
    go_ret
    exact ⟨rfl, 0, _, by rw [alloc_eq_grow, alloc_eq_grow, grow_grow]; rfl⟩
  · rw [if_neg h1]
    by_cases h2 : y.f0 < x.f0
    · rw [if_pos h2]
      go_enter Try.func43, Try.ntmps43
      go_wp2
      go_ret
      exact ⟨rfl, 0, _, by rw [alloc_eq_grow, alloc_eq_grow, grow_grow]; rfl⟩
    · rw [if_neg h2]
      go_enter Try.func43, Try.ntmps43
      go_wp2
      go_ret
      exact ⟨rfl, 0, _, by rw [alloc_eq_grow, alloc_eq_grow, grow_grow]; rfl⟩
set_option maxHeartbeats 1000000 in
/-- slices.SortFunc on a row of the call's own: a permutation, rising by the spans' begins. -/
theorem sortS_calls (n₀ n : Nat) (v : Value) (xs : List S39) (w : World) (hn0 : n₀ ≤ w.heap.size) (hn : xs.length = n) (hlen : n ≤ 1000000) (hrow : w.ownsRow n₀ 39 2 v n (scs xs)) :
    Calls Try.prog 42 #[v, .func (.func 43) #[] #[]] w fun e w' => e = .returned (.tuple #[]) ∧ ∃ ys : List S39, ys.length = n ∧ ys.Perm xs ∧ ys.Pairwise (fun x y => x.f0 ≤ y.f0) ∧ w'.ownsRow n₀ 39 2 v n (scs ys) ∧ Below n₀ w w' := by
  rcases hrow.2 with ⟨rfl, rfl⟩ | ⟨g, cap, cur, rfl, hb, hg, h1, h2, h3, h4⟩
  · have hcon := AnyF.slices_SortFunc_none Try.sortSpan none 0 (.func (.func 43) #[] #[]) w
    obtain rfl : xs = [] := List.eq_nil_of_length_eq_zero hn
    exact hcon.mono fun e w' ⟨he, hw⟩ => by subst hw; exact ⟨he, [], rfl, List.Perm.refl _, List.Pairwise.nil, hrow, Below.refl _ _⟩
  · have eg : ∀ args w, (callFunc 43 args).run Try.prog w = .ok (.enter 43 args) w := enters_of Try.func43 (by kernel_rfl) rfl
    have hcon := AnyQ.slices_SortFunc Try.sortSpan 2 Try.isAgg39 Try.sizeOf39 sc (fun _ => rfl) (fun x v hv => by simp [sc] at hv; rcases hv with rfl | rfl <;> rfl) cfS swoS 43 #[] g 0 cap xs.toArray w eg (fun _ _ _ _ x y => norm1_calls x y _) (holdsK_of_own hrow) (Array.getElem?_eq_some_iff.1 hg).1 (by simp; omega)
    have hsz : xs.toArray.size = n := by simp [hn]
    rw [hsz] at hcon
    refine hcon.mono fun e w' ⟨he, d', q, os, hp, hs, hw⟩ => ?_
    have hd : d'.size = n := by have := hp.1; omega
    obtain ⟨ho, hbl⟩ := sorted_own (q := q) (d := d') (os := os) hrow hn hd hn0
    subst hw
    refine ⟨he, d'.toList, by simpa using hd, ?_, ?_, ho, hbl⟩
    · have := hp.2.2
      rw [← hd] at this
      simpa [List.take_of_length_le (show xs.length ≤ d'.size by omega)] using this
    · rw [List.pairwise_iff_getElem]
      intro i j hi hj hij
      have := hs i j (Nat.zero_le _) hij (by simpa [hd] using hj)
      rw [ltS] at this
      have hi' : i < d'.size := by simpa using hi
      have hj' : j < d'.size := by simpa using hj
      rw [getElem!_pos d' i hi', getElem!_pos d' j hj'] at this
      simp at this
      simpa using this
theorem len_pieces (x : S39) : (pieces x).length ≤ 2 := by unfold pieces oneP; split <;> split <;> simp
theorem len_flat (l : List S39) : (l.flatMap pieces).length ≤ 2 * l.length := by
  induction l with
  | nil => simp
  | cons a l ih => have := len_pieces a; simp only [List.flatMap_cons, List.length_append, List.length_cons]; omega
/-- Spans of scalars. -/
def Bd (x : S39) : Prop := 0 ≤ x.f0 ∧ x.f0 ≤ x.f1 ∧ x.f1 ≤ 1114111
theorem bd_pieces (s x : S39) (h : x ∈ pieces s) : Bd x := by
  unfold pieces at h
  rw [List.mem_append] at h
  unfold oneP at h
  unfold Bd
  rcases h with h | h
  · split at h
    · simp only [List.mem_singleton] at h; subst h; rename_i h1; unfold lowP mx mn at *; simp only at h1 ⊢; split at h1 <;> split at h1 <;> simp_all <;> omega
    · simp at h
  · split at h
    · simp only [List.mem_singleton] at h; subst h; rename_i h1; unfold highP mx mn at *; simp only at h1 ⊢; split at h1 <;> split at h1 <;> simp_all <;> omega
    · simp at h
theorem bd_perm {ys fs : List S39} {l0 : List S39} (h : ys.Perm fs) (hf : l0.flatMap pieces = fs) : ∀ x ∈ ys, Bd x := by
  intro x hx
  have := h.mem_iff.1 hx
  rw [← hf, List.mem_flatMap] at this
  obtain ⟨s, _, hs⟩ := this
  exact bd_pieces s x hs
theorem bd_step {out : List S39} {s : S39} (h : ∀ x ∈ out, Bd x) (hs : Bd s) : ∀ x ∈ mstep out s, Bd x := by
  unfold mstep
  intro x hx
  cases hl : out.getLast? with
  | none => rw [hl] at hx; simp at hx; subst hx; exact hs
  | some t =>
    rw [hl] at hx
    have ht : t ∈ out := List.mem_of_getLast? hl
    have hbt := h t ht
    simp only at hx
    split at hx
    · rw [List.mem_append] at hx
      rcases hx with hx | hx
      · exact h x (List.dropLast_subset _ hx)
      · simp only [List.mem_singleton] at hx; subst hx
        unfold Bd mx at *
        simp only
        split <;> omega
    · rw [List.mem_append] at hx
      rcases hx with hx | hx
      · exact h x hx
      · simp only [List.mem_singleton] at hx; subst hx; exact hs
theorem fold_snoc (l : List S39) (k : Nat) (h : k < l.length) : (l.take (k + 1)).foldl mstep [] = mstep ((l.take k).foldl mstep []) (rd_T39 l k) := by
  rw [List.take_succ_eq_append_getElem h, List.foldl_append]
  simp [rd_T39, List.getElem?_eq_getElem h]
theorem bd_foldl (l : List S39) : ∀ (acc : List S39), (∀ x ∈ l, Bd x) → (∀ x ∈ acc, Bd x) → ∀ x ∈ l.foldl mstep acc, Bd x := by
  induction l with
  | nil => intro acc _ h; exact h
  | cons a l ih => intro acc h h2; exact ih _ (fun x hx => h x (List.mem_cons_of_mem _ hx)) (bd_step h2 (h a List.mem_cons_self))
theorem bd_fold (ys : List S39) (h : ∀ x ∈ ys, Bd x) (k : Nat) : ∀ x ∈ (ys.take k).foldl mstep [], Bd x := bd_foldl _ [] (fun x hx => h x (List.mem_of_mem_take hx)) (fun x hx => by simp at hx)
theorem mstep_len (out : List S39) (s : S39) : (mstep out s).length ≤ out.length + 1 := by
  unfold mstep
  cases hl : out.getLast? with
  | none => simp
  | some t =>
    have : out ≠ [] := by rintro rfl; simp at hl
    have : 0 < out.length := List.length_pos_iff.2 this
    simp only
    split <;> simp <;> omega
theorem foldl_len (l : List S39) : ∀ acc : List S39, (l.foldl mstep acc).length ≤ acc.length + l.length := by
  induction l with
  | nil => intro acc; simp
  | cons a l ih => intro acc; have h1 := ih (mstep acc a); have h2 := mstep_len acc a; simp only [List.foldl_cons, List.length_cons]; omega
theorem fold_len (ys : List S39) (k : Nat) : ((ys.take k).foldl mstep []).length ≤ k := by
  have := foldl_len (ys.take k) []
  rw [List.length_take] at this
  simp at this
  omega
theorem mstep_far (init : List S39) (t x : S39) (h : ¬ x.f0 ≤ t.f1 + 1) : mstep (init ++ [t]) x = init ++ [t] ++ [x] := by
  unfold mstep
  rw [show (init ++ [t]).getLast? = some t by simp]
  exact if_neg h
theorem mstep_near (init : List S39) (t x : S39) (h : x.f0 ≤ t.f1 + 1) : mstep (init ++ [t]) x = init ++ [⟨t.f0, mx t.f1 x.f1⟩] := by
  unfold mstep
  rw [show (init ++ [t]).getLast? = some t by simp, show (init ++ [t]).dropLast = init by simp]
  exact if_pos h
theorem below_alloc2 {B : Nat} {w W : World} (h : Below B w W) (hB : B ≤ W.heap.size) (o : Obj) : Below B w (W.alloc o) := h.alloc hB o
theorem take_flat (l : List S39) (k : Nat) (h : k < l.length) : (l.take (k + 1)).flatMap pieces = (l.take k).flatMap pieces ++ pieces (rd_T39 l k) := by
  rw [List.take_succ_eq_append_getElem h, List.flatMap_append]
  simp [rd_T39, List.getD_eq_getElem?_getD, List.getElem?_eq_getElem h]
set_option maxRecDepth 100000 in
set_option maxHeartbeats 2000000 in
theorem set_Norm.calls (A0 : Option Addr) (c0 : Nat) (l0 : List S39) (r : List S39) (w : World) (hr0 : Kd.C k39 w A0 l0.length l0) (hc0 : l0.length ≤ c0) (h : set_Norm.f l0 = some r) :
    Calls Try.prog 27 #[.slice A0 l0.length c0] w fun e w' => ∃ v0_ : Value, e = .returned (v0_) ∧ Kd.R k39 39 w' w.heap.size (fun _ => True) v0_ r ∧ Below w.heap.size w w' := by
  unfold set_Norm.f at h
  split at h
  case isFalse => cases h
  rename_i hlen
  obtain rfl := Option.some.inj h
  have HR0 := Aside0.mk hr0
  clear hr0 h
  obtain ⟨i0, hi, hz0, hz1, hz2⟩ := info_parts info39
  obtain ⟨n, hn⟩ : ∃ n, l0.length = n := ⟨_, rfl⟩
  have HN := Aside0.mk hn
  rw [hn] at hlen hc0 ⊢
  clear hn
  go_enter Try.func27, Try.ntmps27
  go_wp2
  go_step3
  go_wp2
  go_loopw [3, 12] (fun v i wr => ∃ k : Nat, k ≤ n ∧ i = .int .i64 k ∧ Aside0 (wr.ownsRow w.heap.size 39 2 v ((l0.take k).flatMap pieces).length (scs ((l0.take k).flatMap pieces))) ∧ Aside0 (Below w.heap.size w wr)) (fun _ i _ => n - (intOf i).toNat)
  case atStart => exact ⟨0, by omega, rfl, ⟨World.ownsRow_nil _ _ _ _⟩, ⟨Below.refl _ _⟩⟩
  case round =>
    obtain ⟨k, hk, rfl, HO, HB⟩ := hrel
    by_cases hlt : k < n
    · obtain ⟨x, hx⟩ : ∃ x, x = rd_T39 l0 k := ⟨_, rfl⟩
      obtain ⟨ad, e1, hx0, hx1⟩ := at_T39 (by have := HR0.out; rwa [HN.out] at this) (k : Int) (by omega) (by omega)
      cases e1
      have HX := Aside0.mk hx
      rw [← hx] at hx0 hx1
      clear hx
      simp only [Int.toNat_natCast] at hx0 hx1
      replace hx0 := (HB.out.cell (World.block_lt_of_cell? w _ hx0)).trans hx0
      replace hx1 := (HB.out.cell (World.block_lt_of_cell? w _ hx1)).trans hx1
      go_wp2_with (first
        | (go_at_call 41; refine (pieces_calls x _).mono ?_; rintro e w' ⟨rfl, rfl⟩)
        | (go_at_call 40; refine (appendSeq_calls w.heap.size (wr.heap.size + 1) x u3 ((l0.take k).flatMap pieces) _ ?s1 ?s2 ?s3 ?s4 ?s5 ?s6).mono ?_; (case s1 => have := HB.out.size; simp; omega); (case s2 => simp); (case s3 => have := (BoxS.new (wr.alloc (.cells #[.int .i64 x.f0, .int .i64 x.f1] 39)) x).cell0; rwa [World.size_alloc] at this); (case s4 => have := (BoxS.new (wr.alloc (.cells #[.int .i64 x.f0, .int .i64 x.f1] 39)) x).cell1; rwa [World.size_alloc] at this); (case s5 => exact (HO.out.alloc _).alloc _); (case s6 => have := len_flat (l0.take k); rw [List.length_take] at this; omega); rintro e w' ⟨v2, rfl, ho2, hb2⟩))
      go_roundw
      case rel => exact ⟨k + 1, by omega, by go_num, ⟨by rw [take_flat l0 k (by rw [HN.out]; exact hlt), ← HX.out]; exact ho2⟩, ⟨((HB.out.alloc HB.out.size _).alloc (by have := HB.out.size; simp; omega) _).trans hb2⟩⟩
      case measure => simp [intOf]; omega
    · obtain rfl : k = n := by omega
      have HO2 : Aside0 (wr.ownsRow w.heap.size 39 2 u3 (l0.flatMap pieces).length (scs (l0.flatMap pieces))) := by have := HO.out; rw [List.take_of_length_le (by rw [HN.out]; exact Nat.le_refl _)] at this; exact ⟨this⟩
      clear HO
      obtain ⟨fs, hfs⟩ : ∃ fs, l0.flatMap pieces = fs := ⟨_, rfl⟩
      have HFS := Aside0.mk hfs
      have hfl := len_flat l0
      rw [HN.out, hfs] at hfl
      rw [hfs] at HO2
      clear hfs
      obtain ⟨m, hm⟩ : ∃ m, fs.length = m := ⟨_, rfl⟩
      have HM := Aside0.mk hm
      rw [hm] at HO2 hfl
      clear hm
      obtain ⟨A1, c1, rfl⟩ := own_slice HO2.out
      go_wp2_with (go_at_call 42; refine (sortS_calls w.heap.size m _ fs _ ?s1 HM.out ?s3 HO2.out).mono ?_; (case s1 => exact HB.out.size); (case s3 => omega); rintro e w2 ⟨rfl, ys, hy1, hy2, hy3, ho3, hb3⟩)
      have HY1 := Aside0.mk hy1
      have HY2 := Aside0.mk hy2
      have HY3 := Aside0.mk hy3
      have HB3 := Aside0.mk (HB.out.trans hb3)
      have HO3 := Aside0.mk ho3
      have HR3 := Aside0.mk (R_of_rows hy1.symm ho3)
      clear hy1 hy2 hy3 hb3 ho3 HO2 HB
      go_step3
      go_wp2
      go_loopw [4, 25] (fun v i wr => ∃ j : Nat, j ≤ m ∧ i = .int .i64 j ∧ Aside0 (wr.ownsRow w2.heap.size 39 2 v ((ys.take j).foldl mstep []).length (scs ((ys.take j).foldl mstep []))) ∧ Aside0 (Below w2.heap.size w2 wr)) (fun _ i _ => m - (intOf i).toNat)
      case atStart => exact ⟨0, by omega, rfl, ⟨World.ownsRow_nil _ _ _ _⟩, ⟨Below.refl _ _⟩⟩
      case round =>
        obtain ⟨j, hj, rfl, HO, HB⟩ := hrel
        by_cases hlt : j < m
        · obtain ⟨x, hx⟩ : ∃ x, x = rd_T39 ys j := ⟨_, rfl⟩
          obtain ⟨ad, e1, hx0, hx1⟩ := at_T39 (Kd.R_reads' HR3.out).2.2 (j : Int) (by omega) (by rw [HY1.out]; omega)
          cases e1
          have hst := fold_snoc ys j (by rw [HY1.out]; exact hlt)
          rw [← hx] at hx0 hx1 hst
          simp only [Int.toNat_natCast] at hx0 hx1
          replace hx0 := (HB.out.cell (World.block_lt_of_cell? w2 _ hx0)).trans hx0
          replace hx1 := (HB.out.cell (World.block_lt_of_cell? w2 _ hx1)).trans hx1
          obtain ⟨hbx0, hbx1, hbx2⟩ := (bd_perm HY2.out HFS.out) x (by rw [hx, rd_T39, Int.toNat_natCast]; rw [List.getD_eq_getElem?_getD, List.getElem?_eq_getElem (by rw [HY1.out]; exact hlt)]; exact List.getElem_mem _)
          have hbo := bd_fold ys (bd_perm HY2.out HFS.out) j
          have hol := fold_len ys j
          obtain ⟨out, ho⟩ : ∃ out, (ys.take j).foldl mstep [] = out := ⟨_, rfl⟩
          rw [ho] at hbo hst HO hol
          have HST := Aside0.mk hst
          clear hst ho hx
          rcases nil_or_snoc out with rfl | ⟨init, t, rfl⟩
          · obtain ⟨A4, c4, rfl⟩ := own_slice HO.out
            have hsz := HB.out.size
            go_wp2
            go_quiet (fail)
            go_wp2_with (at_builtin; refine wpList_append_own _ rfl _ _ 27 rfl w2.heap.size 39 i0 (.agg #[.int .i64 0, .int .i64 0]) 2 16 Try.underlying27 hi hz0 hz1 hz2 rfl (by decide) _ _ _ rfl ((HO.out.alloc _).alloc _) ⟨wr.heap.size + 1, 0, none⟩ 1 1 [.int .i64 x.f0, .int .i64 x.f1] rfl rfl ?c1 ?c2 ?c3 ?c4 ?c5 ?_; (case c1 => exact World.news_of_block (cs := #[.int .i64 x.f0, .int .i64 x.f1]) (t := 39) (fr := (0, 0)) (by have := heap_alloc_new ((wr.alloc (.cells #[.int .i64 x.f0, .int .i64 x.f1] 39)).drewN nq) (.cells #[.int .i64 x.f0, .int .i64 x.f1] 39); simpa using this)); (case c2 => simp [Value.oneCell']); (case c3 => simp [maxLen]); (case c4 => simp); (case c5 => simp; omega); intro v' w1 hown' hgrow _)
            go_roundw
            case rel => exact ⟨j + 1, by omega, by go_num, ⟨by rw [HST.out]; simpa [mstep, scs, sc] using hown'⟩, ⟨(below_alloc2 (pw_below_drewN (below_alloc2 HB.out hsz _) _) (by simp; omega) _).grown hgrow (by simp; omega) (fun k hk => (HO.out.lt k hk).1)⟩⟩
            case measure => simp [intOf]; omega
          · obtain ⟨hbt0, hbt1, hbt2⟩ := hbo t (by simp)
            have hsz := HB.out.size
            obtain ⟨p, hp⟩ : ∃ p, p = init.length := ⟨_, rfl⟩
            have hln : (init ++ [t]).length = p + 1 := by rw [hp]; simp
            rw [hln] at HO hol
            obtain ⟨g, cap, rfl⟩ := ownsRow_succ HO.out
            have hg := HO.out.lt g rfl
            have hg2 := hg.2
            have hcl := HO.out.cellAt (p * 2 + 1) (by omega)
            rw [scs_append, List.getElem?_append_right (by rw [scs_length, hp]; omega), scs_length, ← hp, show p * 2 + 1 - p * 2 = 1 by omega] at hcl
            have hcf := HO.out.frozenAt (p * 2 + 1)
            replace hcl : wr.cell? ⟨g, p * 2 + 1, none⟩ = some (.int .i64 t.f1) := hcl
            have HP := Aside0.mk hp
            clear hp
            by_cases hc : x.f0 ≤ t.f1 + 1
            · have hc' : decide (x.f0 ≤ t.f1 + 1) = true := decide_eq_true hc
              go_wp2
              go_quiet (fail)
              go_wp2
              have hbx := BoxS.new wr x
              have hb5 : Below wr.heap.size wr ((wr.alloc (.cells #[.int .i64 x.f0, .int .i64 x.f1] 39)).drewN nq) := pw_below_drewN (below_alloc2 (Below.refl _ _) (Nat.le_refl _) _) _
              have hx5 : ((wr.alloc (.cells #[.int .i64 x.f0, .int .i64 x.f1] 39)).drewN nq).cell? ⟨wr.heap.size, 1, none⟩ = some (.int .i64 x.f1) := hbx.cell1
              have hs5 : wr.heap.size < ((wr.alloc (.cells #[.int .i64 x.f0, .int .i64 x.f1] 39)).drewN nq).heap.size := by simp
              obtain ⟨W5, hW5⟩ : ∃ W5, (wr.alloc (.cells #[.int .i64 x.f0, .int .i64 x.f1] 39)).drewN nq = W5 := ⟨_, rfl⟩
              rw [hW5] at hb5 hx5 hs5 ⊢
              clear hW5 hbx
              replace hcl := (hb5.cell (p := ⟨g, p * 2 + 1, none⟩) hg2).trans hcl
              replace hcf := (hb5.frozen (p := ⟨g, p * 2 + 1, none⟩) hg2).trans hcf
              have HO5 := Aside0.mk (pw_own_below HO.out hb5)
              have HB5 := Aside0.mk (HB.out.trans (hb5.mono hsz))
              clear hb5
              go_region
              all_goals go_wp2
              go_roundw
              case rel =>
                refine ⟨j + 1, by omega, by go_num, ⟨?_⟩, ⟨?_⟩⟩
                · rw [HST.out, mstep_near init t x hc, scs_append, scs_one, show (init ++ [(⟨t.f0, mx t.f1 x.f1⟩ : S39)]).length = p + 1 by rw [HP.out]; simp]
                  have := (HO5.out.stored (p * 2 + 1) (.int .i64 (mx t.f1 x.f1))).1
                  rw [scs_append, scs_one, List.set_append_right (h := by rw [scs_length, HP.out]; omega), scs_length, HP.out, show init.length * 2 + 1 - init.length * 2 = 1 by omega] at this
                  have hpe := HP.out
                  subst hpe
                  exact this
                · exact below_drew (HB5.out.setCell (p := ⟨g, p * 2 + 1, none⟩) hg.1 _)
              case measure => simp [intOf]; omega
            · have hc' : decide (x.f0 ≤ t.f1 + 1) = false := decide_eq_false hc
              go_wp2
              go_quiet (fail)
              go_wp2_with (at_builtin; refine wpList_append_own _ rfl _ _ 27 rfl w2.heap.size 39 i0 (.agg #[.int .i64 0, .int .i64 0]) 2 16 Try.underlying27 hi hz0 hz1 hz2 rfl (by decide) _ _ _ rfl ((HO.out.alloc _).alloc _) ⟨wr.heap.size + 1, 0, none⟩ 1 1 [.int .i64 x.f0, .int .i64 x.f1] rfl rfl ?c1 ?c2 ?c3 ?c4 ?c5 ?_; (case c1 => exact World.news_of_block (cs := #[.int .i64 x.f0, .int .i64 x.f1]) (t := 39) (fr := (0, 0)) (by have := heap_alloc_new ((wr.alloc (.cells #[.int .i64 x.f0, .int .i64 x.f1] 39)).drewN nq) (.cells #[.int .i64 x.f0, .int .i64 x.f1] 39); simpa using this)); (case c2 => simp [Value.oneCell']); (case c3 => unfold maxLen; omega); (case c4 => omega); (case c5 => simp; omega); intro v' w1 hown' hgrow _)
              go_roundw
              case rel => exact ⟨j + 1, by omega, by go_num, ⟨by rw [HST.out, mstep_far init t x (by omega), scs_append, scs_one, show (init ++ [t] ++ [x]).length = p + 1 + 1 by rw [HP.out]; simp]; exact hown'⟩, ⟨(below_alloc2 (pw_below_drewN (below_alloc2 HB.out hsz _) _) (by simp; omega) _).grown hgrow (by simp; omega) (fun k hk => (HO.out.lt k hk).1)⟩⟩
              case measure => simp [intOf]; omega
        · obtain rfl : j = m := by omega
          have HO2 := HO.out
          rw [List.take_of_length_le (by rw [HY1.out]; exact Nat.le_refl _)] at HO2
          go_wp2
          rw [Exit.noGoto_ret]
          go_ret
          refine ⟨_, rfl, ?_, ?_⟩
          · rw [normP_eq HFS.out HY2.out HY3.out]
            exact Kd.R_lower (R_of_rows rfl HO2) HB3.out.size
          · exact HB3.out.trans (HB.out.mono HB3.out.size)
theorem normP_len (l : List S39) : (normP l).length ≤ 2 * l.length := by
  have h1 := foldl_len (sortLo (l.flatMap pieces)) []
  have h2 := (sortLo_perm (l.flatMap pieces)).length_eq
  have h3 := len_flat l
  unfold normP
  simp at h1
  omega
end
end Go.Proofs.Ytpcljaidlihafaa.P
