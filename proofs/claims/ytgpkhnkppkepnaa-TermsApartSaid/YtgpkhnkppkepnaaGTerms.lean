/- terms.Of, as a contract in the print's own form. -/
import Derived.Test.YtgpkhnkppkepnaaPx0
import Derived.Test.YtgpkhnkppkepnaaPx12
import Derived.Test.YtgpkhnkppkepnaaGBase
import Derived.Test.YtgpkhnkppkepnaaGEdges
import Derived.Test.YtgpkhnkppkepnaaGHas
import Derived.Test.YtgpkhnkppkepnaaGMapH
import Derived.Test.YtgpkhnkppkepnaaGNorm
import Derived.Test.YtgpkhnkppkepnaaGRowsO
import Derived.Test.YtgpkhnkppkepnaaPBase
import Derived.Test.YtgpkhnkppkepnaaPTermsA
import Derived.Deep.RegionLaw
import Derived.Deep.AppendLies
import Derived.Deep.DrawnRows
import Derived.Outline
import Derived.StringKeys
namespace Go.Proofs.Ytgpkhnkppkepnaa.P
set_option linter.unusedVariables false
set_option linter.unusedSimpArgs false
section
open Go.RowKit Go.Shelf Go.Maps Go.Proofs.YtgpkhnkppkepnaaW.PrintWords Go.Proofs.YtgpkhnkppkepnaaW.PrintLast Go.Proofs.YtgpkhnkppkepnaaW.PrintMore
attribute [local go_sem ↓] Go.wp_at_zero Go.wp_at_succ
/-- A map that tells the places of words. -/
def MapK (D : DataW Value) (ks : List (List UInt8)) : Prop := (∀ s, Maps.has D (.string s) = true ↔ s ∈ ks) ∧ ∀ (i : Nat) (s : List UInt8), ks[i]? = some s → ∀ zd, D.atKey (.string s) zd = .lit (.int .i64 (i : Int))
theorem MapK.nil : MapK (.map []) [] := ⟨fun s => by simp [Maps.has_eq], fun i s h => by simp at h⟩
theorem lit_strK (s : List UInt8) : WideAt.IsKeyLit (.string s) := by first | trivial | simp [WideAt.IsKeyLit]
theorem MapK.snoc {D : DataW Value} {ks : List (List UInt8)} (h : MapK D ks) (hD : IsMap D) (s : List UInt8) (hs : s ∉ ks) : MapK (D.put (.string s) (.lit (.int .i64 (ks.length : Int)))) (ks ++ [s]) := by
  refine ⟨fun t => ?_, fun i t ht zd => ?_⟩
  · by_cases e : t = s
    · subst e
      rw [Maps.has_put_same hD (lit_strK t)]
      simp
    · rw [Maps.has_put_other (fun e2 => e (by injection e2)), h.1 t]
      simp [e]
  · rcases Nat.lt_or_ge i ks.length with hi | hi
    · rw [List.getElem?_append_left hi] at ht
      have hne : t ≠ s := fun e => hs (e ▸ List.mem_of_getElem? ht)
      rw [Maps.atKey_put_other (fun e2 => hne (by injection e2))]
      exact h.2 i t ht zd
    · have hil : i = ks.length := by have := (List.getElem?_eq_some_iff.1 ht).1; simp at this; omega
      subst hil
      have e : t = s := by simpa using ht.symm
      subst e
      exact Maps.atKey_put_same hD (lit_strK t) _ _
theorem MapK.find {D : DataW Value} {ks : List (List UInt8)} (h : MapK D ks) {s : List UInt8} {k : Nat} (hk : ks.findIdx? (· == s) = some k) : Maps.has D (.string s) = true ∧ ks[k]? = some s ∧ ∀ zd, D.atKey (.string s) zd = .lit (.int .i64 (k : Int)) := by
  rw [List.findIdx?_eq_some_iff_getElem] at hk
  obtain ⟨hl, he, _⟩ := hk
  have e : ks[k] = s := by simpa using he
  have hg : ks[k]? = some s := by rw [List.getElem?_eq_getElem hl, e]
  exact ⟨(h.1 s).2 (List.mem_of_getElem? hg), hg, h.2 k s hg⟩
theorem MapK.miss {D : DataW Value} {ks : List (List UInt8)} (h : MapK D ks) {s : List UInt8} (hk : ks.findIdx? (· == s) = none) : Maps.has D (.string s) = false ∧ s ∉ ks := by
  rw [List.findIdx?_eq_none_iff] at hk
  have hn : s ∉ ks := fun hm => by have := hk s hm; simp at this
  refine ⟨?_, hn⟩
  cases hh : Maps.has D (.string s) with
  | false => rfl
  | true => exact absurd ((h.1 s).1 hh) hn
/-- All blocks but one that lay there are as they were. -/
def Hk (w0 : World) (b : Nat) (w : World) : Prop := w0.heap.size ≤ w.heap.size ∧ ∀ g, g < w0.heap.size → g ≠ b → w.heap[g]? = w0.heap[g]?
theorem Hk.refl (w : World) (b : Nat) : Hk w b w := ⟨Nat.le_refl _, fun _ _ _ => rfl⟩
theorem Hk.below {w0 w w1 : World} {b : Nat} (h : Hk w0 b w) (hb : Below w.heap.size w w1) : Hk w0 b w1 := ⟨Nat.le_trans h.1 hb.size, fun g hg hn => (hb.block g (by have := h.1; omega)).trans (h.2 g hg hn)⟩
theorem Hk.alloc {w0 w : World} {b : Nat} (h : Hk w0 b w) (o : Obj) : Hk w0 b (w.alloc o) := ⟨Nat.le_trans h.1 (by simp), fun g hg hn => (Below.heap_alloc w o g (by have := h.1; omega)).trans (h.2 g hg hn)⟩
theorem Hk.drew {w0 w : World} {b : Nat} (h : Hk w0 b w) : Hk w0 b w.drew := h
theorem Hk.grown {w0 w w1 : World} {b : Nat} {row : Option Nat} (h : Hk w0 b w) (hg : w.grownBy w1 row) (hr : ∀ j, row = some j → j = b ∨ w0.heap.size ≤ j) : Hk w0 b w1 :=
  ⟨Nat.le_trans h.1 hg.size, fun g hg' hn => (hg.block g (by have := h.1; omega) (fun e => by rcases hr g e.symm with h1 | h1 <;> omega)).trans (h.2 g hg' hn)⟩
theorem Hk.set {w0 w : World} {b : Nat} (h : Hk w0 b w) {a : Addr} (ha : w0.heap.size ≤ a.block) (u : Value) : Hk w0 b (w.setCell a u) :=
  ⟨Nat.le_trans h.1 (by simp [World.setCell]), fun g hg hn => (Below.heap_setCell w a u g (by omega)).trans (h.2 g hg hn)⟩
theorem cell_heap {w w1 : World} {p : Addr} (h : w1.heap[p.block]? = w.heap[p.block]?) : w1.cell? p = w.cell? p := by unfold World.cell?; rw [h]
theorem Hk.cell {w0 w : World} {b : Nat} (h : Hk w0 b w) {p : Addr} (hp : p.block < w0.heap.size) (hn : p.block ≠ b) : w.cell? p = w0.cell? p := cell_heap (h.2 _ hp hn)
theorem madeNil (n : Nat) : (madeCells (Value.slice none 0 0).cells (n * 1)).toList = List.replicate n (Value.slice none 0 0) := by
  rw [Nat.mul_one]
  simp only [madeCells, Value.cells, Array.toList_map, Array.toList_range]
  refine List.ext_getElem (by simp) fun i h1 h2 => by simp [Nat.mod_one]
theorem cell_al (w : World) (p : Addr) (h : p.block < w.heap.size) (o : Obj) : (w.drew.alloc o).cell? p = w.cell? p := ((Below.refl w.heap.size w).drew.alloc (Nat.le_refl _) o).cell h
theorem frozen_al (w : World) (p : Addr) (h : p.block < w.heap.size) (o : Obj) : (w.drew.alloc o).frozen? p = w.frozen? p := ((Below.refl w.heap.size w).drew.alloc (Nat.le_refl _) o).frozen h
theorem isEmpty_of {s : ByteArray} (h : ¬ s.data.toList = []) : s.toList.isEmpty = false := by
  rw [show s.toList = s.data.toList from Lib.toList_data s]
  cases hs : s.data.toList with
  | nil => exact absurd hs h
  | cons a l => rfl
theorem ceq {H : Type} {x : DataW H} {a b : Int} (h1 : x = .lit (.int .i64 a)) (h2 : x = .lit (.int .i64 b)) : a = b := by
  have := h1.symm.trans h2
  simpa using this
theorem own_cells {w : World} {base g n c : Nat} {e : TypeId} {xs : List Value} (h : w.ownsRow base e 1 (.slice (some ⟨g, 0, none⟩) n c) n xs) (j : Nat) (hj : j < n) : w.cell? ⟨g, j, none⟩ = xs[j]? := h.cellAt j (by omega)
theorem enc_at (l : List Int) (j : Nat) (h : j < l.length) : (l.map encZ)[j]? = some (.int .i64 (rd l j)) := by
  rw [List.getElem?_map, List.getElem?_eq_getElem h]
  unfold rd
  rw [Int.toNat_natCast, List.getD_eq_getElem?_getD, List.getElem?_eq_getElem h]
  rfl
theorem norm_step (rows : List (List S42)) (q : Nat) (xs : List S42) (h : rows[q]? = some xs) : ((rows.take q).map normP ++ rows.drop q).set q (normP xs) = (rows.take (q + 1)).map normP ++ rows.drop (q + 1) := by
  obtain ⟨hl, he⟩ := List.getElem?_eq_some_iff.1 h
  rw [List.set_append_right _ _ (by rw [List.length_map, List.length_take]; omega), List.length_map, List.length_take, Nat.min_eq_left (by omega), Nat.sub_self, List.drop_eq_getElem_cons hl, List.set_cons_zero, List.take_succ_eq_append_getElem hl, List.map_append, List.append_assoc, he]
  rfl
theorem rel_rows {w w6 : World} {base gv cv k n g cap : Nat} {vs : List Value} {u : Value} {xs : List S42} {R rows' : List (List S42)} {a0 a1 : Int} {o : Obj} (h : RowsA w base (.slice (some ⟨gv, 0, none⟩) n cv) vs R) (hn : R.length = n) (hu : vs[k]? = some u)
    (hown : w6.ownsRow base 42 2 (.slice (some ⟨g, 0, none⟩) (xs.length + 1) cap) (xs.length + 1) (scs xs ++ [.int .i64 a0, .int .i64 a1])) (hg : (w.alloc o).drew.grownBy w6 u.ownBlock) (hat : u.ownBlock = some g ∨ g = w.heap.size + 1)
    (hr : ∀ xs', R[k]? = some xs' → True → rows' = R.set k (xs' ++ [⟨a0, a1⟩])) (hx : R[k]? = some xs) :
    RowsO (w6.setCell ⟨gv, k, none⟩ (.slice (some ⟨g, 0, none⟩) (xs.length + 1) cap)) base (.slice (some ⟨gv, 0, none⟩) n cv) rows' := by
  rw [hr xs hx trivial]
  refine ⟨vs.set k (.slice (some ⟨g, 0, none⟩) (xs.length + 1) cap), h.put hn hu (fun q hq hne => (hg.block q (by simp; omega) hne).trans (Below.heap_alloc w o q hq)) (by rw [List.length_append, scs_append, scs_one]; exact hown) ?_⟩
  rcases hat with h1 | h1
  · exact .inr (.inl h1.symm)
  · exact .inr (.inr ⟨g, rfl, by omega⟩)
theorem rel_map {w w6 : World} {base gv k b n n' m : Nat} {u v : Value} {xs : List Value} {D : DataW Value} {o : Obj} (h : w.ownsMap Try.prog 9 (plainElem Try.prog 3) b n D) (ho : w.ownsRow base 42 2 u m xs) (hg : (w.alloc o).drew.grownBy w6 u.ownBlock) (hgv : base ≤ gv) (hb : b < base) (hn : n ≤ n') :
    (w6.setCell ⟨gv, k, none⟩ v).ownsMap Try.prog 9 (plainElem Try.prog 3) b n' D :=
  (((h.alloc o).drew.kept hg (fun e => by have := (ho.lt b e.symm).1; omega)).setCell (a := ⟨gv, k, none⟩) (show b ≠ gv by omega) v).mono hn
theorem setsA_take (l : List (List S42)) (k : Nat) (h : k < l.length) : ((setsA l).take k ++ List.replicate (l.length - k) []).set k (normP (rd_L2 l k)) = (setsA l).take (k + 1) ++ List.replicate (l.length - (k + 1)) [] := by
  have hl : (setsA l).length = l.length := by simp [setsA]
  have hrep : List.replicate (l.length - k) ([] : List S42) = [] :: List.replicate (l.length - (k + 1)) [] := by
    rw [show l.length - k = (l.length - (k + 1)) + 1 by omega]; rfl
  have hget : (setsA l)[k]'(by omega) = normP (rd_L2 l k) := by
    simp [setsA, rd_L2, List.getElem?_eq_getElem h]
  rw [hrep, List.take_succ_eq_append_getElem (by omega), hget, List.set_append_right _ _ (by rw [List.length_take]; omega), List.length_take, Nat.min_eq_left (by omega), Nat.sub_self, List.set_cons_zero, List.append_assoc]
  rfl
theorem row_small (l : List (List S42)) (k : Nat) (h : k < l.length) : (rd_L2 l k).length ≤ l.flatten.length := by
  have h1 := flat_take_succ l k h
  have h2 := take_flat_len l (k + 1)
  rw [h1, List.length_append] at h2
  omega
set_option maxRecDepth 100000 in
set_option maxHeartbeats 4000000 in
theorem terms_Of.calls (A0 : Option Addr) (c0 : Nat) (l0 : List (List S42)) (r : List (List S42)) (w : World) (hr0 : Kd.C (Kd.slice 42 k42) w A0 l0.length l0) (hc0 : l0.length ≤ c0) (h : terms_Of.f l0 = some r) :
    Calls Try.prog 11 #[.slice A0 l0.length c0] w fun e w' => ∃ v0_ : Value, e = .returned (v0_) ∧ Kd.N (Kd.slice 42 k42) 28 w' w.heap.size (fun k_ => (w.heap.size ≤ k_)) v0_ r ∧ Below w.heap.size w w' := by
  unfold terms_Of.f at h
  split at h
  case isFalse => cases h
  rename_i hlen
  obtain rfl := Option.some.inj h
  clear h
  obtain ⟨hlen, hflat⟩ := hlen
  have HR0 := Aside0.mk hr0
  clear hr0
  obtain ⟨i0, hi, hz0, hz1, hz2⟩ := info_parts info28
  obtain ⟨i1, hi1, hy0, hy1, hy2⟩ := info_parts info42
  obtain ⟨n, hn⟩ : ∃ n, l0.length = n := ⟨_, rfl⟩
  have HN := Aside0.mk hn
  have HFL := Aside0.mk hflat
  rw [hn] at hlen hc0 ⊢
  clear hn hflat
  have hmm := @run_makeMap Try.prog
  go_enter Try.func11, Try.ntmps11
  go_wp2_with (refine wpList_make_full _ rfl _ _ 24 rfl w.heap.size 28 i0 (.slice none 0 0) 1 Try.underlying24 hi hz0 hz1 .i64 .i64 n n n rfl rfl rfl rfl (by rw [hz2]; omega) (by unfold maxLen; omega) (Nat.le_refl _) ?_; intro w1 hown1 hg1; rw [madeNil] at hown1; have HO := Aside0.mk (RowsO.made hown1); have HB := Aside0.mk ((Below.refl w.heap.size w).grown hg1 (Nat.le_refl _) (fun j hj => by cases hj)); clear hown1 hg1)
  go_loopw [19] (fun i wr => ∃ k : Nat, k ≤ n ∧ i = .int .i64 k ∧ Aside0 (RowsO wr w.heap.size (.slice (some ⟨w.heap.size, 0, none⟩) n n) ((setsA l0).take k ++ List.replicate (n - k) [])) ∧ Aside0 (Below w.heap.size w wr)) (fun i _ => n - (intOf i).toNat)
  case atStart => exact ⟨0, Nat.zero_le _, rfl, HO, HB⟩
  case round =>
    obtain ⟨k, hk, rfl, HO', HB'⟩ := hrel
    by_cases hlt : k < n
    · have hltz : (k : Int) < (n : Int) := by omega
      obtain ⟨ad, A1, c1, e1, hx0, hcl, hi0⟩ := at_L2 (by have := HR0.out; rwa [HN.out] at this) (k : Int) (by omega) (by omega)
      cases e1
      simp only [Int.toNat_natCast] at hx0
      replace hx0 := (HB'.out.cell (World.block_lt_of_cell? w _ hx0)).trans hx0
      have hkl : k < l0.length := by rw [HN.out]; exact hlt
      have hst := setsA_take l0 k hkl
      have hsm := row_small l0 k hkl
      have hfl := HFL.out
      replace hi0 := Kd.C_below hi0 HB'.out
      have hbg := HB'.out.size
      obtain ⟨vs, hA⟩ := HO'.out
      have hlc : ((setsA l0).take k ++ List.replicate (n - k) []).length = n := by
        rw [List.length_append, List.length_take, List.length_replicate]; simp [setsA]; rw [HN.out]; omega
      have HST := Aside0.mk hst
      have HI0 := Aside0.mk hi0
      have HA := Aside0.mk hA
      have HLC := Aside0.mk hlc
      have hkv : k < vs.length := by rw [hA.1, hlc]; exact hlt
      obtain ⟨u, hu⟩ : ∃ u, vs[k]? = some u := ⟨_, List.getElem?_eq_getElem hkv⟩
      have HU := Aside0.mk hu
      have hfn : set_Norm.f (rd_L2 l0 k) = some (normP (rd_L2 l0 k)) := by unfold set_Norm.f; rw [if_pos (by omega)]
      have HFN := Aside0.mk hfn
      clear hst hi0 hA hlc hkv hu hfn hsm
      obtain ⟨row, hrow⟩ : ∃ row, rd_L2 l0 k = row := ⟨_, rfl⟩
      rw [hrow] at HST HI0 HFN hx0 hcl
      clear hrow
      go_wp2_with (go_at_call 26; refine (set_Norm.calls A1 c1 row (normP row) wr HI0.out hcl HFN.out).mono ?_; rintro e w2 ⟨v2, rfl, hR2, hb2⟩; obtain ⟨A2, c2, rfl⟩ := own_slice (own_of_R hR2); have HR2 := Aside0.mk (own_of_R hR2); have HB2 := Aside0.mk hb2; have hrow2 : w2.ownsRow w.heap.size 28 1 (.slice (some ⟨w.heap.size, 0, none⟩) n n) n vs := pw_own_below (by have := HA.out.2.1; rwa [HLC.out] at this) hb2; have hcu : w2.cell? ⟨w.heap.size, k, none⟩ = some u := (own_cells hrow2 k hlt).trans HU.out; have hfz : w2.frozen? ⟨w.heap.size, k, none⟩ = false := hrow2.frozenAt k; clear hR2 hb2 hrow2)
      go_roundw
      case rel =>
        refine ⟨k + 1, by omega, by go_num, ⟨vs.set k (.slice A2 (normP row).length c2), ?_⟩, ⟨(HB'.out.trans (HB2.out.mono hbg)).setCell (by simp) _⟩⟩
        have hst := HST.out
        rw [HN.out] at hst
        rw [← hst]
        have hA := HA.out
        refine hA.put HLC.out HU.out (fun g hg _ => HB2.out.block g hg) (ownsRow_base_a HR2.out hbg) ?_
        cases hv : (Value.slice A2 (normP row).length c2).ownBlock with
        | none => exact .inl rfl
        | some g => exact .inr (.inr ⟨g, rfl, (HR2.out.lt g hv).1⟩)
      case measure => simp [intOf]; omega
    · have : k = n := by omega
      subst this
      obtain ⟨wo, rfl⟩ : ∃ wo : World, wo = wr := ⟨_, rfl⟩
      have hO := HO'.out
      rw [Nat.sub_self, List.replicate_zero, List.append_nil, List.take_of_length_le (by simp [setsA]; rw [HN.out]; exact Nat.le_refl _)] at hO
      have hsl : (setsA l0).length = k := by simp [setsA]; exact HN.out
      have hF := Kd.N_F (Kd.R_N hO.R)
      have hC0 := hF (wo.alloc (.map #[] 0)) (fun g _ hg => Below.heap_alloc wo _ g hg)
      have hbe := HB'.out.size
      have hed := edges_calls (some ⟨w.heap.size, 0, none⟩) k (setsA l0) (wo.alloc (.map #[] 0)) (by rw [hsl]; exact hC0) (Nat.le_of_eq hsl) (by have := setsA_flat l0; have := HFL.out; omega) (setsA_bd l0)
      rw [hsl] at hed
      have HED := Aside0.mk hed
      have HF := Aside0.mk hF
      have HSL := Aside0.mk hsl
      clear hO hC0 hed hF hsl
      go_wp2_with (go_at_call 27; refine HED.out.mono ?_; rintro e w2 ⟨ve, rfl, hrow, hb2⟩; obtain ⟨Ae, ce, rfl⟩ := own_slice hrow; have HE := Aside0.mk hrow; have HB2 := Aside0.mk hb2; clear hrow hb2)
      have hb2s := HB2.out.size
      have hb2s' : wo.heap.size + 1 ≤ w2.heap.size := by simpa using hb2s
      clear hb2s
      obtain ⟨m, hm⟩ : ∃ m, (risI (endsL (setsA l0))).length = m := ⟨_, rfl⟩
      have hm9 : m ≤ 40000 := by have := edgesA_len l0; unfold edgesA at this; have := HFL.out; omega
      rw [hm] at HE ⊢
      have HM := Aside0.mk hm
      clear hm
      have HK2 : Aside0 (Hk w2 wo.heap.size w2) := ⟨Hk.refl _ _⟩
      have HMP : Aside0 (w2.ownsMap Try.prog 9 (plainElem Try.prog 3) wo.heap.size 0 (.map [] : DataW Value)) := ⟨ownsMap_below (World.ownsMap_made _ _ _ _) HB2.out⟩
      have HBW : Aside0 (Below w.heap.size w w2) := ⟨(HB'.out.alloc hbe _).trans (HB2.out.mono (by simp; omega))⟩
      go_loopw [7, 9] (fun v i w4 => ∃ (j : Nat) (D : DataW Value), j ≤ m ∧ (j = 0 ∨ j + 1 ≤ m) ∧ i = .int .i64 j ∧ Aside0 (RowsO w4 w2.heap.size v (rowsA (accA (setsA l0) (edgesA l0) j))) ∧ Aside0 (MapK D (keysA (accA (setsA l0) (edgesA l0) j))) ∧ Aside0 (w4.ownsMap Try.prog 9 (plainElem Try.prog 3) wo.heap.size j D) ∧ Aside0 (Hk w2 wo.heap.size w4) ∧ Aside0 (Below w.heap.size w w4)) (fun _ i _ => m - (intOf i).toNat)
      case atStart => exact ⟨0, .map [], Nat.zero_le _, .inl rfl, rfl, ⟨RowsO.nil _ _⟩, ⟨MapK.nil⟩, HMP, HK2, HBW⟩
      case round =>
        obtain ⟨w4, rfl⟩ : ∃ w4 : World, w4 = wr := ⟨_, rfl⟩
        obtain ⟨j, D, hj, hj2, rfl, HR, HK, HMP4, HK4, HB4⟩ := hrel
        have hs4 := HK4.out.1
        have hs5 := HB4.out.size
        by_cases hjt : j + 1 < m
        · have hjtz : (j : Int) + 1 < (m : Int) := by omega
          obtain ⟨ge, ce', he1, hbe1, hge1⟩ := HE.out.form (by omega)
          injection he1 with he1 _ he2
          subst he1
          subst he2
          have hgl := HE.out.lt ge rfl
          have hgl1 : wo.heap.size + 1 ≤ ge := by have := hgl.1; simpa using this
          have hce2 : w2.cell? ⟨ge, j, none⟩ = some (.int .i64 (rd (edgesA l0) j)) := by
            rw [own_cells HE.out j (by omega)]
            exact enc_at (edgesA l0) j (by show j < (risI (endsL (setsA l0))).length; rw [HM.out]; omega)
          have hce3 : w2.cell? ⟨ge, j + 1, none⟩ = some (.int .i64 (rd (edgesA l0) (j + 1 : Nat))) := by
            rw [own_cells HE.out (j + 1) (by omega)]
            exact enc_at (edgesA l0) (j + 1) (by show j + 1 < (risI (endsL (setsA l0))).length; rw [HM.out]; omega)
          have hce0 : w4.cell? ⟨ge, j, none⟩ = some (.int .i64 (rd (edgesA l0) j)) := by
            rw [HK4.out.cell (p := ⟨ge, j, none⟩) hgl.2 (by simp; omega), own_cells HE.out j (by omega)]
            exact enc_at (edgesA l0) j (by show j < (risI (endsL (setsA l0))).length; rw [HM.out]; omega)
          have hce1 : w4.cell? ⟨ge, j + 1, none⟩ = some (.int .i64 (rd (edgesA l0) (j + 1 : Nat))) := by
            rw [HK4.out.cell (p := ⟨ge, j + 1, none⟩) hgl.2 (by simp; omega), own_cells HE.out (j + 1) (by omega)]
            exact enc_at (edgesA l0) (j + 1) (by show j + 1 < (risI (endsL (setsA l0))).length; rw [HM.out]; omega)
          have hm' : (edgesA l0).length = m := HM.out
          have b0 := edgesA_bd l0 _ (rd_mem (edgesA l0) j (by rw [hm']; omega))
          have b1 := edgesA_bd l0 _ (rd_mem (edgesA l0) (j + 1) (by rw [hm']; omega))
          have hacc : accA (setsA l0) (edgesA l0) (j + 1) = stepA (accA (setsA l0) (edgesA l0) j) (wordP (setsA l0) (rd (edgesA l0) j)) ⟨rd (edgesA l0) j, rd (edgesA l0) (j + 1 : Nat) - 1⟩ := rfl
          have hrl := rowsA_row (setsA l0) (edgesA l0) j
          have hll := accA_len (setsA l0) (edgesA l0) j
          have hC4 := HF.out w4 (fun g _ hg => (HK4.out.2 g (by omega) (by omega)).trans ((HB2.out.block g (by simp; omega)).trans (Below.heap_alloc wo _ g hg)))
          obtain ⟨kw, hkw⟩ := (word_ev (setsA l0) (rd (edgesA l0) j) (by rw [HSL.out]; exact hlen)).rounds
          have hws := word_size (setsA l0) (rd (edgesA l0) j) (by rw [HSL.out]; exact hlen)
          have hwc := terms_word.calls kw (some ⟨w.heap.size, 0, none⟩) k (setsA l0) (rd (edgesA l0) j) _ w4 (by rw [HSL.out]; exact hC4) (Nat.le_of_eq HSL.out) hkw
          rw [HSL.out] at hwc
          obtain ⟨a0, ha0⟩ : ∃ a, rd (edgesA l0) j = a := ⟨_, rfl⟩
          obtain ⟨a1, ha1⟩ : ∃ a, rd (edgesA l0) (j + 1 : Nat) = a := ⟨_, rfl⟩
          rw [ha0] at hce0 hce2 b0 hacc hwc hws
          rw [ha1] at hce1 hce3 b1 hacc
          obtain ⟨wd, hwd⟩ : ∃ wd, wordP (setsA l0) a0 = wd := ⟨_, rfl⟩
          rw [hwd] at hacc hwc hws
          obtain ⟨out, hout⟩ : ∃ out, accA (setsA l0) (edgesA l0) j = out := ⟨_, rfl⟩
          rw [hout] at hacc HR HK hrl hll
          have HACC := Aside0.mk hacc
          have HRL := Aside0.mk hrl
          have HWC := Aside0.mk hwc
          obtain ⟨b01, b02⟩ := b0
          obtain ⟨b11, b12⟩ := b1
          obtain ⟨vs0, hown0⟩ := HR.out.own
          obtain ⟨A9, c9, rfl⟩ := own_slice hown0
          rw [rowsA_length] at *
          have HC0 := Aside0.mk hce2
          have HC1 := Aside0.mk hce3
          have HGE : Aside0 (ge < w2.heap.size ∧ ge ≠ wo.heap.size) := ⟨hgl.2, by omega⟩
          have HWO : Aside0 (wo.heap.size < w2.heap.size) := ⟨by omega⟩
          have HWB : Aside0 (w.heap.size ≤ w2.heap.size) := ⟨HBW.out.size⟩
          clear hce2 hce3
          clear hacc hrl hwc hkw hC4 ha0 ha1 hwd hout hm' hown0 hge1 hbe1 hgl
          by_cases hwe : wd.data.toList = []
          · obtain rfl : wd = ⟨#[]⟩ := by
              cases wd with | mk d => cases d with | mk l => simp at hwe; rw [hwe]
            go_wp2_with (go_at_call 28; refine HWC.out.mono ?_; rintro e w5 ⟨rfl, hb5⟩; have HB5 := Aside0.mk hb5; clear hb5)
            go_roundw
            case rel =>
              have ha := HACC.out
              rw [stepA_nil rfl] at ha
              refine ⟨j + 1, D, by omega, .inr (by omega), by go_num, ⟨?_⟩, ⟨?_⟩, ⟨?_⟩, ⟨HK4.out.below HB5.out⟩, ⟨HB4.out.trans (HB5.out.mono hs5)⟩⟩
              · rw [ha]; exact HR.out.below HB5.out
              · rw [ha]; exact HK.out
              · exact (ownsMap_below HMP4.out HB5.out).mono (by omega)
            case measure => simp [intOf]; omega
          · have hwe1 : wd.toList.isEmpty = false := isEmpty_of hwe
            have hkw : keyOf Try.prog 9 (.string wd) = some (.string wd.data.toList) := WideMaps.keyOf_string_mk Try.underlying9 (by unfold maxLen; omega)
            have hlaw := string_keyed Try.underlying9
            have hbl := HMP4.out.lt
            cases hfi : (keysA out).findIdx? (· == wd.data.toList) with
            | some kk =>
              obtain ⟨hh, hkk, hat0⟩ := HK.out.find hfi
              have HH := Aside0.mk hh
              have HAT := Aside0.mk (hat0 (.lit (.int .i64 0)))
              have hkl : kk < out.length := by have := (List.getElem?_eq_some_iff.1 hkk).1; rw [keysA_length] at this; exact this
              have HKK := Aside0.mk hkk
              have hao := HACC.out
              rw [stepA_old hwe hfi] at hao
              have HAO := Aside0.mk hao
              clear hh hat0 hkk hao hfi
              go_wp2_with (first
                | (go_at_call 28; refine HWC.out.mono ?_; rintro e w5 ⟨rfl, hb5⟩; have HB5 := Aside0.mk hb5; have HM5 := Aside0.mk (ownsMap_below HMP4.out hb5); clear hb5)
                | (at_lookup; refine wpList_lookup_own_ok_int _ rfl _ _ 47 rfl 9 3 .i64 hlaw Try.underlying47 Try.underlying3 (zero_int _) wo.heap.size _ D rfl HM5.out _ _ rfl hkw ?_; intro cc hat hwcc; have hce := ceq hat HAT.out; subst hce; rw [HH.out]; clear hat))
              obtain ⟨vs, hA5⟩ := HR.out.below HB5.out
              have HAW := Aside0.mk hA5
              have HRN := Aside0.mk (rowsA_length out)
              have HRW := HRL
              have HKW := Aside0.mk (HK4.out.below HB5.out)
              have HBWW := Aside0.mk (HB4.out.trans (HB5.out.mono hs5))
              have HMW := HM5
              have HKD := HK
              have HFK : Aside0 (keysA (accA (setsA l0) (edgesA l0) (j + 1)) = keysA out) := ⟨by rw [HAO.out, keysA_set HKK.out]⟩
              have HFR : Aside0 (∀ xs', (rowsA out)[kk]? = some xs' → True → rowsA (accA (setsA l0) (edgesA l0) (j + 1)) = (rowsA out).set kk (xs' ++ [⟨a0, a1 - 1⟩])) := ⟨fun xs' hx _ => by rw [HAO.out, rowsA_set, List.getD_eq_getElem?_getD, hx]; rfl⟩
              clear hA5
-- GEN old
              obtain ⟨gv, c9', e9, hv9a, hv9b⟩ := HAW.out.2.1.form (by rw [HRN.out]; omega)
              rw [HRN.out] at e9
              injection e9 with e9 _ e9'
              subst e9
              subst e9'
              have hkv : kk < vs.length := by rw [HAW.out.1, HRN.out]; exact hkl
              obtain ⟨u, hu⟩ : ∃ u, vs[kk]? = some u := ⟨_, List.getElem?_eq_getElem hkv⟩
              obtain ⟨xs, hxs, hou⟩ := HAW.out.inner hu
              obtain ⟨Au, cu, rfl⟩ := own_slice hou
              have hxl : xs.length ≤ j := HRW.out xs (List.mem_of_getElem? hxs)
              have hrow5 : w5.ownsRow w2.heap.size 28 1 (.slice (some ⟨gv, 0, none⟩) (out.length) c9) (out.length) vs := by have := HAW.out.2.1; rwa [HRN.out] at this
              have hgv := hrow5.lt gv rfl
              have hcu := (own_cells hrow5 (kk) hkl).trans hu
              have hfu := hrow5.frozenAt (kk)
              have hne : some gv ≠ (Value.slice Au xs.length cu).ownBlock := by
                rcases HAW.out.apart hu with h2 | h2
                · rw [h2]; simp
                · exact fun e => h2 (by rw [← e]; rfl)
              have hce5 := (HKW.out.cell (p := ⟨ge, j, none⟩) HGE.out.1 HGE.out.2).trans HC0.out
              have hce6 := (HKW.out.cell (p := ⟨ge, j + 1, none⟩) HGE.out.1 HGE.out.2).trans HC1.out
              have HOU := Aside0.mk hou
              have HNE := Aside0.mk hne
              have HXS := Aside0.mk hxs
              have HUU := Aside0.mk hu
              have HGV := Aside0.mk hgv
              have hbws := HKW.out.1
              have hkz : (0 : Int) ≤ (kk : Int) := by omega
              have hkz2 : (kk : Int) < (out.length : Int) := by omega
              have hjz : (0 : Int) ≤ (j : Int) := by omega
              have hjz2 : (j : Int) < (m : Int) := by omega
              have hjz3 : (0 : Int) ≤ (j : Int) + 1 := by omega
              have ht1 : ((j : Int) + 1).toNat = j + 1 := by omega
              have hw1 : IntKind.i64.wrap ((j : Int) + 1) = (j : Int) + 1 := IntWalk.i64_in _ (by omega)
              have hw2 : IntKind.i64.wrap (a1 - 1) = a1 - 1 := IntWalk.i64_in _ (by omega)
              clear hou hne hxs hu hrow5 hgv hkv hv9a hv9b
              have hs0 : (w5.alloc (.cells #[.int .i64 a0, .int .i64 (a1 - 1)] 42)).cell? ⟨gv, kk, none⟩ = some (.slice Au xs.length cu) := (cell_al w5 ⟨gv, kk, none⟩ HGV.out.2 _).trans hcu
              go_region_law ((refine step_append_lies _ (by rfl) _ _ 28 (by rfl) w2.heap.size 42 i1 (.agg #[.int .i64 0, .int .i64 0]) 2 16 Try.underlying28 hi1 hy0 hy1 hy2 rfl (by decide) (.slice Au xs.length cu) xs.length (scs xs) (by rfl) (HOU.out.alloc _) ⟨w5.heap.size, 0, none⟩ 1 1 [.int .i64 a0, .int .i64 (a1 - 1)] (by rfl) (by rfl) (World.news_of_block (cs := #[.int .i64 a0, .int .i64 (a1 - 1)]) (t := 42) (fr := (0, 0)) (heap_alloc_new w5 _)) (by simp [Value.oneCell']) (by omega) (by unfold maxLen; omega) (by omega) (by simp; omega) (w5.heap.size + 1) (by simp) ?_; intro g cap w6 hown6 hg6 hat6 hlt6; have hs1 := (hg6.cell_far ⟨gv, kk, none⟩ (by have := HGV.out.2; simp; omega) HNE.out).trans ((cell_al w5 ⟨gv, kk, none⟩ HGV.out.2 _).trans hcu); have hs2 := (hg6.frozen_far ⟨gv, kk, none⟩ (by have := HGV.out.2; simp; omega) HNE.out).trans ((frozen_al w5 ⟨gv, kk, none⟩ HGV.out.2 _).trans hfu)))
              all_goals
                go_wp2
                go_roundw
                case rel =>
                  exact ⟨j + 1, D, by omega, .inr (by omega), by go_num, ⟨rel_rows HAW.out HRN.out HUU.out hown6 hg6 hat6 HFR.out HXS.out⟩, ⟨by rw [HFK.out]; exact HKD.out⟩, ⟨rel_map HMW.out HOU.out hg6 HGV.out.1 HWO.out (by omega)⟩, ⟨((HKW.out.alloc _).drew.grown hg6 (fun q hq => .inr (HOU.out.lt q hq).1)).set (by exact HGV.out.1) _⟩, ⟨(((HBWW.out.alloc HBWW.out.size _).drew.grown hg6 (by have := HBWW.out.size; simp; omega) (fun q hq => Nat.le_trans HWB.out (HOU.out.lt q hq).1)).setCell (Nat.le_trans HWB.out HGV.out.1) _)⟩⟩
                case measure => simp [intOf]; omega
-- END old
            | none =>
              obtain ⟨hh, hns⟩ := HK.out.miss hfi
              have HH := Aside0.mk hh
              have HNS := Aside0.mk hns
              have hao := HACC.out
              rw [stepA_new hwe hfi] at hao
              have HAO := Aside0.mk hao
              clear hh hns hao hfi
              go_wp2_with (first
                | (go_at_call 28; refine HWC.out.mono ?_; rintro e w5 ⟨rfl, hb5⟩; have HB5 := Aside0.mk hb5; have HM5 := Aside0.mk (ownsMap_below HMP4.out hb5); obtain ⟨vsa, hA5⟩ := HR.out.below hb5; have HA5 := Aside0.mk hA5; have hb5s := hb5.size; clear hb5 hA5)
                | (at_lookup; refine wpList_lookup_own_ok_int _ rfl _ _ 47 rfl 9 3 .i64 hlaw Try.underlying47 Try.underlying3 (zero_int _) wo.heap.size _ D rfl HM5.out _ _ rfl hkw ?_; intro cc hat hwcc; rw [HH.out]; clear hat)
                | (at_mapUpdate; refine wpList_mapUpdate_own _ rfl _ _ _ 47 rfl 9 3 hlaw Try.underlying47 _ wo.heap.size _ D rfl HM5.out (by unfold maxLen; omega) _ _ _ rfl rfl hkw _ [] (plainElem_int Try.underlying3 (WalkArith.wf_i64 (by omega))) ?_; intro w7 hown7 hgrow7; have HM7 := Aside0.mk hown7; have HG7 := Aside0.mk hgrow7; have hs7 := hgrow7.size; have HA7 := Aside0.mk (HA5.out.same (w1 := w7.alloc (.cells #[.slice none 0 0] 28)) fun q h1 h2 => (Below.heap_alloc w7 _ q (by omega)).trans (hgrow7.block q h2 (by simp; omega))); clear hown7 hgrow7)
                | (at_builtin; refine wpList_append_own_at _ rfl _ _ 24 rfl w2.heap.size 28 i0 (.slice none 0 0) 1 24 Try.underlying24 hi hz0 hz1 hz2 rfl (by decide) _ _ _ rfl HA7.out.2.1 ⟨w7.heap.size, 0, none⟩ 1 1 [.slice none 0 0] rfl rfl ?c1 ?c2 ?c3 ?c4 ?c5 ?_; (case c1 => exact World.news_of_block (heap_alloc_new w7 _)); (case c2 => simp [Value.oneCell']); (case c3 => rw [rowsA_length]; unfold maxLen; omega); (case c4 => rw [rowsA_length]; omega); (case c5 => simp; omega); intro v8 w8 hown8 hg8 _ hat8))
              rw [rowsA_length] at hown8
              have hA8 := HA7.out.snoc hg8 (by rw [rowsA_length]; exact hown8)
              obtain ⟨A8, c8, rfl⟩ := own_slice hown8
              obtain ⟨vs, hvs⟩ : ∃ vs, vsa ++ [Value.slice none 0 0] = vs := ⟨_, rfl⟩
              rw [hvs] at hA8
              have HAW := Aside0.mk hA8
              have HRN : Aside0 ((rowsA out ++ [[]]).length = out.length + 1) := ⟨by rw [List.length_append, rowsA_length]; rfl⟩
              have HRW : Aside0 (∀ xs ∈ rowsA out ++ [[]], xs.length ≤ j) := ⟨fun xs hx => by
                rcases List.mem_append.1 hx with hx | hx
                · exact HRL.out xs hx
                · rw [List.mem_singleton] at hx; subst hx; simp⟩
              have HL7 := Aside0.mk HA7.out.2.1.lt
              have HKW := Aside0.mk ((((HK4.out.below HB5.out).grown HG7.out (fun q hq => .inl (by cases hq; rfl))).alloc (.cells #[.slice none 0 0] 28)).grown hg8 (fun q hq => .inr (HL7.out q hq).1))
              have hbw7 : Below w.heap.size w w7 := ((HB4.out.trans (HB5.out.mono hs5)).grown HG7.out (by omega) (fun q hq => by cases hq; exact hbe))
              have HBWW := Aside0.mk ((hbw7.alloc hbw7.size (.cells #[.slice none 0 0] 28)).grown hg8 (by have := hbw7.size; simp; omega) (fun q hq => Nat.le_trans HWB.out (HL7.out q hq).1))
              have HMW := Aside0.mk ((HM7.out.alloc (.cells #[.slice none 0 0] 28)).kept hg8 (fun e => by have := (HL7.out _ e.symm).1; have := HWO.out; omega))
              have HKD : Aside0 (MapK (D.put (.string wd.data.toList) (.lit (.int .i64 (out.length : Int)))) (keysA out ++ [wd.data.toList])) := ⟨by have := HK.out.snoc HM5.out.isMap wd.data.toList HNS.out; rwa [keysA_length] at this⟩
              have HFK : Aside0 (keysA (accA (setsA l0) (edgesA l0) (j + 1)) = keysA out ++ [wd.data.toList]) := ⟨by rw [HAO.out, keysA_snoc]⟩
              have HFR : Aside0 (∀ xs' : List S42, (rowsA out ++ [[]])[out.length]? = some xs' → True → rowsA (accA (setsA l0) (edgesA l0) (j + 1)) = (rowsA out ++ [([] : List S42)]).set out.length (xs' ++ ([⟨a0, a1 - 1⟩] : List S42))) := ⟨fun xs' hx _ => by
                rw [List.getElem?_append_right (by rw [rowsA_length]; exact Nat.le_refl _), rowsA_length, Nat.sub_self] at hx
                obtain rfl := Option.some.inj hx
                rw [HAO.out, rowsA_snoc, List.set_append_right _ _ (by rw [rowsA_length]; exact Nat.le_refl _), rowsA_length, Nat.sub_self]
                rfl⟩
              have hkl : out.length < out.length + 1 := Nat.lt_succ_self _
              clear hA8 hg8 hown8 hat8 hvs hbw7
-- GEN new
              obtain ⟨gv, c9', e9, hv9a, hv9b⟩ := HAW.out.2.1.form (by rw [HRN.out]; omega)
              rw [HRN.out] at e9
              injection e9 with e9 _ e9'
              subst e9
              subst e9'
              have hkv : out.length < vs.length := by rw [HAW.out.1, HRN.out]; exact hkl
              obtain ⟨u, hu⟩ : ∃ u, vs[out.length]? = some u := ⟨_, List.getElem?_eq_getElem hkv⟩
              obtain ⟨xs, hxs, hou⟩ := HAW.out.inner hu
              obtain ⟨Au, cu, rfl⟩ := own_slice hou
              have hxl : xs.length ≤ j := HRW.out xs (List.mem_of_getElem? hxs)
              have hrow5 : w8.ownsRow w2.heap.size 28 1 (.slice (some ⟨gv, 0, none⟩) (out.length + 1) c8) (out.length + 1) vs := by have := HAW.out.2.1; rwa [HRN.out] at this
              have hgv := hrow5.lt gv rfl
              have hcu := (own_cells hrow5 (out.length) hkl).trans hu
              have hfu := hrow5.frozenAt (out.length)
              have hne : some gv ≠ (Value.slice Au xs.length cu).ownBlock := by
                rcases HAW.out.apart hu with h2 | h2
                · rw [h2]; simp
                · exact fun e => h2 (by rw [← e]; rfl)
              have hce5 := (HKW.out.cell (p := ⟨ge, j, none⟩) HGE.out.1 HGE.out.2).trans HC0.out
              have hce6 := (HKW.out.cell (p := ⟨ge, j + 1, none⟩) HGE.out.1 HGE.out.2).trans HC1.out
              have HOU := Aside0.mk hou
              have HNE := Aside0.mk hne
              have HXS := Aside0.mk hxs
              have HUU := Aside0.mk hu
              have HGV := Aside0.mk hgv
              have hbws := HKW.out.1
              have hkz : (0 : Int) ≤ (out.length : Int) := by omega
              have hkz2 : (out.length : Int) < (out.length : Int) + 1 := by omega
              have hjz : (0 : Int) ≤ (j : Int) := by omega
              have hjz2 : (j : Int) < (m : Int) := by omega
              have hjz3 : (0 : Int) ≤ (j : Int) + 1 := by omega
              have ht1 : ((j : Int) + 1).toNat = j + 1 := by omega
              have hw1 : IntKind.i64.wrap ((j : Int) + 1) = (j : Int) + 1 := IntWalk.i64_in _ (by omega)
              have hw2 : IntKind.i64.wrap (a1 - 1) = a1 - 1 := IntWalk.i64_in _ (by omega)
              clear hou hne hxs hu hrow5 hgv hkv hv9a hv9b
              have hs0 : (w8.alloc (.cells #[.int .i64 a0, .int .i64 (a1 - 1)] 42)).cell? ⟨gv, out.length, none⟩ = some (.slice Au xs.length cu) := (cell_al w8 ⟨gv, out.length, none⟩ HGV.out.2 _).trans hcu
              go_region_law ((refine step_append_lies _ (by rfl) _ _ 28 (by rfl) w2.heap.size 42 i1 (.agg #[.int .i64 0, .int .i64 0]) 2 16 Try.underlying28 hi1 hy0 hy1 hy2 rfl (by decide) (.slice Au xs.length cu) xs.length (scs xs) (by rfl) (HOU.out.alloc _) ⟨w8.heap.size, 0, none⟩ 1 1 [.int .i64 a0, .int .i64 (a1 - 1)] (by rfl) (by rfl) (World.news_of_block (cs := #[.int .i64 a0, .int .i64 (a1 - 1)]) (t := 42) (fr := (0, 0)) (heap_alloc_new w8 _)) (by simp [Value.oneCell']) (by omega) (by unfold maxLen; omega) (by omega) (by simp; omega) (w8.heap.size + 1) (by simp) ?_; intro g cap w6 hown6 hg6 hat6 hlt6; have hs1 := (hg6.cell_far ⟨gv, out.length, none⟩ (by have := HGV.out.2; simp; omega) HNE.out).trans ((cell_al w8 ⟨gv, out.length, none⟩ HGV.out.2 _).trans hcu); have hs2 := (hg6.frozen_far ⟨gv, out.length, none⟩ (by have := HGV.out.2; simp; omega) HNE.out).trans ((frozen_al w8 ⟨gv, out.length, none⟩ HGV.out.2 _).trans hfu)))
              all_goals
                go_wp2
                go_roundw
                case rel =>
                  exact ⟨j + 1, (D.put (.string wd.data.toList) (.lit (.int .i64 (out.length : Int)))), by omega, .inr (by omega), by go_num, ⟨rel_rows HAW.out HRN.out HUU.out hown6 hg6 hat6 HFR.out HXS.out⟩, ⟨by rw [HFK.out]; exact HKD.out⟩, ⟨rel_map HMW.out HOU.out hg6 HGV.out.1 HWO.out (by omega)⟩, ⟨((HKW.out.alloc _).drew.grown hg6 (fun q hq => .inr (HOU.out.lt q hq).1)).set (by exact HGV.out.1) _⟩, ⟨(((HBWW.out.alloc HBWW.out.size _).drew.grown hg6 (by have := HBWW.out.size; simp; omega) (fun q hq => Nat.le_trans HWB.out (HOU.out.lt q hq).1)).setCell (Nat.le_trans HWB.out HGV.out.1) _)⟩⟩
                case measure => simp [intOf]; omega
-- END new
        · have hfin : accA (setsA l0) (edgesA l0) j = accA (setsA l0) (edgesA l0) ((edgesA l0).length - 1) := by
            have hm' : (edgesA l0).length = m := HM.out
            rw [hm', show j = m - 1 by omega]
          have hrl := rowsA_row (setsA l0) (edgesA l0) j
          rw [hfin] at HR HK hrl
          obtain ⟨rows, hrows⟩ : ∃ rows, rowsA (accA (setsA l0) (edgesA l0) ((edgesA l0).length - 1)) = rows := ⟨_, rfl⟩
          have hpa : partsA l0 = rows.map normP := by unfold partsA; rw [hrows]
          have hll : rows.length ≤ j := by rw [← hrows, rowsA_length, ← hfin]; exact accA_len _ _ _
          rw [hrows] at HR hrl
          have HPA := Aside0.mk hpa
          have HRL := Aside0.mk hrl
          obtain ⟨vs0, hown0⟩ := HR.out.own
          obtain ⟨A9, c9, rfl⟩ := own_slice hown0
          have hnc := own_le hown0
          obtain ⟨N, hN⟩ : ∃ N, rows.length = N := ⟨_, rfl⟩
          have HNN := Aside0.mk hN
          rw [hN] at hll hnc ⊢
          rw [hN] at HR
          clear hfin hrl hrows hpa hown0 hN
          obtain ⟨wl, rfl⟩ : ∃ wl : World, wl = w4 := ⟨_, rfl⟩
          go_wp2
          go_loopw [86] (fun i wr => ∃ q : Nat, q ≤ N ∧ i = .int .i64 q ∧ Aside0 (RowsO wr w2.heap.size (.slice A9 N c9) ((rows.take q).map normP ++ rows.drop q)) ∧ Aside0 (Below w.heap.size w wr)) (fun i _ => N - (intOf i).toNat)
          case atStart => exact ⟨0, Nat.zero_le _, rfl, ⟨by simpa using HR.out⟩, HB4⟩
          case round =>
            obtain ⟨q, hq, rfl, HO7, HB7⟩ := hrel
            by_cases hqt : q < N
            · have hqz : (q : Int) < (N : Int) := by omega
              obtain ⟨vs, hA⟩ := HO7.out
              have hlc : ((rows.take q).map normP ++ rows.drop q).length = N := by
                rw [List.length_append, List.length_map, List.length_take, List.length_drop, HNN.out]; omega
              have hkv : q < vs.length := by rw [hA.1, hlc]; exact hqt
              obtain ⟨u, hu⟩ : ∃ u, vs[q]? = some u := ⟨_, List.getElem?_eq_getElem hkv⟩
              obtain ⟨xs, hxs, hou⟩ := hA.inner hu
              have hxr : rows[q]? = some xs := by
                rw [List.getElem?_append_right (by rw [List.length_map, List.length_take]; omega), List.length_map, List.length_take, HNN.out, Nat.min_eq_left (by omega), Nat.sub_self, List.getElem?_drop, Nat.add_zero] at hxs
                exact hxs
              have hxl : xs.length ≤ j := HRL.out xs (List.mem_of_getElem? hxr)
              obtain ⟨Au, cu, rfl⟩ := own_slice hou
              obtain ⟨hn1, hle, hC⟩ := Kd.R_reads' (R_of_rows rfl hou)
              obtain ⟨gv, c9', e9, hv9a, hv9b⟩ := hA.2.1.form (by rw [hlc]; omega)
              rw [hlc] at e9
              injection e9 with e9 _ e9'
              subst e9
              subst e9'
              have hrow5 : wr.ownsRow w2.heap.size 28 1 (.slice (some ⟨gv, 0, none⟩) N c9) N vs := by have := hA.2.1; rwa [hlc] at this
              have hgv := hrow5.lt gv rfl
              have hcu := (own_cells hrow5 q hqt).trans hu
              have hfn : set_Norm.f xs = some (normP xs) := by unfold set_Norm.f; rw [if_pos (by omega)]
              have HA := Aside0.mk hA
              have HLC := Aside0.mk hlc
              have HUU := Aside0.mk hu
              have HXR := Aside0.mk hxr
              have HC := Aside0.mk hC
              have HFN := Aside0.mk hfn
              have HRO := Aside0.mk hrow5
              have HGV := Aside0.mk hgv
              have hws := HB7.out.size
              clear hA hlc hu hxs hou hxr hC hfn hrow5 hgv hkv hv9a hv9b hn1
              go_wp2_with (go_at_call 26; refine (set_Norm.calls Au cu xs (normP xs) wr HC.out hle HFN.out).mono ?_; rintro e w3 ⟨v3, rfl, hR3, hb3⟩; obtain ⟨A3, c3, rfl⟩ := own_slice (own_of_R hR3); have HR3 := Aside0.mk (own_of_R hR3); have HB3 := Aside0.mk hb3; have hrow3 := pw_own_below HRO.out hb3; have hcu3 := (own_cells hrow3 q hqt).trans HUU.out; have hfz3 := hrow3.frozenAt q; clear hR3 hb3 hrow3)
              go_roundw
              case rel =>
                refine ⟨q + 1, by omega, by go_num, ⟨vs.set q (.slice A3 (normP xs).length c3), ?_⟩, ⟨(HB7.out.trans (HB3.out.mono hws)).setCell (Nat.le_trans HBW.out.size HGV.out.1) _⟩⟩
                rw [← norm_step rows q xs HXR.out]
                refine HA.out.put HLC.out HUU.out (fun g hg _ => HB3.out.block g hg) (ownsRow_base_a HR3.out (Nat.le_trans HGV.out.1 (Nat.le_of_lt HGV.out.2))) ?_
                cases hv : (Value.slice A3 (normP xs).length c3).ownBlock with
                | none => exact .inl rfl
                | some g => exact .inr (.inr ⟨g, rfl, (HR3.out.lt g hv).1⟩)
              case measure => simp [intOf]; omega
            · have : q = N := by omega
              subst this
              have hO := HO7.out
              rw [List.take_of_length_le (Nat.le_of_eq HNN.out), List.drop_of_length_le (Nat.le_of_eq HNN.out), List.append_nil, ← HPA.out] at hO
              have HO9 := Aside0.mk hO.R
              clear hO
              go_wp2
              go_ret
              exact ⟨_, rfl, Kd.R_N (Kd.R_mono (Kd.R_lower HO9.out HBW.out.size) (fun k_ hk => Nat.le_trans HBW.out.size hk)), HB7.out⟩
end
end Go.Proofs.Ytgpkhnkppkepnaa.P
