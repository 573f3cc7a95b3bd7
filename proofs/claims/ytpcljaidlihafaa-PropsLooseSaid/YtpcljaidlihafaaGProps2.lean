/- props.all, props.Of: walks. -/
import Derived.Test.YtpcljaidlihafaaPx0
import Derived.Test.YtpcljaidlihafaaGBase
import Derived.Test.YtpcljaidlihafaaGConcat
import Derived.Test.YtpcljaidlihafaaGMapH
import Derived.Test.YtpcljaidlihafaaGProps
import Derived.Test.YtpcljaidlihafaaPBase
import Derived.Shelf.Abstract
import Derived.Shelf.RegionOpen
import Derived.Outline
import Derived.RangeFuncBox
import Derived.Carry
import Derived.Deep.RegionHeld3
namespace Go.Proofs.Ytpcljaidlihafaa.P
set_option linter.unusedVariables false
set_option linter.unusedSimpArgs false
section
open Go.RowKit Go.Shelf Go.Proofs.YtpcljaidlihafaaW.PrintWords Go.Proofs.YtpcljaidlihafaaW.PrintLast Go.Proofs.YtpcljaidlihafaaW.PrintMore
def hasP (l : List S39) (r : Int) : Bool := decide (0 ≤ r ∧ r ≤ 1114111 ∧ ¬ (55296 ≤ r ∧ r ≤ 57343)) && l.any fun s => decide (s.f0 ≤ r) && decide (r ≤ s.f1)
end
section
open Go.RowKit Go.Proofs.YtpcljaidlihafaaW.PrintWords Go.Proofs.YtpcljaidlihafaaW.PrintLast Go.Proofs.YtpcljaidlihafaaW.PrintMore
theorem hasP_iff (l : List S39) (r : Int) : hasP l r = true ↔ Scal r ∧ mem l r := by
  unfold hasP Scal mem
  simp only [Bool.and_eq_true, decide_eq_true_eq, List.any_eq_true]
  constructor
  · rintro ⟨h1, h2⟩; exact ⟨by omega, h2⟩
  · rintro ⟨h1, h2⟩; exact ⟨by omega, h2⟩
end
section
open Go.RowKit Go.Proofs.YtpcljaidlihafaaW.PrintWords Go.Proofs.YtpcljaidlihafaaW.PrintLast Go.Proofs.YtpcljaidlihafaaW.PrintMore
/-- The set of those that p tells. -/
def Is (l : List S39) (p : Int → Prop) : Prop := Nf l ∧ ∀ r, mem l r ↔ Scal r ∧ p r
theorem Is.has {a : List S39} {p : Int → Prop} (ha : Is a p) (r : Int) : hasP a r = true ↔ Scal r ∧ p r := by rw [hasP_iff, ha.2]; exact ⟨fun h => h.2, fun h => ⟨h.1, h⟩⟩
end
section
open Go.RowKit Go.Proofs.YtpcljaidlihafaaW.PrintWords Go.Proofs.YtpcljaidlihafaaW.PrintLast Go.Proofs.YtpcljaidlihafaaW.PrintMore
theorem C_cells {α : Type} (d : Kd α) (W : World) (g : Nat) (xs : List α) (n : Nat) (hn : n = xs.length) (hlen : xs.length ≤ 1000) (h : ∀ j p, xs[j]? = some p → ∃ c, c.length = d.sz ∧ d.K W p c ∧ ∀ i u, c[i]? = some u → W.cell? ⟨g, j * d.sz + i, none⟩ = some u) : d.C W (some ⟨g, 0, none⟩) n xs := by
  subst hn
  refine ⟨rfl, by omega, fun _ => ⟨_, rfl, fun j p hj => ?_⟩⟩
  obtain ⟨c, h1, h2, h3⟩ := h j p hj
  refine ⟨c, h1, h2, fun i u hu => ?_⟩
  have e : ∀ m, (⟨g, 0, none⟩ : Addr).add m = ⟨g, m, none⟩ := fun m => by unfold Addr.add; split <;> simp_all
  rw [e]
  exact h3 i u hu
theorem sz_span : k39.sz = 2 := rfl
theorem C_spans (w : World) (xs : List S39) (n : Nat) (cells : Array Value) (hn : n = xs.length) (hlen : xs.length ≤ 1000) (h : ∀ j p, xs[j]? = some p → cells[j * 2]? = some (.int .i64 p.f0) ∧ cells[j * 2 + 1]? = some (.int .i64 p.f1)) : k39.C (w.alloc (.cells cells 39)) (some ⟨w.heap.size, 0, none⟩) n xs := by
  refine C_cells _ _ _ _ _ hn hlen fun j p hj => ⟨_, rfl, k39_mk _ p, fun i u hu => ?_⟩
  obtain ⟨h0, h1⟩ := h j p hj
  rw [sz_span, World.cell?_alloc_new]
  match i, hu with
  | 0, hu => simp at hu; subst hu; simpa using h0
  | 1, hu => simp at hu; subst hu; simpa using h1
theorem C_span1 (w : World) (x : S39) : k39.C (w.alloc (.cells #[.int .i64 x.f0, .int .i64 x.f1] 39)) (some ⟨w.heap.size, 0, none⟩) 1 [x] :=
  C_spans w [x] 1 _ rfl (by simp) fun j p hj => by
    match j, hj with
    | 0, hj => simp at hj; subst hj; exact ⟨rfl, rfl⟩
theorem C_rows (w : World) (xs : List (List S39)) (n : Nat) (cells : Array Value) (hn : n = xs.length) (hlen : xs.length ≤ 1000) (h : ∀ (j : Nat) (p : List S39), xs[j]? = some p → ∃ (A : Option Addr) (c : Nat), cells[j]? = some (Value.slice A p.length c) ∧ p.length ≤ c ∧ k39.C w A p.length p) : (Kd.slice 39 k39).C (w.alloc (.cells cells 27)) (some ⟨w.heap.size, 0, none⟩) n xs := by
  refine C_cells _ _ _ _ _ hn hlen fun j p hj => ?_
  obtain ⟨A, c, h0, h1, h2⟩ := h j p hj
  refine ⟨[.slice A p.length c], rfl, ⟨A, c, rfl, h1, Kd.C_alloc h2 _⟩, fun i u hu => ?_⟩
  match i, hu with
  | 0, hu => simp at hu; subst hu; show (w.alloc _).cell? ⟨w.heap.size, j * 1 + 0, none⟩ = _; rw [World.cell?_alloc_new]; simpa using h0
theorem C_rows3 {w : World} {a b e : List S39} {A B E : Option Addr} {c d f : Nat} (ha : k39.C w A a.length a) (hc : a.length ≤ c) (hb : k39.C w B b.length b) (hd : b.length ≤ d) (he : k39.C w E e.length e) (hf : e.length ≤ f) : (Kd.slice 39 k39).C (w.alloc (.cells #[.slice A a.length c, .slice B b.length d, .slice E e.length f] 27)) (some ⟨w.heap.size, 0, none⟩) 3 [a, b, e] :=
  C_rows w [a, b, e] 3 _ rfl (by simp) fun j p hj => by
    match j, hj with
    | 0, hj => simp at hj; subst hj; exact ⟨_, _, rfl, hc, ha⟩
    | 1, hj => simp at hj; subst hj; exact ⟨_, _, rfl, hd, hb⟩
    | 2, hj => simp at hj; subst hj; exact ⟨_, _, rfl, hf, he⟩
theorem C_rowsL3 {w : World} {a b e : List S39} {A B E : Option Addr} {c d f : Nat} (ha : k39.C w A a.length a) (hc : a.length ≤ c) (hb : k39.C w B b.length b) (hd : b.length ≤ d) (he : k39.C w E e.length e) (hf : e.length ≤ f) : (Kd.slice 39 k39).C (w.alloc (.cells #[.slice A a.length c, .slice B b.length d, .slice E e.length f] 27)) (some ⟨w.heap.size, 0, none⟩) ([a, b, e] : List (List S39)).length [a, b, e] := C_rows3 ha hc hb hd he hf
end
section
open Go.RowKit Go.Shelf Go.Maps Go.Proofs.YtpcljaidlihafaaW.PrintWords Go.Proofs.YtpcljaidlihafaaW.PrintLast Go.Proofs.YtpcljaidlihafaaW.PrintMore
/-- A map of slices, by its entries. -/
def datD (D : DataW Value) (E : List (List UInt8 × Value)) : DataW Value := E.foldl (fun D p => D.put (.string p.1) (.held p.2)) D
theorem datD_isMap : ∀ (E : List (List UInt8 × Value)) (D : DataW Value), IsMap D → IsMap (datD D E)
  | [], D, h => h
  | p :: E, D, h => datD_isMap E _ (h.put _ _)
theorem lit_str (s : List UInt8) : WideAt.IsKeyLit (.string s) := by first | trivial | simp [WideAt.IsKeyLit]
theorem find_none {E : List (List UInt8 × Value)} {s : List UInt8} (h : ∀ q ∈ E, s ≠ q.1) : E.find? (fun q => q.1 == s) = none := by
  rw [List.find?_eq_none]
  intro q hq
  have := h q hq
  simp only [beq_iff_eq]
  exact fun e => this e.symm
theorem atKey_datD : ∀ (E : List (List UInt8 × Value)) (D : DataW Value) (s : List UInt8) (z : DataW Value), IsMap D → E.Pairwise (fun p q => p.1 ≠ q.1) →
    (datD D E).atKey (.string s) z = match E.find? (fun q => q.1 == s) with | some q => .held q.2 | none => D.atKey (.string s) z
  | [], D, s, z, _, _ => rfl
  | p :: E, D, s, z, hD, hp => by
    obtain ⟨h1, h2⟩ := List.pairwise_cons.1 hp
    show (datD (D.put (.string p.1) (.held p.2)) E).atKey (.string s) z = _
    rw [atKey_datD E _ s z (hD.put _ _) h2]
    by_cases e : p.1 = s
    · rw [find_none (E := E) (s := s) (fun q hq => e ▸ h1 q hq), List.find?_cons_of_pos (by simpa using e)]
      simp only
      rw [e, Maps.atKey_put_same hD (lit_str s)]
    · rw [List.find?_cons_of_neg (by simpa using e)]
      cases E.find? (fun q => q.1 == s) with
      | some q => rfl
      | none => exact Maps.atKey_put_other (fun e2 => e (by injection e2 with e3; exact e3.symm)) _ _
theorem has_datD : ∀ (E : List (List UInt8 × Value)) (D : DataW Value) (s : List UInt8), IsMap D → E.Pairwise (fun p q => p.1 ≠ q.1) →
    Maps.has (datD D E) (.string s) = ((E.find? (fun q => q.1 == s)).isSome || Maps.has D (.string s))
  | [], D, s, _, _ => by simp [datD]
  | p :: E, D, s, hD, hp => by
    obtain ⟨h1, h2⟩ := List.pairwise_cons.1 hp
    show Maps.has (datD (D.put (.string p.1) (.held p.2)) E) (.string s) = _
    rw [has_datD E _ s (hD.put _ _) h2]
    by_cases e : p.1 = s
    · rw [List.find?_cons_of_pos (by simpa using e), e, Maps.has_put_same hD (lit_str s)]
      simp
    · rw [List.find?_cons_of_neg (by simpa using e), Maps.has_put_other (fun e2 => e (by injection e2 with e3; exact e3.symm))]
theorem C_rowsL4 {w : World} {a b c d : List S39} {A B C D : Option Addr} {p q r s : Nat} (ha : k39.C w A a.length a) (pa : a.length ≤ p) (hb : k39.C w B b.length b) (pb : b.length ≤ q) (hc : k39.C w C c.length c) (pc : c.length ≤ r) (hd : k39.C w D d.length d) (pd : d.length ≤ s) :
    (Kd.slice 39 k39).C (w.alloc (.cells #[.slice A a.length p, .slice B b.length q, .slice C c.length r, .slice D d.length s] 27)) (some ⟨w.heap.size, 0, none⟩) 4 [a, b, c, d] :=
  C_rows w [a, b, c, d] 4 _ rfl (by simp) fun j p hj => by
    match j, hj with
    | 0, hj => simp at hj; subst hj; exact ⟨_, _, rfl, pa, ha⟩
    | 1, hj => simp at hj; subst hj; exact ⟨_, _, rfl, pb, hb⟩
    | 2, hj => simp at hj; subst hj; exact ⟨_, _, rfl, pc, hc⟩
    | 3, hj => simp at hj; subst hj; exact ⟨_, _, rfl, pd, hd⟩
def entP (p : (List UInt8 × List S39) × Nat) : List UInt8 × Value := (p.1.1, .slice (some ⟨p.2, 0, none⟩) p.1.2.length p.1.2.length)
theorem putAll_datD (A : List Nat) (D : DataW Value) : putAll A D = datD D ((plainL.zip A).map entP) := by
  unfold putAll datD
  rw [List.foldl_map]
  rfl
theorem look_at {w : World} {b n : Nat} {E : List (List UInt8 × Value)} (hM : w.ownsMap Try.prog 9 RH b n (datD (.map []) E)) (hp : E.Pairwise (fun p q => p.1 ≠ q.1)) (s : ByteArray) (hs : s.size ≤ maxLen) {p : List UInt8 × Value} (hf : E.find? (fun q => q.1 == s.data.toList) = some p) :
    (Instr.lookup 45 (.map (some b)) (.string s) false).run Try.prog w = .ok p.2 w := by
  have hz : (zeroValue 27).run Try.prog w = .ok (.slice none 0 0) w := by kernel_rfl
  obtain ⟨v, ps, hrun, hv⟩ := hM.lookup (string_keyed Try.underlying9) Try.underlying45 hz (zd := .held (.slice none 0 0)) (zp := []) rfl (WideMaps.keyOf_string_mk Try.underlying9 hs)
  rw [atKey_datD E _ _ _ isMap_empty hp, hf] at hv
  rw [hrun, RH_inv hv]
theorem R_scs {w : World} {base : Nat} {ok : Nat → Prop} {v : Value} {xs : List S39} (h : Kd.R k39 39 w base ok v xs) : w.ownsRow base 39 2 v xs.length (scs xs) := by
  obtain ⟨_, inner, ho, hr⟩ := h
  have hl : inner.length = xs.length * 2 := ho.1
  have e : inner = scs xs := by
    apply List.ext_getElem?
    intro t
    by_cases ht : t < xs.length * 2
    · rw [scs_get xs t ht]
      have hj : xs[t / 2]? = some xs[t / 2]! := by rw [getElem!_pos xs (t / 2) (by omega), List.getElem?_eq_getElem]
      have h1 : (inner.drop (t / 2 * 2)).take 2 = sc xs[t / 2]! := k39_open (w := w) (hr.2 (t / 2) _ hj)
      have h2 : ((inner.drop (t / 2 * 2)).take 2)[t % 2]? = inner[t]? := by
        rw [List.getElem?_take, if_pos (by omega), List.getElem?_drop, show t / 2 * 2 + t % 2 = t by omega]
      rw [← h2, h1, getElem!_pos (sc xs[t / 2]!) (t % 2) (by show t % 2 < 2; omega)]
      exact List.getElem?_eq_getElem (by show t % 2 < 2; omega)
    · rw [List.getElem?_eq_none (by omega), List.getElem?_eq_none (by rw [scs_length]; omega)]
  rw [← e]
  exact ho
def latinL : List S39 := [⟨65, 90⟩, ⟨97, 122⟩, ⟨170, 170⟩, ⟨186, 186⟩, ⟨192, 214⟩, ⟨216, 246⟩, ⟨248, 591⟩]
def greekL : List S39 := [⟨880, 883⟩, ⟨885, 887⟩, ⟨890, 895⟩, ⟨900, 900⟩, ⟨902, 902⟩, ⟨904, 906⟩, ⟨908, 908⟩, ⟨910, 929⟩, ⟨931, 993⟩, ⟨1008, 1023⟩]
def cyrL : List S39 := [⟨1024, 1279⟩]
def hanL : List S39 := [⟨13312, 19903⟩, ⟨19968, 40959⟩, ⟨131072, 173791⟩]
def digitL : List S39 := [⟨48, 57⟩, ⟨1632, 1641⟩, ⟨2406, 2415⟩, ⟨65296, 65305⟩]
def letterL : List S39 := latinL ++ greekL ++ cyrL ++ hanL
def wordL : List S39 := letterL ++ digitL ++ [⟨95, 95⟩]
def allL : List (List UInt8 × List S39) := plainL ++ [([108, 101, 116, 116, 101, 114], letterL), ([119, 111, 114, 100], wordL)]
theorem eleven {A : List Nat} (h : A.length = 11) : ∃ a1 a2 a3 a4 a5 a6 a7 a8 a9 a10 a11, A = [a1, a2, a3, a4, a5, a6, a7, a8, a9, a10, a11] := by
  match A, h with
  | [a1, a2, a3, a4, a5, a6, a7, a8, a9, a10, a11], _ => exact ⟨_, _, _, _, _, _, _, _, _, _, _, rfl⟩
theorem C_plain {w : World} {b i a : Nat} {A : List Nat} {q : List UInt8 × List S39} (hR : RowsAt w b (rowsAll A)) (hA : A[i]? = some a) (hq : plainL[i]? = some q) : Kd.C k39 w (some ⟨a, 0, none⟩) q.2.length q.2 := by
  have hm : (a, (scs q.2).toArray) ∈ rowsAll A := by
    unfold rowsAll
    rw [List.mem_reverse, List.mem_map]
    refine ⟨(q, a), ?_, rfl⟩
    refine List.mem_iff_getElem?.2 ⟨i, ?_⟩
    rw [List.getElem?_zip_eq_some]
    exact ⟨hq, hA⟩
  have hl : q.2.length ≤ 10 := by
    have := List.mem_of_getElem? hq
    unfold plainL at this
    simp only [List.mem_cons, List.not_mem_nil, or_false] at this
    rcases this with rfl | rfl | rfl | rfl | rfl | rfl | rfl | rfl | rfl | rfl | rfl <;> decide
  exact C_of_block (hR _ hm).2 rfl rfl (by omega)
theorem names_apart (A : List Nat) (h : A.length = 11) : ((plainL.zip A).map entP).Pairwise (fun p q => p.1 ≠ q.1) := by
  obtain ⟨a1, a2, a3, a4, a5, a6, a7, a8, a9, a10, a11, rfl⟩ := eleven h
  rw [List.pairwise_map]
  have : (plainL.zip [a1, a2, a3, a4, a5, a6, a7, a8, a9, a10, a11]).Pairwise fun p q => p.1.1 ≠ q.1.1 := by
    have h1 : plainL.Pairwise fun p q => p.1 ≠ q.1 := by unfold plainL; simp
    have h2 : ((plainL.zip [a1, a2, a3, a4, a5, a6, a7, a8, a9, a10, a11]).map Prod.fst).Pairwise fun p q => p.1 ≠ q.1 := by
      rw [List.map_fst_zip (by show 11 ≤ 11; exact Nat.le_refl _)]; exact h1
    rw [List.pairwise_map] at h2
    exact h2
  exact this
theorem datD_snoc (D : DataW Value) (E : List (List UInt8 × Value)) (k : List UInt8) (v : Value) : datD D (E ++ [(k, v)]) = (datD D E).put (.string k) (.held v) := by
  unfold datD
  rw [List.foldl_append]
  rfl
def names13 : List (List UInt8) := allL.map Prod.fst
theorem names13_apart : names13.Pairwise (· ≠ ·) := by
  have e : names13 = [[97, 110, 121], [97, 115, 99, 105, 105], [98, 108, 97, 110, 107], [99, 121, 114, 105, 108, 108, 105, 99], [100, 105, 103, 105, 116], [103, 114, 101, 101, 107], [104, 97, 110], [104, 101, 120], [108, 97, 116, 105, 110], [108, 111, 119, 101, 114], [117, 112, 112, 101, 114], [108, 101, 116, 116, 101, 114], [119, 111, 114, 100]] := rfl
  rw [e]; decide
theorem apart_of {E : List (List UInt8 × Value)} {n : Nat} (h : E.map Prod.fst = names13.take n) : E.Pairwise (fun (p q : List UInt8 × Value) => p.1 ≠ q.1) := by
  rw [← List.pairwise_map (f := Prod.fst) (R := (· ≠ ·)), h]
  exact names13_apart.sublist (List.take_sublist _ _)
/-- What the region's lookups need. -/
def Pm (b : Nat) (v2 : Value) (a5 : Nat) (W : World) : Prop := ∃ (n : Nat) (E : List (List UInt8 × Value)), W.ownsMap Try.prog 9 RH b n (datD (.map []) E) ∧ E.Pairwise (fun p q => p.1 ≠ q.1) ∧ E.find? (fun q => q.1 == [108, 101, 116, 116, 101, 114]) = some ([108, 101, 116, 116, 101, 114], v2) ∧ E.find? (fun q => q.1 == [100, 105, 103, 105, 116]) = some ([100, 105, 103, 105, 116], .slice (some ⟨a5, 0, none⟩) 4 4)
theorem Pm.drew {b : Nat} {v2 : Value} {a5 : Nat} {W : World} (h : Pm b v2 a5 W) : Pm b v2 a5 W.drew := h
theorem Pm.alloc {b : Nat} {v2 : Value} {a5 : Nat} {W : World} (h : Pm b v2 a5 W) (o : Obj) : Pm b v2 a5 (W.alloc o) := by
  obtain ⟨n, E, h1, h2⟩ := h
  exact ⟨n, E, h1.alloc o, h2⟩
theorem Pm.below {b : Nat} {v2 : Value} {a5 : Nat} {W W' : World} (h : Pm b v2 a5 W) (hb : Below W.heap.size W W') : Pm b v2 a5 W' := by
  obtain ⟨n, E, h1, h2⟩ := h
  exact ⟨n, E, ownsMap_below h1 hb, h2⟩
def S5 (b : Nat) (v2 : Value) (a5 : Nat) (W : World) : Prop := (Instr.lookup 45 (.map (some b)) (.string ⟨#[108, 101, 116, 116, 101, 114]⟩) false).run Try.prog W = .ok v2 W ∧ (Instr.lookup 45 (.map (some b)) (.string ⟨#[100, 105, 103, 105, 116]⟩) false).run Try.prog W = .ok (.slice (some ⟨a5, 0, none⟩) 4 4) W ∧ Aside0 (Pm b v2 a5 W)
theorem Pm.all {b : Nat} {v2 : Value} {a5 : Nat} {W : World} (h : Pm b v2 a5 W) : S5 b v2 a5 W := by
  obtain ⟨n, E, h1, h2, h3, h4⟩ := h
  exact ⟨look_at h1 h2 ⟨#[108, 101, 116, 116, 101, 114]⟩ (by decide) h3, look_at h1 h2 ⟨#[100, 105, 103, 105, 116]⟩ (by decide) h4, ⟨n, E, h1, h2, h3, h4⟩⟩
/-- The map's slices hold the classes' spans. -/
def RowsOk (w : World) (E : List (List UInt8 × Value)) : Prop := E.length = 13 ∧ ∀ (i : Nat) (p : List UInt8 × Value) (q : List UInt8 × List S39), E[i]? = some p → allL[i]? = some q → p.1 = q.1 ∧ ∃ (A : Option Addr) (c : Nat), p.2 = .slice A q.2.length c ∧ Kd.C k39 w A q.2.length q.2 ∧ q.2.length ≤ c
theorem RowsAt.drew {w : World} {b : Nat} {rows : List (Nat × Array Value)} (h : RowsAt w b rows) : RowsAt w.drew b rows := h
theorem C_own {w : World} {base n : Nat} {v : Value} {l : List S39} (h : w.ownsRow base 39 2 v l.length (scs l)) : ∃ (A : Option Addr) (c : Nat), v = .slice A l.length c ∧ Kd.C k39 w A l.length l ∧ l.length ≤ c := by
  obtain ⟨A, c, rfl⟩ := own_slice h
  have hR := R_of_rows rfl h
  exact ⟨A, c, rfl, (Kd.R_reads' hR).2.2, (Kd.R_reads' hR).2.1⟩
theorem rowsOk_mk {w5 : World} {b b1 b2 a1 a2 a3 a4 a5 a6 a7 a8 a9 a10 a11 : Nat} {v2 v4 : Value} (HR : RowsAt w5 b (rowsAll [a1, a2, a3, a4, a5, a6, a7, a8, a9, a10, a11])) (hl : w5.ownsRow b1 39 2 v2 letterL.length (scs letterL)) (hw : w5.ownsRow b2 39 2 v4 wordL.length (scs wordL)) :
    RowsOk w5 ((plainL.zip [a1, a2, a3, a4, a5, a6, a7, a8, a9, a10, a11]).map entP ++ [([108, 101, 116, 116, 101, 114], v2)] ++ [([119, 111, 114, 100], v4)]) := by
  refine ⟨rfl, fun i p q hp hq => ?_⟩
  match i, hp, hq with
  | 0, hp, hq => cases hp; cases hq; exact ⟨rfl, _, _, rfl, C_plain (i := 0) HR rfl rfl, Nat.le_refl _⟩
  | 1, hp, hq => cases hp; cases hq; exact ⟨rfl, _, _, rfl, C_plain (i := 1) HR rfl rfl, Nat.le_refl _⟩
  | 2, hp, hq => cases hp; cases hq; exact ⟨rfl, _, _, rfl, C_plain (i := 2) HR rfl rfl, Nat.le_refl _⟩
  | 3, hp, hq => cases hp; cases hq; exact ⟨rfl, _, _, rfl, C_plain (i := 3) HR rfl rfl, Nat.le_refl _⟩
  | 4, hp, hq => cases hp; cases hq; exact ⟨rfl, _, _, rfl, C_plain (i := 4) HR rfl rfl, Nat.le_refl _⟩
  | 5, hp, hq => cases hp; cases hq; exact ⟨rfl, _, _, rfl, C_plain (i := 5) HR rfl rfl, Nat.le_refl _⟩
  | 6, hp, hq => cases hp; cases hq; exact ⟨rfl, _, _, rfl, C_plain (i := 6) HR rfl rfl, Nat.le_refl _⟩
  | 7, hp, hq => cases hp; cases hq; exact ⟨rfl, _, _, rfl, C_plain (i := 7) HR rfl rfl, Nat.le_refl _⟩
  | 8, hp, hq => cases hp; cases hq; exact ⟨rfl, _, _, rfl, C_plain (i := 8) HR rfl rfl, Nat.le_refl _⟩
  | 9, hp, hq => cases hp; cases hq; exact ⟨rfl, _, _, rfl, C_plain (i := 9) HR rfl rfl, Nat.le_refl _⟩
  | 10, hp, hq => cases hp; cases hq; exact ⟨rfl, _, _, rfl, C_plain (i := 10) HR rfl rfl, Nat.le_refl _⟩
  | 11, hp, hq => cases hp; cases hq; exact ⟨rfl, C_own (n := 0) hl⟩
  | 12, hp, hq => cases hp; cases hq; exact ⟨rfl, C_own (n := 0) hw⟩
  | n + 13, hp, hq => cases hp
set_option maxRecDepth 100000 in
set_option maxHeartbeats 4000000 in
theorem all_calls (w : World) : Calls Try.prog 26 #[] w fun e w' => ∃ E : List (List UInt8 × Value), e = .returned (.map (some w.heap.size)) ∧ w'.ownsMap Try.prog 9 RH w.heap.size 13 (datD (.map []) E) ∧ RowsOk w' E ∧ Below w.heap.size w w' := by
  have U9 := Try.underlying9
  have U45 := Try.underlying45
  go_enter Try.func26, Try.ntmps26
  go_wp2_with (first
    | (go_at_call 37; refine (plain_calls _).mono ?_; rintro e w1 ⟨rfl, A, hA, hM, hR, hb1⟩; rw [putAll_datD] at hM; have hP := names_apart A hA; obtain ⟨a1, a2, a3, a4, a5, a6, a7, a8, a9, a10, a11, rfl⟩ := eleven hA; have qe1 := look_at hM hP ⟨#[108, 97, 116, 105, 110]⟩ (by decide) rfl; have e1 : (Instr.lookup 45 (.map (some w.heap.size)) (.string ⟨#[108, 97, 116, 105, 110]⟩) false).run Try.prog w1 = .ok (.slice (some ⟨a9, 0, none⟩) 7 7) w1 := qe1; clear qe1; have qe2 := look_at hM hP ⟨#[103, 114, 101, 101, 107]⟩ (by decide) rfl; have e2 : (Instr.lookup 45 (.map (some w.heap.size)) (.string ⟨#[103, 114, 101, 101, 107]⟩) false).run Try.prog w1 = .ok (.slice (some ⟨a6, 0, none⟩) 10 10) w1 := qe2; clear qe2; have qe3 := look_at hM hP ⟨#[99, 121, 114, 105, 108, 108, 105, 99]⟩ (by decide) rfl; have e3 : (Instr.lookup 45 (.map (some w.heap.size)) (.string ⟨#[99, 121, 114, 105, 108, 108, 105, 99]⟩) false).run Try.prog w1 = .ok (.slice (some ⟨a4, 0, none⟩) 1 1) w1 := qe3; clear qe3; have qe4 := look_at hM hP ⟨#[104, 97, 110]⟩ (by decide) rfl; have e4 : (Instr.lookup 45 (.map (some w.heap.size)) (.string ⟨#[104, 97, 110]⟩) false).run Try.prog w1 = .ok (.slice (some ⟨a7, 0, none⟩) 3 3) w1 := qe4; clear qe4; have D1 := Aside0.mk (C_plain (i := 8) hR rfl rfl); have D2 := Aside0.mk (C_plain (i := 5) hR rfl rfl); have D3 := Aside0.mk (C_plain (i := 3) hR rfl rfl); have D4 := Aside0.mk (C_plain (i := 6) hR rfl rfl); have HM := Aside0.mk hM; have HR := Aside0.mk hR; have HB := Aside0.mk hb1; have HP := Aside0.mk hP; clear hM hR hb1 hP hA)
    | (go_at_call 38; refine (api_Span.calls _ _ [latinL, greekL, cyrL, hanL] letterL _ (C_rowsL4 D1.out (Nat.le_refl _) D2.out (Nat.le_refl _) D3.out (Nat.le_refl _) D4.out (Nat.le_refl _)) (Nat.le_refl _) (by rfl)).mono ?_; rintro e w2 ⟨v2, rfl, ho2, hb2⟩))
  clear e1 e2 e3 e4
  have hM2 := ownsMap_below (HM.out.alloc _) hb2
  have HR2 := Aside0.mk ((HR.out.alloc _).below hb2)
  have hs1 := HB.out.size
  have HB2 := Aside0.mk ((HB.out.alloc hs1 _).trans (hb2.mono (by simp; omega)))
  have ho := R_scs ho2
  have hne : v2.ownBlock ≠ some w.heap.size := by
    intro e
    have := (ho.lt _ e).1
    simp at this
    omega
  refine upon_update (string_keyed U9) U45 (R := RH) (b := w.heap.size) (n := 11) (D := datD (.map []) ((plainL.zip [a1, a2, a3, a4, a5, a6, a7, a8, a9, a10, a11]).map entP)) (kl := .string [108, 101, 116, 116, 101, 114]) hM2 (by unfold maxLen; omega) ?hk rfl ?_
  case hk => exact WideMaps.keyOf_string_mk U9 (s := ⟨#[108, 101, 116, 116, 101, 114]⟩) (by decide)
  intro w3 hM3 hg3
  rw [← datD_snoc] at hM3
  have HO3 := Aside0.mk (ho.kept hg3 (.inr hne))
  have HR3 := Aside0.mk (HR2.out.grown hg3)
  have HB3 := Aside0.mk (HB2.out.grown hg3 HB2.out.size (fun k hk => by cases hk; exact Nat.le_refl _))
  have D5 := Aside0.mk (C_plain (i := 4) HR3.out rfl rfl)
  have HNE := Aside0.mk hne
  have HM3 := Aside0.mk hM3
  have hP3 := apart_of (n := 12) (E := (plainL.zip [a1, a2, a3, a4, a5, a6, a7, a8, a9, a10, a11]).map entP ++ [([108, 101, 116, 116, 101, 114], v2)]) rfl
  have hpm : Pm w.heap.size v2 a5 w3 := ⟨12, _, hM3, hP3, rfl, rfl⟩
  have HP3 := Aside0.mk hP3
  have hs3 := HB3.out.size
  have H13 := Aside0.mk hb2.size
  clear hM2 ho hne hg3 hM3 hP3 ho2 hb2 D1 D2 D3 D4 HM HR HR2 HB2
  go_wp2
  obtain ⟨A2, c2, rfl⟩ := own_slice HO3.out
  have hR3 := R_of_rows rfl HO3.out
  have CL := Aside0.mk (Kd.R_reads' hR3).2.2
  have LL := Aside0.mk (Kd.R_reads' hR3).2.1
  clear hR3
  have CS : Kd.C k39 ((w3.alloc (.cells #[.int .i64 95, .int .i64 95] 39)).alloc (.cells #[.int .i64 95, .int .i64 95] 39)) (some ⟨w3.heap.size + 1, 0, none⟩) 1 [⟨95, 95⟩] := by
    have h := C_span1 (w3.alloc (.cells #[.int .i64 95, .int .i64 95] 39)) ⟨95, 95⟩
    rw [World.size_alloc] at h
    exact h
  have CR := Aside0.mk (show Kd.C (Kd.slice 39 k39) (((w3.alloc (.cells #[.int .i64 95, .int .i64 95] 39)).alloc (.cells #[.int .i64 95, .int .i64 95] 39)).alloc (.cells #[.slice A2 letterL.length c2, .slice (some ⟨a5, 0, none⟩) 4 4, .slice (some ⟨w3.heap.size + 1, 0, none⟩) 1 1] 27)) (some ⟨w3.heap.size + 1 + 1, 0, none⟩) 3 [letterL, digitL, [⟨95, 95⟩]] by
    have h := C_rowsL3 (Kd.C_alloc (Kd.C_alloc CL.out (.cells #[.int .i64 95, .int .i64 95] 39)) (.cells #[.int .i64 95, .int .i64 95] 39)) LL.out (e := [⟨95, 95⟩]) (b := digitL) (Kd.C_alloc (Kd.C_alloc D5.out _) _) (Nat.le_refl _) CS (Nat.le_refl _)
    rw [World.size_alloc, World.size_alloc] at h
    exact h)
  clear CS
  go_region_held3 (fun W => (Instr.lookup 45 (.map (some w.heap.size)) (.string ⟨#[108, 101, 116, 116, 101, 114]⟩) false).run Try.prog W = .ok (.slice A2 letterL.length c2) W ∧ (Instr.lookup 45 (.map (some w.heap.size)) (.string ⟨#[100, 105, 103, 105, 116]⟩) false).run Try.prog W = .ok (.slice (some ⟨a5, 0, none⟩) 4 4) W ∧ Aside0 (Pm w.heap.size (.slice A2 letterL.length c2) a5 W))
    (first
      | exact (Pm.drew hpm).all
      | exact (Pm.drew (hpm.alloc _)).all
      | exact (Pm.drew ((hpm.alloc _).alloc _)).all
      | exact (Pm.drew (((hpm.alloc _).alloc _).alloc _)).all
      | exact ((Pm.drew (((hpm.alloc _).alloc _).alloc _)).below hb4).all
      | exact hpm5.all)
    (first
      | (go_simp; go_at_call 39; refine (one_calls _ _).mono ?_; rintro e w' ⟨rfl, hw_⟩; obtain rfl : (w3.alloc (.cells #[.int .i64 95, .int .i64 95] 39)).drew = w' := hw_; dsimp only)
      | (go_simp; go_at_call 38; refine (api_Span.calls _ _ [letterL, digitL, [⟨95, 95⟩]] wordL _ (Kd.C_drew CR.out) (Nat.le_refl _) (by rfl)).mono ?_; rintro e w4 ⟨v4, rfl, ho4, hb4⟩; have hM4 := ownsMap_below (((HM3.out.alloc _).alloc _).alloc _).drew hb4; obtain ⟨w5, hrun5, hM5, hg5⟩ := hM4.update (string_keyed U9) U45 (by unfold maxLen; omega) (key := .string ⟨#[119, 111, 114, 100]⟩) (val := v4) (kl := .string [119, 111, 114, 100]) (d := .held v4) (ps := []) (WideMaps.keyOf_string_mk U9 (s := ⟨#[119, 111, 114, 100]⟩) (by decide)) rfl; rw [← datD_snoc] at hM5; have hpm5 : Pm w.heap.size (.slice A2 letterL.length c2) a5 w5 := ⟨13, _, hM5, apart_of (n := 13) rfl, rfl, rfl⟩; dsimp only))
  all_goals
    have hlt4 := hb4.size
    have hsz4 : w3.heap.size < w4.heap.size := by simp at hlt4; omega
    have hR5 := (((((HR3.out.alloc _).alloc _).alloc _).drew).below hb4).grown hg5
    have hL5 := (pw_own_below (((HO3.out.alloc _).alloc _).alloc _).drew hb4).kept hg5 (.inr HNE.out)
    have ho4' := R_scs ho4
    have hne4 : v4.ownBlock ≠ some w.heap.size := by
      intro e
      have := (ho4'.lt _ e).1
      simp at this
      omega
    have hW5 := ho4'.kept hg5 (.inr hne4)
    have hB5 : Below w.heap.size w w5 := ((((((HB3.out.alloc hs3 _).alloc (by simp; omega) _).alloc (by simp; omega) _).drew).trans (hb4.mono (by simp; omega))).grown hg5 (by omega) (fun k hk => by cases hk; exact Nat.le_refl _))
    go_wp2
    go_ret
    exact ⟨_, rfl, hM5, rowsOk_mk hR5 hL5 hW5, hB5⟩
end
end Go.Proofs.Ytpcljaidlihafaa.P
