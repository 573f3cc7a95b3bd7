/- props.plain, props.all, props.Of: walks. -/
import Derived.Test.YtpcljaidlihafaaPx0
import Derived.Test.YtpcljaidlihafaaGBase
import Derived.Test.YtpcljaidlihafaaGMapH
import Derived.Test.YtpcljaidlihafaaPBase
import Derived.Carry
import Derived.Outline
namespace Go.Proofs.Ytpcljaidlihafaa.P
set_option linter.unusedVariables false
set_option linter.unusedSimpArgs false
section
open Go.RowKit Go.Shelf Go.Maps Go.Proofs.YtpcljaidlihafaaW.PrintWords Go.Proofs.YtpcljaidlihafaaW.PrintLast Go.Proofs.YtpcljaidlihafaaW.PrintMore
set_option maxHeartbeats 1000000 in
theorem one_calls (r : Int) (w : World) : Calls Try.prog 39 #[.int .i64 r] w fun e w' => e = .returned (.agg #[.int .i64 r, .int .i64 r]) ∧ w.alloc (.cells #[.int .i64 r, .int .i64 r] 39) = w' := by
  go_enter Try.func39, Try.ntmps39
  go_wp2
  exact bodyPost_ret (v := .agg #[.int .i64 r, .int .i64 r]) (by simp [results, Try.results39, go_sem]) rfl ⟨rfl, rfl⟩
def plainL : List (List UInt8 × List S39) := [
  ([97, 110, 121], [⟨0, 1114111⟩]),
  ([97, 115, 99, 105, 105], [⟨0, 127⟩]),
  ([98, 108, 97, 110, 107], [⟨9, 9⟩, ⟨32, 32⟩, ⟨160, 160⟩, ⟨12288, 12288⟩]),
  ([99, 121, 114, 105, 108, 108, 105, 99], [⟨1024, 1279⟩]),
  ([100, 105, 103, 105, 116], [⟨48, 57⟩, ⟨1632, 1641⟩, ⟨2406, 2415⟩, ⟨65296, 65305⟩]),
  ([103, 114, 101, 101, 107], [⟨880, 883⟩, ⟨885, 887⟩, ⟨890, 895⟩, ⟨900, 900⟩, ⟨902, 902⟩, ⟨904, 906⟩, ⟨908, 908⟩, ⟨910, 929⟩, ⟨931, 993⟩, ⟨1008, 1023⟩]),
  ([104, 97, 110], [⟨13312, 19903⟩, ⟨19968, 40959⟩, ⟨131072, 173791⟩]),
  ([104, 101, 120], [⟨48, 57⟩, ⟨65, 70⟩, ⟨97, 102⟩]),
  ([108, 97, 116, 105, 110], [⟨65, 90⟩, ⟨97, 122⟩, ⟨170, 170⟩, ⟨186, 186⟩, ⟨192, 214⟩, ⟨216, 246⟩, ⟨248, 591⟩]),
  ([108, 111, 119, 101, 114], [⟨97, 122⟩, ⟨223, 246⟩, ⟨248, 255⟩, ⟨945, 969⟩, ⟨1072, 1119⟩]),
  ([117, 112, 112, 101, 114], [⟨65, 90⟩, ⟨192, 214⟩, ⟨216, 222⟩, ⟨913, 929⟩, ⟨931, 937⟩, ⟨1024, 1071⟩])]
/-- The map's datum, the rows at the addresses A. -/
def putAll (A : List Nat) (D : DataW Value) : DataW Value := ((plainL.zip A).foldl (fun D p => D.put (.string p.1.1) (.held (.slice (some ⟨p.2, 0, none⟩) p.1.2.length p.1.2.length))) D)
def rowsAll (A : List Nat) : List (Nat × Array Value) := ((plainL.zip A).map fun p => (p.2, (scs p.1.2).toArray)).reverse
theorem putAll_eq (a1 a2 a3 a4 a5 a6 a7 a8 a9 a10 a11 : Nat) (D : DataW Value) : putAll [a1, a2, a3, a4, a5, a6, a7, a8, a9, a10, a11] D = (((((((((((D.put (.string [97, 110, 121]) (.held (.slice (some ⟨a1, 0, none⟩) 1 1))).put (.string [97, 115, 99, 105, 105]) (.held (.slice (some ⟨a2, 0, none⟩) 1 1))).put (.string [98, 108, 97, 110, 107]) (.held (.slice (some ⟨a3, 0, none⟩) 4 4))).put (.string [99, 121, 114, 105, 108, 108, 105, 99]) (.held (.slice (some ⟨a4, 0, none⟩) 1 1))).put (.string [100, 105, 103, 105, 116]) (.held (.slice (some ⟨a5, 0, none⟩) 4 4))).put (.string [103, 114, 101, 101, 107]) (.held (.slice (some ⟨a6, 0, none⟩) 10 10))).put (.string [104, 97, 110]) (.held (.slice (some ⟨a7, 0, none⟩) 3 3))).put (.string [104, 101, 120]) (.held (.slice (some ⟨a8, 0, none⟩) 3 3))).put (.string [108, 97, 116, 105, 110]) (.held (.slice (some ⟨a9, 0, none⟩) 7 7))).put (.string [108, 111, 119, 101, 114]) (.held (.slice (some ⟨a10, 0, none⟩) 5 5))).put (.string [117, 112, 112, 101, 114]) (.held (.slice (some ⟨a11, 0, none⟩) 6 6))) := rfl
theorem rowsAll_eq (a1 a2 a3 a4 a5 a6 a7 a8 a9 a10 a11 : Nat) : rowsAll [a1, a2, a3, a4, a5, a6, a7, a8, a9, a10, a11] = [(a11, #[.int .i64 65, .int .i64 90, .int .i64 192, .int .i64 214, .int .i64 216, .int .i64 222, .int .i64 913, .int .i64 929, .int .i64 931, .int .i64 937, .int .i64 1024, .int .i64 1071]), (a10, #[.int .i64 97, .int .i64 122, .int .i64 223, .int .i64 246, .int .i64 248, .int .i64 255, .int .i64 945, .int .i64 969, .int .i64 1072, .int .i64 1119]), (a9, #[.int .i64 65, .int .i64 90, .int .i64 97, .int .i64 122, .int .i64 170, .int .i64 170, .int .i64 186, .int .i64 186, .int .i64 192, .int .i64 214, .int .i64 216, .int .i64 246, .int .i64 248, .int .i64 591]), (a8, #[.int .i64 48, .int .i64 57, .int .i64 65, .int .i64 70, .int .i64 97, .int .i64 102]), (a7, #[.int .i64 13312, .int .i64 19903, .int .i64 19968, .int .i64 40959, .int .i64 131072, .int .i64 173791]), (a6, #[.int .i64 880, .int .i64 883, .int .i64 885, .int .i64 887, .int .i64 890, .int .i64 895, .int .i64 900, .int .i64 900, .int .i64 902, .int .i64 902, .int .i64 904, .int .i64 906, .int .i64 908, .int .i64 908, .int .i64 910, .int .i64 929, .int .i64 931, .int .i64 993, .int .i64 1008, .int .i64 1023]), (a5, #[.int .i64 48, .int .i64 57, .int .i64 1632, .int .i64 1641, .int .i64 2406, .int .i64 2415, .int .i64 65296, .int .i64 65305]), (a4, #[.int .i64 1024, .int .i64 1279]), (a3, #[.int .i64 9, .int .i64 9, .int .i64 32, .int .i64 32, .int .i64 160, .int .i64 160, .int .i64 12288, .int .i64 12288]), (a2, #[.int .i64 0, .int .i64 127]), (a1, #[.int .i64 0, .int .i64 1114111])] := rfl
set_option maxRecDepth 100000 in
set_option maxHeartbeats 4000000 in
theorem plain_calls (w : World) : Calls Try.prog 37 #[] w fun e w' => e = .returned (.map (some w.heap.size)) ∧ ∃ A : List Nat, A.length = 11 ∧ w'.ownsMap Try.prog 9 RH w.heap.size 11 (putAll A (.map [])) ∧ RowsAt w' w.heap.size (rowsAll A) ∧ Below w.heap.size w w' := by
  have hmm := @run_makeMap Try.prog
  have U9 := Try.underlying9
  have U45 := Try.underlying45
  have HM := Aside0.mk (World.ownsMap_made (H := Value) w Try.prog 9 RH)
  have HR := Aside0.mk (RowsAt.nil (w.alloc (.map #[] 0)) w.heap.size)
  have HBW := Aside0.mk ((Below.refl w.heap.size w).alloc (Nat.le_refl _) (.map #[] 0))
  go_enter Try.func37, Try.ntmps37
  go_wp2_with (go_at_call 39; refine (one_calls _ _).mono ?_; rintro e w' ⟨rfl, rfl⟩)
  refine upon_update (string_keyed U9) U45 (R := RH) (b := w.heap.size) (n := ?hN0) (D := ?hD0) (kl := ?hL0) ?hm0 ?hn0 ?hk0 rfl ?_
  (case hm0 => repeat (first | exact HM.out | (with_reducible apply World.ownsMap.alloc)))
  (case hn0 => unfold maxLen; omega)
  (case hk0 => refine WideMaps.keyOf_string_mk U9 ?_; decide)
  intro w1 hown1 hgrow1
  have hr1 := rows_step (by repeat (first | exact HR.out | (with_reducible apply RowsAt.alloc))) (by have h_ := HM.out.lt; first | omega | (simp; omega) | (simp at h_ ⊢; done) | (simp at h_ ⊢; omega)) hgrow1
  have hb1 := Below.grown (B := w.heap.size) (a := w) (by repeat (first | exact HBW.out | (with_reducible refine Below.alloc ?_ (by have h_ := HBW.out.size; first | omega | (simp; done) | (simp; omega) | (simp at h_ ⊢; omega)) _))) hgrow1 (by have h_ := HBW.out.size; first | omega | (simp; done) | (simp; omega) | (simp at h_ ⊢; omega)) (fun k hk => by cases hk; exact Nat.le_refl _)
  replace HM := Aside0.mk hown1
  replace HR := Aside0.mk hr1
  replace HBW := Aside0.mk hb1
  clear hown1 hgrow1 hr1 hb1
  go_wp2_with (go_at_call 39; refine (one_calls _ _).mono ?_; rintro e w' ⟨rfl, rfl⟩)
  refine upon_update (string_keyed U9) U45 (R := RH) (b := w.heap.size) (n := ?hN1) (D := ?hD1) (kl := ?hL1) ?hm1 ?hn1 ?hk1 rfl ?_
  (case hm1 => repeat (first | exact HM.out | (with_reducible apply World.ownsMap.alloc)))
  (case hn1 => unfold maxLen; omega)
  (case hk1 => refine WideMaps.keyOf_string_mk U9 ?_; decide)
  intro w2 hown1 hgrow1
  have hr1 := rows_step (by repeat (first | exact HR.out | (with_reducible apply RowsAt.alloc))) (by have h_ := HM.out.lt; first | omega | (simp; omega) | (simp at h_ ⊢; done) | (simp at h_ ⊢; omega)) hgrow1
  have hb1 := Below.grown (B := w.heap.size) (a := w) (by repeat (first | exact HBW.out | (with_reducible refine Below.alloc ?_ (by have h_ := HBW.out.size; first | omega | (simp; done) | (simp; omega) | (simp at h_ ⊢; omega)) _))) hgrow1 (by have h_ := HBW.out.size; first | omega | (simp; done) | (simp; omega) | (simp at h_ ⊢; omega)) (fun k hk => by cases hk; exact Nat.le_refl _)
  replace HM := Aside0.mk hown1
  replace HR := Aside0.mk hr1
  replace HBW := Aside0.mk hb1
  clear hown1 hgrow1 hr1 hb1
  go_wp2_with (go_at_call 39; refine (one_calls _ _).mono ?_; rintro e w' ⟨rfl, rfl⟩)
  refine upon_update (string_keyed U9) U45 (R := RH) (b := w.heap.size) (n := ?hN2) (D := ?hD2) (kl := ?hL2) ?hm2 ?hn2 ?hk2 rfl ?_
  (case hm2 => repeat (first | exact HM.out | (with_reducible apply World.ownsMap.alloc)))
  (case hn2 => unfold maxLen; omega)
  (case hk2 => refine WideMaps.keyOf_string_mk U9 ?_; decide)
  intro w3 hown1 hgrow1
  have hr1 := rows_step (by repeat (first | exact HR.out | (with_reducible apply RowsAt.alloc))) (by have h_ := HM.out.lt; first | omega | (simp; omega) | (simp at h_ ⊢; done) | (simp at h_ ⊢; omega)) hgrow1
  have hb1 := Below.grown (B := w.heap.size) (a := w) (by repeat (first | exact HBW.out | (with_reducible refine Below.alloc ?_ (by have h_ := HBW.out.size; first | omega | (simp; done) | (simp; omega) | (simp at h_ ⊢; omega)) _))) hgrow1 (by have h_ := HBW.out.size; first | omega | (simp; done) | (simp; omega) | (simp at h_ ⊢; omega)) (fun k hk => by cases hk; exact Nat.le_refl _)
  replace HM := Aside0.mk hown1
  replace HR := Aside0.mk hr1
  replace HBW := Aside0.mk hb1
  clear hown1 hgrow1 hr1 hb1
  go_wp2_with (go_at_call 39; refine (one_calls _ _).mono ?_; rintro e w' ⟨rfl, rfl⟩)
  refine upon_update (string_keyed U9) U45 (R := RH) (b := w.heap.size) (n := ?hN3) (D := ?hD3) (kl := ?hL3) ?hm3 ?hn3 ?hk3 rfl ?_
  (case hm3 => repeat (first | exact HM.out | (with_reducible apply World.ownsMap.alloc)))
  (case hn3 => unfold maxLen; omega)
  (case hk3 => refine WideMaps.keyOf_string_mk U9 ?_; decide)
  intro w4 hown1 hgrow1
  have hr1 := rows_step (by repeat (first | exact HR.out | (with_reducible apply RowsAt.alloc))) (by have h_ := HM.out.lt; first | omega | (simp; omega) | (simp at h_ ⊢; done) | (simp at h_ ⊢; omega)) hgrow1
  have hb1 := Below.grown (B := w.heap.size) (a := w) (by repeat (first | exact HBW.out | (with_reducible refine Below.alloc ?_ (by have h_ := HBW.out.size; first | omega | (simp; done) | (simp; omega) | (simp at h_ ⊢; omega)) _))) hgrow1 (by have h_ := HBW.out.size; first | omega | (simp; done) | (simp; omega) | (simp at h_ ⊢; omega)) (fun k hk => by cases hk; exact Nat.le_refl _)
  replace HM := Aside0.mk hown1
  replace HR := Aside0.mk hr1
  replace HBW := Aside0.mk hb1
  clear hown1 hgrow1 hr1 hb1
  go_wp2_with (go_at_call 39; refine (one_calls _ _).mono ?_; rintro e w' ⟨rfl, rfl⟩)
  refine upon_update (string_keyed U9) U45 (R := RH) (b := w.heap.size) (n := ?hN4) (D := ?hD4) (kl := ?hL4) ?hm4 ?hn4 ?hk4 rfl ?_
  (case hm4 => repeat (first | exact HM.out | (with_reducible apply World.ownsMap.alloc)))
  (case hn4 => unfold maxLen; omega)
  (case hk4 => refine WideMaps.keyOf_string_mk U9 ?_; decide)
  intro w5 hown1 hgrow1
  have hr1 := rows_step (by repeat (first | exact HR.out | (with_reducible apply RowsAt.alloc))) (by have h_ := HM.out.lt; first | omega | (simp; omega) | (simp at h_ ⊢; done) | (simp at h_ ⊢; omega)) hgrow1
  have hb1 := Below.grown (B := w.heap.size) (a := w) (by repeat (first | exact HBW.out | (with_reducible refine Below.alloc ?_ (by have h_ := HBW.out.size; first | omega | (simp; done) | (simp; omega) | (simp at h_ ⊢; omega)) _))) hgrow1 (by have h_ := HBW.out.size; first | omega | (simp; done) | (simp; omega) | (simp at h_ ⊢; omega)) (fun k hk => by cases hk; exact Nat.le_refl _)
  replace HM := Aside0.mk hown1
  replace HR := Aside0.mk hr1
  replace HBW := Aside0.mk hb1
  clear hown1 hgrow1 hr1 hb1
  go_wp2_with (go_at_call 39; refine (one_calls _ _).mono ?_; rintro e w' ⟨rfl, rfl⟩)
  refine upon_update (string_keyed U9) U45 (R := RH) (b := w.heap.size) (n := ?hN5) (D := ?hD5) (kl := ?hL5) ?hm5 ?hn5 ?hk5 rfl ?_
  (case hm5 => repeat (first | exact HM.out | (with_reducible apply World.ownsMap.alloc)))
  (case hn5 => unfold maxLen; omega)
  (case hk5 => refine WideMaps.keyOf_string_mk U9 ?_; decide)
  intro w6 hown1 hgrow1
  have hr1 := rows_step (by repeat (first | exact HR.out | (with_reducible apply RowsAt.alloc))) (by have h_ := HM.out.lt; first | omega | (simp; omega) | (simp at h_ ⊢; done) | (simp at h_ ⊢; omega)) hgrow1
  have hb1 := Below.grown (B := w.heap.size) (a := w) (by repeat (first | exact HBW.out | (with_reducible refine Below.alloc ?_ (by have h_ := HBW.out.size; first | omega | (simp; done) | (simp; omega) | (simp at h_ ⊢; omega)) _))) hgrow1 (by have h_ := HBW.out.size; first | omega | (simp; done) | (simp; omega) | (simp at h_ ⊢; omega)) (fun k hk => by cases hk; exact Nat.le_refl _)
  replace HM := Aside0.mk hown1
  replace HR := Aside0.mk hr1
  replace HBW := Aside0.mk hb1
  clear hown1 hgrow1 hr1 hb1
  go_wp2_with (go_at_call 39; refine (one_calls _ _).mono ?_; rintro e w' ⟨rfl, rfl⟩)
  refine upon_update (string_keyed U9) U45 (R := RH) (b := w.heap.size) (n := ?hN6) (D := ?hD6) (kl := ?hL6) ?hm6 ?hn6 ?hk6 rfl ?_
  (case hm6 => repeat (first | exact HM.out | (with_reducible apply World.ownsMap.alloc)))
  (case hn6 => unfold maxLen; omega)
  (case hk6 => refine WideMaps.keyOf_string_mk U9 ?_; decide)
  intro w7 hown1 hgrow1
  have hr1 := rows_step (by repeat (first | exact HR.out | (with_reducible apply RowsAt.alloc))) (by have h_ := HM.out.lt; first | omega | (simp; omega) | (simp at h_ ⊢; done) | (simp at h_ ⊢; omega)) hgrow1
  have hb1 := Below.grown (B := w.heap.size) (a := w) (by repeat (first | exact HBW.out | (with_reducible refine Below.alloc ?_ (by have h_ := HBW.out.size; first | omega | (simp; done) | (simp; omega) | (simp at h_ ⊢; omega)) _))) hgrow1 (by have h_ := HBW.out.size; first | omega | (simp; done) | (simp; omega) | (simp at h_ ⊢; omega)) (fun k hk => by cases hk; exact Nat.le_refl _)
  replace HM := Aside0.mk hown1
  replace HR := Aside0.mk hr1
  replace HBW := Aside0.mk hb1
  clear hown1 hgrow1 hr1 hb1
  go_wp2_with (go_at_call 39; refine (one_calls _ _).mono ?_; rintro e w' ⟨rfl, rfl⟩)
  refine upon_update (string_keyed U9) U45 (R := RH) (b := w.heap.size) (n := ?hN7) (D := ?hD7) (kl := ?hL7) ?hm7 ?hn7 ?hk7 rfl ?_
  (case hm7 => repeat (first | exact HM.out | (with_reducible apply World.ownsMap.alloc)))
  (case hn7 => unfold maxLen; omega)
  (case hk7 => refine WideMaps.keyOf_string_mk U9 ?_; decide)
  intro w8 hown1 hgrow1
  have hr1 := rows_step (by repeat (first | exact HR.out | (with_reducible apply RowsAt.alloc))) (by have h_ := HM.out.lt; first | omega | (simp; omega) | (simp at h_ ⊢; done) | (simp at h_ ⊢; omega)) hgrow1
  have hb1 := Below.grown (B := w.heap.size) (a := w) (by repeat (first | exact HBW.out | (with_reducible refine Below.alloc ?_ (by have h_ := HBW.out.size; first | omega | (simp; done) | (simp; omega) | (simp at h_ ⊢; omega)) _))) hgrow1 (by have h_ := HBW.out.size; first | omega | (simp; done) | (simp; omega) | (simp at h_ ⊢; omega)) (fun k hk => by cases hk; exact Nat.le_refl _)
  replace HM := Aside0.mk hown1
  replace HR := Aside0.mk hr1
  replace HBW := Aside0.mk hb1
  clear hown1 hgrow1 hr1 hb1
  go_wp2_with (go_at_call 39; refine (one_calls _ _).mono ?_; rintro e w' ⟨rfl, rfl⟩)
  refine upon_update (string_keyed U9) U45 (R := RH) (b := w.heap.size) (n := ?hN8) (D := ?hD8) (kl := ?hL8) ?hm8 ?hn8 ?hk8 rfl ?_
  (case hm8 => repeat (first | exact HM.out | (with_reducible apply World.ownsMap.alloc)))
  (case hn8 => unfold maxLen; omega)
  (case hk8 => refine WideMaps.keyOf_string_mk U9 ?_; decide)
  intro w9 hown1 hgrow1
  have hr1 := rows_step (by repeat (first | exact HR.out | (with_reducible apply RowsAt.alloc))) (by have h_ := HM.out.lt; first | omega | (simp; omega) | (simp at h_ ⊢; done) | (simp at h_ ⊢; omega)) hgrow1
  have hb1 := Below.grown (B := w.heap.size) (a := w) (by repeat (first | exact HBW.out | (with_reducible refine Below.alloc ?_ (by have h_ := HBW.out.size; first | omega | (simp; done) | (simp; omega) | (simp at h_ ⊢; omega)) _))) hgrow1 (by have h_ := HBW.out.size; first | omega | (simp; done) | (simp; omega) | (simp at h_ ⊢; omega)) (fun k hk => by cases hk; exact Nat.le_refl _)
  replace HM := Aside0.mk hown1
  replace HR := Aside0.mk hr1
  replace HBW := Aside0.mk hb1
  clear hown1 hgrow1 hr1 hb1
  go_wp2_with (go_at_call 39; refine (one_calls _ _).mono ?_; rintro e w' ⟨rfl, rfl⟩)
  refine upon_update (string_keyed U9) U45 (R := RH) (b := w.heap.size) (n := ?hN9) (D := ?hD9) (kl := ?hL9) ?hm9 ?hn9 ?hk9 rfl ?_
  (case hm9 => repeat (first | exact HM.out | (with_reducible apply World.ownsMap.alloc)))
  (case hn9 => unfold maxLen; omega)
  (case hk9 => refine WideMaps.keyOf_string_mk U9 ?_; decide)
  intro w10 hown1 hgrow1
  have hr1 := rows_step (by repeat (first | exact HR.out | (with_reducible apply RowsAt.alloc))) (by have h_ := HM.out.lt; first | omega | (simp; omega) | (simp at h_ ⊢; done) | (simp at h_ ⊢; omega)) hgrow1
  have hb1 := Below.grown (B := w.heap.size) (a := w) (by repeat (first | exact HBW.out | (with_reducible refine Below.alloc ?_ (by have h_ := HBW.out.size; first | omega | (simp; done) | (simp; omega) | (simp at h_ ⊢; omega)) _))) hgrow1 (by have h_ := HBW.out.size; first | omega | (simp; done) | (simp; omega) | (simp at h_ ⊢; omega)) (fun k hk => by cases hk; exact Nat.le_refl _)
  replace HM := Aside0.mk hown1
  replace HR := Aside0.mk hr1
  replace HBW := Aside0.mk hb1
  clear hown1 hgrow1 hr1 hb1
  go_wp2_with (go_at_call 39; refine (one_calls _ _).mono ?_; rintro e w' ⟨rfl, rfl⟩)
  refine upon_update (string_keyed U9) U45 (R := RH) (b := w.heap.size) (n := ?hN10) (D := ?hD10) (kl := ?hL10) ?hm10 ?hn10 ?hk10 rfl ?_
  (case hm10 => repeat (first | exact HM.out | (with_reducible apply World.ownsMap.alloc)))
  (case hn10 => unfold maxLen; omega)
  (case hk10 => refine WideMaps.keyOf_string_mk U9 ?_; decide)
  intro w11 hown1 hgrow1
  have hr1 := rows_step (by repeat (first | exact HR.out | (with_reducible apply RowsAt.alloc))) (by have h_ := HM.out.lt; first | omega | (simp; omega) | (simp at h_ ⊢; done) | (simp at h_ ⊢; omega)) hgrow1
  have hb1 := Below.grown (B := w.heap.size) (a := w) (by repeat (first | exact HBW.out | (with_reducible refine Below.alloc ?_ (by have h_ := HBW.out.size; first | omega | (simp; done) | (simp; omega) | (simp at h_ ⊢; omega)) _))) hgrow1 (by have h_ := HBW.out.size; first | omega | (simp; done) | (simp; omega) | (simp at h_ ⊢; omega)) (fun k hk => by cases hk; exact Nat.le_refl _)
  replace HM := Aside0.mk hown1
  replace HR := Aside0.mk hr1
  replace HBW := Aside0.mk hb1
  clear hown1 hgrow1 hr1 hb1
  go_wp2
  go_ret
  have hR := HR.out
  have hM := HM.out
  simp only [World.size_alloc] at hR hM
  refine ⟨rfl, [w.heap.size + 1, w1.heap.size, w2.heap.size + 1 + 1 + 1 + 1, w3.heap.size, w4.heap.size, w5.heap.size + 1 + 1 + 1, w6.heap.size, w7.heap.size, w8.heap.size + 1 + 1, w9.heap.size, w10.heap.size], rfl, ?_, ?_, HBW.out⟩
  · rw [putAll_eq]
    have hN := hM.mono (n' := 11) (by decide)
    with_reducible exact hN
  · rw [rowsAll_eq]
    with_reducible exact hR
end
end Go.Proofs.Ytpcljaidlihafaa.P
