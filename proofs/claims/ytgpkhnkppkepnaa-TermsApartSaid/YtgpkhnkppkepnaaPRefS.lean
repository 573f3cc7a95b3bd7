/- The reference's Union, Same, Size, Norm, Alike. -/
import Derived.Test.YtgpkhnkppkepnaaPx0
import Derived.Test.YtgpkhnkppkepnaaPx9
import Derived.Test.YtgpkhnkppkepnaaGEdges
import Derived.Test.YtgpkhnkppkepnaaGHas
import Derived.Test.YtgpkhnkppkepnaaGNorm
import Derived.Test.YtgpkhnkppkepnaaGRowsO
import Derived.Test.YtgpkhnkppkepnaaPBase
import Derived.Test.YtgpkhnkppkepnaaPLaw10
import Derived.Test.YtgpkhnkppkepnaaPLaws10
import Derived.Test.YtgpkhnkppkepnaaPParts
import Derived.Test.YtgpkhnkppkepnaaPRef10
namespace Go.Proofs.Ytgpkhnkppkepnaa.P
set_option linter.unusedVariables false
set_option linter.unusedSimpArgs false
section
open Go.RowKit Go.Proofs.YtgpkhnkppkepnaaW.PrintWords Go.Proofs.YtgpkhnkppkepnaaW.PrintLast Go.Proofs.YtgpkhnkppkepnaaW.PrintMore
theorem hasP_nil (r : Int) : hasP [] r = false := by unfold hasP; simp
theorem selQ_14 (a b : List S42) (r : Int) : selQ 14 a b r = (hasP a r || hasP b r) := by
  rw [selQ_at 14 (by decide) (by decide)]; cases hasP a r <;> cases hasP b r <;> decide
end
section
open Go.RowKit Go.Proofs.YtgpkhnkppkepnaaW.PrintWords Go.Proofs.YtgpkhnkppkepnaaW.PrintLast Go.Proofs.YtgpkhnkppkepnaaW.PrintMore
def sizeW (l : List S42) (n : Int) : Int := l.foldl (fun n s => wrap64 (n + wrap64 (wrap64 (s.f1 - s.f0) + 1))) n
theorem refP_2n (a : List S42) : refP 2 a [] = normP a := Nf.ext (refP_ok _ _ _).1 (normP_nf a) fun r => by
  rw [(refP_ok _ _ _).2, normP_mem, selQ_2, hasP_nil, Bool.not_false, Bool.and_true, hasP_iff]
  exact ⟨fun h => h.2, fun h => ⟨h.1, h⟩⟩
theorem refP_14 (a b : List S42) : refP 14 a b = normP (a ++ b) := Nf.ext (refP_ok _ _ _).1 (normP_nf _) fun r => by
  rw [(refP_ok _ _ _).2, normP_mem, selQ_14, Bool.or_eq_true, hasP_iff, hasP_iff, mem_append]
  exact ⟨fun ⟨h1, h⟩ => ⟨h1, h.imp (fun h => h.2) (fun h => h.2)⟩, fun ⟨h1, h⟩ => ⟨h1, h.imp (fun h => ⟨h1, h⟩) (fun h => ⟨h1, h⟩)⟩⟩
theorem ref_norm (l : List S42) (hl : l.length ≤ 20000) (hw : Wf l) : Ev (fun k => glyphcutterref01_Norm.f k l) (normP l) := by
  unfold glyphcutterref01_Norm.f
  have := ref_make 2 l [] (by omega) (by simp) hw wf_nil
  rw [← refP_2n]
  exact Ev.bind this (Ev.now _)
theorem ref_same (a b : List S42) (ha : a.length ≤ 20000) (hb : b.length ≤ 20000) (wa : Wf a) (wb : Wf b) : Ev (fun k => glyphcutterref01_Same.f k a b) (eqS (normP a) (normP b)) := by
  have := normP_len a
  unfold glyphcutterref01_Same.f
  exact Ev.bind (ref_norm a ha wa) (Ev.bind (ref_norm b hb wb) (Ev.bind (ref_alike _ _ (by omega)) (Ev.now _)))
theorem ref_size (l : List S42) (hl : l.length ≤ 20000) (hw : Wf l) : Ev (fun k => glyphcutterref01_Size.f k l) (sizeW (normP l) 0) := by
  have hlen := normP_len l
  have l0 : ∀ (d n : Nat) (x : Int), (normP l).length - n = d → n ≤ (normP l).length → Ev (fun k => glyphcutterref01_Size.l0 k x (normP l) (n : Int)) (sizeW ((normP l).drop n) x) := by
    intro d
    induction d with
    | zero =>
      intro n x hd hn
      rw [List.drop_of_length_le (by omega)]
      show Ev _ x
      exact Ev.step (fun k => by rw [glyphcutterref01_Size.l0]) (Ev.neg (by omega) (Ev.now x))
    | succ d ih =>
      intro n x hd hn
      have h1 : n < (normP l).length := by omega
      rw [List.drop_eq_getElem_cons h1]
      refine Ev.step (fun k => by rw [glyphcutterref01_Size.l0]) (Ev.pos (by omega) (Ev.pos (by omega) ?_))
      rw [rd_get _ n h1, wrap_in (i := (n : Int) + 1) (by omega) (by omega)]
      exact ih (n + 1) _ (by omega) (by omega)
  unfold glyphcutterref01_Size.f
  exact Ev.bind (ref_norm l hl hw) (l0 _ 0 0 rfl (by omega))
end
section
theorem take_snocL (l : List (List S42)) (k : Nat) (h : k < l.length) : (l.take (k + 1)).flatten = (l.take k).flatten ++ l.getD k [] := by
  rw [List.take_succ_eq_append_getElem h, List.flatten_append]
  simp [List.getElem?_eq_getElem h]
end
section
open Go.RowKit Go.Proofs.YtgpkhnkppkepnaaW.PrintWords Go.Proofs.YtgpkhnkppkepnaaW.PrintLast Go.Proofs.YtgpkhnkppkepnaaW.PrintMore
theorem mem_norm_append (a b : List S42) : normP (normP a ++ b) = normP (a ++ b) := Nf.ext (normP_nf _) (normP_nf _) fun r => by
  rw [normP_mem, normP_mem, mem_append, mem_append, normP_mem]
  exact ⟨fun ⟨h1, h⟩ => ⟨h1, h.imp (fun h => h.2) id⟩, fun ⟨h1, h⟩ => ⟨h1, h.imp (fun h => ⟨h1, h⟩) id⟩⟩
theorem ref_union (ll : List (List S42)) (h1 : ll.flatten.length ≤ 20000) (h2 : ll.length ≤ 100000) (hw : ∀ l ∈ ll, Wf l) : Ev (fun k => glyphcutterref01_Union.f k ll) (normP ll.flatten) := by
  have l0 : ∀ (d n : Nat), ll.length - n = d → n ≤ ll.length → Ev (fun k => glyphcutterref01_Union.l0 k ll (normP (ll.take n).flatten) (n : Int)) (normP ll.flatten) := by
    intro d
    induction d with
    | zero =>
      intro n hd hn
      rw [List.take_of_length_le (by omega)]
      exact Ev.step (fun k => by rw [glyphcutterref01_Union.l0]) (Ev.neg (by omega) (Ev.now _))
    | succ d ih =>
      intro n hd hn
      have hlt : n < ll.length := by omega
      refine Ev.step (fun k => by rw [glyphcutterref01_Union.l0]) (Ev.pos (by omega) (Ev.pos (by omega) ?_))
      have hrd : rd_L2 ll (n : Int) = ll[n] := by
        unfold rd_L2
        rw [Int.toNat_natCast, List.getD_eq_getElem?_getD, List.getElem?_eq_getElem hlt]; rfl
      have hm : ll[n] ∈ ll := List.getElem_mem hlt
      have hl := len_of_flatten hm
      have hl2 := take_flatten_len ll n
      have hl3 := normP_len (ll.take n).flatten
      have hmk := ref_make 14 (normP (ll.take n).flatten) ll[n] (by omega) (by omega) (normP_nf _).wf (hw _ hm)
      rw [hrd, wrap_in (by omega) (by omega)]
      refine Ev.bind hmk ?_
      show Ev (fun k => glyphcutterref01_Union.l0 k ll (refP 14 (normP (ll.take n).flatten) ll[n]) _) _
      rw [refP_14, mem_norm_append]
      have ih1 := ih (n + 1) (by omega) (by omega)
      rw [take_snocL ll n hlt, List.getD_eq_getElem?_getD, List.getElem?_eq_getElem hlt] at ih1
      exact ih1
  have h0 := l0 _ 0 rfl (by omega)
  have e : normP ([] : List (List S42)).flatten = [] := normP_of_nf Nf.nil
  rw [List.take_zero, e] at h0
  exact h0
end
end Go.Proofs.Ytgpkhnkppkepnaa.P
