/- The law PropsAll: the walk and the plain law together. -/
import Derived.Test.YtpcljaidlihafaaPx0
import Derived.Test.YtpcljaidlihafaaPx11
import Derived.Test.YtpcljaidlihafaaPx5
import Derived.Test.YtpcljaidlihafaaGMapH
import Derived.Test.YtpcljaidlihafaaGNames
import Derived.Test.YtpcljaidlihafaaGNorm
import Derived.Test.YtpcljaidlihafaaGProps
import Derived.Test.YtpcljaidlihafaaGProps2
import Derived.Test.YtpcljaidlihafaaGPropsOf
import Derived.Test.YtpcljaidlihafaaPBase
import Derived.Test.YtpcljaidlihafaaPLoose
import Derived.Test.YtpcljaidlihafaaPProps
import Derived.Test.YtpcljaidlihafaaPSpec
namespace Go.Proofs.Ytpcljaidlihafaa.P
set_option linter.unusedVariables false
set_option linter.unusedSimpArgs false
section
open Go.RowKit Go.Proofs.YtpcljaidlihafaaW.PrintWords Go.Proofs.YtpcljaidlihafaaW.PrintLast Go.Proofs.YtpcljaidlihafaaW.PrintMore
theorem notRaw_len : ∀ (l : List S39) (x : Int), (notRaw x l).length = l.length + 1
  | [], _ => rfl
  | s :: l, x => by rw [notRaw, List.length_cons, notRaw_len l, List.length_cons]
theorem notP_len (l : List S39) : (notP l).length ≤ 4 * l.length + 2 := by
  have h1 := normP_len (notRaw 0 (normP l))
  have h2 := normP_len l
  rw [notRaw_len] at h1
  unfold notP; omega
end
section
open Go.RowKit Go.Proofs.YtpcljaidlihafaaW.PrintWords Go.Proofs.YtpcljaidlihafaaW.PrintLast Go.Proofs.YtpcljaidlihafaaW.PrintMore
theorem any_nf : normP anyL = notP [] := Nf.ext (normP_nf _) (is_not _).1 fun r => by
  rw [normP_mem, mem_not]
  unfold anyL
  rw [mem_one]
  have := mem_nil r
  unfold Scal
  constructor
  · rintro ⟨h, -⟩; exact ⟨h, this⟩
  · rintro ⟨h, -⟩; exact ⟨h, by simp only; omega⟩
theorem law_all (a : Int) (h0 : 0 ≤ a) (h1 : a ≤ 255) : Ev (fun k => glyphcutterlaw05_PropsAll.f k a) true := by
  have hm : 0 ≤ Int.tmod (wrap64 a) (namesB.length : Int) ∧ Int.tmod (wrap64 a) (namesB.length : Int) < 13 := by
    rw [wrap_in (by omega) (by omega), Int.tmod_eq_emod_of_nonneg h0]
    exact ⟨Int.emod_nonneg _ (by decide), Int.emod_lt_of_pos _ (by decide)⟩
  obtain ⟨hs, q, hq⟩ := names_class _ hm.1 hm.2
  have l1 := normP_len q.2
  have l2 := allL_small (class_mem hq)
  have la : (normP anyL).length ≤ 2 := normP_len anyL
  have ln : (notP []).length ≤ 2 := notP_len []
  unfold glyphcutterlaw05_PropsAll.f
  refine Ev.bindc (a := namesB) rfl (Ev.neg (by decide) (Ev.bindc (of_f class_any (by decide)) (Ev.pos hm.1 (Ev.pos (by have := hm.2; exact this) (Ev.bindc (of_f hq (by omega)) (Ev.bind known_ev (Ev.pos rfl ?_)))))))
  refine Ev.bind (ref_not [] (by decide) wf_nil) ?_
  refine Ev.bind (a := true) ?_ (Ev.pos rfl ?_)
  · have := ref_alike (normP anyL) (notP []) (by omega)
    rw [any_nf, eqS_rfl] at this
    rw [any_nf]
    exact this
  refine Ev.bind (ref_minus (normP q.2) (normP anyL) (by omega) (by omega) (normP_nf _).wf (normP_nf _).wf) ?_
  have e1 : interP (normP q.2) (notP (normP anyL)) = [] := Nf.ext (is_inter _ _).1 Nf.nil fun r => by
    rw [mem_inter, mem_not, any_nf, mem_not]
    have := mem_nil r
    exact ⟨fun ⟨h1, _, _, h2⟩ => absurd ⟨h1, this⟩ h2, fun h => absurd h this⟩
  rw [e1]
  refine Ev.pos rfl (Ev.bind (ref_inter (normP anyL) (normP q.2) (by omega) (by omega) (normP_nf _).wf (normP_nf _).wf) ?_)
  have e2 : interP (normP anyL) (normP q.2) = normP q.2 := Nf.ext (is_inter _ _).1 (normP_nf _) fun r => by
    rw [mem_inter, any_nf, mem_not]
    have := mem_nil r
    exact ⟨fun h => h.2.2, fun h => ⟨(normP_nf _).scal h, ⟨(normP_nf _).scal h, this⟩, h⟩⟩
  rw [e2]
  refine Ev.bind (a := true) ?_ (Ev.now true)
  unfold glyphcutterlaw05_alike.f
  have := ref_alike (normP q.2) (normP q.2) (by omega)
  rw [eqS_rfl] at this
  exact Ev.bind this (Ev.now true)
end
section
open Go.RowKit Go.Proofs.YtpcljaidlihafaaW.PrintWords Go.Proofs.YtpcljaidlihafaaW.PrintLast Go.Proofs.YtpcljaidlihafaaW.PrintMore
theorem PropsAll.calls (W : World) (a0 : Int) (w0 : (Lit.int .u8 a0).wf = true) :
    Calls Try.prog 4 #[.int .u8 a0] W fun e W' => e = .returned (.bool true) ∧ Below W.heap.size W W' := by
  obtain ⟨k, hk⟩ := (law_all a0 (u8_in w0).1 (u8_in w0).2).rounds
  exact glyphcutterlaw05_PropsAll.calls k a0 true W hk
end
end Go.Proofs.Ytpcljaidlihafaa.P
