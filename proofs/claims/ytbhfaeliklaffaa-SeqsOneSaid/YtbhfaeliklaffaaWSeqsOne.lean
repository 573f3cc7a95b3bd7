/- The law SeqsOne: the walk and the plain law together. -/
import Derived.Test.YtbhfaeliklaffaaPx0
import Derived.Test.YtbhfaeliklaffaaPx14
import Derived.Test.YtbhfaeliklaffaaGMatch
import Derived.Test.YtbhfaeliklaffaaGNorm
import Derived.Test.YtbhfaeliklaffaaGOf
import Derived.Test.YtbhfaeliklaffaaGParts
import Derived.Test.YtbhfaeliklaffaaPBase
import Derived.Test.YtbhfaeliklaffaaPLaw3
import Derived.Test.YtbhfaeliklaffaaPMat
import Derived.Test.YtbhfaeliklaffaaPRow
import Derived.Test.YtbhfaeliklaffaaPRowAll
import Derived.Test.YtbhfaeliklaffaaPSeq
namespace Go.Proofs.Ytbhfaeliklaffaa.P
set_option linter.unusedVariables false
set_option linter.unusedSimpArgs false
section
open Go.RowKit Go.Proofs.YtbhfaeliklaffaaW.PrintWords Go.Proofs.YtbhfaeliklaffaaW.PrintLast Go.Proofs.YtbhfaeliklaffaaW.PrintMore
theorem of_one {x : Int} (h : Scal x) : ofP [⟨x, x⟩] = [rowP ⟨x, x⟩] := by
  have hn : Nf [(⟨x, x⟩ : S43)] := ⟨fun s hs => by rw [List.mem_singleton.1 hs]; unfold Ok; unfold Scal at h; simp only; omega, List.pairwise_singleton _ _⟩
  have hk := hn.1 _ (List.mem_singleton.2 rfl)
  have hz : sizesP ⟨x, x⟩ = [⟨x, x⟩] := by
    have hcl := fun s hs => sizes_cls (x := s) hk hs
    have hsum := sizes_sum hk
    have hlen : ∀ s ∈ sizesP ⟨x, x⟩, s = ⟨x, x⟩ := fun s hs => by
      have h1 := (sizes_mem hk s.f0).1 ⟨s, hs, Int.le_refl _, (hcl s hs).bd.2.1⟩
      have h2 := (sizes_mem hk s.f1).1 ⟨s, hs, (hcl s hs).bd.2.1, Int.le_refl _⟩
      simp only at h1 h2
      have e0 : s.f0 = x := by omega
      have e1 : s.f1 = x := by omega
      cases s
      simp only at e0 e1
      rw [e0, e1]
    simp only at hsum
    cases hq : sizesP ⟨x, x⟩ with
    | nil => rw [hq] at hsum; simp only [sumS] at hsum; omega
    | cons s t =>
      rw [hq] at hlen hsum
      have e := hlen s List.mem_cons_self
      subst e
      cases t with
      | nil => rfl
      | cons s' t' =>
        have e := hlen s' (List.mem_cons_of_mem _ List.mem_cons_self)
        subst e
        have : 0 ≤ sumS t' := sumS_nn t' (fun s hs => by rw [hlen s (List.mem_cons_of_mem _ (List.mem_cons_of_mem _ hs))]; exact Int.le_refl _)
        simp only [sumS] at hsum
        omega
  have hc : Cls ⟨x, x⟩ := sizes_cls hk (by rw [hz]; exact List.mem_singleton.2 rfl)
  have hp : ¬ 0 < placeP ⟨x, x⟩ := by
    have := place_in hc
    simp only at this
    omega
  unfold ofP
  rw [normP_of_nf hn, List.flatMap_cons, List.flatMap_nil, List.append_nil, hz, parts_keep (fun s hs => by rw [List.mem_singleton.1 hs]; exact hc) hp, parts_nil]
  rfl
theorem law_seqsone (a : Int) (h0 : 0 ≤ a) : Ev (fun k => glyphcutterlaw03_SeqsOne.f k a) true := by
  have hx : wrap64 (Int.tmod a 1114112) = a % 1114112 := by rw [Int.tmod_eq_emod_of_nonneg h0, wrap_in (by omega) (by omega)]
  have hxb : 0 ≤ a % 1114112 ∧ a % 1114112 ≤ 1114111 := by omega
  generalize a % 1114112 = x at hx hxb
  unfold glyphcutterlaw03_SeqsOne.f
  rw [hx]
  have n1 := notP_len []
  have n2 := notP_len [(⟨x, x⟩ : S43)]
  simp only [List.length_nil, List.length_cons] at n1 n2
  have i1 := interP_len (notP []) (notP [⟨x, x⟩])
  have n3 := notP_len (interP (notP []) (notP [⟨x, x⟩]))
  have i2 := interP_len (notP []) (notP (interP (notP []) (notP [⟨x, x⟩])))
  have w1 : Wf [(⟨x, x⟩ : S43)] := fun s hs => by rw [List.mem_singleton.1 hs]; simp only; omega
  have in1 := is_inter (notP []) (notP [⟨x, x⟩])
  have in2 := is_inter (notP []) (notP (interP (notP []) (notP [⟨x, x⟩])))
  refine Ev.bind (ref_encode x) (Ev.bind (ref_not [] (by simp) wf_nil) (Ev.bind (ref_not [] (by simp) wf_nil) (Ev.bindc (a := [⟨x, x⟩]) rfl (Ev.bind (ref_minus (notP []) [⟨x, x⟩] (by omega) (by simp) (is_not []).1.wf w1)
    (Ev.bind (ref_minus (notP []) (interP (notP []) (notP [⟨x, x⟩])) (by omega) (by omega) (is_not []).1.wf in1.1.wf) (Ev.bindc (of_f _ (by omega)) ?_))))))
  have hm : ∀ r, mem (interP (notP []) (notP (interP (notP []) (notP [⟨x, x⟩])))) r ↔ Scal r ∧ r = x := by
    intro r
    have g2 : mem (interP (notP []) (notP (interP (notP []) (notP [⟨x, x⟩])))) r ↔ Scal r ∧ (mem (notP []) r ∧ mem (notP (interP (notP []) (notP [⟨x, x⟩]))) r) := in2.2 r
    have g1 : mem (interP (notP []) (notP [⟨x, x⟩])) r ↔ Scal r ∧ (mem (notP []) r ∧ mem (notP [⟨x, x⟩]) r) := in1.2 r
    have f0 : mem (notP []) r ↔ Scal r ∧ ¬ mem [] r := (is_not []).2 r
    have f1 : mem (notP [⟨x, x⟩]) r ↔ Scal r ∧ ¬ mem [⟨x, x⟩] r := (is_not [⟨x, x⟩]).2 r
    have f2 : mem (notP (interP (notP []) (notP [⟨x, x⟩]))) r ↔ Scal r ∧ ¬ mem (interP (notP []) (notP [⟨x, x⟩])) r := (is_not (interP (notP []) (notP [⟨x, x⟩]))).2 r
    rw [g2, f2, g1, f0, f1]
    have e : mem [(⟨x, x⟩ : S43)] r ↔ r = x := by
      rw [mem_cons_iff]
      simp only
      constructor
      · rintro (h | ⟨_, h, _⟩)
        · omega
        · cases h
      · rintro rfl; exact .inl ⟨Int.le_refl _, Int.le_refl _⟩
    have e0 : ¬ mem ([] : List S43) r := by rintro ⟨_, h, _⟩; cases h
    rw [e]
    by_cases c : r = x <;> by_cases d : Scal r <;> simp [c, d, e0] <;> (first | (subst c; simp [d, e0]) | skip)
  by_cases hsx : Scal x
  · have hne := enc_ne hsx
    have heq : interP (notP []) (notP (interP (notP []) (notP [⟨x, x⟩]))) = [⟨x, x⟩] := by
      refine Nf.ext in2.1 ⟨fun s hs => by rw [List.mem_singleton.1 hs]; unfold Ok; unfold Scal at hsx; simp only; omega, List.pairwise_singleton _ _⟩ (fun r => ?_)
      rw [hm, mem_cons_iff]
      simp only
      constructor
      · rintro ⟨_, rfl⟩; exact .inl ⟨Int.le_refl _, Int.le_refl _⟩
      · rintro (h | ⟨_, h, _⟩)
        · have : r = x := by omega
          subst this; exact ⟨hsx, rfl⟩
        · cases h
    rw [heq]
    refine Ev.neg (by omega) (Ev.bind known_f (Ev.pos rfl ?_))
    have hcount := of_count_f [(⟨x, x⟩ : S43)]
    have hhas := of_has [(⟨x, x⟩ : S43)] hsx
    have hnf : Nf [(⟨x, x⟩ : S43)] := heq ▸ in2.1
    have hh : hasP [(⟨x, x⟩ : S43)] x = true := (hasP_iff _ _).2 ⟨hsx, ⟨x, x⟩, List.mem_singleton.2 rfl, Int.le_refl _, Int.le_refl _⟩
    have hsz : sizeW (normP [(⟨x, x⟩ : S43)]) 0 = 1 := by
      rw [normP_of_nf hnf, sizeW, List.foldl_cons, List.foldl_nil]
      simp only
      rw [show x - x = 0 by omega]
      kernel_rfl
    rw [hh] at hhas
    rw [hsz] at hcount
    rw [of_one hsx] at hcount hhas ⊢
    refine Ev.pos rfl (Ev.pos (by simp) (Ev.pos ?_ (Ev.bindc (a := true) (by rw [← hhas]; rfl) (Ev.pos rfl (Ev.bind hcount ?_)))))
    · show (((rowP ⟨x, x⟩).length : Nat) : Int) = _
      unfold rowP
      rw [zipR_len _ _ rfl]
    · exact Ev.now true
  · have heq : interP (notP []) (notP (interP (notP []) (notP [⟨x, x⟩]))) = [] := by
      refine Nf.ext in2.1 Nf.nil (fun r => ?_)
      rw [hm]
      constructor
      · rintro ⟨h, rfl⟩; exact absurd h hsx
      · rintro ⟨_, h, _⟩; cases h
    have hnil : ofP [] = [] := by
      unfold ofP
      rw [normP_of_nf Nf.nil]
      rfl
    rw [heq, enc_none hsx, hnil]
    refine Ev.pos rfl (Ev.bind known_f (Ev.pos rfl ?_))
    exact Ev.now true
end
section
open Go.RowKit Go.Proofs.YtbhfaeliklaffaaW.PrintWords Go.Proofs.YtbhfaeliklaffaaW.PrintLast Go.Proofs.YtbhfaeliklaffaaW.PrintMore
theorem SeqsOne.calls (W : World) (a0 : Int) (w0 : (Lit.int .u32 a0).wf = true) :
    Calls Try.prog 4 #[.int .u32 a0] W fun e W' => e = .returned (.bool true) ∧ Below W.heap.size W W' := by
  obtain ⟨k, hk⟩ := (law_seqsone a0 (wf_u32 w0).1).rounds
  exact glyphcutterlaw03_SeqsOne.calls k a0 true W  hk
end
end Go.Proofs.Ytbhfaeliklaffaa.P
