/- terms.Which, as a contract in the print's own form. -/
import Derived.Test.YtgpkhnkppkepnaaPx0
import Derived.Test.YtgpkhnkppkepnaaGBase
import Derived.Test.YtgpkhnkppkepnaaGEdges
import Derived.Test.YtgpkhnkppkepnaaGHas
import Derived.Test.YtgpkhnkppkepnaaGMapH
import Derived.Test.YtgpkhnkppkepnaaGRowsO
import Derived.Test.YtgpkhnkppkepnaaGTerms
import Derived.Test.YtgpkhnkppkepnaaPBase
import Derived.Shelf.Abstract
import Derived.Outline
namespace Go.Proofs.Ytgpkhnkppkepnaa.P
set_option linter.unusedVariables false
set_option linter.unusedSimpArgs false
section
open Go.RowKit Go.Shelf Go.Proofs.YtgpkhnkppkepnaaW.PrintWords Go.Proofs.YtgpkhnkppkepnaaW.PrintLast Go.Proofs.YtgpkhnkppkepnaaW.PrintMore
/-- What is asked of a predicate on rows of spans. -/
def PredL (g : Nat) (lb : Array Value) (p : List S42 → Bool) (w : World) : Prop :=
  ∀ (W : World) (A : Option Addr) (c : Nat) (x : List S42), Below w.heap.size w W → Kd.C k42 W A x.length x → x.length ≤ c → Calls Try.prog g (#[.slice A x.length c] ++ lb) W fun e w' => e = .returned (.bool (p x)) ∧ Below w.heap.size w w'
def idxL (p : List S42 → Bool) (l : List (List S42)) : Int := match l.findIdx? p with | some i => (i : Int) | none => -1
set_option maxHeartbeats 2000000 in
theorem indexFuncL (g : Nat) (lb : Array Value) (p : List S42 → Bool) (eg : ∀ args w, (callFunc g args).run Try.prog w = .ok (.enter g args) w) (A0 : Option Addr) (c0 : Nat) (l0 : List (List S42)) (w : World) (hp : PredL g lb p w) (hr0 : Kd.C (Kd.slice 42 k42) w A0 l0.length l0) :
    Calls Try.prog 34 #[.slice A0 l0.length c0, .func (.func g) #[] lb] w fun e w' => e = .returned (.int .i64 (idxL p l0)) ∧ Below w.heap.size w w' := by
  have HR0 := Aside0.mk hr0
  have hbig := hr0.2.1
  clear hr0
  obtain ⟨n, hn⟩ : ∃ n, l0.length = n := ⟨_, rfl⟩
  have HN := Aside0.mk hn
  rw [hn] at hbig ⊢
  clear hn
  have HP : Aside0 (PredL g lb p w) := ⟨hp⟩
  clear hp
  go_enter Try.func34, Try.ntmps34
  go_wp2
  go_loopg [5, 8] n (fun gg _ s8 wr => ∃ kk : Nat, kk ≤ n ∧ n - kk ≤ gg ∧ s8 = .int .i64 kk ∧ Aside0 (Below w.heap.size w wr) ∧ Aside0 (∀ x ∈ l0.take kk, p x = false))
  case atStart => exact ⟨0, Nat.zero_le _, by omega, rfl, ⟨Below.refl _ w⟩, ⟨fun x hx => by simp at hx⟩⟩
  case round =>
    obtain ⟨kk, hkk, hg, rfl, BW, A⟩ := hrel
    by_cases hlt : kk < n
    · have hltz : (kk : Int) < (n : Int) := by omega
      obtain ⟨ad, A1, c1, e1, hx0, hcl, hi0⟩ := at_L2 (by have := HR0.out; rwa [HN.out] at this) (kk : Int) (by omega) (by omega)
      cases e1
      simp only [Int.toNat_natCast] at hx0
      replace hx0 := (BW.out.cell (World.block_lt_of_cell? w _ hx0)).trans hx0
      obtain ⟨x, hx⟩ : ∃ x, x = rd_L2 l0 kk := ⟨_, rfl⟩
      have hcall := HP.out wr A1 c1 _ BW.out (Kd.C_below hi0 BW.out) hcl
      have HX := Aside0.mk hx
      rw [← hx] at hx0 hcl hcall
      clear hx hi0
      have hxx : l0[kk]? = some x := by
        have h1 : kk < l0.length := by rw [HN.out]; exact hlt
        rw [HX.out, rd_L2, Int.toNat_natCast, List.getD_eq_getElem?_getD, List.getElem?_eq_getElem h1]; rfl
      have HXX := Aside0.mk hxx
      clear hxx
      cases hq : p x with
      | true =>
        rw [hq] at hcall
        have HQ := Aside0.mk hq
        have HC := Aside0.mk hcall
        clear hq hcall
        go_wp2_with (go_at_fn g; refine HC.out.mono ?_; rintro e w' ⟨rfl, hb'⟩)
        go_ret
        refine ⟨?_, hb'⟩
        have h1 : l0.findIdx? p = some kk := by
          rw [List.findIdx?_eq_some_iff_getElem]
          obtain ⟨h2, h3⟩ := List.getElem?_eq_some_iff.1 HXX.out
          refine ⟨h2, by rw [h3]; exact HQ.out, fun j hj => ?_⟩
          have := A.out (l0[j]'(by omega)) (List.mem_take_iff_getElem.2 ⟨j, by omega, rfl⟩)
          simpa using this
        unfold idxL
        rw [h1]
        rfl
      | false =>
        rw [hq] at hcall
        have HQ := Aside0.mk hq
        have HC := Aside0.mk hcall
        clear hq hcall
        go_wp2_with (go_at_fn g; refine HC.out.mono ?_; rintro e w' ⟨rfl, hb'⟩)
        go_roundg (n - (kk + 1))
        case measure => omega
        case rel =>
          refine ⟨kk + 1, by omega, by omega, by go_num, ⟨hb'⟩, ⟨fun y hy => ?_⟩⟩
          obtain ⟨h2, h3⟩ := List.getElem?_eq_some_iff.1 HXX.out
          rw [List.take_succ_eq_append_getElem h2, List.mem_append, List.mem_singleton] at hy
          rcases hy with hy | hy
          · exact A.out y hy
          · rw [hy, h3]; exact HQ.out
    · have hltz : ¬ (kk : Int) < (n : Int) := by omega
      have : kk = n := by omega
      subst this
      go_wp2
      go_ret
      refine ⟨?_, BW.out⟩
      have h1 : l0.findIdx? p = none := by
        rw [List.findIdx?_eq_none_iff]
        intro x hx
        exact A.out x (by rw [List.take_of_length_le (by rw [HN.out]; exact Nat.le_refl _)]; exact hx)
      unfold idxL
      rw [h1]
      rfl
def terms_Which.f (l0 : List (List S42)) (a1 : Int) : Option Int := some (idxL (fun s => hasP s a1) l0)
set_option maxHeartbeats 1000000 in
theorem which1_calls (B : Nat) (r : Int) (w : World) (hB : B < w.heap.size) (hc : w.cell? ⟨B, 0, none⟩ = some (.int .i64 r)) : PredL 35 #[.pointer (some ⟨B, 0, none⟩)] (fun s => hasP s r) w := by
  intro W A c x hb hC hle
  have hc' := (hb.cell (p := ⟨B, 0, none⟩) hB).trans hc
  have hs := hb.size
  have hB' : B < W.heap.size := by omega
  have HB := Aside0.mk hb
  have hcon := set_Has.calls A c x r (hasP x r) W hC hle rfl
  have HC := Aside0.mk hcon
  clear hb hc hcon hC
  show Calls Try.prog 35 #[.slice A x.length c, .pointer (some ⟨B, 0, none⟩)] W fun e w' => e = .returned (.bool (hasP x r)) ∧ Below w.heap.size w w'
  generalize hasP x r = b at HC ⊢
  go_enter Try.func35, Try.ntmps35
  go_wp2_with (go_at_call 36; refine HC.out.mono ?_; rintro e w' ⟨rfl, hb'⟩)
  go_ret
  exact ⟨rfl, HB.out.trans (hb'.mono hs)⟩
set_option maxHeartbeats 1000000 in
theorem terms_Which.calls (A0 : Option Addr) (c0 : Nat) (l0 : List (List S42)) (a1 : Int) (r : Int) (w : World) (hr0 : Kd.C (Kd.slice 42 k42) w A0 l0.length l0) (hc0 : l0.length ≤ c0) (h : terms_Which.f l0 a1 = some r) :
    Calls Try.prog 15 #[.slice A0 l0.length c0, .int .i64 a1] w fun e w' => e = .returned (.int .i64 r) ∧ Below w.heap.size w w' := by
  obtain rfl := Option.some.inj h
  clear h
  have eg := enters_of Try.func35 (by kernel_rfl) rfl
  have hcon := indexFuncL 35 #[.pointer (some ⟨w.heap.size, 0, none⟩)] _ eg A0 c0 l0 (w.alloc (.cells #[.int .i64 a1] 3)) (which1_calls w.heap.size a1 _ (by simp) (Boxed.new w 3 (.int .i64 a1)).cell) (Kd.C_alloc hr0 _)
  have HC := Aside0.mk hcon
  clear eg hr0 hcon
  generalize l0.length = n at HC hc0 ⊢
  generalize idxL (fun s => hasP s a1) l0 = q at HC ⊢
  go_enter Try.func15, Try.ntmps15
  go_wp2_with (go_at_call 34; refine HC.out.mono ?_; rintro e w' ⟨rfl, hb⟩)
  go_ret
  exact ⟨rfl, ((Below.refl _ _).alloc (Nat.le_refl _) _).trans (hb.mono (by simp))⟩
end
end Go.Proofs.Ytgpkhnkppkepnaa.P
