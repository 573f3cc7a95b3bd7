/- ref02.Decode, as a contract in the print's own form. -/
import Derived.Test.YtbhfaeliklaffaaPx0
import Derived.Test.YtbhfaeliklaffaaDecx2
namespace Go.Proofs.Ytbhfaeliklaffaa.P
set_option linter.unusedVariables false
set_option linter.unusedSimpArgs false
section
open Go.RowKit Go.Proofs.YtbhfaeliklaffaaW.PrintWords Go.Proofs.YtbhfaeliklaffaaW.PrintLast Go.Proofs.YtbhfaeliklaffaaW.PrintMore
open Classical in
/-- The answer of a function of rounds, with rounds enough. -/
noncomputable def evF {α : Type} (g : Nat → Option α) : Option α := if h : ∃ r, ∃ k, g k = some r then some h.choose else none
theorem evF_some {α : Type} {g : Nat → Option α} {r : α} (h : evF g = some r) : ∃ k, g k = some r := by
  unfold evF at h
  split at h
  · rename_i hh
    obtain rfl := Option.some.inj h
    exact hh.choose_spec
  · cases h
theorem mono_le {α : Type} {g : Nat → Option α} (hm : ∀ k, LeO (g k) (g (k + 1))) {r : α} : ∀ (d k : Nat), g k = some r → g (k + d) = some r
  | 0, _, h => h
  | d + 1, k, h => hm _ _ (mono_le hm d k h)
theorem evF_eq {α : Type} {g : Nat → Option α} (hm : ∀ k, LeO (g k) (g (k + 1))) {r : α} {k : Nat} (h : g k = some r) : evF g = some r := by
  have hh : ∃ r, ∃ k, g k = some r := ⟨r, k, h⟩
  unfold evF
  rw [dif_pos hh]
  obtain ⟨k2, h2⟩ := hh.choose_spec
  have h3 := mono_le hm k2 k h
  have h4 := mono_le hm k k2 h2
  rw [Nat.add_comm k2 k, h3] at h4
  exact h4.symm
noncomputable def glyphcutterref02_Decode.f (l0 : List Int) : Option (Int × Int) := evF fun k => Dec.glyphcutterref02_Decode.f k l0
theorem decode_f {l : List Int} {p : Int × Int} {k : Nat} (h : Dec.glyphcutterref02_Decode.f k l = some p) : glyphcutterref02_Decode.f l = some p := evF_eq (fun k => Dec.glyphcutterref02_Decode.mono l k) h
theorem glyphcutterref02_Decode.calls (A0 : Option Addr) (c0 : Nat) (l0 : List Int) (r1 : Int) (r2 : Int) (w : World) (hr0 : Kd.C (Kd.int .u8) w A0 l0.length l0) (hc0 : l0.length ≤ c0) (h : glyphcutterref02_Decode.f l0 = some (r1, r2)) :
    Calls Try.prog 25 #[.slice A0 l0.length c0] w fun e w' => e = .returned (.tuple #[.int .i64 r1, .int .i64 r2]) ∧ Below w.heap.size w w' := by
  obtain ⟨k, hk⟩ := evF_some h
  exact Dec.glyphcutterref02_Decode.calls k A0 c0 l0 r1 r2 w hr0 hc0 hk
end
end Go.Proofs.Ytbhfaeliklaffaa.P
