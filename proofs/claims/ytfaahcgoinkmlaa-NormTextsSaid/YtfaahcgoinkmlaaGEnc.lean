/- utf.Encode, as a contract in the print's own form. -/
import Derived.Test.YtfaahcgoinkmlaaPx0
import Derived.Test.YtfaahcgoinkmlaaShelf
import Derived.Laws.BitsLemmas
import Derived.Outline
namespace Go.Proofs.Ytfaahcgoinkmlaa.P
set_option linter.unusedVariables false
set_option linter.unusedSimpArgs false
section
open Go.RowKit Go.Proofs.YtfaahcgoinkmlaaW.PrintWords Go.Proofs.YtfaahcgoinkmlaaW.PrintLast Go.Proofs.YtfaahcgoinkmlaaW.PrintMore
/-- A scalar as bytes; nothing of what is none. -/
def encP (r : Int) : List Int :=
 if 0 ≤ r ∧ r ≤ 1114111 ∧ (r < 55296 ∨ 57343 < r) then
  if r < 128 then [r] else if r < 2048 then [192 + r / 64,128 + r % 64]
  else if r < 65536 then [224 + r / 4096,128 + r / 64 % 64,128 + r % 64]
  else [240 + r / 262144,128 + r / 4096 % 64,128 + r / 64 % 64,128 + r % 64]
 else []
theorem enc_none {r : Int} (h : ¬ (0 ≤ r ∧ r ≤ 1114111 ∧ (r < 55296 ∨ 57343 < r))) : encP r = [] := if_neg h
theorem enc_1 {r : Int} (h0 : 0 ≤ r) (h1 : r < 128) : encP r = [r] := by unfold encP;rw [if_pos (by omega),if_pos h1]
theorem enc_2 {r : Int} (h0 : 128 ≤ r) (h1 : r < 2048) : encP r = [192 + r / 64,128 + r % 64] := by unfold encP;rw [if_pos (by omega),if_neg (by omega),if_pos h1]
theorem enc_3 {r : Int} (h0 : 2048 ≤ r) (h1 : r < 65536) (h2 : r < 55296 ∨ 57343 < r) : encP r = [224 + r / 4096,128 + r / 64 % 64,128 + r % 64] := by unfold encP;rw [if_pos (by omega),if_neg (by omega),if_neg (by omega),if_pos h1]
theorem enc_4 {r : Int} (h0 : 65536 ≤ r) (h1 : r ≤ 1114111) : encP r = [240 + r / 262144,128 + r / 4096 % 64,128 + r / 64 % 64,128 + r % 64] := by unfold encP;rw [if_pos (by omega),if_neg (by omega),if_neg (by omega),if_neg (by omega)]
theorem enc_len (r : Int) : (encP r).length ≤ 4 := by
 unfold encP
 repeat' split
 all_goals simp
theorem enc_u8 (r : Int) : ∀ x ∈ encP r,0 ≤ x ∧ x < 256 := by
 intro x hx
 unfold encP at hx
 split at hx
 ·split at hx
  ·simp at hx;omega
  ·split at hx
   ·simp at hx;omega
   ·split at hx
    ·simp at hx;omega
    ·simp at hx;omega
 ·simp at hx
end
section
open Go.RowKit Go.Shelf Go.Proofs.YtfaahcgoinkmlaaW.PrintWords Go.Proofs.YtfaahcgoinkmlaaW.PrintLast Go.Proofs.YtfaahcgoinkmlaaW.PrintMore
def utf_Encode.f (a0 : Int) : Option (List Int) := some (encP a0)
theorem enc_shelf {r : Int} (h0 : 0 ≤ r) (h1 : r ≤ 1114111) (h2 : r < 55296 ∨ 57343 < r) : Lib.runeCells r = encs (Value.int .u8) (encP r) := by
 unfold Lib.runeCells encs
 congr 1
 by_cases a : r < 128
 ·rw [Lib.encodeRuneZ_one h0 (by omega),enc_1 h0 a]
 ·by_cases b : r < 2048
  ·rw [Lib.encodeRuneZ_two (by omega) (by omega),enc_2 (by omega) b]
  ·by_cases c : r < 65536
   ·rw [Lib.encodeRuneZ_three (by omega),enc_3 (by omega) c h2]
   ·rw [Lib.encodeRuneZ_four (by omega) (by omega),enc_4 (by omega) h1]
theorem appendRune_nil (r : Int) (h0 : 0 ≤ r) (h1 : r ≤ 1114111) (h2 : r < 55296 ∨ 57343 < r) (w : World) :
  Calls Try.prog 53 #[.slice none 0 0,.int .i32 r] w fun e w' => ∃ v,e = .returned v ∧ Kd.R (Kd.int .u8) 5 w' w.heap.size (fun _ => True) v (encP r) ∧ Below w.heap.size w w' := by
 refine (Any.utf8_AppendRune_plain Try.lays242 info5 w.heap.size (.slice none 0 0) 0 [] r (by omega) (by omega) w (World.ownsRow_nil _ _ _ _) (by omega) (Nat.le_refl _)).mono ?_
 rintro e w' ⟨v,rfl,ho,o,hg⟩
 refine ⟨v,rfl,Kd.R_of_own ?_ (fun _ _ => trivial),((Below.refl _ w).alloc (Nat.le_refl _) o).grown hg (by simp) (fun k e => by cases e)⟩
 rw [enc_shelf h0 h1 h2,Nat.zero_add,List.nil_append] at ho
 rwa [encs_length] at ho
theorem validRune_calls (r : Int) (b : Bool) (h : Lib.validRune r = b) (w : World) : Calls Try.prog 52 #[.int .i32 r] w fun e w' => e = .returned (.bool b) ∧ w = w' := by
 subst h
 exact (Any.utf8_ValidRune Try.lays119 r w).mono fun e w' ⟨h1,h2⟩ => ⟨h1,h2.symm⟩
set_option maxHeartbeats 1000000 in
theorem utf_Encode.calls (a0 : Int) (r : List Int) (w : World) (h : utf_Encode.f a0 = some r) :
  Calls Try.prog 31 #[.int .i64 a0] w fun e w' => ∃ v0_ : Value,e = .returned (v0_) ∧ Kd.R (Kd.int .u8) 5 w' w.heap.size (fun _ => True) v0_ r ∧ Below w.heap.size w w' := by
 obtain rfl := Option.some.inj h
 clear h
 by_cases a : 0 ≤ a0
 ·by_cases b : a0 ≤ 1114111
  ·by_cases c : a0 < 55296 ∨ 57343 < a0
   ·have hv := validRune_calls a0 true (by unfold Lib.validRune;exact decide_eq_true (by omega)) w
    have ha := appendRune_nil a0 a b c w
    generalize encP a0 = x at ha ⊢
    clear c
    go_enter Try.func31,Try.ntmps31
    go_wp2_with (first
     | (go_at_call 52;refine hv.mono ?_;rintro e w' ⟨rfl,rfl⟩)
     | (go_at_call 53;refine ha.mono ?_;rintro e w' ⟨v,rfl,ho,hb⟩))
    go_ret
    exact ⟨_,rfl,ho,hb⟩
   ·have hv := validRune_calls a0 false (by unfold Lib.validRune;exact decide_eq_false (by omega)) w
    rw [enc_none (by omega)]
    clear c
    go_enter Try.func31,Try.ntmps31
    go_wp2_with (go_at_call 52;refine hv.mono ?_;rintro e w' ⟨rfl,rfl⟩)
    go_ret
    exact ⟨_,rfl,Kd.R_nil _ _ _ _ _,Below.refl _ _⟩
  ·rw [enc_none (by omega)]
   go_enter Try.func31,Try.ntmps31
   go_wp2
   go_ret
   exact ⟨_,rfl,Kd.R_nil _ _ _ _ _,Below.refl _ _⟩
 ·rw [enc_none (by omega)]
  go_enter Try.func31,Try.ntmps31
  go_wp2
  go_ret
  exact ⟨_,rfl,Kd.R_nil _ _ _ _ _,Below.refl _ _⟩
end
end Go.Proofs.Ytfaahcgoinkmlaa.P
