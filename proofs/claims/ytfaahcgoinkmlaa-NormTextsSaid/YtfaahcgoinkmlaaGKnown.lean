/- known answers true. -/
import Derived.Test.YtfaahcgoinkmlaaPx0
import Derived.Test.YtfaahcgoinkmlaaGApply
import Derived.Test.YtfaahcgoinkmlaaGCheck
import Derived.Test.YtfaahcgoinkmlaaGCompose
import Derived.Test.YtfaahcgoinkmlaaGDecode
import Derived.Test.YtfaahcgoinkmlaaGEnc
import Derived.Test.YtfaahcgoinkmlaaGFold
import Derived.Test.YtfaahcgoinkmlaaGMapP
import Derived.Test.YtfaahcgoinkmlaaGSound
import Derived.Test.YtfaahcgoinkmlaaPBase
import Derived.Test.YtfaahcgoinkmlaaPPairs16
import Derived.Test.YtfaahcgoinkmlaaPText16
import Derived.Test.YtfaahcgoinkmlaaGKn
namespace Go.Proofs.Ytfaahcgoinkmlaa.P
set_option linter.unusedVariables false
set_option linter.unusedSimpArgs false
section
open Go.RowKit Go.Proofs.YtfaahcgoinkmlaaW.PrintWords Go.Proofs.YtfaahcgoinkmlaaW.PrintLast Go.Proofs.YtfaahcgoinkmlaaW.PrintMore
/-- The pairs of a function on numbers, rising; none that stays. -/
def IsC (g : Int → Int) (l : List S45) : Prop := l.Pairwise (fun x y => x.f0 < y.f0) ∧ ∀ p : S45,p ∈ l ↔ p.f1 = g p.f0 ∧ g p.f0 ≠ p.f0
theorem IsC.ext {g : Int → Int} {l m : List S45} (h : IsC g l) (h' : IsC g m) : l = m := by
 have nd : ∀ {l : List S45},l.Pairwise (fun x y => x.f0 < y.f0) → l.Nodup := fun h => h.imp (fun {a b} hab e => by subst e;omega)
 have hp : l.Perm m := (List.perm_ext_iff_of_nodup (nd h.1) (nd h'.1)).2 fun p => by rw [h.2,h'.2]
 exact List.Perm.eq_of_pairwise (le := fun x y => x.f0 ≤ y.f0) (fun x y hx hy h1 h2 => by
  have e1 := (h.2 x).1 hx
  have e2 := (h.2 y).1 (hp.mem_iff.2 hy)
  obtain ⟨x0,x1⟩ := x
  obtain ⟨y0,y1⟩ := y
  simp only at *
  obtain rfl : x0 = y0 := by omega
  rw [e1.1,e2.1]) (h.1.imp fun h => by omega) (h'.1.imp fun h => by omega) hp
theorem compP_mem {l : List S45} : ∀ p,p ∈ compP l ↔ p ∈ l := by
 have : ∀ (l acc : List S45) (p : S45),p ∈ l.foldl stepC acc ↔ p ∈ acc ∨ p ∈ l := by
  intro l
  induction l with
  | nil => intro acc p;simp
  | cons a l ih =>
   intro acc p
   have hs : p ∈ stepC acc a ↔ p ∈ acc ∨ p = a := by
    unfold stepC
    split
    ·simp
    ·rename_i y hy
     split
     ·rename_i h
      have e := eqPr_iff.1 h
      constructor
      ·exact .inl
      ·rintro (h | h)
       ·exact h
       ·rw [h,e];exact List.mem_of_getLast? hy
     ·simp
   rw [List.foldl_cons,ih,hs,List.mem_cons,or_assoc]
 intro p
 unfold compP
 rw [this]
 simp
theorem compP_strict (l : List S45) (hs : l.Pairwise fun x y => x.f0 ≤ y.f0) (hf : ∀ x ∈ l,∀ y ∈ l,x.f0 = y.f0 → x = y) : (compP l).Pairwise fun x y => x.f0 < y.f0 := by
 have key : ∀ n (l : List S45),l.length = n → (l.Pairwise fun x y => x.f0 ≤ y.f0) → (∀ x ∈ l,∀ y ∈ l,x.f0 = y.f0 → x = y) → (compP l).Pairwise fun x y => x.f0 < y.f0 := by
  intro n
  induction n with
  | zero =>
   intro l hl _ _
   obtain rfl : l = [] := List.eq_nil_of_length_eq_zero hl
   exact List.Pairwise.nil
  | succ n ih =>
   intro l hl hs hf
   have hne : l ≠ [] := by rintro rfl;simp at hl
   have e := List.dropLast_concat_getLast hne
   obtain ⟨m,hm⟩ : ∃ m,l.dropLast = m := ⟨_,rfl⟩
   obtain ⟨x,hx⟩ : ∃ x,l.getLast hne = x := ⟨_,rfl⟩
   rw [hm,hx] at e
   subst e
   have hml : m.length = n := by simpa using hl
   obtain ⟨hs1,_,hs2⟩ := List.pairwise_append.1 hs
   have i1 := ih m hml hs1 (fun a ha b hb => hf a (List.mem_append_left _ ha) b (List.mem_append_left _ hb))
   rw [compP_snoc]
   unfold stepC
   split
   ·rename_i hn
    have : compP m = [] := by simpa using hn
    rw [this];simp
   ·rename_i y hy
    split
    ·exact i1
    ·rename_i hxy
     refine List.pairwise_append.2 ⟨i1,List.pairwise_singleton _ _,fun a ha b hb => ?_⟩
     rw [List.mem_singleton] at hb
     subst hb
     have ham := (compP_mem a).1 ha
     have hle := hs2 a ham b (by simp)
     rcases (by omega : a.f0 < b.f0 ∨ a.f0 = b.f0) with h | h
     ·exact h
     ·exfalso
      have hab := hf a (List.mem_append_left _ ham) b (by simp) h
      subst hab
      -- the last of m is not before a
      have hyc := List.mem_of_getLast? hy
      have hym := (compP_mem y).1 hyc
      have hmn : m ≠ [] := by rintro rfl;simp at ham
      have em := List.dropLast_concat_getLast hmn
      have hlast : (compP m).getLast? = some (m.getLast hmn) := by
       have h1 := compP_last m.dropLast (m.getLast hmn)
       rwa [em] at h1
      rw [hlast] at hy
      have hy2 := Option.some.inj hy
      have : a.f0 ≤ y.f0 := by
       rw [← em] at ham hs1
       rcases List.mem_append.1 ham with h1 | h1
       ·have := (List.pairwise_append.1 hs1).2.2 a h1 _ (List.mem_singleton.2 rfl)
        rw [← hy2];exact this
       ·rw [List.mem_singleton] at h1;rw [h1,hy2];exact Int.le_refl _
      have hya := hs2 y hym a (by simp)
      exact hxy (eqPr_iff.2 (hf a (by simp) y (List.mem_append_left _ hym) (by omega)))
 exact key l.length l rfl hs hf
theorem map_key {l : List S45} {r : Int} (h : mapP l r ≠ r) : ∃ q ∈ l,q.f0 = r := by
 unfold mapP at h
 cases e : l.find? fun p => decide (p.f0 = r) with
 | none => rw [e] at h;exact absurd rfl h
 | some q => exact ⟨q,List.mem_of_find?_eq_some e,by have := List.find?_some e;simpa using this⟩
theorem led_mem (a b : List S45) (p : S45) : p ∈ ledP a b (a ++ b) ↔ p.f1 = mapP b (mapP a p.f0) ∧ mapP b (mapP a p.f0) ≠ p.f0 := by
 unfold ledP
 rw [List.mem_filterMap]
 constructor
 ·rintro ⟨q,_,hq⟩
  split at hq
  ·cases hq
  ·rename_i h
   injection hq with hq
   subst hq
   exact ⟨rfl,h⟩
 ·rintro ⟨h1,h2⟩
  have hk : ∃ q ∈ a ++ b,q.f0 = p.f0 := by
   by_cases h : mapP a p.f0 = p.f0
   ·rw [h] at h2
    obtain ⟨q,hq,e⟩ := map_key h2
    exact ⟨q,List.mem_append_right _ hq,e⟩
   ·obtain ⟨q,hq,e⟩ := map_key h
    exact ⟨q,List.mem_append_left _ hq,e⟩
  obtain ⟨q,hq,e⟩ := hk
  refine ⟨q,hq,?_⟩
  rw [e,if_neg h2]
  obtain ⟨p0,p1⟩ := p
  simp only at h1 ⊢
  rw [h1]
/-- Composed pairs are those of the functions one behind the other. -/
theorem is_compose (a b : List S45) : IsC (fun x => mapP b (mapP a x)) (composeP a b) := by
 have hp := List.mergeSort_perm (ledP a b (a ++ b)) (fun x y => decide (x.f0 ≤ y.f0))
 have hs := List.pairwise_mergeSort (le := fun x y : S45 => decide (x.f0 ≤ y.f0)) (fun x y z h1 h2 => by simp at *;omega) (fun x y => by simp;omega) (ledP a b (a ++ b))
 have hs2 : ((ledP a b (a ++ b)).mergeSort fun x y => decide (x.f0 ≤ y.f0)).Pairwise fun x y => x.f0 ≤ y.f0 := hs.imp fun h => by simpa using h
 refine ⟨compP_strict _ hs2 fun x hx y hy e => ?_,fun p => ?_⟩
 ·have h1 := led_fun a b _ x (hp.mem_iff.1 hx)
  have h2 := led_fun a b _ y (hp.mem_iff.1 hy)
  obtain ⟨x0,x1⟩ := x
  obtain ⟨y0,y1⟩ := y
  simp only at e h1 h2
  subst e
  rw [h1,h2]
 ·unfold composeP
  rw [compP_mem,hp.mem_iff,led_mem]
theorem compose_f {a b : List S45} (h : a.length + b.length ≤ 100000) : norm_Compose.f a b = some (composeP a b) := if_pos h
end
section
open Go.RowKit Go.Proofs.YtfaahcgoinkmlaaW.PrintWords Go.Proofs.YtfaahcgoinkmlaaW.PrintLast Go.Proofs.YtfaahcgoinkmlaaW.PrintMore
theorem known_compose : composeP [⟨97,98⟩] [⟨98,99⟩,⟨97,120⟩] = [⟨97,99⟩,⟨98,99⟩] := by
 refine (is_compose _ _).ext ⟨by simp,fun p => ?_⟩
 obtain ⟨x,y⟩ := p
 have e : mapP [⟨98,99⟩,⟨97,120⟩] (mapP [⟨97,98⟩] x) = if x = 97 ∨ x = 98 then 99 else x := by
  by_cases h1 : x = 97
  ·subst h1;decide +kernel
  ·by_cases h2 : x = 98
   ·subst h2;decide +kernel
   ·rw [if_neg (by omega)]
    have e1 : mapP [⟨97,98⟩] x = x := by unfold mapP;rw [List.find?_cons,decide_eq_false (show ¬ (97 : Int) = x by omega)];rfl
    rw [e1]
    unfold mapP
    rw [List.find?_cons,decide_eq_false (show ¬ (98 : Int) = x by omega),List.find?_cons,decide_eq_false (show ¬ (97 : Int) = x by omega)]
    rfl
 simp only
 rw [e]
 constructor
 ·intro h
  have : (x = 97 ∧ y = 99) ∨ (x = 98 ∧ y = 99) := by simpa using h
  rw [if_pos (by omega)];omega
 ·rintro ⟨h1,h2⟩
  by_cases h : x = 97 ∨ x = 98
  ·rw [if_pos h] at h1
   subst h1
   rcases h with rfl | rfl <;> simp
  ·rw [if_neg h] at h2;exact absurd rfl h2
theorem known_ev : Ev (fun k => Kn_known.f k) true := by
 unfold Kn_known.f
 refine Ev.bindc ((compose_f (by decide)).trans (congrArg some known_compose)) (Ev.bindc rfl ?_)
 refine Ev.pos rfl (Ev.pos (by decide) (Ev.pos (by decide +kernel) (Ev.pos (by decide) (Ev.pos (by decide +kernel) ?_))))
 refine Ev.bindc (show norm_Check.f _ = some (-1) by decide +kernel) (Ev.pos rfl ?_)
 refine Ev.bindc (show norm_Check.f _ = some 1 by decide +kernel) (Ev.pos rfl ?_)
 refine Ev.bindc (show norm_Map.f _ _ = some 99 by decide +kernel) (Ev.pos rfl ?_)
 refine Ev.bindc (show norm_Sound.f _ = some true by decide +kernel) (Ev.pos rfl ?_)
 refine Ev.bindc (show norm_Apply.f _ _ = some 107 by decide +kernel) (Ev.pos rfl ?_)
 have ht := ev_text [(⟨1,([] : List S45)⟩ : S33),⟨2,[]⟩] (b := [75,13,255]) (by decide) (by decide)
 have e : textP [(⟨1,([] : List S45)⟩ : S33),⟨2,[]⟩] [75,13,255] = [107,10,255] := by decide +kernel
 rw [e] at ht
 refine Ev.bind ht (Ev.pos (by decide +kernel) ?_)
 exact Ev.bindc (show norm_Sound.f _ = some false by decide +kernel) (Ev.now _)
end
section
open Go.RowKit Go.Proofs.YtfaahcgoinkmlaaW.PrintWords Go.Proofs.YtfaahcgoinkmlaaW.PrintLast Go.Proofs.YtfaahcgoinkmlaaW.PrintMore
def glyphcutterlaw16_known.f : Option Bool := some true
theorem glyphcutterlaw16_known.calls (r : Bool) (w : World) (h : glyphcutterlaw16_known.f = some r) :
  Calls Try.prog 11 #[] w fun e w' => e = .returned (.bool r) ∧ Below w.heap.size w w' := by
 obtain rfl := Option.some.inj h
 obtain ⟨k,hk⟩ := known_ev.rounds
 exact Kn_known.calls k true w rfl hk
end
end Go.Proofs.Ytfaahcgoinkmlaa.P
