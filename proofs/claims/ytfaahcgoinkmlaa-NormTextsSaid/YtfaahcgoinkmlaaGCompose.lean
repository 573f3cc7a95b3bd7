/- norm.Compose, as a contract in the print's own form. -/
import Derived.Test.YtfaahcgoinkmlaaPx0
import Derived.Test.YtfaahcgoinkmlaaGFold
import Derived.Test.YtfaahcgoinkmlaaGMapP
import Derived.Test.YtfaahcgoinkmlaaShelf
import Derived.Test.YtfaahcgoinkmlaaPx1
import Derived.Shelf.Abstract
import Derived.Outline
import Derived.Shelf.GgSortFunc.InsertionK
import Derived.Lib.Hide
import Derived.BigRegion
import Derived.Deep.QuietTactic
import Derived.BigQuiet
import Derived.WalkMore
import Derived.Deep.DeepFit
import Derived.Lib.SliceRun
import Derived.Laws.OwnMore
import Derived.ArgAppend
namespace Go.Proofs.Ytfaahcgoinkmlaa.P
set_option linter.unusedVariables false
set_option linter.unusedSimpArgs false
section
open Go.RowKit Go.Proofs.YtfaahcgoinkmlaaW.PrintWords Go.Proofs.YtfaahcgoinkmlaaW.PrintLast Go.Proofs.YtfaahcgoinkmlaaW.PrintMore
/-- A span tells it. -/
def mem (l : List S79) (r : Int) : Prop := ∃ x ∈ l,x.f0 ≤ r ∧ r ≤ x.f1
/-- A span of scalars. -/
def Ok (x : S79) : Prop := x.f0 ≤ x.f1 ∧ ((0 ≤ x.f0 ∧ x.f1 < 55296) ∨ (57343 < x.f0 ∧ x.f1 ≤ 1114111))
/-- A set. -/
def Nf (l : List S79) : Prop := (∀ x ∈ l,Ok x) ∧ l.Pairwise fun x y => x.f1 + 1 < y.f0
theorem mem_nil (r : Int) : ¬ mem [] r := fun ⟨_,h,_⟩ => by simp at h
theorem mem_cons (x : S79) (l : List S79) (r : Int) : mem (x :: l) r ↔ (x.f0 ≤ r ∧ r ≤ x.f1) ∨ mem l r := by simp [mem]
theorem Nf.nil : Nf [] := ⟨fun _ h => by simp at h,List.Pairwise.nil⟩
theorem Nf.tail {x : S79} {l : List S79} (h : Nf (x :: l)) : Nf l := ⟨fun y hy => h.1 y (List.mem_cons_of_mem _ hy),(List.pairwise_cons.1 h.2).2⟩
theorem Nf.above {x : S79} {l : List S79} (h : Nf (x :: l)) {r : Int} (hr : mem l r) : x.f1 + 1 < r := by
 obtain ⟨y,hy,h1,_⟩ := hr
 have := (List.pairwise_cons.1 h.2).1 y hy
 omega
/-- A set's list is told by its scalars. -/
theorem Nf.ext : ∀ {a b : List S79},Nf a → Nf b → (∀ r,mem a r ↔ mem b r) → a = b
 | [],[],_,_,_ => rfl
 | [],y :: b,_,hb,h => absurd ((h y.f0).2 ((mem_cons _ _ _).2 (.inl ⟨Int.le_refl _,(hb.1 y List.mem_cons_self).1⟩))) (mem_nil _)
 | x :: a,[],ha,_,h => absurd ((h x.f0).1 ((mem_cons _ _ _).2 (.inl ⟨Int.le_refl _,(ha.1 x List.mem_cons_self).1⟩))) (mem_nil _)
 | x :: a,y :: b,ha,hb,h => by
  have hx := (ha.1 x List.mem_cons_self).1
  have hy := (hb.1 y List.mem_cons_self).1
  have low : ∀ {z : S79} {l : List S79} (_ : Nf (z :: l)) {r : Int},mem (z :: l) r → z.f0 ≤ r := by
   intro z l hz r hr
   have hz1 := (hz.1 z List.mem_cons_self).1
   rcases (mem_cons _ _ _).1 hr with h1 | h1
   ·exact h1.1
   ·have := hz.above h1;omega
  have e0 : x.f0 = y.f0 := by
   have h1 := low hb ((h x.f0).1 ((mem_cons _ _ _).2 (.inl ⟨Int.le_refl _,hx⟩)))
   have h2 := low ha ((h y.f0).2 ((mem_cons _ _ _).2 (.inl ⟨Int.le_refl _,hy⟩)))
   omega
  have e1 : x.f1 = y.f1 := by
   rcases Int.lt_trichotomy x.f1 y.f1 with h1 | h1 | h1
   ·have h2 := (h (x.f1 + 1)).2 ((mem_cons _ _ _).2 (.inl ⟨by omega,by omega⟩))
    rcases (mem_cons _ _ _).1 h2 with h3 | h3
    ·omega
    ·have := ha.above h3;omega
   ·exact h1
   ·have h2 := (h (y.f1 + 1)).1 ((mem_cons _ _ _).2 (.inl ⟨by omega,by omega⟩))
    rcases (mem_cons _ _ _).1 h2 with h3 | h3
    ·omega
    ·have := hb.above h3;omega
  have ex : x = y := by cases x;cases y;simp_all
  subst ex
  rw [Nf.ext ha.tail hb.tail fun r => ?_]
  have h1 := h r
  rw [mem_cons,mem_cons] at h1
  constructor
  ·intro h2
   rcases h1.1 (.inr h2) with h3 | h3
   ·have := ha.above h2;omega
   ·exact h3
  ·intro h2
   rcases h1.2 (.inr h2) with h3 | h3
   ·have := hb.above h2;omega
   ·exact h3
end
section
open Go.RowKit Go.Shelf Go.Proofs.YtfaahcgoinkmlaaW.PrintWords Go.Proofs.YtfaahcgoinkmlaaW.PrintLast Go.Proofs.YtfaahcgoinkmlaaW.PrintMore
def concatPr.f (l0 : List (List S45)) : Option (List S45) := if l0.flatten.length ≤ 100000 ∧ l0.length ≤ 100000 then some l0.flatten else none
set_option maxRecDepth 100000 in
set_option maxHeartbeats 2000000 in
theorem growS_nil (n : Nat) (w : World) (hn : n ≤ 1000000) :
  Calls Try.prog 56 #[.slice none 0 0,.int .i64 n] w fun e w' => ∃ v,e = .returned v ∧ Kd.R k45 45 w' w.heap.size (fun _ => True) v [] ∧ Below w.heap.size w w' := by
 by_cases h0 : 0 < n
 ·go_enter Try.func56,Try.ntmps56
  go_wp2_with (at_builtin;refine Kd.R_append_zeros k45 (w0 := w) w.heap.size rfl (.tmp 20) (.tmp 21) 31 3 45 (.agg #[(.int .i64 0),(.int .i64 0)]) 16 rfl Try.underlying31 Try.underlying3 info45 rfl (by decide) (by omega) (.slice none 0 0) [] z45 (n : Int) (fun _ => True) rfl rfl (k45_mkM _ _ _ z45) (fun _ _ => trivial) (Kd.R_nil _ _ _ _ _) (by omega) (Below.refl _ _) (Nat.le_refl _) (by simp;omega) ?_;intro v1 w1 ho hb hg hat;obtain ⟨A1,c1,rfl⟩ := Kd.R_slice ho)
  go_ret
  exact ⟨_,rfl,by simpa using Kd.R_take ho (Nat.zero_le _),hb⟩
 ·obtain rfl : n = 0 := by omega
  go_enter Try.func56,Try.ntmps56
  go_wp2
  go_ret
  exact ⟨_,rfl,Kd.R_nil _ _ _ _ _,Below.refl _ _⟩
/-- An element of a row of rows, as it lies. -/
theorem at_LL {w : World} {A : Option Addr} {n : Nat} {xs : List (List S45)} (h : Kd.C (Kd.slice 45 k45) w A n xs) (i : Nat) (h1 : i < n) : ∃ ad A0 c0,A = some ad ∧ w.cell? (ad.add i) = some (.slice A0 (xs.getD i []).length c0) ∧ (xs.getD i []).length ≤ c0 ∧ k45.C w A0 (xs.getD i []).length (xs.getD i []) := by
 obtain ⟨ad,c,e,_,hK,hc0⟩ := Kd.C_get h ([] : List S45) (i : Int) (by omega) (by omega)
 have hc : ∀ j u,c[j]? = some u → w.cell? (ad.add (i * 1 + j)) = some u := hc0
 obtain ⟨A0,c0,rfl,l0,g0⟩ := hK
 exact ⟨ad,A0,c0,e,by have hq := hc 0 _ rfl;rwa [Nat.mul_one,Nat.add_zero] at hq,l0,g0⟩
/-- How many elements the first k rows have. -/
def tot (l : List (List S45)) (k : Nat) : Nat := (l.take k).flatten.length
theorem tot_le (l : List (List S45)) (k : Nat) : tot l k ≤ l.flatten.length := by
 unfold tot
 have h : l.flatten = (l.take k).flatten ++ (l.drop k).flatten := by rw [← List.flatten_append,List.take_append_drop]
 rw [h,List.length_append]
 omega
theorem take_snocL (l : List (List S45)) (k : Nat) (h : k < l.length) : (l.take (k + 1)).flatten = (l.take k).flatten ++ l.getD k [] := by
 rw [List.take_succ_eq_append_getElem h,List.flatten_append]
 simp [List.getElem?_eq_getElem h]
theorem tot_succ (l : List (List S45)) (k : Nat) (h : k < l.length) : tot l (k + 1) = tot l k + (l.getD k []).length := by
 unfold tot;rw [take_snocL l k h,List.length_append]
set_option maxRecDepth 100000 in
set_option maxHeartbeats 4000000 in
theorem concatPr.calls (A0 : Option Addr) (c0 : Nat) (l0 : List (List S45)) (r : List S45) (w : World) (hr0 : Kd.C (Kd.slice 45 k45) w A0 l0.length l0) (hc0 : l0.length ≤ c0) (h : concatPr.f l0 = some r) :
  Calls Try.prog 37 #[.slice A0 l0.length c0] w fun e w' => ∃ v0_ : Value,e = .returned (v0_) ∧ Kd.R k45 45 w' w.heap.size (fun _ => True) v0_ r ∧ Below w.heap.size w w' := by
 unfold concatPr.f at h
 split at h
 case isFalse => cases h
 rename_i hlen
 obtain ⟨hlen,hln⟩ := hlen
 obtain rfl := Option.some.inj h
 have HR0 := Aside0.mk hr0
 clear hr0 h
 obtain ⟨n,hn⟩ : ∃ n,l0.length = n := ⟨_,rfl⟩
 have HN := Aside0.mk hn
 rw [hn] at hln hc0 ⊢
 clear hn
 obtain ⟨m,hm⟩ : ∃ m,l0.flatten.length = m := ⟨_,rfl⟩
 have HM := Aside0.mk hm
 rw [hm] at hlen
 clear hm
 go_enter Try.func37,Try.ntmps37
 go_wp2
 go_loop [3,11] (fun v i => ∃ k : Nat,k ≤ n ∧ i = .int .i64 k ∧ v = .int .i64 (tot l0 k)) (fun _ i => n - (intOf i).toNat)
 case atStart => exact ⟨0,by omega,rfl,by simp [tot]⟩
 case round =>
  obtain ⟨k,hk,rfl,rfl⟩ := hrel
  by_cases hlt : k < n
  ·obtain ⟨x,hx⟩ : ∃ x,x = l0.getD k [] := ⟨_,rfl⟩
   obtain ⟨ad,A1,c1,e1,hx0,hl1,hr1⟩ := at_LL (by have := HR0.out;rwa [HN.out] at this) k hlt
   cases e1
   have ht1 := tot_succ l0 k (by rw [HN.out];exact hlt)
   have ht2 := tot_le l0 (k + 1)
   rw [HM.out] at ht2
   rw [← hx] at hx0 hl1 ht1
   clear hx hr1
   obtain ⟨t,ht⟩ : ∃ t,t = tot l0 k := ⟨_,rfl⟩
   have HT := Aside0.mk ht
   have HT1 := Aside0.mk ht1
   rw [← ht] at ht1 ⊢
   have hxl : t + x.length ≤ 100000 := by omega
   have hneg : decide ((t : Int) + (x.length : Int) < 0) = false := decide_eq_false (by omega)
   clear ht ht1 ht2
   go_wp2
   go_round
   case rel => exact ⟨k + 1,by omega,by go_num,by rw [HT1.out,HT.out];simp⟩
   case measure => simp [intOf];omega
  ·obtain rfl : k = n := by omega
   have ht : tot l0 k = m := by unfold tot;rw [List.take_of_length_le (by rw [HN.out];exact Nat.le_refl _)];exact HM.out
   rw [ht]
   clear ht
   go_wp2_with (go_at_call 56;refine (growS_nil m _ (by omega)).mono ?_;rintro e w' ⟨v1,rfl,ho,hb⟩)
   have HO := Aside0.mk ho
   have HB := Aside0.mk hb
   clear ho hb
   go_loopw [6,27] (fun v i wr => ∃ j : Nat,j ≤ k ∧ i = .int .i64 j ∧ Aside0 (Kd.R k45 45 wr w.heap.size (fun _ => True) v (l0.take j).flatten) ∧ Aside0 (Below w.heap.size w wr)) (fun _ i _ => k - (intOf i).toNat)
   case atStart => exact ⟨0,by omega,rfl,⟨HO.out⟩,HB⟩
   case round =>
    obtain ⟨j,hj,rfl,HO,HB⟩ := hrel
    by_cases hlt : j < k
    ·obtain ⟨x,hx⟩ : ∃ x,x = l0.getD j [] := ⟨_,rfl⟩
     obtain ⟨ad,A1,c1,e1,hx0,hl1,hr1⟩ := at_LL (by have := HR0.out;rwa [HN.out] at this) j hlt
     cases e1
     have ht1 := take_snocL l0 j (by rw [HN.out];exact hlt)
     have ht2 := tot_le l0 (j + 1)
     unfold tot at ht2
     rw [ht1,List.length_append,HM.out] at ht2
     rw [← hx] at hx0 hl1 ht1 hr1 ht2
     replace hx0 := (HB.out.cell (World.block_lt_of_cell? w _ hx0)).trans hx0
     have HRX := Aside0.mk (Kd.C_below hr1 HB.out)
     have HT1 := Aside0.mk ht1
     have hxl : (l0.take j).flatten.length + x.length ≤ 100000 := by omega
     clear ht1 ht2 hx hr1
     go_wp2_with (at_builtin;refine Kd.R_append_rows k45 (w0 := w) w.heap.size rfl (.tmp 31) (.tmp 32) 31 45 (.agg #[(.int .i64 0),(.int .i64 0)]) 16 rfl Try.underlying31 info45 rfl (by decide) (by omega) u6 (l0.take j).flatten x _ _ _ (fun _ => True) (fun _ => False) rfl rfl HO.out HRX.out (fun y cs hy => by obtain rfl := k45_open hy;exact k45_mkM _ _ _ y) (fun _ h => h.elim) (fun _ _ => trivial) HB.out HB.out.size (by omega) ?_;intro v1 w1 ho hb hg hat)
     go_roundw
     case rel => exact ⟨j + 1,by omega,by go_num,⟨by rw [HT1.out];exact ho⟩,⟨hb⟩⟩
     case measure => simp [intOf];omega
    ·obtain rfl : j = k := by omega
     have HO2 := HO.out
     rw [List.take_of_length_le (by rw [HN.out];exact Nat.le_refl _)] at HO2
     go_wp2
     go_ret
     exact ⟨_,rfl,HO2,HB.out⟩
end
section
open Go.RowKit Go.Shelf Go.Sort Go.Proofs.YtfaahcgoinkmlaaW.PrintWords Go.Proofs.YtfaahcgoinkmlaaW.PrintLast Go.Proofs.YtfaahcgoinkmlaaW.PrintMore
instance : Inhabited S45 := ⟨z45⟩
def sc (x : S45) : List Value := [.int .i64 x.f0,.int .i64 x.f1]
def scs (l : List S45) : List Value := l.flatMap sc
theorem scs_append (l m : List S45) : scs (l ++ m) = scs l ++ scs m := by simp [scs]
theorem scs_one (x : S45) : scs [x] = sc x := by simp [scs]
theorem scs_get (l : List S45) : ∀ t,t < l.length * 2 → (scs l)[t]? = some ((sc l[t / 2]!)[t % 2]!) := by
 induction l with
 | nil => intro t h;simp at h
 | cons x l ih =>
  intro t h
  have e : scs (x :: l) = .int .i64 x.f0 :: .int .i64 x.f1 :: scs l := by simp [scs,sc]
  rw [e]
  match t,h with
  | 0,_ => rfl
  | 1,_ => rfl
  | t + 2,h =>
   have h' : t < l.length * 2 := by simp at h;omega
   have := ih t h'
   simp only [List.getElem?_cons_succ]
   rw [this,show (t + 2) / 2 = t / 2 + 1 by omega,show (t + 2) % 2 = t % 2 by omega]
   rfl
theorem scs_length (l : List S45) : (scs l).length = l.length * 2 := by
 induction l with
 | nil => rfl
 | cons x l ih => simp [scs,sc] at ih ⊢;omega
theorem reps_scs (w : World) (base : Nat) (ok : Nat → Prop) (xs : List S45) : Reps (k45.M w base ok) 2 xs (scs xs) := by
 refine ⟨scs_length xs,fun j p hj => ?_⟩
 obtain ⟨h1,h2⟩ := List.getElem?_eq_some_iff.1 hj
 have e : ((scs xs).drop (j * 2)).take 2 = sc p := by
  apply List.ext_getElem?
  intro t
  by_cases ht : t < 2
  ·rw [List.getElem?_take,if_pos ht,List.getElem?_drop,scs_get _ _ (by omega),show (j * 2 + t) / 2 = j by omega,show (j * 2 + t) % 2 = t by omega,getElem!_pos xs j h1,h2,getElem!_pos (sc p) t (by simpa [sc] using ht),List.getElem?_eq_getElem]
  ·rw [List.getElem?_eq_none (by simp;omega),List.getElem?_eq_none (by simp [sc];omega)]
 rw [e]
 exact k45_mkM w base ok p
/-- A row of the call's own in the print's words. -/
theorem R_of_rows {w : World} {base n : Nat} {v : Value} {xs : List S45} (hn : n = xs.length) (h : w.ownsRow base 45 2 v n (scs xs)) : Kd.R k45 45 w base (fun _ => True) v xs := by
 subst hn
 exact ⟨fun _ _ => trivial,scs xs,h,reps_scs _ _ _ _⟩
theorem flat_scs (d : Array S45) : flatK sc 2 d = (scs d.toList).toArray := by
 apply Array.ext
 ·simp [scs_length]
 ·intro t h1 h2
  have ht : t < d.toList.length * 2 := by simpa using h1
  have := scs_get d.toList t ht
  have h3 := get_flatK sc 2 d t (by simpa using h1)
  rw [getElem!_pos _ t h1] at h3
  rw [h3]
  rw [List.getElem?_eq_getElem (by rw [scs_length];exact ht)] at this
  have h4 := Option.some.inj this
  simp only [List.getElem_toArray]
  rw [h4]
  congr 2
  rcases d with ⟨l⟩
  simp
theorem holdsK_of_own {W : World} {n₀ g n cap : Nat} {xs : List S45} (h : W.ownsRow n₀ 45 2 (.slice (some ⟨g,0,none⟩) n cap) n (scs xs)) : HoldsK sc 2 W g 0 xs.toArray := by
 intro j hj
 rw [flat_scs] at hj ⊢
 have hj' : j < (scs xs).length := by simpa using hj
 have hc := h.cells (g := g) rfl j _ (List.getElem?_eq_getElem hj')
 have ha : (⟨g,0,none⟩ : Addr).add j = ⟨g,0 + j,none⟩ := by unfold Addr.add;split <;> simp_all
 rw [ha] at hc
 refine ⟨?_,?_⟩
 ·rw [hc,getElem!_pos _ j hj];simp
 ·rcases h.2 with ⟨e,_⟩ | ⟨g',cap',cur,e,_,hg,_⟩
  ·cases e
  ·cases e
   simp [World.frozen?,hg]
theorem sorted_own {W : World} {n₀ g n cap q : Nat} {xs : List S45} {d : Array S45} {os : Array Obj} (h : W.ownsRow n₀ 45 2 (.slice (some ⟨g,0,none⟩) n cap) n (scs xs)) (hn : xs.length = n) (hd : d.size = n) (hn0 : n₀ ≤ W.heap.size) :
  (sortWorldK sc 2 W g 0 q d os).ownsRow n₀ 45 2 (.slice (some ⟨g,0,none⟩) n cap) n (scs d.toList) ∧ Below n₀ W (sortWorldK sc 2 W g 0 q d os) := by
 rcases h.2 with ⟨e,_⟩ | ⟨g',cap',cur,e,hb,hg,h1,h2,h3,h4⟩
 ·cases e
 ·cases e
  have hlt : g < W.heap.size := (Array.getElem?_eq_some_iff.1 hg).1
  have hheap : (sortWorldK sc 2 W g 0 q d os).heap = W.heap.modify g (onCells (putCells id 0 (flatK sc 2 d))) ++ os := rfl
  have hother : ∀ k,k < W.heap.size → k ≠ g → (sortWorldK sc 2 W g 0 q d os).heap[k]? = W.heap[k]? := by
   intro k hk hne
   rw [hheap,Array.getElem?_append_left (by simpa using hk),Array.getElem?_modify,if_neg (Ne.symm hne)]
  refine ⟨⟨by rw [scs_length];simp [hd],.inr ⟨g,cap,putCells id 0 (flatK sc 2 d) cur,rfl,hb,?_,h1,h2,by simp [putCells,h3],?_⟩⟩,?_⟩
  ·rw [hheap,Array.getElem?_append_left (by simpa using hlt),Array.getElem?_modify,if_pos rfl,hg]
   rfl
  ·apply List.ext_getElem?
   intro t
   by_cases ht : t < n * 2
   ·rw [List.getElem?_take,if_pos ht,scs_get _ t (by simpa [hd] using ht)]
    have htc : t < cur.size := by omega
    simp only [putCells,Array.getElem?_toList,Array.getElem?_mapIdx,Array.getElem?_eq_getElem htc,Option.map_some,size_flatK,Nat.zero_le,true_and,Nat.zero_add,Nat.sub_zero,id]
    rw [if_pos (by rw [hd];exact ht),get_flatK sc 2 d t (by rw [hd];exact ht)]
    rcases d with ⟨l⟩
    simp only [List.getElem!_toArray]
   ·rw [List.getElem?_eq_none (by simp;omega),List.getElem?_eq_none (by rw [scs_length];simp [hd];omega)]
  ·refine ⟨rfl,rfl,rfl,?_,?_⟩
   ·rw [hheap];simp
   ·intro k hk
    exact hother k (by omega) (by omega)
/-- The comparison of norm.Compose: by the spans' begins. -/
def cfS (x y : S45) : Int := if x.f0 < y.f0 then -1 else if y.f0 < x.f0 then 1 else 0
theorem ltS (x y : S45) : ltOf cfS x y = decide (x.f0 < y.f0) := by
 unfold ltOf cfS
 by_cases h1 : x.f0 < y.f0
 ·simp [h1]
 ·by_cases h2 : y.f0 < x.f0 <;> simp [h1,h2]
theorem swoS : SWO (ltOf cfS) where
 irrefl x := by rw [ltS];simp
 trans x y z h1 h2 := by rw [ltS] at *;simp at *;omega
 ntrans x y z h1 h2 := by rw [ltS] at *;simp at *;omega
set_option maxHeartbeats 2000000 in
theorem norm1_calls (x y : S45) (W : World) : Calls Try.prog 39 #[.agg #[.int .i64 x.f0,.int .i64 x.f1],.agg #[.int .i64 y.f0,.int .i64 y.f1]] W fun e w' => e = .returned (.int .i64 (cfS x y)) ∧ ∃ q os',w' = grow (W.drewN q) os' := by
 unfold cfS
 by_cases h1 : x.f0 < y.f0
 ·rw [if_pos h1]
  go_enter Try.func39,Try.ntmps39
  go_wp2
  go_ret
  exact ⟨rfl,0,_,by rw [alloc_eq_grow,alloc_eq_grow,grow_grow];rfl⟩
 ·rw [if_neg h1]
  by_cases h2 : y.f0 < x.f0
  ·rw [if_pos h2]
   go_enter Try.func39,Try.ntmps39
   go_wp2
   go_ret
   exact ⟨rfl,0,_,by rw [alloc_eq_grow,alloc_eq_grow,grow_grow];rfl⟩
  ·rw [if_neg h2]
   go_enter Try.func39,Try.ntmps39
   go_wp2
   go_ret
   exact ⟨rfl,0,_,by rw [alloc_eq_grow,alloc_eq_grow,grow_grow];rfl⟩
set_option maxHeartbeats 1000000 in
/-- slices.SortFunc on a row of the call's own: a permutation, rising by the spans' begins. -/
theorem sortS_calls (n₀ n : Nat) (v : Value) (xs : List S45) (w : World) (hn0 : n₀ ≤ w.heap.size) (hn : xs.length = n) (hlen : n ≤ 1000000) (hrow : w.ownsRow n₀ 45 2 v n (scs xs)) :
  Calls Try.prog 38 #[v,.func (.func 39) #[] #[]] w fun e w' => e = .returned (.tuple #[]) ∧ ∃ ys : List S45,ys.length = n ∧ ys.Perm xs ∧ ys.Pairwise (fun x y => x.f0 ≤ y.f0) ∧ w'.ownsRow n₀ 45 2 v n (scs ys) ∧ Below n₀ w w' := by
 rcases hrow.2 with ⟨rfl,rfl⟩ | ⟨g,cap,cur,rfl,hb,hg,h1,h2,h3,h4⟩
 ·have hcon := AnyF.slices_SortFunc_none Try.sortPair none 0 (.func (.func 39) #[] #[]) w
  obtain rfl : xs = [] := List.eq_nil_of_length_eq_zero hn
  exact hcon.mono fun e w' ⟨he,hw⟩ => by subst hw;exact ⟨he,[],rfl,List.Perm.refl _,List.Pairwise.nil,hrow,Below.refl _ _⟩
 ·have eg : ∀ args w,(callFunc 39 args).run Try.prog w = .ok (.enter 39 args) w := enters_of Try.func39 (by kernel_rfl) rfl
  have hcon := AnyQ.slices_SortFunc Try.sortPair 2 Try.isAgg45 Try.sizeOf45 sc (fun _ => rfl) (fun x v hv => by simp [sc] at hv;rcases hv with rfl | rfl <;> rfl) cfS swoS 39 #[] g 0 cap xs.toArray w eg (fun _ _ _ _ x y => norm1_calls x y _) (holdsK_of_own hrow) (Array.getElem?_eq_some_iff.1 hg).1 (by simp;omega)
  have hsz : xs.toArray.size = n := by simp [hn]
  rw [hsz] at hcon
  refine hcon.mono fun e w' ⟨he,d',q,os,hp,hs,hw⟩ => ?_
  have hd : d'.size = n := by have := hp.1;omega
  obtain ⟨ho,hbl⟩ := sorted_own (q := q) (d := d') (os := os) hrow hn hd hn0
  subst hw
  refine ⟨he,d'.toList,by simpa using hd,?_,?_,ho,hbl⟩
  ·have := hp.2.2
   rw [← hd] at this
   simpa [List.take_of_length_le (show xs.length ≤ d'.size by omega)] using this
  ·rw [List.pairwise_iff_getElem]
   intro i j hi hj hij
   have := hs i j (Nat.zero_le _) hij (by simpa [hd] using hj)
   rw [ltS] at this
   have hi' : i < d'.size := by simpa using hi
   have hj' : j < d'.size := by simpa using hj
   rw [getElem!_pos d' i hi',getElem!_pos d' j hj'] at this
   simp at this
   simpa using this
theorem own_of_R {w : World} {base : Nat} {ok : Nat → Prop} {v : Value} {xs : List S45} (h : Kd.R k45 45 w base ok v xs) : w.ownsRow base 45 2 v xs.length (scs xs) := by
 obtain ⟨_,inner,ho,hr⟩ := h
 have hl : inner.length = xs.length * 2 := ho.1
 have e : inner = scs xs := by
  apply List.ext_getElem?
  intro t
  by_cases ht : t < xs.length * 2
  ·rw [scs_get xs t ht]
   have hj : xs[t / 2]? = some xs[t / 2]! := by rw [getElem!_pos xs (t / 2) (by omega),List.getElem?_eq_getElem]
   have h1 : (inner.drop (t / 2 * 2)).take 2 = sc xs[t / 2]! := k45_open (w := w) (hr.2 (t / 2) _ hj)
   have h2 : ((inner.drop (t / 2 * 2)).take 2)[t % 2]? = inner[t]? := by
    rw [List.getElem?_take,if_pos (by omega),List.getElem?_drop,show t / 2 * 2 + t % 2 = t by omega]
   rw [← h2,h1,getElem!_pos (sc xs[t / 2]!) (t % 2) (by show t % 2 < 2;omega)]
   exact List.getElem?_eq_getElem (by show t % 2 < 2;omega)
  ·rw [List.getElem?_eq_none (by omega),List.getElem?_eq_none (by rw [scs_length];omega)]
 rw [← e]
 exact ho
end
section
open Go.RowKit Go.Shelf Go.Proofs.YtfaahcgoinkmlaaW.PrintWords Go.Proofs.YtfaahcgoinkmlaaW.PrintLast Go.Proofs.YtfaahcgoinkmlaaW.PrintMore
def eqPr (x y : S45) : Bool := decide (x.f0 = y.f0 ∧ x.f1 = y.f1)
theorem eqPr_iff {x y : S45} : eqPr x y = true ↔ x = y := by
 obtain ⟨a,b⟩ := x
 obtain ⟨c,d⟩ := y
 simp [eqPr]
def stepC (out : List S45) (x : S45) : List S45 := match out.getLast? with | none => out ++ [x] | some y => if eqPr x y then out else out ++ [x]
/-- Each run of alike pairs told once. -/
def compP (l : List S45) : List S45 := l.foldl stepC []
theorem compP_snoc (l : List S45) (x : S45) : compP (l ++ [x]) = stepC (compP l) x := by unfold compP;rw [List.foldl_append];rfl
theorem compP_last (l : List S45) (x : S45) : (compP (l ++ [x])).getLast? = some x := by
 rw [compP_snoc]
 unfold stepC
 split
 ·simp
 ·rename_i y hy
  split
  ·rename_i h;rw [hy,eqPr_iff.1 h]
  ·simp
theorem compP_same (l : List S45) (x : S45) : compP (l ++ [x] ++ [x]) = compP (l ++ [x]) := by
 rw [compP_snoc (l ++ [x])]
 unfold stepC
 rw [compP_last]
 simp only
 rw [if_pos (eqPr_iff.2 rfl)]
theorem compP_new (l : List S45) (x y : S45) (h : ¬ y = x) : compP (l ++ [x] ++ [y]) = compP (l ++ [x]) ++ [y] := by
 rw [compP_snoc (l ++ [x])]
 unfold stepC
 rw [compP_last]
 simp only
 rw [if_neg (fun e => h (eqPr_iff.1 e))]
theorem compP_len (l : List S45) : (compP l).length ≤ l.length := by
 have : ∀ (l acc : List S45),(l.foldl stepC acc).length ≤ acc.length + l.length := by
  intro l
  induction l with
  | nil => intro acc;simp
  | cons a l ih =>
   intro acc
   have h := ih (stepC acc a)
   have h2 : (stepC acc a).length ≤ acc.length + 1 := by unfold stepC;split <;> (try split) <;> simp
   simp only [List.foldl_cons,List.length_cons]
   omega
 have h := this l []
 simpa [compP] using h
theorem take_two (l : List S45) (k : Nat) (h1 : 1 ≤ k) (h : k < l.length) : l.take (k + 1) = l.take (k - 1) ++ [rd_T45 l ((k : Int) - 1)] ++ [rd_T45 l k] ∧ l.take k = l.take (k - 1) ++ [rd_T45 l ((k : Int) - 1)] := by
 have e1 : l.take k = l.take (k - 1) ++ [rd_T45 l ((k : Int) - 1)] := by
  have := List.take_succ_eq_append_getElem (l := l) (i := k - 1) (by omega)
  rw [show k - 1 + 1 = k by omega] at this
  rw [this,rd_T45,show ((k : Int) - 1).toNat = k - 1 by omega,List.getD_eq_getElem?_getD,List.getElem?_eq_getElem (by omega)]
  rfl
 refine ⟨?_,e1⟩
 rw [← e1,List.take_succ_eq_append_getElem h,rd_T45,Int.toNat_natCast,List.getD_eq_getElem?_getD,List.getElem?_eq_getElem h]
 rfl
theorem scs_at (l : List S45) (k : Nat) (h : k < l.length) : (scs l)[k * 2]? = some (.int .i64 (rd_T45 l k).f0) ∧ (scs l)[k * 2 + 1]? = some (.int .i64 (rd_T45 l k).f1) := by
 have e : l[k]! = rd_T45 l k := by rw [getElem!_pos l k h,rd_T45,Int.toNat_natCast,List.getD_eq_getElem?_getD,List.getElem?_eq_getElem h];rfl
 have h0 := scs_get l (k * 2) (by omega)
 have h1 := scs_get l (k * 2 + 1) (by omega)
 rw [show k * 2 / 2 = k by omega,show k * 2 % 2 = 0 by omega,e] at h0
 rw [show (k * 2 + 1) / 2 = k by omega,show (k * 2 + 1) % 2 = 1 by omega,e] at h1
 exact ⟨h0,h1⟩
theorem own_at {w : World} {base g n cap : Nat} {l : List S45} (h : w.ownsRow base 45 2 (.slice (some ⟨g,0,none⟩) n cap) n (scs l)) (hn : l.length = n) (k : Nat) (hk : k < n) :
  w.cell? ⟨g,k * 2,none⟩ = some (.int .i64 (rd_T45 l k).f0) ∧ w.cell? ⟨g,k * 2 + 1,none⟩ = some (.int .i64 (rd_T45 l k).f1) := by
 have h0 := h.cellAt (k * 2) (by omega)
 have h1 := h.cellAt (k * 2 + 1) (by omega)
 have := scs_at l k (by omega)
 exact ⟨h0.trans this.1,h1.trans this.2⟩
theorem scs_set (l : List S45) (k : Nat) (x : S45) (h : k < l.length) : ((scs l).set (k * 2) (.int .i64 x.f0)).set (k * 2 + 1) (.int .i64 x.f1) = scs (l.set k x) := by
 apply List.ext_getElem?
 intro t
 by_cases ht : t < l.length * 2
 ·rw [scs_get (l.set k x) t (by simpa using ht)]
  by_cases e1 : t = k * 2 + 1
  ·subst e1
   rw [List.getElem?_set_self (by simp [scs_length];omega),show (k * 2 + 1) / 2 = k by omega,show (k * 2 + 1) % 2 = 1 by omega,getElem!_pos (l.set k x) k (by simpa using h)]
   simp [sc]
  ·rw [List.getElem?_set_ne (by omega)]
   by_cases e2 : t = k * 2
   ·subst e2
    rw [List.getElem?_set_self (by simp [scs_length];omega),show k * 2 / 2 = k by omega,show k * 2 % 2 = 0 by omega,getElem!_pos (l.set k x) k (by simpa using h)]
    simp [sc]
   ·rw [List.getElem?_set_ne (by omega),scs_get l t ht]
    have hne : t / 2 ≠ k := by omega
    have hl : t / 2 < l.length := by omega
    rw [getElem!_pos l (t / 2) hl,getElem!_pos (l.set k x) (t / 2) (by simpa using hl),List.getElem_set_ne (by omega)]
 ·rw [List.getElem?_eq_none (by simp [scs_length];omega),List.getElem?_eq_none (by simp [scs_length];omega)]
/-- An element of a row of one's own is stored. -/
theorem own_set {w : World} {base g n cap : Nat} {l : List S45} (h : w.ownsRow base 45 2 (.slice (some ⟨g,0,none⟩) n cap) n (scs l)) (hn : l.length = n) (k : Nat) (hk : k < n) (x : S45) :
  ((w.setCell ⟨g,k * 2,none⟩ (.int .i64 x.f0)).setCell ⟨g,k * 2 + 1,none⟩ (.int .i64 x.f1)).ownsRow base 45 2 (.slice (some ⟨g,0,none⟩) n cap) n (scs (l.set k x)) := by
 have h1 := (h.stored (k * 2) (.int .i64 x.f0)).1
 have h2 := (h1.stored (k * 2 + 1) (.int .i64 x.f1)).1
 rwa [scs_set l k x (by omega)] at h2
theorem own_short {w : World} {base g n cap : Nat} {xs : List Value} (h : w.ownsRow base 45 2 (.slice (some ⟨g,0,none⟩) n cap) n xs) (k : Nat) (hk : k ≤ n) : w.ownsRow base 45 2 (.slice (some ⟨g,0,none⟩) k cap) k (xs.take (k * 2)) := by
 have hl := h.1
 rcases h.2 with ⟨h',_⟩ | ⟨g',cap',cur,h',hb,hg,h1,h2,h3,h4⟩
 ·cases h'
 ·cases h'
  refine ⟨by rw [List.length_take];omega,.inr ⟨g,cap,cur,rfl,hb,hg,by omega,h2,h3,?_⟩⟩
  rw [← h4,List.take_take,Nat.min_eq_left (by omega)]
theorem own_far (base g k cap : Nat) (xs : List Value) : ∀ (vs : List Value) (o : Nat) (w : World),w.ownsRow base 45 2 (.slice (some ⟨g,0,none⟩) k cap) k xs → k * 2 ≤ o → (w.setCells g o vs).ownsRow base 45 2 (.slice (some ⟨g,0,none⟩) k cap) k xs
 | [],_,_,h,_ => h
 | u :: vs,o,w,h,ho => by
  rw [World.setCells]
  have h1 := (h.stored o u).1
  rw [List.set_eq_of_length_le (by rw [h.1];exact ho)] at h1
  exact own_far base g k cap xs vs (o + 1) _ h1 (by omega)
theorem below_far {B : Nat} {a : World} (g : Nat) (hg : B ≤ g) : ∀ (vs : List Value) (o : Nat) (w : World),Below B a w → Below B a (w.setCells g o vs)
 | [],_,_,h => h
 | u :: vs,o,w,h => below_far g hg vs (o + 1) _ (h.setCell (p := ⟨g,o,none⟩) hg u)
theorem zeros_pairs (n : Nat) : (Builtin.zeroCells (Value.agg #[.int .i64 0,.int .i64 0]).cells n).toList = List.replicate (n * 2) (.int .i64 0) := by
 apply List.ext_getElem
 ·simp [Builtin.zeroCells,Value.cells]
 ·intro i h1 h2
  simp [Builtin.zeroCells,Value.cells]
  have : i % 2 = 0 ∨ i % 2 = 1 := by omega
  rcases this with e | e <;> simp [e]
theorem run_clear_pairs (w : World) (ty : TypeId) (b o n c : Nat) (hn : 0 < n) (hc : ∀ j,j < n * 2 → (w.cell? ⟨b,o + j,none⟩).isSome = true) (hf : ∀ j,j < n * 2 → w.frozen? ⟨b,o + j,none⟩ = false) :
  (Builtin.clear_ #[31] ty #[.slice (some ⟨b,o,none⟩) n c]).run Try.prog w = .ok (.tuple #[]) (w.setCells b o (List.replicate (n * 2) (.int .i64 0))) := by
 have hz : ∀ w,(zeroValue 45).run Try.prog w = .ok (.agg #[.int .i64 0,.int .i64 0]) w := fun w => by kernel_rfl
 have hst := run_storeCells_cells (P := Try.prog) b o (List.replicate (n * 2) (.int .i64 0)) 0 w (by simpa using hc) (by simpa using hf) (by intro v hv';rw [List.eq_of_mem_replicate hv'];rfl)
 simp only [Nat.add_zero] at hst
 obtain ⟨m,rfl⟩ : ∃ m,n = m + 1 := ⟨n - 1,by omega⟩
 simp [Builtin.clear_,run_underlying Try.underlying31,hz,zeros_pairs,hst]
theorem rd_app {a b : List S45} (i : Int) (h : a.length ≤ i.toNat) : rd_T45 (a ++ b) i = rd_T45 b ((i.toNat - a.length : Nat) : Int) := by
 unfold rd_T45
 rw [List.getD_eq_getElem?_getD,List.getElem?_append_right h,Int.toNat_natCast,List.getD_eq_getElem?_getD]
theorem rd_dr (a : List S45) (k i : Nat) : rd_T45 (a.drop k) (i : Int) = rd_T45 a ((k + i : Nat) : Int) := by
 unfold rd_T45
 rw [Int.toNat_natCast,Int.toNat_natCast,List.getD_eq_getElem?_getD,List.getElem?_drop,List.getD_eq_getElem?_getD]
/-- Behind what is told, the row is as it was. -/
theorem rd_tail (C xs : List S45) (i : Nat) (h : C.length ≤ i) : rd_T45 (C ++ xs.drop C.length) (i : Int) = rd_T45 xs (i : Int) := by
 rw [rd_app _ (by rw [Int.toNat_natCast];exact h),Int.toNat_natCast,rd_dr,show C.length + (i - C.length) = i by omega]
theorem set_tail (C xs : List S45) (x : S45) (h : C.length < xs.length) : (C ++ xs.drop C.length).set C.length x = (C ++ [x]) ++ xs.drop (C ++ [x]).length := by
 rw [List.set_append_right _ _ (Nat.le_refl _),Nat.sub_self,List.drop_eq_getElem_cons h,List.set_cons_zero,List.length_append,List.append_assoc]
 rfl
attribute [local go_sem high] eqA45
set_option maxRecDepth 100000 in
set_option maxHeartbeats 4000000 in
theorem compact_calls (n₀ n : Nat) (v : Value) (xs : List S45) (w : World) (hn0 : n₀ ≤ w.heap.size) (hn : xs.length = n) (hrow : w.ownsRow n₀ 45 2 v n (scs xs)) :
  Calls Try.prog 41 #[v] w fun e w' => ∃ v',e = .returned v' ∧ w'.ownsRow n₀ 45 2 v' (compP xs).length (scs (compP xs)) ∧ Below n₀ w w' := by
 have heqA_ := eqA45 0 w 0 0 0 0
 clear heqA_
 by_cases h2 : n < 2
 ·have e : compP xs = xs := by
   match xs,hn with
   | [],_ => rfl
   | [x],_ => rfl
   | _ :: _ :: _,h => simp at h;omega
  rw [e,hn]
  have HO := Aside0.mk hrow
  obtain ⟨A,c,hv,hcc⟩ : ∃ A c,v = .slice A n c ∧ True := by
   rcases hrow.2 with ⟨rfl,h⟩ | ⟨g,cap,cur,rfl,_⟩
   ·have : n = 0 := by omega
    subst this;exact ⟨none,0,rfl,trivial⟩
   ·exact ⟨_,_,rfl,trivial⟩
  subst hv
  clear hrow e
  have h2z : (n : Int) < 2 := by omega
  go_enter Try.func41,Try.ntmps41
  go_wp2
  go_ret
  exact ⟨_,rfl,HO.out,Below.refl _ _⟩
 ·obtain ⟨g,cap,rfl,hcap,hgb⟩ : ∃ g cap,v = .slice (some ⟨g,0,none⟩) n cap ∧ n ≤ cap ∧ n₀ ≤ g := by
   rcases hrow.2 with ⟨rfl,h⟩ | ⟨g,cap,cur,rfl,hb,hg,h1,h3,h4,h5⟩
   ·omega
   ·exact ⟨g,cap,rfl,h1,hb⟩
  have HO := Aside0.mk hrow
  have hbig : n ≤ 9223372036854775807 := by
   rcases hrow.2 with ⟨h,_⟩ | ⟨g',cap',cur,h,hb,hg,h1,h3,h4,h5⟩
   ·cases h
   ·cases h;have := h3;unfold maxLen at this;omega
  have h2z : ¬ (n : Int) < 2 := by omega
  clear hrow
  go_enter Try.func41,Try.ntmps41
  go_wp2
  go_loopg [3] n (fun gg s3 wr => ∃ k : Nat,1 ≤ k ∧ k ≤ n ∧ n - k ≤ gg ∧ s3 = .int .i64 k ∧ Aside0 (wr.ownsRow n₀ 45 2 (.slice (some ⟨g,0,none⟩) n cap) n (scs xs)) ∧ Aside0 (Below n₀ w wr) ∧ Aside0 (compP (xs.take k) = xs.take k))
  case atStart =>
   refine ⟨1,by omega,by omega,by omega,rfl,HO,⟨Below.refl _ _⟩,⟨?_⟩⟩
   match xs,hn with
   | [],h => simp at h;omega
   | x :: _,_ => rfl
  case round =>
   obtain ⟨k,hk1,hk,hg,rfl,HO',BW,HC⟩ := hrel
   by_cases hlt : k < n
   ·have hltz : (k : Int) < (n : Int) := by omega
    obtain ⟨ha0,ha1⟩ := own_at HO'.out hn k hlt
    obtain ⟨hb0,hb1⟩ := own_at HO'.out hn (k - 1) (by omega)
    rw [show ((k - 1 : Nat) : Int) = (k : Int) - 1 by omega] at hb0 hb1
    obtain ⟨ht1,ht2⟩ := take_two xs k hk1 (by omega)
    obtain ⟨x,hx⟩ : ∃ x,rd_T45 xs k = x := ⟨_,rfl⟩
    obtain ⟨y,hy⟩ : ∃ y,rd_T45 xs ((k : Int) - 1) = y := ⟨_,rfl⟩
    rw [hx] at ha0 ha1 ht1
    rw [hy] at hb0 hb1 ht1 ht2
    have HT1 := Aside0.mk ht1
    have HT2 := Aside0.mk ht2
    clear hx hy ht1 ht2
    obtain ⟨x0,x1⟩ := x
    obtain ⟨y0,y1⟩ := y
    simp only at ha0 ha1 hb0 hb1
    have hk1z : (1 : Int) ≤ (k : Int) := by omega
    have hkn : ((k : Int) - 1).toNat = k - 1 := by omega
    have hg0 := HO'.out.lt
    by_cases he : x0 = y0 ∧ x1 = y1
    ·obtain ⟨rfl,rfl⟩ := he
     have hev : (x0 == x0 && x1 == x1) = true := by simp
     go_wp2
     go_region
     have hcap2 : k ≤ cap := by omega
     go_wp2
     clear ha0 ha1 hb0 hb1
     go_loopg [3,5] n (fun gg s3 s5 wr2 => ∃ (kk k2 : Nat),1 ≤ k2 ∧ k + k2 ≤ n ∧ n - (k + k2) ≤ gg ∧ kk + 1 ≤ k + k2 ∧ s3 = .int .i64 kk ∧ s5 = .int .i64 k2 ∧ Aside0 ((compP (xs.take (k + k2))).length = kk) ∧ Aside0 (wr2.ownsRow n₀ 45 2 (.slice (some ⟨g,0,none⟩) n cap) n (scs (compP (xs.take (k + k2)) ++ xs.drop kk))) ∧ Aside0 (Below n₀ w wr2))
     case atStart =>
      have hcc : compP (xs.take (k + 1)) = xs.take k := by rw [HT1.out,compP_same,← HT2.out];exact HC.out
      refine ⟨k,1,Nat.le_refl _,by omega,by omega,by omega,rfl,rfl,⟨by rw [hcc,List.length_take];omega⟩,⟨?_⟩,⟨BW.out.drew⟩⟩
      rw [hcc,List.take_append_drop]
      exact HO'.out
     case round =>
      obtain ⟨kk,k2,h1,hle,hg2,hkk,rfl,rfl,HL,HO2,BW2⟩ := hrel
      by_cases hlt2 : k + k2 < n
      ·have hl2 : (k2 : Int) < ((n - k : Nat) : Int) := by omega
       have hk2z : (1 : Int) ≤ (k2 : Int) := by omega
       have hkn2 : ((k2 : Int) - 1).toNat = k2 - 1 := by omega
       have hlen : (compP (xs.take (k + k2)) ++ xs.drop kk).length = n := by rw [List.length_append,HL.out,List.length_drop];omega
       obtain ⟨hc0,hc1⟩ := own_at HO2.out hlen (k + k2) hlt2
       obtain ⟨hd0,hd1⟩ := own_at HO2.out hlen (k + k2 - 1) (by omega)
       obtain ⟨he0,he1⟩ := own_at HO2.out hlen kk (by omega)
       have hf0 := HO2.out.frozenAt (kk * 2)
       have hf1 := HO2.out.frozenAt (kk * 2 + 1)
       obtain ⟨C,hC⟩ : ∃ C,C = compP (xs.take (k + k2)) := ⟨_,rfl⟩
       have hCl : C.length = kk := by rw [hC];exact HL.out
       rw [← hC] at hc0 hc1 hd0 hd1 he0 he1
       have HO3 : Aside0 (wr.ownsRow n₀ 45 2 (.slice (some ⟨g,0,none⟩) n cap) n (scs (C ++ xs.drop kk))) := ⟨by rw [hC];exact HO2.out⟩
       subst hCl
       rw [rd_tail C xs _ (by omega)] at hc0 hc1 hd0 hd1
       rw [show ((k + k2 - 1 : Nat) : Int) = ((k + k2 : Nat) : Int) - 1 by omega] at hd0 hd1
       obtain ⟨ht1,ht2⟩ := take_two xs (k + k2) (by omega) (by omega)
       obtain ⟨u,hu⟩ : ∃ u,rd_T45 xs ((k + k2 : Nat) : Int) = u := ⟨_,rfl⟩
       obtain ⟨t,ht⟩ : ∃ t,rd_T45 xs (((k + k2 : Nat) : Int) - 1) = t := ⟨_,rfl⟩
       obtain ⟨o,ho⟩ : ∃ o,rd_T45 (C ++ xs.drop C.length) (C.length : Int) = o := ⟨_,rfl⟩
       rw [hu] at hc0 hc1 ht1
       rw [ht] at hd0 hd1 ht1 ht2
       rw [ho] at he0 he1
       rw [show (k + k2) * 2 = k * 2 + k2 * 2 by omega] at hc0 hc1
       rw [show (k + k2 - 1) * 2 = k * 2 + (k2 - 1) * 2 by omega] at hd0 hd1
       have HT3 := Aside0.mk ht1
       have HT4 := Aside0.mk ht2
       have HCC := Aside0.mk hC
       have HLN := Aside0.mk hlen
       clear hu ht ho ht1 ht2 hC hlen HL HO2
       obtain ⟨u0,u1⟩ := u
       obtain ⟨t0,t1⟩ := t
       obtain ⟨o0,o1⟩ := o
       simp only at hc0 hc1 hd0 hd1 he0 he1
       by_cases hut : u0 = t0 ∧ u1 = t1
       ·obtain ⟨rfl,rfl⟩ := hut
        have hev2 : (u0 != u0 || u1 != u1) = false := by simp
        have hev3 : (u0 == u0 && u1 == u1) = true := by simp
        go_wp2
        go_region
        go_wp2
        go_roundg (n - (k + (k2 + 1)))
        case measure => omega
        case rel =>
         have hcc : compP (xs.take (k + (k2 + 1))) = C := by rw [show k + (k2 + 1) = k + k2 + 1 by omega,HT3.out,compP_same,← HT4.out];exact HCC.out.symm
         exact ⟨C.length,k2 + 1,by omega,by omega,by omega,by omega,rfl,by go_num,⟨by rw [hcc]⟩,⟨by rw [hcc];exact HO3.out⟩,⟨BW2.out.drew⟩⟩
       ·have hev3 : (u0 == t0 && u1 == t1) = false := by rw [Bool.eq_false_iff];intro h;exact hut (by simpa using h)
        go_wp2
        go_region
        go_wp2
        go_roundg (n - (k + (k2 + 1)))
        case measure => omega
        case rel =>
         have hcc : compP (xs.take (k + (k2 + 1))) = C ++ [⟨u0,u1⟩] := by
          rw [show k + (k2 + 1) = k + k2 + 1 by omega,HT3.out,compP_new _ _ _ (fun e => hut (by cases e;exact ⟨rfl,rfl⟩)),← HT4.out,← HCC.out]
         refine ⟨C.length + 1,k2 + 1,by omega,by omega,by omega,by omega,by go_num,by go_num,⟨by rw [hcc,List.length_append];rfl⟩,⟨?_⟩,⟨((BW2.out.setCell (p := ⟨g,C.length * 2,none⟩) hgb _).setCell (p := ⟨g,C.length * 2 + 1,none⟩) hgb _).drew⟩⟩
         rw [hcc]
         have h3 := own_set HO3.out (by have := HLN.out;rwa [← HCC.out] at this) C.length (by omega) ⟨u0,u1⟩
         rw [set_tail C xs ⟨u0,u1⟩ (by omega),List.length_append] at h3
         exact h3
      ·have hend : k + k2 = n := by omega
       have hl2 : ¬ (k2 : Int) < ((n - k : Nat) : Int) := by omega
       have hlen : (compP (xs.take (k + k2)) ++ xs.drop kk).length = n := by rw [List.length_append,HL.out,List.length_drop];omega
       have hcl : ∀ ty,(Builtin.clear_ #[31] ty #[.slice (some ⟨g,kk * 2,none⟩) (n - kk) (cap - kk)]).run Try.prog wr = .ok (.tuple #[]) (wr.setCells g (kk * 2) (List.replicate ((n - kk) * 2) (.int .i64 0))) := fun ty =>
        run_clear_pairs wr ty g (kk * 2) (n - kk) (cap - kk) (by omega) (fun j hj => by
         rw [HO2.out.cellAt (kk * 2 + j) (by omega),List.getElem?_eq_getElem (by rw [scs_length,hlen];omega)];rfl) (fun j hj => HO2.out.frozenAt _)
       go_wp2
       go_ret
       have hcx : compP (xs.take (k + k2)) = compP xs := by rw [List.take_of_length_le (by omega)]
       have hl := HL.out
       have ho := HO2.out
       rw [hcx] at hl ho
       refine ⟨_,rfl,?_,below_far g hgb _ _ _ BW2.out⟩
       have h3 := own_short ho kk (by omega)
       rw [scs_append,List.take_append_of_le_length (by rw [scs_length];omega),List.take_of_length_le (by rw [scs_length];omega)] at h3
       rw [hl]
       exact own_far _ _ _ _ _ _ _ _ h3 (Nat.le_refl _)
    ·have hev : (x0 == y0 && x1 == y1) = false := by rw [Bool.eq_false_iff];intro h;exact he (by simpa using h)
     go_wp2
     go_region
     go_wp2
     go_roundg (n - (k + 1))
     case measure => omega
     case rel =>
      refine ⟨k + 1,by omega,by omega,Nat.le_refl _,by go_num,⟨HO'.out⟩,⟨BW.out.drew⟩,⟨?_⟩⟩
      rw [HT1.out,compP_new _ _ _ (fun e => he (by cases e;exact ⟨rfl,rfl⟩)),← HT2.out,HC.out]
   ·have : k = n := by omega
    subst this
    go_wp2
    go_ret
    have := HC.out
    rw [List.take_of_length_le (by omega)] at this
    rw [this,hn]
    exact ⟨_,rfl,HO'.out,BW.out⟩
end
section
open Go.RowKit Go.Shelf Go.Proofs.YtfaahcgoinkmlaaW.PrintWords Go.Proofs.YtfaahcgoinkmlaaW.PrintLast Go.Proofs.YtfaahcgoinkmlaaW.PrintMore
/-- The pairs of both, led through both. -/
def ledP (a b : List S45) (l : List S45) : List S45 := l.filterMap fun p => if mapP b (mapP a p.f0) = p.f0 then none else some ⟨p.f0,mapP b (mapP a p.f0)⟩
def composeP (a b : List S45) : List S45 := compP ((ledP a b (a ++ b)).mergeSort fun x y => decide (x.f0 ≤ y.f0))
def norm_Compose.f (a b : List S45) : Option (List S45) := if a.length + b.length ≤ 100000 then some (composeP a b) else none
theorem led_fun (a b l : List S45) : ∀ x ∈ ledP a b l,x.f1 = mapP b (mapP a x.f0) := by
 intro x hx
 unfold ledP at hx
 rw [List.mem_filterMap] at hx
 obtain ⟨p,_,hp⟩ := hx
 split at hp
 ·cases hp
 ·injection hp with hp;subst hp;rfl
/-- Two rows that rise and are permutations of one another, where the numbers told are alike just if the pairs are, are one. -/
theorem sorted_one {l m : List S45} (hp : l.Perm m) (hf : ∀ x ∈ l,∀ y ∈ l,x.f0 = y.f0 → x = y) (hl : l.Pairwise fun x y => x.f0 ≤ y.f0) (hm : m.Pairwise fun x y => x.f0 ≤ y.f0) : l = m := by
 refine List.Perm.eq_of_pairwise (le := fun x y => x.f0 ≤ y.f0) (fun x y hx hy h1 h2 => hf x hx y (hp.mem_iff.2 hy) (by omega)) hl hm hp
theorem led_len (a b l : List S45) : (ledP a b l).length ≤ l.length := List.length_filterMap_le _ _
theorem ownsRow_base_p {w : World} {b b' : Nat} {e : TypeId} {s n : Nat} {v : Value} {xs : List Value} (h : w.ownsRow b e s v n xs) (hb : b' ≤ b) : w.ownsRow b' e s v n xs := by
 refine ⟨h.1,?_⟩
 rcases h.2 with h2 | ⟨g,cap,cur,h1,h2,h3⟩
 ·exact .inl h2
 ·exact .inr ⟨g,cap,cur,h1,Nat.le_trans hb h2,h3⟩
theorem led_snoc (a b l : List S45) (p : S45) : ledP a b (l ++ [p]) = if mapP b (mapP a p.f0) = p.f0 then ledP a b l else ledP a b l ++ [⟨p.f0,mapP b (mapP a p.f0)⟩] := by
 unfold ledP
 rw [List.filterMap_append]
 split
 ·rename_i h;simp [h]
 ·rename_i h;simp [h]
theorem C_cellsP {α : Type} (d : Kd α) (W : World) (g : Nat) (xs : List α) (n : Nat) (hn : n = xs.length) (hlen : xs.length ≤ 1000) (h : ∀ j p,xs[j]? = some p → ∃ c,c.length = d.sz ∧ d.K W p c ∧ ∀ i u,c[i]? = some u → W.cell? ⟨g,j * d.sz + i,none⟩ = some u) : d.C W (some ⟨g,0,none⟩) n xs := by
 subst hn
 refine ⟨rfl,by omega,fun _ => ⟨_,rfl,fun j p hj => ?_⟩⟩
 obtain ⟨c,h1,h2,h3⟩ := h j p hj
 refine ⟨c,h1,h2,fun i u hu => ?_⟩
 have e : ∀ m,(⟨g,0,none⟩ : Addr).add m = ⟨g,m,none⟩ := fun m => by unfold Addr.add;split <;> simp_all
 rw [e]
 exact h3 i u hu
theorem sz_span : k45.sz = 2 := rfl
theorem C_spans (w : World) (xs : List S45) (n : Nat) (cells : Array Value) (hn : n = xs.length) (hlen : xs.length ≤ 1000) (h : ∀ j p,xs[j]? = some p → cells[j * 2]? = some (.int .i64 p.f0) ∧ cells[j * 2 + 1]? = some (.int .i64 p.f1)) : k45.C (w.alloc (.cells cells 45)) (some ⟨w.heap.size,0,none⟩) n xs := by
 refine C_cellsP _ _ _ _ _ hn hlen fun j p hj => ⟨_,rfl,k45_mk _ p,fun i u hu => ?_⟩
 obtain ⟨h0,h1⟩ := h j p hj
 rw [sz_span,World.cell?_alloc_new]
 match i,hu with
 | 0,hu => simp at hu;subst hu;simpa using h0
 | 1,hu => simp at hu;subst hu;simpa using h1
theorem C_span1 (w : World) (x : S45) : k45.C (w.alloc (.cells #[.int .i64 x.f0,.int .i64 x.f1] 45)) (some ⟨w.heap.size,0,none⟩) 1 [x] :=
 C_spans w [x] 1 _ rfl (by simp) fun j p hj => by
  match j,hj with
  | 0,hj => simp at hj;subst hj;exact ⟨rfl,rfl⟩
theorem C_span3 (w : World) (x y z : S45) : k45.C (w.alloc (.cells #[.int .i64 x.f0,.int .i64 x.f1,.int .i64 y.f0,.int .i64 y.f1,.int .i64 z.f0,.int .i64 z.f1] 45)) (some ⟨w.heap.size,0,none⟩) 3 [x,y,z] :=
 C_spans w [x,y,z] 3 _ rfl (by simp) fun j p hj => by
  match j,hj with
  | 0,hj => simp at hj;subst hj;exact ⟨rfl,rfl⟩
  | 1,hj => simp at hj;subst hj;exact ⟨rfl,rfl⟩
  | 2,hj => simp at hj;subst hj;exact ⟨rfl,rfl⟩
theorem C_rowsP (w : World) (xs : List (List S45)) (n : Nat) (cells : Array Value) (hn : n = xs.length) (hlen : xs.length ≤ 1000) (h : ∀ (j : Nat) (p : List S45),xs[j]? = some p → ∃ (A : Option Addr) (c : Nat),cells[j]? = some (Value.slice A p.length c) ∧ p.length ≤ c ∧ k45.C w A p.length p) : (Kd.slice 45 k45).C (w.alloc (.cells cells 31)) (some ⟨w.heap.size,0,none⟩) n xs := by
 refine C_cellsP _ _ _ _ _ hn hlen fun j p hj => ?_
 obtain ⟨A,c,h0,h1,h2⟩ := h j p hj
 refine ⟨[.slice A p.length c],rfl,⟨A,c,rfl,h1,Kd.C_alloc h2 _⟩,fun i u hu => ?_⟩
 match i,hu with
 | 0,hu => simp at hu;subst hu;show (w.alloc _).cell? ⟨w.heap.size,j * 1 + 0,none⟩ = _;rw [World.cell?_alloc_new];simpa using h0
theorem C_rows2P {w : World} {a b : List S45} {A B : Option Addr} {c d : Nat} (ha : k45.C w A a.length a) (hc : a.length ≤ c) (hb : k45.C w B b.length b) (hd : b.length ≤ d) : (Kd.slice 45 k45).C (w.alloc (.cells #[.slice A a.length c,.slice B b.length d] 31)) (some ⟨w.heap.size,0,none⟩) 2 [a,b] :=
 C_rowsP w [a,b] 2 _ rfl (by simp) fun j p hj => by
  match j,hj with
  | 0,hj => simp at hj;subst hj;exact ⟨_,_,rfl,hc,ha⟩
  | 1,hj => simp at hj;subst hj;exact ⟨_,_,rfl,hd,hb⟩
/-- An append of one pair, where there is room: in place. -/
theorem wp_append_pair (w : World) {ops : Array Oper} {rest : List Oper} {o : Oper} {a : Act} {Q : Exit → Act → World → Prop} (hg : o.guard = none) (s x : Operand)
  (hop : o.op = Op.call { callee := Callee.builtin Builtin.append,args := #[s,x],argTypes := #[31,31] }) (g n cap : Nat) (hs : a.eval s = .slice (some ⟨g,0,none⟩) n cap)
  (ad : Addr) (c : Nat) (x0 x1 : Int) (hx : a.eval x = .slice (some ad) 1 c) (hc0 : w.cell? (ad.add 0) = some (.int .i64 x0)) (hc1 : w.cell? (ad.add 1) = some (.int .i64 x1))
  (hs0 : (w.cell? ⟨g,n * 2,none⟩).isSome = true) (hs1 : (w.cell? ⟨g,n * 2 + 1,none⟩).isSome = true) (hf0 : w.frozen? ⟨g,n * 2,none⟩ = false) (hf1 : w.frozen? ⟨g,n * 2 + 1,none⟩ = false) (hr : n + 1 ≤ cap)
  (hroom : wpList Try.prog ops Q rest (a.put o.dst (.slice (some ⟨g,0,none⟩) (n + 1) cap)) ((w.setCell ⟨g,n * 2,none⟩ (.int .i64 x0)).setCell ⟨g,n * 2 + 1,none⟩ (.int .i64 x1))) : wpList Try.prog ops Q (o :: rest) a w := by
 obtain ⟨i0,hi,hz0,hz1,hz2⟩ := info_parts info45
 refine wpList_plain hg fun K hK' => ?_
 have hrun := run_append_room_cells (P := Try.prog) w 31 o.type 45 i0 Try.underlying31 hi g 0 n cap ad 1 c [.int .i64 x0,.int .i64 x1] (by rw [hz1];rfl)
  (fun j u hj => by
   match j,hj with
   | 0,hj => simp at hj;subst hj;exact hc0
   | 1,hj => simp at hj;subst hj;exact hc1)
  (fun u hu => by simp at hu;rcases hu with rfl | rfl <;> rfl) hr
  (fun j hj => by
   rw [hz1]
   match j,hj with
   | 0,_ => simpa using hs0
   | 1,_ => simpa using hs1)
  (fun j hj => by
   rw [hz1]
   match j,hj with
   | 0,_ => simpa using hf0
   | 1,_ => simpa using hf1)
 rw [hz1,Nat.zero_add] at hrun
 unfold Oper.wp
 simp [execOp,hop,resolve,invoke,builtin,hs,hx,hrun,Result.andThen]
 exact hK' _ _ hroom
set_option maxRecDepth 100000 in
set_option maxHeartbeats 4000000 in
theorem norm_Compose.calls (A0 : Option Addr) (c0 : Nat) (a : List S45) (A1 : Option Addr) (c1 : Nat) (b : List S45) (r : List S45) (w : World) (hr0 : Kd.C k45 w A0 a.length a) (hc0 : a.length ≤ c0) (hr1 : Kd.C k45 w A1 b.length b) (hc1 : b.length ≤ c1) (h : norm_Compose.f a b = some r) :
  Calls Try.prog 21 #[.slice A0 a.length c0,.slice A1 b.length c1] w fun e w' => ∃ v0_ : Value,e = .returned (v0_) ∧ Kd.R k45 45 w' w.heap.size (fun _ => True) v0_ r ∧ Below w.heap.size w w' := by
 unfold norm_Compose.f at h
 split at h
 case isFalse => cases h
 rename_i hlen
 obtain rfl := Option.some.inj h
 clear h
 have HR0 := Aside0.mk hr0
 have HR1 := Aside0.mk hr1
 clear hr0 hr1
 have hcat := concatPr.calls (some ⟨w.heap.size,0,none⟩) 2 [a,b] (a ++ b) (w.alloc (.cells #[.slice A0 a.length c0,.slice A1 b.length c1] 31)) (C_rows2P HR0.out hc0 HR1.out hc1) (Nat.le_refl _) (by unfold concatPr.f;rw [if_pos ⟨by simpa using hlen,by simp⟩];simp)
 obtain ⟨n,hn⟩ : ∃ n,(a ++ b).length = n := ⟨_,rfl⟩
 have hn1 : n ≤ 100000 := by rw [← hn,List.length_append];exact hlen
 have HN := Aside0.mk hn
 have HMA : Aside0 (∀ (x v : Int) (W : World),mapP a x = v → Below w.heap.size w W → Calls Try.prog 18 #[.slice A0 a.length c0,.int .i64 x] W fun e w' => e = .returned (.int .i64 v) ∧ Below W.heap.size W w') := ⟨fun x v W h hb => norm_Map.calls A0 c0 a x v W (Kd.C_below HR0.out hb) hc0 (by rw [← h];rfl)⟩
 have HMB : Aside0 (∀ (x v : Int) (W : World),mapP b x = v → Below w.heap.size w W → Calls Try.prog 18 #[.slice A1 b.length c1,.int .i64 x] W fun e w' => e = .returned (.int .i64 v) ∧ Below W.heap.size W w') := ⟨fun x v W h hb => norm_Map.calls A1 c1 b x v W (Kd.C_below HR1.out hb) hc1 (by rw [← h];rfl)⟩
 obtain ⟨na,hna⟩ : ∃ na,a.length = na := ⟨_,rfl⟩
 obtain ⟨nb,hnb⟩ : ∃ nb,b.length = nb := ⟨_,rfl⟩
 rw [hna] at HMA hcat hc0 ⊢
 rw [hnb] at HMB hcat hc1 ⊢
 clear hna hnb hlen HR0 HR1
 go_enter Try.func21,Try.ntmps21
 go_wp2_with (go_at_call 37;refine hcat.mono ?_;rintro e w1 ⟨v,rfl,ho,hb⟩;have hrow := own_of_R ho;rw [hn] at hrow;have hsz : w.heap.size + 1 ≤ w1.heap.size := (by have := hb.size;simpa using this);have HB1 : Aside0 (Below w.heap.size w w1) := ⟨((Below.refl _ _).alloc (Nat.le_refl _) _).trans (hb.mono (by simp))⟩;have HRW : Aside0 (w1.ownsRow w.heap.size 45 2 v n (scs (a ++ b))) := ⟨ownsRow_base_p hrow (by simp)⟩;clear hb ho hcat hrow;rcases HRW.out.2 with ⟨rfl,hnil⟩ | ⟨g,cap,cur,rfl,hgb,hgh,hgc,hgm,_,_⟩)
 ·have hn0 : n = 0 := by omega
  subst hn0
  have hab : a ++ b = [] := List.eq_nil_of_length_eq_zero HN.out
  have hcp : composeP a b = [] := by unfold composeP;rw [hab];simp [ledP,compP]
  have hsrt := sortS_calls w.heap.size 0 (.slice none 0 0) [] w1 (by omega) rfl (by omega) (World.ownsRow_nil _ _ _ _)
  go_loopg [6,17] 0 (fun gg v6 v17 wr => v6 = .slice none 0 0 ∧ v17 = .int .i64 0 ∧ wr = w1)
  case atStart => exact ⟨rfl,rfl,rfl⟩
  case round =>
   obtain ⟨rfl,rfl,rfl⟩ := hrel
   go_wp2_with (first
    | (go_at_call 38;refine hsrt.mono ?_;rintro e w2 ⟨rfl,ys,hyl,hyp,_,hyo,hb2⟩)
    | (go_at_call 41;refine (compact_calls w.heap.size 0 (.slice none 0 0) [] w2 (by have := hb2.size;omega) rfl (World.ownsRow_nil _ _ _ _)).mono ?_;rintro e w3 ⟨v3,rfl,ho3,hb3⟩))
   go_ret
   refine ⟨v3,rfl,?_,(HB1.out.trans (hb2.mono (Nat.le_refl _))).trans hb3⟩
   rw [hcp]
   exact R_of_rows rfl ho3
 ·go_loopg [6,17] n (fun gg v6 v17 wr => ∃ (k m : Nat),k ≤ n ∧ n - k ≤ gg ∧ v6 = .slice (some ⟨g,0,none⟩) m cap ∧ v17 = .int .i64 k ∧ m ≤ k ∧ Aside0 ((ledP a b ((a ++ b).take k)).length = m) ∧ Aside0 (wr.ownsRow w.heap.size 45 2 (.slice (some ⟨g,0,none⟩) n cap) n (scs (ledP a b ((a ++ b).take k) ++ (a ++ b).drop m))) ∧ Aside0 (Below w.heap.size w wr))
  case atStart => exact ⟨0,0,Nat.zero_le _,by omega,rfl,rfl,Nat.le_refl _,⟨rfl⟩,⟨HRW.out⟩,HB1⟩
  case round =>
   obtain ⟨k,m,hk,hg,rfl,rfl,hmk,HL,HO,BW⟩ := hrel
   by_cases hlt : k < n
   ·have hltz : (k : Int) < (n : Int) := by omega
    obtain ⟨L,hL⟩ : ∃ L,L = ledP a b ((a ++ b).take k) := ⟨_,rfl⟩
    obtain ⟨ab,hab⟩ : ∃ ab,ab = a ++ b := ⟨_,rfl⟩
    have hLl : L.length = m := by rw [hL];exact HL.out
    have HO2 : Aside0 (wr.ownsRow w.heap.size 45 2 (.slice (some ⟨g,0,none⟩) n cap) n (scs (L ++ ab.drop m))) := ⟨by rw [hL,hab];exact HO.out⟩
    have habl : ab.length = n := by rw [hab];exact HN.out
    subst hLl
    have hlen2 : (L ++ ab.drop L.length).length = n := by rw [List.length_append,List.length_drop];omega
    obtain ⟨ha0,ha1⟩ := own_at HO2.out hlen2 k hlt
    obtain ⟨he0,he1⟩ := own_at HO2.out hlen2 L.length (by omega)
    have hf0 := HO2.out.frozenAt (L.length * 2)
    have hf1 := HO2.out.frozenAt (L.length * 2 + 1)
    have hgl := HO2.out.lt g rfl
    rw [rd_tail L ab k hmk] at ha0 ha1
    have htk : ab.take (k + 1) = ab.take k ++ [rd_T45 ab k] := by
     rw [List.take_succ_eq_append_getElem (by omega),rd_T45,Int.toNat_natCast,List.getD_eq_getElem?_getD,List.getElem?_eq_getElem (by omega)];rfl
    obtain ⟨x,hx⟩ : ∃ x,rd_T45 ab k = x := ⟨_,rfl⟩
    rw [hx] at ha0 ha1 htk
    have hled := led_snoc a b (ab.take k) x
    rw [← htk] at hled
    rw [show ledP a b (ab.take k) = L by rw [hL,hab]] at hled
    obtain ⟨o,hxo⟩ : ∃ o,rd_T45 (L ++ ab.drop L.length) (L.length : Int) = o := ⟨_,rfl⟩
    rw [hxo] at he0 he1
    have HLED := Aside0.mk hled
    have HLN2 := Aside0.mk hlen2
    have HABE := Aside0.mk hab
    have HLE := Aside0.mk hL
    have HABL := Aside0.mk habl
    clear hx htk hled hxo hL hab HL HO hlen2 habl
    obtain ⟨x0,x1⟩ := x
    obtain ⟨o0,o1⟩ := o
    simp only at ha0 ha1 he0 he1 HLED
    have hsw := BW.out.size
    obtain ⟨z,hz⟩ : ∃ z,mapP a x0 = z := ⟨_,rfl⟩
    rw [hz] at HLED
    obtain ⟨y,hy⟩ : ∃ y,mapP b z = y := ⟨_,rfl⟩
    rw [hy] at HLED
    have hm1 := HMA.out x0 z (wr.alloc (.cells #[.int .i64 x0,.int .i64 x1] 45)) hz (BW.out.alloc hsw _)
    have hm2 := fun W => HMB.out z y W hy
    have HM2 := Aside0.mk hm2
    have hblk : (wr.alloc (.cells #[.int .i64 x0,.int .i64 x1] 45)).heap[wr.heap.size]? = some (.cells #[.int .i64 x0,.int .i64 x1] 45 (0,0)) := heap_alloc_new _ _
    have HBLK := Aside0.mk hblk
    clear hz hy hm2 hblk
    by_cases hyx : y = x0
    ·rw [if_pos hyx] at HLED
     have hyt := hyx
     go_wp2_with (first | (go_at_call 18;with_reducible refine hm1.mono ?_;rintro e w2 ⟨rfl,hb2⟩;have HB2 := Aside0.mk hb2;clear hb2) | (go_at_call 18;refine (HM2.out _ ((BW.out.alloc hsw _).trans (HB2.out.mono (by simp;omega)))).mono ?_;rintro e w3 ⟨rfl,hb3⟩;have HBX : Aside0 (Below wr.heap.size wr w3) := ⟨(((Below.refl wr.heap.size wr).alloc (Nat.le_refl _) _).trans (HB2.out.mono (by simp))).trans (hb3.mono (by have := HB2.out.size;simp at this;omega))⟩;have hbk := (hb3.block wr.heap.size (by have := HB2.out.size;simp at this;omega)).trans ((HB2.out.block wr.heap.size (by simp)).trans HBLK.out);have hP0 := blk_cell hbk 0;have hP1 := blk_cell hbk 1;have hF0 := blk_frozen hbk 0;have hF1 := blk_frozen hbk 1;have HO3 := Aside0.mk (pw_own_below HO2.out HBX.out);have HSX := Aside0.mk HBX.out.size;clear hb3 hbk))
     go_roundg (n - (k + 1))
     case measure => omega
     case rel =>
      refine ⟨k + 1,L.length,by omega,Nat.le_refl _,rfl,by go_num,by omega,⟨by rw [← HABE.out,HLED.out]⟩,⟨?_⟩,⟨(BW.out.trans (HBX.out.mono hsw)).setCell (p := ⟨wr.heap.size,1,none⟩) hsw _⟩⟩
      rw [← HABE.out,HLED.out]
      exact ownsRow_setCell_other HO3.out (by show some g ≠ some wr.heap.size;intro e;injection e;omega) _
    ·rw [if_neg hyx] at HLED
     go_wp2_with (first | (go_at_call 18;with_reducible refine hm1.mono ?_;rintro e w2 ⟨rfl,hb2⟩;have HB2 := Aside0.mk hb2;clear hb2) | (go_at_call 18;refine (HM2.out _ ((BW.out.alloc hsw _).trans (HB2.out.mono (by simp;omega)))).mono ?_;rintro e w3 ⟨rfl,hb3⟩;have HBX : Aside0 (Below wr.heap.size wr w3) := ⟨(((Below.refl wr.heap.size wr).alloc (Nat.le_refl _) _).trans (HB2.out.mono (by simp))).trans (hb3.mono (by have := HB2.out.size;simp at this;omega))⟩;have hbk := (hb3.block wr.heap.size (by have := HB2.out.size;simp at this;omega)).trans ((HB2.out.block wr.heap.size (by simp)).trans HBLK.out);have hP0 := blk_cell hbk 0;have hP1 := blk_cell hbk 1;have hF0 := blk_frozen hbk 0;have hF1 := blk_frozen hbk 1;have HO3 := Aside0.mk (pw_own_below HO2.out HBX.out);have HSX := Aside0.mk HBX.out.size;clear hb3 hbk) | (at_builtin;have HO4 : Aside0 (World.ownsRow ((w3.setCell ⟨wr.heap.size,1,none⟩ (.int .i64 y)).alloc (.cells #[.int .i64 x0,.int .i64 y] 45)) w.heap.size 45 2 (.slice (some ⟨g,0,none⟩) n cap) n (scs (L ++ ab.drop L.length))) := ⟨pw_own_below (ownsRow_setCell_other HO3.out (by show some g ≠ some wr.heap.size;intro e;injection e;omega) _) ((Below.refl _ _).alloc (Nat.le_refl _) _)⟩;refine wp_append_pair _ rfl _ _ rfl g L.length cap rfl _ _ x0 y rfl (by go_simp) (by go_simp) (by rw [(own_at HO4.out HLN2.out L.length (by omega)).1];rfl) (by rw [(own_at HO4.out HLN2.out L.length (by omega)).2];rfl) (HO4.out.frozenAt _) (HO4.out.frozenAt _) (by omega) ?_))
     go_roundg (n - (k + 1))
     case measure => omega
     case rel =>
      refine ⟨k + 1,L.length + 1,by omega,Nat.le_refl _,rfl,by go_num,by omega,⟨by rw [← HABE.out,HLED.out,List.length_append];rfl⟩,⟨?_⟩,⟨?_⟩⟩
      ·rw [← HABE.out,HLED.out]
       have h3 := own_set HO4.out HLN2.out L.length (by omega) ⟨x0,y⟩
       rw [set_tail L ab ⟨x0,y⟩ (by rw [HABL.out];omega),List.length_append] at h3
       exact h3
      ·have hgl1 : w.heap.size ≤ g := hgl.1
       exact ((((BW.out.trans (HBX.out.mono hsw)).setCell (p := ⟨wr.heap.size,1,none⟩) hsw _).alloc (by have := HSX.out;simp [World.setCell];omega) _).setCell (p := ⟨g,L.length * 2,none⟩) hgl1 _).setCell (p := ⟨g,L.length * 2 + 1,none⟩) hgl1 _
   ·have hkn : k = n := by omega
    subst hkn
    have hL := HL.out
    have hO := HO.out
    rw [List.take_of_length_le (Nat.le_of_eq HN.out)] at hL hO
    have hO2 := own_short hO m hmk
    rw [scs_append,List.take_append_of_le_length (by rw [scs_length];omega),List.take_of_length_le (by rw [scs_length];omega)] at hO2
    have hsrt := sortS_calls w.heap.size m (.slice (some ⟨g,0,none⟩) m cap) (ledP a b (a ++ b)) wr BW.out.size hL (by omega) hO2
    have HCP : Aside0 (∀ ys : List S45,ys.Perm (ledP a b (a ++ b)) → ys.Pairwise (fun x y => x.f0 ≤ y.f0) → compP ys = composeP a b) := ⟨fun ys hp hs => by
     unfold composeP
     refine congrArg compP (sorted_one (m := (ledP a b (a ++ b)).mergeSort fun x y => decide (x.f0 ≤ y.f0)) (hp.trans (List.mergeSort_perm _ _).symm) (fun x hx y hy e => ?_) hs ?_)
     ·have h1 := led_fun a b _ x (hp.mem_iff.1 hx)
      have h2 := led_fun a b _ y (hp.mem_iff.1 hy)
      obtain ⟨x0,x1⟩ := x
      obtain ⟨y0,y1⟩ := y
      simp only at e h1 h2
      subst e
      rw [h1,h2]
     ·have := List.pairwise_mergeSort (le := fun x y : S45 => decide (x.f0 ≤ y.f0)) (fun x y z h1 h2 => by simp at *;omega) (fun x y => by simp;omega) (ledP a b (a ++ b))
      exact this.imp fun h => by simpa using h⟩
    have HSRT := Aside0.mk hsrt
    clear hsrt hL hO hO2
    go_wp2_with (first
     | (go_at_call 38;refine HSRT.out.mono ?_;rintro e w2 ⟨rfl,ys,hyl,hyp,hys,hyo,hb2⟩)
     | (go_at_call 41;refine (compact_calls w.heap.size m (.slice (some ⟨g,0,none⟩) m cap) ys w2 (by have := BW.out.size;have := hb2.size;omega) hyl hyo).mono ?_;rintro e w3 ⟨v3,rfl,ho3,hb3⟩))
    go_ret
    refine ⟨v3,rfl,?_,(BW.out.trans (hb2.mono (Nat.le_refl _))).trans hb3⟩
    rw [← HCP.out ys hyp hys]
    exact R_of_rows rfl ho3
end
end Go.Proofs.Ytfaahcgoinkmlaa.P
