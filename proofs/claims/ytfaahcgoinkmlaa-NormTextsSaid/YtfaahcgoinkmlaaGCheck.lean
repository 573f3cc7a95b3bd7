/- norm.Check, as a contract in the print's own form. -/
import Derived.Test.YtfaahcgoinkmlaaPx0
import Derived.Test.YtfaahcgoinkmlaaPx22
import Derived.Test.YtfaahcgoinkmlaaGCompose
import Derived.Test.YtfaahcgoinkmlaaGFold
import Derived.Test.YtfaahcgoinkmlaaGHas
import Derived.Maps.Own
import Derived.Maps.OwnOps
import Derived.Maps.OwnSet
import Derived.OwnWalkIn
import Derived.TacticsInMore
import Derived.Outline
import Derived.Lib.SlKeysI
namespace Go.Proofs.Ytfaahcgoinkmlaa.P
set_option linter.unusedVariables false
set_option linter.unusedSimpArgs false
section
open Go.RowKit Go.Shelf Go.Maps Go.Proofs.YtfaahcgoinkmlaaW.PrintWords Go.Proofs.YtfaahcgoinkmlaaW.PrintLast Go.Proofs.YtfaahcgoinkmlaaW.PrintMore
def In64 (x : Int) : Prop := -9223372036854775808 ≤ x ∧ x ≤ 9223372036854775807
instance (x : Int) : Decidable (In64 x) := by unfold In64;infer_instance
def WfP (l : List S45) : Prop := ∀ p ∈ l,In64 p.f0 ∧ In64 p.f1
instance (l : List S45) : Decidable (WfP l) := by unfold WfP;infer_instance
def clash (done : List S45) (p : S45) : Bool := done.any fun q => decide (q.f0 = p.f0) && !decide (q.f1 = p.f1)
instance (x : Int) : Decidable (Scal x) := by unfold Scal;infer_instance
def badP (done : List S45) (p : S45) : Bool := !decide (Scal p.f0) || !decide (Scal p.f1) || clash done p
def checkG : List S45 → List S45 → Nat → Int
 | [],_,_ => -1
 | p :: t,done,i => if i = 200 then 200 else if badP done p then (i : Int) else checkG t (done ++ [p]) (i + 1)
/-- The first of pairs that may not be. -/
def checkP (l : List S45) : Int := checkG l [] 0
def norm_Check.f (l0 : List S45) : Option Int := if WfP l0 then some (checkP l0) else none
/-- What the map has: where the pairs so far lead. -/
def MapC (D : DataW Value) (done : List S45) : Prop := (∀ x : Int,Maps.has D (.int .i64 x) = true ↔ ∃ q ∈ done,q.f0 = x) ∧ ∀ q ∈ done,∀ zd,D.atKey (.int .i64 q.f0) zd = .lit (.int .i64 q.f1)
theorem MapC.nil : MapC (.map []) [] := ⟨fun s => by simp [Maps.has_eq],fun q h => by simp at h⟩
theorem lit_intC (x : Int) : WideAt.IsKeyLit (.int .i64 x) := by first | trivial | simp [WideAt.IsKeyLit]
theorem MapC.snoc {D : DataW Value} {done : List S45} (h : MapC D done) (hD : IsMap D) (p : S45) (hs : clash done p = false) : MapC (D.put (.int .i64 p.f0) (.lit (.int .i64 p.f1))) (done ++ [p]) := by
 refine ⟨fun x => ?_,fun q hq zd => ?_⟩
 ·by_cases e : x = p.f0
  ·subst e
   rw [Maps.has_put_same hD (lit_intC p.f0)]
   simp
  ·rw [Maps.has_put_other (fun e2 => e (by injection e2)),h.1 x]
   constructor
   ·rintro ⟨q,hq,he⟩;exact ⟨q,List.mem_append_left _ hq,he⟩
   ·rintro ⟨q,hq,he⟩
    rcases List.mem_append.1 hq with hq | hq
    ·exact ⟨q,hq,he⟩
    ·rw [List.mem_singleton] at hq;subst hq;exact absurd he.symm e
 ·by_cases e : q.f0 = p.f0
  ·have hv : q.f1 = p.f1 := by
    rcases List.mem_append.1 hq with hq | hq
    ·unfold clash at hs
     rw [List.any_eq_false] at hs
     have := hs q hq
     simpa [e] using this
    ·rw [List.mem_singleton] at hq;subst hq;rfl
   rw [e,hv]
   exact Maps.atKey_put_same hD (lit_intC p.f0) _ _
  ·rw [Maps.atKey_put_other (fun e2 => e (by injection e2))]
   rcases List.mem_append.1 hq with hq | hq
   ·exact h.2 q hq zd
   ·rw [List.mem_singleton] at hq;subst hq;exact absurd rfl e
theorem MapC.look {D : DataW Value} {done : List S45} (h : MapC D done) (p : S45) : (Maps.has D (.int .i64 p.f0) = false ∧ clash done p = false) ∨ (Maps.has D (.int .i64 p.f0) = true ∧ ∃ v,(∀ zd,D.atKey (.int .i64 p.f0) zd = .lit (.int .i64 v)) ∧ clash done p = !decide (v = p.f1)) := by
 cases hh : Maps.has D (.int .i64 p.f0) with
 | false =>
  refine .inl ⟨rfl,?_⟩
  unfold clash
  rw [List.any_eq_false]
  intro q hq
  have : ¬ q.f0 = p.f0 := fun e => by have := (h.1 p.f0).2 ⟨q,hq,e⟩;rw [hh] at this;cases this
  simp [this]
 | true =>
  obtain ⟨q,hq,he⟩ := (h.1 p.f0).1 hh
  have hv := h.2 q hq
  refine .inr ⟨rfl,q.f1,by rw [← he];exact hv,?_⟩
  have hall : ∀ q2 ∈ done,q2.f0 = p.f0 → q2.f1 = q.f1 := fun q2 hq2 e2 => by
   have h1 := h.2 q2 hq2 (.lit (.int .i64 0))
   rw [e2,← he,hv] at h1
   simpa using h1.symm
  unfold clash
  rw [Bool.eq_iff_iff,List.any_eq_true]
  constructor
  ·rintro ⟨q2,hq2,e2⟩
   simp only [Bool.and_eq_true,decide_eq_true_eq,Bool.not_eq_true',decide_eq_false_iff_not] at e2 ⊢
   rw [← hall q2 hq2 e2.1];exact e2.2
  ·intro e2
   exact ⟨q,hq,by simpa [he] using e2⟩
def allSP : List S79 := [⟨0,1114111⟩]
theorem has_allP (r : Int) : hasP allSP r = decide (Scal r) := by
 rw [Bool.eq_iff_iff,decide_eq_true_iff]
 unfold hasP allSP Scal
 rw [Bool.and_eq_true,decide_eq_true_iff]
 simp only [List.any_cons,List.any_nil,Bool.or_false,Bool.and_eq_true,decide_eq_true_iff]
 omega
theorem scalar_calls (r : Int) (W : World) : Calls Try.prog 32 #[.int .i64 r] W fun e W' => e = .returned (.bool (decide (Scal r))) ∧ Below W.heap.size W W' := by
 refine norm_scalar.calls r _ W ?_
 show (set_Has.f allSP r).bind _ = _
 unfold set_Has.f
 rw [has_allP]
 rfl
theorem scalarT {r : Int} (h : Scal r) (W : World) : Calls Try.prog 32 #[.int .i64 r] W fun e W' => e = .returned (.bool true) ∧ Below W.heap.size W W' := by
 have := scalar_calls r W
 rwa [decide_eq_true h] at this
theorem scalarF {r : Int} (h : ¬ Scal r) (W : World) : Calls Try.prog 32 #[.int .i64 r] W fun e W' => e = .returned (.bool false) ∧ Below W.heap.size W W' := by
 have := scalar_calls r W
 rwa [decide_eq_false h] at this
theorem law_intC : Keyed Try.prog 3 := int_keyed Try.underlying3
theorem zero_intC (w : World) : (zeroValue 3).run Try.prog w = .ok (.int .i64 0) w := by kernel_rfl
theorem ceqC {H : Type} {x : DataW H} {a b : Int} (h1 : x = .lit (.int .i64 a)) (h2 : x = .lit (.int .i64 b)) : a = b := by
 have := h1.symm.trans h2
 simpa using this
theorem ownsMap_belowC {P : Program} {k : TypeId} {R : Value → Option (DataW Value × List MemPlace)} {w w1 : World} {b n : Nat} {D : DataW Value} (h : w.ownsMap P k R b n D) (hb : Below w.heap.size w w1) : w1.ownsMap P k R b n D := by
 have hbl := h.lt
 obtain ⟨es,clock,hb0,Ft,hs,hD⟩ := h
 exact ⟨es,clock,(hb.block b hbl).trans hb0,Ft,hs,hD⟩
set_option maxRecDepth 100000 in
set_option maxHeartbeats 4000000 in
theorem norm_Check.calls (A0 : Option Addr) (c0 : Nat) (l0 : List S45) (r : Int) (w : World) (hr0 : Kd.C k45 w A0 l0.length l0) (hc0 : l0.length ≤ c0) (h : norm_Check.f l0 = some r) :
  Calls Try.prog 16 #[.slice A0 l0.length c0] w fun e w' => e = .returned (.int .i64 r) ∧ Below w.heap.size w w' := by
 unfold norm_Check.f at h
 split at h
 case isFalse => cases h
 rename_i hwf
 obtain rfl := Option.some.inj h
 clear h
 have HR0 := Aside0.mk hr0
 have HWF := Aside0.mk hwf
 have hbig := hr0.2.1
 clear hr0 hwf
 obtain ⟨n,hn⟩ : ∃ n,l0.length = n := ⟨_,rfl⟩
 have HN := Aside0.mk hn
 rw [hn] at hbig hc0 ⊢
 clear hn
 obtain ⟨res,hres⟩ : ∃ res,res = checkP l0 := ⟨_,rfl⟩
 have HRES := Aside0.mk hres
 rw [← hres]
 clear hres
 have hmm := @run_makeMap Try.prog
 go_enter Try.func16,Try.ntmps16
 go_wp2
 go_loopg [11] n (fun gg v11 wr => ∃ (kk : Nat) (D : DataW Value),kk ≤ n ∧ n - kk ≤ gg ∧ kk ≤ 200 ∧ v11 = .int .i64 kk ∧ Aside0 (wr.ownsMap Try.prog 3 (plainElem Try.prog 3) w.heap.size kk D) ∧ Aside0 (MapC D (l0.take kk)) ∧ Aside0 (res = checkG (l0.drop kk) (l0.take kk) kk) ∧ Aside0 (Below w.heap.size w wr))
 case atStart => exact ⟨0,.map [],Nat.zero_le _,by omega,by omega,rfl,⟨World.ownsMap_made _ _ _ _⟩,⟨MapC.nil⟩,HRES,⟨(Below.refl _ _).alloc (Nat.le_refl _) _⟩⟩
 case round =>
  obtain ⟨kk,D,hkk,hg,h200,rfl,HM,HH,HQ,BW⟩ := hrel
  by_cases hlt : kk < n
  ·have hltz : (kk : Int) < (n : Int) := by omega
   have hkl : kk < l0.length := by rw [HN.out];exact hlt
   obtain ⟨ad,e1,hx0,hx1⟩ := at_T45 (by have := HR0.out;rwa [HN.out] at this) (kk : Int) (by omega) (by omega)
   cases e1
   simp only [Int.toNat_natCast] at hx0 hx1
   replace hx0 := (BW.out.cell (World.block_lt_of_cell? w _ hx0)).trans hx0
   replace hx1 := (BW.out.cell (World.block_lt_of_cell? w _ hx1)).trans hx1
   have hel : l0[kk]? = some (rd_T45 l0 kk) := by rw [rd_T45,Int.toNat_natCast,List.getD_eq_getElem?_getD,List.getElem?_eq_getElem hkl];rfl
   have htk : l0.take (kk + 1) = l0.take kk ++ [rd_T45 l0 kk] := by
    rw [List.take_succ_eq_append_getElem hkl];congr 2
    have := hel;rw [List.getElem?_eq_getElem hkl] at this;exact Option.some.inj this
   have hdr := drop_cons l0 kk _ hel
   have hwx := HWF.out _ (List.mem_of_getElem? hel)
   obtain ⟨x,hx⟩ : ∃ x,rd_T45 l0 kk = x := ⟨_,rfl⟩
   rw [hx] at hx0 hx1 htk hdr hwx
   have hq := HQ.out
   rw [hdr,checkG] at hq
   obtain ⟨done,hdone⟩ : ∃ done,l0.take kk = done := ⟨_,rfl⟩
   rw [hdone] at hq htk HH
   have HTK := Aside0.mk htk
   have HQ2 := Aside0.mk hq
   clear hx hel htk hdr HQ hq hdone hkl
   obtain ⟨x0,x1⟩ := x
   simp only at hx0 hx1 hwx
   obtain ⟨hw0,hw1⟩ := hwx
   have hwf0 : (Lit.int .i64 x0).wf = true := WalkArith.wf_i64 (by unfold In64 at hw0;omega)
   have hwf1 : (Lit.int .i64 x1).wf = true := WalkArith.wf_i64 (by unfold In64 at hw1;omega)
   have HW1 := Aside0.mk hwf1
   have hk0 : keyOf Try.prog 3 (.int .i64 x0) = some (.int .i64 x0) := keyOf_int_mk Try.underlying3 hwf0
   clear hw0 hw1 hwf0 hwf1
   by_cases h2 : kk = 200
   ·have h2z : ((kk : Int) = 200) = True := eq_true (by omega)
    have e : res = 200 := by have := HQ2.out;rwa [if_pos h2] at this
    clear hk0
    have hy0 := hx0
    have hy1 := hx1
    rw [h2] at hy0 hy1
    simp [Addr.add] at hy0 hy1
    go_wp2
    go_ret
    exact ⟨by rw [e,show (200 : Int) = (kk : Int) by omega];rfl,(BW.out.alloc BW.out.size _)⟩
   ·have h2z : ¬ (kk : Int) = 200 := by omega
    have hq := HQ2.out
    rw [if_neg h2] at hq
    have HQ3 := Aside0.mk hq
    clear hq HQ2
    have HMa := Aside0.mk (HM.out.alloc (.cells #[.int .i64 x0,.int .i64 x1] 45))
    have hblk : (wr.alloc (.cells #[.int .i64 x0,.int .i64 x1] 45)).heap[wr.heap.size]? = some (.cells #[.int .i64 x0,.int .i64 x1] 45 (0,0)) := heap_alloc_new _ _
    have HP00 : Aside0 ((wr.alloc (.cells #[.int .i64 x0,.int .i64 x1] 45)).cell? ⟨wr.heap.size,0,none⟩ = some (.int .i64 x0)) := ⟨blk_cell hblk 0⟩
    have HP10 : Aside0 ((wr.alloc (.cells #[.int .i64 x0,.int .i64 x1] 45)).cell? ⟨wr.heap.size,1,none⟩ = some (.int .i64 x1)) := ⟨blk_cell hblk 1⟩
    have hlook := HH.out.look ⟨x0,x1⟩
    simp only at hlook
    clear hblk
    by_cases s0 : Scal x0
    ·by_cases s1 : Scal x1
     ·rcases hlook with ⟨hh,hcl⟩ | ⟨hh,vv,hv,hcl⟩
      ·have HCL := Aside0.mk hcl
       have HHH := Aside0.mk hh
       clear hcl hh
       go_wp2_with (first | (at_lookup;refine wpList_lookup_own_ok_int _ rfl _ _ 59 rfl 3 3 .i64 law_intC Try.underlying59 Try.underlying3 (zero_intC _) w.heap.size _ D rfl HMa.out _ _ rfl hk0 ?_;intro cc hat hwcc;rw [HHH.out];clear hat hwcc) | (go_at_call 32;refine (scalarT (r := _) s0 _).mono ?_;rintro e w1 ⟨rfl,hb1⟩;have HS1 := Aside0.mk hb1;have hp1 := (hb1.cell (p := ⟨wr.heap.size,0,none⟩) (by simp)).trans HP00.out;have hq1 := (hb1.cell (p := ⟨wr.heap.size,1,none⟩) (by simp)).trans HP10.out;have HP01 := Aside0.mk hp1;have HP11 := Aside0.mk hq1;have HZ1 : Aside0 (wr.heap.size < w1.heap.size) := ⟨by have h1_ := hb1.size;simp only [World.size_alloc] at h1_;omega⟩;clear hb1) | (go_at_call 32;refine (scalarT (r := _) s1 _).mono ?_;rintro e w2 ⟨rfl,hb2⟩;have HS2 := Aside0.mk hb2;have hp2 := (hb2.cell (p := ⟨wr.heap.size,0,none⟩) HZ1.out).trans HP01.out;have hq2 := (hb2.cell (p := ⟨wr.heap.size,1,none⟩) HZ1.out).trans HP11.out;have HP02 := Aside0.mk hp2;have HP12 := Aside0.mk hq2;have HZ2 : Aside0 (wr.heap.size < w2.heap.size) := ⟨by have h1_ := hb2.size;have h2_ := HZ1.out;omega⟩;clear hb2) | (at_mapUpdate;refine wpList_mapUpdate_own _ rfl _ _ _ 59 rfl 3 3 law_intC Try.underlying59 _ w.heap.size _ _ rfl (ownsMap_belowC (ownsMap_belowC HMa.out HS1.out) HS2.out) (by unfold maxLen;omega) _ _ _ rfl rfl hk0 _ [] (plainElem_int Try.underlying3 HW1.out) ?_;intro wA hownA hgrowA;have HMb := Aside0.mk hownA;have HGA := Aside0.mk hgrowA;clear hownA hgrowA))
       go_roundg (n - (kk + 1))
       case measure => omega
       case rel =>
        refine ⟨kk + 1,_,by omega,Nat.le_refl _,by omega,by go_num,⟨HMb.out.mono (by omega)⟩,⟨?_⟩,⟨?_⟩,⟨?_⟩⟩
        ·rw [HTK.out];exact HH.out.snoc HM.out.isMap _ HCL.out
        ·rw [HTK.out];exact HQ3.out.trans (if_neg (by unfold badP;rw [decide_eq_true s0,decide_eq_true s1,HCL.out];simp))
        ·exact (((BW.out.alloc BW.out.size _).trans (HS1.out.mono (by have := BW.out.size;simp only [World.size_alloc];omega))).trans (HS2.out.mono (by have := BW.out.size;have := HZ1.out;omega))).grown HGA.out (by have := BW.out.size;have := HZ2.out;omega) (fun j hj => by cases hj;exact Nat.le_refl _)
      ·have HCL := Aside0.mk hcl
       have HV := Aside0.mk hv
       have HHH := Aside0.mk hh
       clear hcl hv hh
       by_cases hvv : vv = x1
       ·have hcl2 : clash done ⟨x0,x1⟩ = false := by rw [HCL.out,decide_eq_true hvv];rfl
        have HCL2 := Aside0.mk hcl2
        clear hcl2
        subst hvv
        go_wp2_with (first | (at_lookup;refine wpList_lookup_own_ok_int _ rfl _ _ 59 rfl 3 3 .i64 law_intC Try.underlying59 Try.underlying3 (zero_intC _) w.heap.size _ D rfl HMa.out _ _ rfl hk0 ?_;intro cc hat hwcc;have hce := ceqC hat (HV.out _);subst hce;rw [HHH.out];clear hat) | (go_at_call 32;refine (scalarT (r := _) s0 _).mono ?_;rintro e w1 ⟨rfl,hb1⟩;have HS1 := Aside0.mk hb1;have hp1 := (hb1.cell (p := ⟨wr.heap.size,0,none⟩) (by simp)).trans HP00.out;have hq1 := (hb1.cell (p := ⟨wr.heap.size,1,none⟩) (by simp)).trans HP10.out;have HP01 := Aside0.mk hp1;have HP11 := Aside0.mk hq1;have HZ1 : Aside0 (wr.heap.size < w1.heap.size) := ⟨by have h1_ := hb1.size;simp only [World.size_alloc] at h1_;omega⟩;clear hb1) | (go_at_call 32;refine (scalarT (r := _) s1 _).mono ?_;rintro e w2 ⟨rfl,hb2⟩;have HS2 := Aside0.mk hb2;have hp2 := (hb2.cell (p := ⟨wr.heap.size,0,none⟩) HZ1.out).trans HP01.out;have hq2 := (hb2.cell (p := ⟨wr.heap.size,1,none⟩) HZ1.out).trans HP11.out;have HP02 := Aside0.mk hp2;have HP12 := Aside0.mk hq2;have HZ2 : Aside0 (wr.heap.size < w2.heap.size) := ⟨by have h1_ := hb2.size;have h2_ := HZ1.out;omega⟩;clear hb2) | (at_mapUpdate;refine wpList_mapUpdate_own _ rfl _ _ _ 59 rfl 3 3 law_intC Try.underlying59 _ w.heap.size _ _ rfl (ownsMap_belowC (ownsMap_belowC HMa.out HS1.out) HS2.out) (by unfold maxLen;omega) _ _ _ rfl rfl hk0 _ [] (plainElem_int Try.underlying3 HW1.out) ?_;intro wA hownA hgrowA;have HMb := Aside0.mk hownA;have HGA := Aside0.mk hgrowA;clear hownA hgrowA))
        go_roundg (n - (kk + 1))
        case measure => omega
        case rel =>
         refine ⟨kk + 1,_,by omega,Nat.le_refl _,by omega,by go_num,⟨HMb.out.mono (by omega)⟩,⟨?_⟩,⟨?_⟩,⟨?_⟩⟩
         ·rw [HTK.out];exact HH.out.snoc HM.out.isMap _ HCL2.out
         ·rw [HTK.out];exact HQ3.out.trans (if_neg (by unfold badP;rw [decide_eq_true s0,decide_eq_true s1,HCL2.out];simp))
         ·exact (((BW.out.alloc BW.out.size _).trans (HS1.out.mono (by have := BW.out.size;simp only [World.size_alloc];omega))).trans (HS2.out.mono (by have := BW.out.size;have := HZ1.out;omega))).grown HGA.out (by have := BW.out.size;have := HZ2.out;omega) (fun j hj => by cases hj;exact Nat.le_refl _)
       ·go_wp2_with (first | (at_lookup;refine wpList_lookup_own_ok_int _ rfl _ _ 59 rfl 3 3 .i64 law_intC Try.underlying59 Try.underlying3 (zero_intC _) w.heap.size _ D rfl HMa.out _ _ rfl hk0 ?_;intro cc hat hwcc;have hce := ceqC hat (HV.out _);subst hce;rw [HHH.out];clear hat) | (go_at_call 32;refine (scalarT (r := _) s0 _).mono ?_;rintro e w1 ⟨rfl,hb1⟩;have HS1 := Aside0.mk hb1;have hp1 := (hb1.cell (p := ⟨wr.heap.size,0,none⟩) (by simp)).trans HP00.out;have hq1 := (hb1.cell (p := ⟨wr.heap.size,1,none⟩) (by simp)).trans HP10.out;have HP01 := Aside0.mk hp1;have HP11 := Aside0.mk hq1;have HZ1 : Aside0 (wr.heap.size < w1.heap.size) := ⟨by have h1_ := hb1.size;simp only [World.size_alloc] at h1_;omega⟩;clear hb1) | (go_at_call 32;refine (scalarT (r := _) s1 _).mono ?_;rintro e w2 ⟨rfl,hb2⟩;have HS2 := Aside0.mk hb2;have hp2 := (hb2.cell (p := ⟨wr.heap.size,0,none⟩) HZ1.out).trans HP01.out;have hq2 := (hb2.cell (p := ⟨wr.heap.size,1,none⟩) HZ1.out).trans HP11.out;have HP02 := Aside0.mk hp2;have HP12 := Aside0.mk hq2;have HZ2 : Aside0 (wr.heap.size < w2.heap.size) := ⟨by have h1_ := hb2.size;have h2_ := HZ1.out;omega⟩;clear hb2))
        go_ret
        exact ⟨by rw [HQ3.out,if_pos (by unfold badP;rw [HCL.out,decide_eq_false hvv];simp)];rfl,((BW.out.alloc BW.out.size _).trans (HS1.out.mono (by have := BW.out.size;simp only [World.size_alloc];omega))).trans (HS2.out.mono (by have := BW.out.size;have := HZ1.out;omega))⟩
     ·clear hlook
      go_wp2_with (first | (at_lookup;refine wpList_lookup_own_ok_int _ rfl _ _ 59 rfl 3 3 .i64 law_intC Try.underlying59 Try.underlying3 (zero_intC _) w.heap.size _ D rfl HMa.out _ _ rfl hk0 ?_;intro cc hat hwcc;clear hat hwcc) | (go_at_call 32;refine (scalarT (r := _) s0 _).mono ?_;rintro e w1 ⟨rfl,hb1⟩;have HS1 := Aside0.mk hb1;have hp1 := (hb1.cell (p := ⟨wr.heap.size,0,none⟩) (by simp)).trans HP00.out;have hq1 := (hb1.cell (p := ⟨wr.heap.size,1,none⟩) (by simp)).trans HP10.out;have HP01 := Aside0.mk hp1;have HP11 := Aside0.mk hq1;have HZ1 : Aside0 (wr.heap.size < w1.heap.size) := ⟨by have h1_ := hb1.size;simp only [World.size_alloc] at h1_;omega⟩;clear hb1) | (go_at_call 32;refine (scalarF (r := _) s1 _).mono ?_;rintro e w2 ⟨rfl,hb2⟩;have HS2 := Aside0.mk hb2;have hp2 := (hb2.cell (p := ⟨wr.heap.size,0,none⟩) HZ1.out).trans HP01.out;have hq2 := (hb2.cell (p := ⟨wr.heap.size,1,none⟩) HZ1.out).trans HP11.out;have HP02 := Aside0.mk hp2;have HP12 := Aside0.mk hq2;have HZ2 : Aside0 (wr.heap.size < w2.heap.size) := ⟨by have h1_ := hb2.size;have h2_ := HZ1.out;omega⟩;clear hb2))
      go_ret
      exact ⟨by rw [HQ3.out,if_pos (by unfold badP;rw [decide_eq_false s1];simp)];rfl,((BW.out.alloc BW.out.size _).trans (HS1.out.mono (by have := BW.out.size;simp only [World.size_alloc];omega))).trans (HS2.out.mono (by have := BW.out.size;have := HZ1.out;omega))⟩
    ·clear hlook
     go_wp2_with (first | (at_lookup;refine wpList_lookup_own_ok_int _ rfl _ _ 59 rfl 3 3 .i64 law_intC Try.underlying59 Try.underlying3 (zero_intC _) w.heap.size _ D rfl HMa.out _ _ rfl hk0 ?_;intro cc hat hwcc;clear hat hwcc) | (go_at_call 32;refine (scalarF (r := _) s0 _).mono ?_;rintro e w1 ⟨rfl,hb1⟩;have HS1 := Aside0.mk hb1;have hp1 := (hb1.cell (p := ⟨wr.heap.size,0,none⟩) (by simp)).trans HP00.out;have hq1 := (hb1.cell (p := ⟨wr.heap.size,1,none⟩) (by simp)).trans HP10.out;have HP01 := Aside0.mk hp1;have HP11 := Aside0.mk hq1;have HZ1 : Aside0 (wr.heap.size < w1.heap.size) := ⟨by have h1_ := hb1.size;simp only [World.size_alloc] at h1_;omega⟩;clear hb1))
     go_ret
     exact ⟨by rw [HQ3.out,if_pos (by unfold badP;rw [decide_eq_false s0];simp)];rfl,(BW.out.alloc BW.out.size _).trans (HS1.out.mono (by have := BW.out.size;simp only [World.size_alloc];omega))⟩
  ·have : kk = n := by omega
   subst this
   have e : res = -1 := by have := HQ.out;rw [List.drop_of_length_le (by rw [HN.out];exact Nat.le_refl _)] at this;exact this
   go_wp2
   go_ret
   exact ⟨by rw [e];rfl,BW.out⟩
end
end Go.Proofs.Ytfaahcgoinkmlaa.P
