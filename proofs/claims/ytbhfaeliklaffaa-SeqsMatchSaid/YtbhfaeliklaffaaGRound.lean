/- A region inside a round, as a region outside of it. -/
import Derived.Test.YtbhfaeliklaffaaPx0
import Derived.RangeFuncNested
import Derived.RangeFuncCalls
import Derived.OwnWalkIn
import Derived.TacticsInMore
import Derived.Shelf.RegionOpen
namespace Go.Proofs.Ytbhfaeliklaffaa.P
set_option linter.unusedVariables false
set_option linter.unusedSimpArgs false
section
theorem semAt_noDefer (ro : Option Nat) (ρ : Operand → Value) (o : Oper) (h : (match o.op with | .defer _ => true | _ => false) = false) : Oper.semAt ro ρ o = Oper.semAt none ρ o := by
  rw [Oper.semAt_none]
  exact Oper.semAt_eq ro ρ o (fun c e => by rw [e] at h; cases h)
theorem wpAny_round {F : Fence} {n l : Nat} {P : Program} {md : Region.Mode} {ops : Array Oper} {Q : Exit → Act → World → Prop} (hr : F.round = none) (hd : ∀ (i : Nat) (o : Oper), ops[i]? = some o → (match o.op with | .defer _ => true | _ => false) = false) :
    ∀ (fuel : Nat) (listed : Array Bool) (a : Act) (w : World), wpAnyIn F n P md ops Q fuel listed a w → wpAnyIn (F.inRound l) n P md ops Q fuel listed a w
  | 0, _, _, _, h => h
  | fuel + 1, listed, a, w, h => ⟨h.1, fun i hi => by
      have h2 := wpOpIn_mono (fun a w hh => wpAny_round (l := l) hr hd fuel (listed.setIfInBounds i true) a w hh) (h.2 i hi)
      unfold wpOpIn at h2 ⊢
      cases ho : ops[i]? with
      | none => rw [ho] at h2; exact h2
      | some o =>
        rw [ho] at h2
        simp only at h2 ⊢
        split
        · rename_i hw
          rw [if_pos hw] at h2
          refine ⟨h2.1, ?_⟩
          have h3 := h2.2
          rw [hr, ← semAt_noDefer (F.inRound l).round _ _ (hd i o ho)] at h3
          exact h3
        · rename_i hw
          rw [if_neg hw] at h2
          exact h2⟩
/-- The region's operations are read as a list's. -/
theorem wpIn_region_round {F : Fence} {n l id : Nat} {P : Program} {ops : List Oper} {Q : Exit → Act → World → Prop} {a : Act} {w : World} (hr : F.round = none) (hd : ops.all (fun (o : Oper) => match o.op with | .defer _ => false | _ => true) = true) (hm : P.follows .mixedOrders = true)
    (h : wpAnyIn F n P .any ops.toArray Q ops.length (Array.replicate ops.length false) a w.drew) : (Code.region id ops.toArray true).wpIn (F.inRound l) n P Q a w := by
  refine wpIn_region_any hm (wpAny_round hr (fun i o ho => ?_) _ _ _ _ (by simpa using h))
  have hm := List.mem_of_getElem? (show ops[i]? = some o by simpa using ho)
  have := List.all_eq_true.1 hd o hm
  revert this
  cases o.op <;> simp
end
end Go.Proofs.Ytbhfaeliklaffaa.P
