/- slices.Reverse at rows of spans: the plain side. -/
import Derived.Test.YtbhfaeliklaffaaPx0
import Derived.Test.YtbhfaeliklaffaaPx9
import Derived.Test.YtbhfaeliklaffaaPEv
namespace Go.Proofs.Ytbhfaeliklaffaa.P
set_option linter.unusedVariables false
set_option linter.unusedSimpArgs false
section
open Go.RowKit Go.Proofs.YtbhfaeliklaffaaW.PrintWords Go.Proofs.YtbhfaeliklaffaaW.PrintLast Go.Proofs.YtbhfaeliklaffaaW.PrintMore
theorem rev_at (l : List S43) (hl : l.length ≤ 1000000) : ∀ (d i : Nat) (x : List S43), l.length - 2 * i = d → i ≤ l.length → x.length = l.length →
    (∀ p (h : p < l.length) (h2 : p < x.length), x[p] = if p < i ∨ l.length ≤ p + i then l[l.length - 1 - p]'(by omega) else l[p]) →
    Ev (fun k => api_Span.l0 k x (i : Int) ((l.length : Int) - 1 - i)) l.reverse := by
  intro d
  induction d using Nat.strongRecOn with
  | ind d ih =>
  intro i x hd hi hx hp
  by_cases c : 2 * i + 1 < l.length
  · have h1 : i < x.length := by omega
    have h2 : l.length - 1 - i < x.length := by omega
    have e : ((l.length : Int) - 1 - (i : Int)) = ((l.length - 1 - i : Nat) : Int) := by omega
    refine Ev.step (fun k => by rw [api_Span.l0]) (Ev.pos (by omega) (Ev.pos (by omega) (Ev.pos (by omega) (Ev.pos (by omega) (Ev.pos (by omega) ?_)))))
    rw [e, rd_get x i h1, rd_get x (l.length - 1 - i) h2, Int.toNat_natCast, Int.toNat_natCast, wrap_in (by omega) (by omega), wrap_in (by omega) (by omega)]
    have e2 : ((l.length - 1 - i : Nat) : Int) - 1 = (l.length : Int) - 1 - ((i + 1 : Nat) : Int) := by omega
    have e3 : (i : Int) + 1 = ((i + 1 : Nat) : Int) := by omega
    rw [e2, e3]
    refine ih (l.length - 2 * (i + 1)) (by omega) (i + 1) _ rfl (by omega) (by simp; exact hx) (fun p h3 h4 => ?_)
    have ha := hp i (by omega) h1
    have hb := hp (l.length - 1 - i) (by omega) h2
    rw [if_neg (by omega)] at ha hb
    rw [List.getElem_set, List.getElem_set]
    by_cases c1 : l.length - 1 - i = p
    · rw [if_pos c1, if_pos (by omega)]
      have e5 : l[l.length - 1 - p]'(by omega) = l[i]'(by omega) := by congr 1; omega
      rw [ha, e5]
    · rw [if_neg c1]
      by_cases c2 : i = p
      · have e5 : l[l.length - 1 - p]'(by omega) = l[l.length - 1 - i]'(by omega) := by congr 1; omega
        rw [if_pos c2, if_pos (by omega), hb, e5]
      · rw [if_neg c2, hp p h3 (by omega)]
        by_cases c3 : p < i ∨ l.length ≤ p + i
        · rw [if_pos c3, if_pos (by omega)]
        · rw [if_neg c3, if_neg (by omega)]
  · refine Ev.step (fun k => by rw [api_Span.l0]) (Ev.neg (by omega) ?_)
    have : x = l.reverse := by
      apply List.ext_getElem (by simp; exact hx)
      intro p h3 h4
      rw [hp p (by omega) h3, List.getElem_reverse]
      by_cases c3 : p < i ∨ l.length ≤ p + i
      · rw [if_pos c3]
      · rw [if_neg c3]
        congr 1
        omega
    rw [this]
    exact Ev.now _
theorem rev_ev (l : List S43) (hl : l.length ≤ 1000000) : Ev (fun k => api_Span.f k l) l.reverse := by
  unfold api_Span.f
  rw [wrap_in (by omega) (by omega)]
  have := rev_at l hl _ 0 l rfl (by omega) rfl (fun p h h2 => by rw [if_neg (by omega)])
  simpa using this
end
end Go.Proofs.Ytbhfaeliklaffaa.P
