/- Maps of slices: the words. -/
import Derived.Test.YtpcljaidlihafaaPx0
import Derived.Test.YtpcljaidlihafaaGBase
import Derived.Test.YtpcljaidlihafaaPBase
import Derived.Maps.OwnSet
import Derived.StringKeys
namespace Go.Proofs.Ytpcljaidlihafaa.P
set_option linter.unusedVariables false
set_option linter.unusedSimpArgs false
section
open Go.RowKit Go.Shelf Go.Maps Go.Proofs.YtpcljaidlihafaaW.PrintWords Go.Proofs.YtpcljaidlihafaaW.PrintLast Go.Proofs.YtpcljaidlihafaaW.PrintMore
/-- How an element reads: as itself. -/
def RH (v : Value) : Option (DataW Value × List MemPlace) := some (.held v, [])
theorem RH_inv {v u : Value} {ps : List MemPlace} (h : RH v = some (.held u, ps)) : v = u := by
  unfold RH at h
  injection h with h
  injection h with h1 _
  injection h1
/-- A composite literal's entry, as a store. -/
theorem wpList_insert_own {H : Type} {P : Program} (w : World) {ops : Array Oper} {rest : List Oper} {o : Oper} {a : Act} {Q : Exit → Act → World → Prop}
    (hg : o.guard = none) (m x v : Operand) (t : TypeId) (hop : o.op = Op.insert t m x v)
    (k e : TypeId) (K : Keyed P k) (ht : P.underlying t = some (.map k e)) (R : Value → Option (DataW H × List MemPlace)) (b n : Nat) (D : DataW H)
    (hm : a.eval m = .map (some b)) (hown : w.ownsMap P k R b n D) (hn : n < maxLen) (key val : Value) (kl : Lit) (hx : a.eval x = key) (hv : a.eval v = val) (hkey : keyOf P k key = some kl)
    (d : DataW H) (ps : List MemPlace) (hval : R val = some (d, ps))
    (hK : ∀ w', w'.ownsMap P k R b (n + 1) (D.put kl d) → w.grownBy w' (some b) → wpList P ops Q rest (a.put o.dst undef) w') :
    wpList P ops Q (o :: rest) a w := by
  refine wpList_plain hg fun K' hK' => ?_
  obtain ⟨w', hrun, r1, r2⟩ := hown.update K ht hn hkey hval
  unfold Oper.wp
  simp [execOp, hop, hm, hx, hv, hrun, Result.andThen]
  exact hK' _ _ (hK w' r1 r2)
/-- A store into a map, behind the operation's own step. -/
theorem upon_update {H : Type} {P : Program} {o : Oper} {a : Act} {K' : Act → World → Prop} {Q : Exit → Act → World → Prop} {w : World} {t k e : TypeId} {R : Value → Option (DataW H × List MemPlace)} {b n : Nat} {D : DataW H} {key val : Value} {kl : Lit} {d : DataW H} {ps : List MemPlace}
    (K : Keyed P k) (ht : P.underlying t = some (.map k e)) (hown : w.ownsMap P k R b n D) (hn : n < maxLen) (hkey : keyOf P k key = some kl) (hval : R val = some (d, ps))
    (h : ∀ w', w'.ownsMap P k R b (n + 1) (D.put kl d) → w.grownBy w' (some b) → Oper.upon P o a K' Q (.ok Next.skip w')) :
    Oper.upon P o a K' Q ((Sem.run P (Instr.mapUpdate t (.map (some b)) key val) w).andThen fun _ w' => .ok Next.skip w') := by
  obtain ⟨w', hrun, r1, r2⟩ := hown.update K ht hn hkey hval
  rw [hrun]
  exact h w' r1 r2
/-- A lookup without 'ok'. -/
theorem wpList_lookup_own1 {H : Type} {P : Program} (w : World) {ops : Array Oper} {rest : List Oper} {o : Oper} {a : Act} {Q : Exit → Act → World → Prop}
    (hg : o.guard = none) (m x : Operand) (t : TypeId) (hop : o.op = Op.lookup t m x false)
    (k e : TypeId) (K : Keyed P k) (ht : P.underlying t = some (.map k e)) (R : Value → Option (DataW H × List MemPlace)) {z : Value} (hz : (zeroValue e).run P w = .ok z w) (zd : DataW H) (zp : List MemPlace) (hzd : R z = some (zd, zp)) (b n : Nat) (D : DataW H)
    (hm : a.eval m = .map (some b)) (hown : w.ownsMap P k R b n D) (key : Value) (kl : Lit) (hx : a.eval x = key) (hkey : keyOf P k key = some kl)
    (hK : ∀ v ps, R v = some (D.atKey kl zd, ps) → wpList P ops Q rest (a.put o.dst v) w) :
    wpList P ops Q (o :: rest) a w := by
  refine wpList_plain hg fun K' hK' => ?_
  obtain ⟨v, ps, hrun, hv⟩ := hown.lookup K ht hz hzd hkey
  unfold Oper.wp
  simp [execOp, hop, hm, hx, hrun, Result.andThen]
  exact hK' _ _ (hK v ps hv)
theorem ownsMap_below {H : Type} {P : Program} {k : TypeId} {R : Value → Option (DataW H × List MemPlace)} {w w' : World} {b n : Nat} {D : DataW H} (h : w.ownsMap P k R b n D) (hb : Below w.heap.size w w') : w'.ownsMap P k R b n D := by
  have hlt := h.lt
  obtain ⟨es, clock, h1, F, hs, hD⟩ := h
  exact ⟨es, clock, (hb.block b hlt).trans h1, F, hs, hD⟩
/-- Blocks of spans apart from block b. -/
def RowsAt (w : World) (b : Nat) (rows : List (Nat × Array Value)) : Prop := ∀ p ∈ rows, p.1 ≠ b ∧ w.heap[p.1]? = some (.cells p.2 39 (0, 0))
theorem RowsAt.nil (w : World) (b : Nat) : RowsAt w b [] := fun p hp => by simp at hp
theorem RowsAt.lt {w : World} {b : Nat} {rows : List (Nat × Array Value)} (h : RowsAt w b rows) {p : Nat × Array Value} (hp : p ∈ rows) : p.1 < w.heap.size := (Array.getElem?_eq_some_iff.1 (h p hp).2).1
theorem RowsAt.alloc {w : World} {b : Nat} {rows : List (Nat × Array Value)} (h : RowsAt w b rows) (o : Obj) : RowsAt (w.alloc o) b rows := fun p hp => ⟨(h p hp).1, (Below.heap_alloc w o p.1 (h.lt hp)).trans (h p hp).2⟩
theorem RowsAt.below {w w' : World} {b : Nat} {rows : List (Nat × Array Value)} (h : RowsAt w b rows) (hb : Below w.heap.size w w') : RowsAt w' b rows := fun p hp => ⟨(h p hp).1, (hb.block p.1 (h.lt hp)).trans (h p hp).2⟩
theorem RowsAt.grown {w w' : World} {b : Nat} {rows : List (Nat × Array Value)} (h : RowsAt w b rows) (hg : w.grownBy w' (some b)) : RowsAt w' b rows := fun p hp => ⟨(h p hp).1, (hg.block p.1 (h.lt hp) (fun e => (h p hp).1 (by cases e; rfl))).trans (h p hp).2⟩
theorem RowsAt.new {w : World} {b : Nat} {rows : List (Nat × Array Value)} (h : RowsAt w b rows) (hb : b < w.heap.size) (cs : Array Value) : RowsAt (w.alloc (.cells cs 39)) b ((w.heap.size, cs) :: rows) := fun p hp => by
  rcases List.mem_cons.1 hp with rfl | hp
  · exact ⟨by simp only; omega, heap_alloc_new w _⟩
  · exact h.alloc _ p hp
theorem rows_step {w w' : World} {b : Nat} {rows : List (Nat × Array Value)} {cs : Array Value} (h : RowsAt w b rows) (hb : b < w.heap.size) (hg : (w.alloc (.cells cs 39)).grownBy w' (some b)) : RowsAt w' b ((w.heap.size, cs) :: rows) := (h.new hb cs).grown hg
theorem C_of_block {w : World} {g n : Nat} {cs : Array Value} {l : List S39} (h : w.heap[g]? = some (.cells cs 39 (0, 0))) (hn : n = l.length) (hc : cs = (scs l).toArray) (hl : n ≤ 1000000) : Kd.C k39 w (some ⟨g, 0, none⟩) n l := by
  subst hn
  have ho : w.ownsRow 0 39 2 (.slice (some ⟨g, 0, none⟩) l.length l.length) l.length (scs l) :=
    ⟨scs_length l, .inr ⟨g, l.length, cs, rfl, Nat.zero_le _, h, Nat.le_refl _, by unfold maxLen; omega, by rw [hc]; simp [scs_length], by rw [hc]; simp [← scs_length]⟩⟩
  exact (Kd.R_reads' (R_of_rows rfl ho)).2.2
end
end Go.Proofs.Ytpcljaidlihafaa.P
