/-
  Helpers over any program: appending what a call has just laid onto a row of its own. Its conditions: the row is owned, the sizes fit.
-/
import Derived.Test.YtbpnnhdhpahbjaaDoorKit
import Derived.WalkKit
import Derived.Handy
namespace Go
open Go.Sort Go.RowKit
/-- append of a new one-cell row that the call has just laid, onto a row of the call's own. -/
theorem wpList_append_new {P : Program} {ops : Array Oper} {rest : List Oper} {o : Oper} {a : Act} {Q : Exit → Act → World → Prop} {W : World} (hgd : o.guard = none) (s x : Operand) (t : TypeId)
    (ho : o.op = .call { callee := .builtin .append, args := #[s, x], argTypes := #[t, t] })
    (e : TypeId) (z : Value) (bytes : Nat) (ht : P.underlying t = some (.slice e)) (hinfo : (P.info? e).map (fun i => (i.zero, i.size, i.bytes)) = some (some z, 1, bytes)) (hzs : z.cells.size = 1)
    (base : Nat) (v : Value) (n : Nat) (xs : List Value) (hs : a.eval s = v) (hown : W.ownsRow base e 1 v n xs)
    (cs : Array Value) (nb : Nat) (hx : a.eval x = .slice (some ⟨nb, 0, none⟩) cs.size cs.size) (hnb : W.heap.size = nb) (h1 : ∀ u ∈ cs.toList, u.oneCell' = true)
    (hbytes : (n + cs.size) * bytes ≤ 140737488355328) (h63 : n + cs.size ≤ maxLen) (hbase : base ≤ W.heap.size)
    (h : ∀ v' w', w'.ownsRow base e 1 v' (n + cs.size) (xs ++ cs.toList) → W.grownBy w' v.ownBlock → wpList P ops Q rest (a.put o.dst v') w') : wpList P ops Q (o :: rest) a (W.alloc (.cells cs e)) := by
  subst hnb
  obtain ⟨i0, hi, hz0, hz1, hz2⟩ := info_parts hinfo
  refine wpList_append_own _ hgd s x t ho base e i0 z 1 bytes ht hi hz0 hz1 hz2 hzs (by decide) v n xs hs (hown.alloc _) ⟨W.heap.size, 0, none⟩ cs.size cs.size cs.toList hx (by simp) ?_ h1 h63 hbytes (by simp; omega) ?_
  · intro j u hu
    have e1 : (⟨W.heap.size, 0, none⟩ : Addr).add j = ⟨W.heap.size, j, none⟩ := by unfold Addr.add; split <;> simp_all
    rw [e1, World.cell?_alloc_at _ _ _ _ rfl]
    simpa using hu
  · intro v' w' h2 h3 _
    refine h v' w' h2 ?_
    exact ⟨h3.os, h3.tape, h3.output, by have := h3.size; simp at this; omega, fun k hk hne => by
      rw [h3.block k (by simp; omega) hne, Below.heap_alloc _ _ _ hk]⟩
/-- append of a block that is known whole, onto a row of the call's own. -/
theorem wpList_append_blk {P : Program} {ops : Array Oper} {rest : List Oper} {o : Oper} {a : Act} {Q : Exit → Act → World → Prop} {W : World} (hgd : o.guard = none) (s x : Operand) (t : TypeId)
    (ho : o.op = .call { callee := .builtin .append, args := #[s, x], argTypes := #[t, t] })
    (e : TypeId) (z : Value) (bytes : Nat) (ht : P.underlying t = some (.slice e)) (hinfo : (P.info? e).map (fun i => (i.zero, i.size, i.bytes)) = some (some z, 1, bytes)) (hzs : z.cells.size = 1)
    (base : Nat) (v : Value) (n : Nat) (xs : List Value) (hs : a.eval s = v) (hown : W.ownsRow base e 1 v n xs)
    (cs : Array Value) (nb : Nat) (te : TypeId) (fr : Nat × Nat) (hx : a.eval x = .slice (some ⟨nb, 0, none⟩) cs.size cs.size) (hblk : W.heap[nb]? = some (.cells cs te fr)) (h1 : ∀ u ∈ cs.toList, u.oneCell' = true)
    (hbytes : (n + cs.size) * bytes ≤ 140737488355328) (h63 : n + cs.size ≤ maxLen) (hbase : base ≤ W.heap.size)
    (h : ∀ v' w', w'.ownsRow base e 1 v' (n + cs.size) (xs ++ cs.toList) → W.grownBy w' v.ownBlock → wpList P ops Q rest (a.put o.dst v') w') : wpList P ops Q (o :: rest) a W := by
  obtain ⟨i0, hi, hz0, hz1, hz2⟩ := info_parts hinfo
  refine wpList_append_own _ hgd s x t ho base e i0 z 1 bytes ht hi hz0 hz1 hz2 hzs (by decide) v n xs hs hown ⟨nb, 0, none⟩ cs.size cs.size cs.toList hx (by simp) ?_ h1 h63 hbytes hbase ?_
  · intro j u hu
    have e1 : (⟨nb, 0, none⟩ : Addr).add j = ⟨nb, j, none⟩ := by unfold Addr.add; split <;> simp_all
    rw [e1]
    simp only [World.cell?, hblk]
    simpa using hu
  · intro v' w' h2 h3 _
    exact h v' w' h2 h3
theorem RowKit.Below.blk {B : Nat} {w w' : World} (h : Below B w w') {b : Nat} {o : Obj} (hb : b < B) (hv : w.heap[b]? = some o) : w'.heap[b]? = some o := by rw [h.block b hb]; exact hv
theorem RowKit.Below.blk_kept {w w' : World} (h : Below w.heap.size w w') {b : Nat} {o : Obj} (hv : w.heap[b]? = some o) : w'.heap[b]? = some o := by rw [h.block b (Array.getElem?_eq_some_iff.1 hv).1]; exact hv
theorem blk_new (w : World) (o : Obj) : (w.alloc o).heap[w.heap.size]? = some o := by show (w.heap.push _)[w.heap.size]? = _; simp
end Go
