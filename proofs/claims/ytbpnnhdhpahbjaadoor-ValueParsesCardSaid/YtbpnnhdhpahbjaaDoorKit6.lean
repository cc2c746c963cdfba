/-
  Helpers over any program: THE BLOCKS THAT A CALL HAS LAID ITSELF, as a list, under one name; what was there when it began is as it was. Conditions: those that each theorem names.
-/
import Derived.Test.YtbpnnhdhpahbjaaDoorKit5
import Derived.Lib.Hide
namespace Go
open Go.Sort Go.RowKit

/-- A block of the call's own: its number, its cells, its type. -/
abbrev Blk := Nat × Array Value × TypeId
/-- What was there is as it was; the call's own blocks hold this. -/
structure St (w0 w : World) (L : List Blk) : Prop where
  below : Below w0.heap.size w0 w
  own : ∀ x ∈ L, w0.heap.size ≤ x.1 ∧ w.heap[x.1]? = some (.cells x.2.1 x.2.2 (0, 0))
  apart : (L.map (·.1)).Nodup

theorem St.start (w : World) : St w w [] := ⟨Below.refl _ _, by simp, by simp⟩
theorem St.kept {w0 w w' : World} {L : List Blk} (h : St w0 w L) (hb : Below w.heap.size w w') : St w0 w' L :=
  ⟨h.below.step hb, fun x hx => ⟨(h.own x hx).1, by rw [hb.block _ (Array.getElem?_eq_some_iff.1 (h.own x hx).2).1]; exact (h.own x hx).2⟩, h.apart⟩
theorem St.alloc {w0 w : World} {L : List Blk} {cs : Array Value} {t : TypeId} (h : St w0 w L) : St w0 (w.alloc (.cells cs t)) ((w.heap.size, cs, t) :: L) := by
  have hk := h.kept ((Below.refl w.heap.size w).alloc (Nat.le_refl _) (.cells cs t))
  refine ⟨hk.below, ?_, ?_⟩
  · intro x hx
    rcases List.mem_cons.1 hx with rfl | hx
    · exact ⟨h.below.size, blk_new _ _⟩
    · exact hk.own x hx
  · simp only [List.map_cons, List.nodup_cons]
    refine ⟨fun hm => ?_, h.apart⟩
    obtain ⟨x, hx, e⟩ := List.mem_map.1 hm
    have := (Array.getElem?_eq_some_iff.1 (h.own x hx).2).1
    omega
theorem St.laid {w0 w : World} {L : List Blk} {o : Obj} (h : St w0 w L) : St w0 (w.alloc o) L := h.kept ((Below.refl w.heap.size w).alloc (Nat.le_refl _) o)
theorem nodup_idx {L : List Blk} (h : (L.map (·.1)).Nodup) {i : Nat} {x : Blk} (hi : L[i]? = some x) {j : Nat} {y : Blk} (hj : L[j]? = some y) (hne : i ≠ j) : x.1 ≠ y.1 := by
  intro e
  have h1 : (L.map (·.1))[i]? = some x.1 := by simp [hi]
  have h2 : (L.map (·.1))[j]? = some y.1 := by simp [hj]
  obtain ⟨l1, e1⟩ := List.getElem?_eq_some_iff.1 h1
  obtain ⟨l2, e2⟩ := List.getElem?_eq_some_iff.1 h2
  have hp := List.pairwise_iff_getElem.1 h
  rcases Nat.lt_or_gt_of_ne hne with hl | hl
  · exact hp i j l1 l2 hl (by rw [e1, e2, e])
  · exact hp j i l2 l1 hl (by rw [e1, e2, e])
theorem St.set {w0 w : World} {L : List Blk} (i : Nat) {b o : Nat} {cs : Array Value} {t : TypeId} {v : Value} (h : St w0 w L) (hi : L[i]? = some (b, cs, t)) :
    St w0 (w.setCell ⟨b, o, none⟩ v) (L.set i (b, cs.setIfInBounds o v, t)) := by
  have hm := List.mem_of_getElem? hi
  have ho := h.own _ hm
  have hb : (w.setCell ⟨b, o, none⟩ v).heap[b]? = some (.cells (cs.setIfInBounds o v) t (0, 0)) := by simp [World.setCell, Array.getElem?_modify, ho.2]
  refine ⟨h.below.setCell ho.1 _, ?_, ?_⟩
  · intro x hx
    obtain ⟨j, hj⟩ := List.mem_iff_getElem?.1 hx
    rw [List.getElem?_set] at hj
    split at hj
    · rename_i e
      split at hj
      · cases hj; exact ⟨ho.1, hb⟩
      · cases hj
    · rename_i hne
      have hox := h.own x (List.mem_of_getElem? hj)
      have hnb := nodup_idx h.apart hi hj hne
      exact ⟨hox.1, by rw [Below.heap_setCell _ _ _ _ (Ne.symm hnb)]; exact hox.2⟩
  · have e : (L.set i (b, cs.setIfInBounds o v, t)).map (·.1) = L.map (·.1) := by
      rw [List.map_set]
      have : (L.map (·.1))[i]? = some b := by simp [hi]
      obtain ⟨hl, he⟩ := List.getElem?_eq_some_iff.1 this
      apply List.ext_getElem?
      intro j
      rw [List.getElem?_set]
      split
      · rename_i e; subst e; simp [this]
      · rfl
    rw [e]; exact h.apart
theorem St.tail {w0 w : World} {x : Blk} {L : List Blk} (h : St w0 w (x :: L)) : St w0 w L :=
  ⟨h.below, fun y hy => h.own y (List.mem_cons_of_mem _ hy), (List.nodup_cons.1 h.apart).2⟩

/-- What can be read of a block. -/
def cellFacts (w : World) (b : Nat) : Nat → List Value → Prop
  | _, [] => True
  | o, v :: l => (w.cell? ⟨b, o, none⟩ = some v ∧ w.frozen? ⟨b, o, none⟩ = false) ∧ cellFacts w b (o + 1) l
def apartFacts (b : Nat) : List Blk → Prop
  | [] => True
  | y :: L => (b ≠ y.1 ∧ y.1 ≠ b) ∧ apartFacts b L
def St.Facts (w : World) : List Blk → Prop
  | [] => True
  | x :: L => x.1 < w.heap.size ∧ cellFacts w x.1 0 x.2.1.toList ∧ apartFacts x.1 L ∧ St.Facts w L
theorem apartFacts_of {b : Nat} : ∀ {L : List Blk}, b ∉ L.map (·.1) → apartFacts b L
  | [], _ => trivial
  | y :: L, h => by
    simp only [List.map_cons, List.mem_cons, not_or] at h
    exact ⟨⟨h.1, Ne.symm h.1⟩, apartFacts_of h.2⟩
theorem cellFacts_of {w : World} {b : Nat} {cs : Array Value} {t : TypeId} (h : w.heap[b]? = some (.cells cs t (0, 0))) : ∀ (l : List Value) (o : Nat), (∀ j, l[j]? = cs.toList[o + j]?) → cellFacts w b o l
  | [], _, _ => trivial
  | v :: l, o, hl => by
    refine ⟨⟨?_, ?_⟩, cellFacts_of h l (o + 1) (fun j => by have := hl (j + 1); simpa [Nat.add_assoc, Nat.add_comm 1 j] using this)⟩
    · have := hl 0
      simp only [World.cell?, h]
      simpa using this.symm
    · simp [World.frozen?, h]
theorem St.facts {w0 w : World} : ∀ {L : List Blk}, St w0 w L → St.Facts w L
  | [], _ => trivial
  | x :: L, h => ⟨(Array.getElem?_eq_some_iff.1 (h.own x (by simp)).2).1, cellFacts_of (h.own x (by simp)).2 _ _ (fun j => by simp), apartFacts_of (List.nodup_cons.1 h.apart).1, h.tail.facts⟩
/-- The same cells in every world that has grown out of this one. -/
def cellFactsG (w : World) (b : Nat) : Nat → List Value → Prop
  | _, [] => True
  | o, v :: l => (∀ (d : Nat) (os : Array Obj), (grow (redrawn w d) os).cell? ⟨b, o, none⟩ = some v) ∧ cellFactsG w b (o + 1) l
def St.FactsG (w : World) : List Blk → Prop
  | [] => True
  | x :: L => cellFactsG w x.1 0 x.2.1.toList ∧ St.FactsG w L
theorem cellFactsG_of {w : World} {b : Nat} {cs : Array Value} {t : TypeId} (h : w.heap[b]? = some (.cells cs t (0, 0))) : ∀ (l : List Value) (o : Nat), (∀ j, l[j]? = cs.toList[o + j]?) → cellFactsG w b o l
  | [], _, _ => trivial
  | v :: l, o, hl => by
    refine ⟨fun d os => ?_, cellFactsG_of h l (o + 1) (fun j => by have := hl (j + 1); simpa [Nat.add_assoc, Nat.add_comm 1 j] using this)⟩
    have h2 := (below_regrown w d os).blk_kept h
    have := hl 0
    simp only [World.cell?, h2]
    simpa using this.symm
theorem St.factsG {w0 w : World} : ∀ {L : List Blk}, St w0 w L → St.FactsG w L
  | [], _ => trivial
  | x :: L, h => ⟨cellFactsG_of (h.own x (by simp)).2 _ _ (fun j => by simp), h.tail.factsG⟩

/-- Behind a call. -/
theorem St.call {w0 w w' : World} {L : List Blk} {G : Prop} (h : St w0 w L) (hb : Below w.heap.size w w') (k : Hid (St w0 w' L) → G) : G := k (h.kept hb)
theorem St.here {w0 w : World} {L : List Blk} {G : Prop} (h : St w0 w L) (k : Hid (St w0 w L) → G) : G := k h
/-- The world under a name. -/
theorem St.gen {P : Program} {c : Code} {Q : Exit → Act → World → Prop} {a : Act} {w0 w : World} {L : List Blk} (h : St w0 w L) (k : ∀ W, Hid (St w0 W L) → Code.wp P c Q a W) : Code.wp P c Q a w := k w h
theorem St.genL {P : Program} {ops : Array Oper} {l : List Oper} {Q : Exit → Act → World → Prop} {a : Act} {w0 w : World} {L : List Blk} (h : St w0 w L) (k : ∀ W, Hid (St w0 W L) → wpList P ops Q l a W) : wpList P ops Q l a w := k w h
theorem St.blk {w0 w : World} {L : List Blk} (h : St w0 w L) (i : Nat) {b : Nat} {cs : Array Value} {t : TypeId} (hi : L[i]? = some (b, cs, t)) : w.heap[b]? = some (.cells cs t (0, 0)) := (h.own _ (List.mem_of_getElem? hi)).2
end Go
