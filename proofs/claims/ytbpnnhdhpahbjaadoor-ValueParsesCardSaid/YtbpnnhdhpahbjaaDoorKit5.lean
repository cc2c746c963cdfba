/-
  Helpers over any program: the region law of Kit3 with plans that part where two effects may come up in either order. No conditions beside those that each theorem names.
-/
import Derived.Test.YtbpnnhdhpahbjaaDoorKit3
namespace Go
open Go.Sort Go.RowKit

/-- The order in which a region is walked: mild operations, effects, and two effects that may come up in either order. -/
inductive Plan where
  | stop
  | mild (k : Nat) (r : Plan)
  | eff (k : Nat) (r : Plan)
  | two (k1 : Nat) (r1 : Plan) (k2 : Nat) (r2 : Plan)
def Plan.len : Plan → Nat
  | .stop => 0
  | .mild _ r => r.len + 1
  | .eff _ r => r.len + 1
  | .two _ r1 _ _ => r1.len + 1
/-- A run of mild operations. -/
def Plan.milds : List Nat → Plan → Plan
  | [], r => r
  | k :: l, r => .mild k (Plan.milds l r)

section
variable {P : Program} {ops : Array Oper} {md : Region.Mode} {w0 : World} {Q : Exit → Act → World → Prop}

def wpP (P : Program) (ops : Array Oper) (w0 : World) (Q : Exit → Act → World → Prop) (tail : List Oper) : Plan → Act → World → Prop
  | .stop, a, wc => ∀ w, Below wc.heap.size wc w → Below w0.heap.size w0 w → wpList P ops Q tail a w
  | .mild k r, a, wc => ∃ o, ops[k]? = some o ∧ if Region.wanted o (yielded ops a.tmps) then o.mild P a w0 (fun a' => wpP P ops w0 Q tail r a' wc) else wpP P ops w0 Q tail r (a.put o.dst undef) wc
  | .eff k r, a, wc => ∃ o, ops[k]? = some o ∧ ∀ w, Below wc.heap.size wc w → Below w0.heap.size w0 w →
      wpList P ops (Exit.then (fun a' w' => Below w0.heap.size w0 w' ∧ wpP P ops w0 Q tail r a' w') (calm Q)) [o] a w
  | .two k1 r1 k2 r2, a, wc =>
    (∃ o, ops[k1]? = some o ∧ ∀ w, Below wc.heap.size wc w → Below w0.heap.size w0 w → wpList P ops (Exit.then (fun a' w' => Below w0.heap.size w0 w' ∧ wpP P ops w0 Q tail r1 a' w') (calm Q)) [o] a w) ∧
    (∃ o, ops[k2]? = some o ∧ ∀ w, Below wc.heap.size wc w → Below w0.heap.size w0 w → wpList P ops (Exit.then (fun a' w' => Below w0.heap.size w0 w' ∧ wpP P ops w0 Q tail r2 a' w') (calm Q)) [o] a w)

def Region.effB (ops : Array Oper) (n k : Nat) : Bool := decide (k < n) && (match ops[k]? with | some o => o.guard.isNone | none => false)
/-- The Bool over a region's edges: the plan serves every order. -/
def Region.planB (md : Region.Mode) (ops : Array Oper) (g n : Nat) : Plan → Array Bool → Bool
  | .stop, listed => Region.seqB md ops g n listed
  | .mild k r, listed => (Region.ready md ops listed).contains k && Region.free md ops listed k && decide (k < n) && Region.planB md ops g n r (listed.setIfInBounds k true)
  | .eff k r, listed => decide (Region.ready md ops listed = [k]) && Region.effB ops n k && Region.planB md ops g n r (listed.setIfInBounds k true)
  | .two k1 r1 k2 r2, listed => decide (Region.ready md ops listed = [k1, k2]) && Region.effB ops n k1 && Region.effB ops n k2 && decide (r1.len = r2.len) &&
      Region.planB md ops g n r1 (listed.setIfInBounds k1 true) && Region.planB md ops g n r2 (listed.setIfInBounds k2 true)

theorem mOp_of_eff {k : Nat} {o : Oper} {a : Act} {wc : World} {K K' : Act → World → Prop} (h0 : ops[k]? = some o) (hgd : o.guard = none) (hK : ∀ a w, K a w → K' a w)
    (h : ∀ w, Below wc.heap.size wc w → Below w0.heap.size w0 w → wpList P ops (Exit.then (fun a' w' => Below w0.heap.size w0 w' ∧ K a' w') (calm Q)) [o] a w) : mOp P ops w0 Q k K' a wc := by
  have hwt : ∀ a : Act, Region.wanted o (yielded ops a.tmps) = true := fun a => by simp [Region.wanted, hgd]
  unfold mOp
  simp only [h0, hwt a, if_true]
  refine .inr fun w h1 h2 => ?_
  have h3 := h w h1 h2
  simp only [wpList, hwt a, if_true] at h3
  rcases h3 with h3 | h3
  · refine .inl ?_
    unfold Oper.wp at *
    generalize (execOp a.eval o).run P w = r' at *
    cases r' with
    | ok nx w' =>
      cases nx <;> simp only [Oper.upon] at h3 ⊢
      case value u => exact ⟨h3.1, hK _ _ h3.2⟩
      case skip => exact ⟨h3.1, hK _ _ h3.2⟩
      case defer d => exact ⟨h3.1, hK _ _ h3.2⟩
      case enter f args =>
        refine Calls.mono h3 fun e w'' he => ?_
        cases e with
        | returned u => exact ⟨he.1, hK _ _ he.2⟩
        | panicked c => exact he
        | outgrown => obtain ⟨a1, w1, h4⟩ := he; exact ⟨a1, w1, h4⟩
      case row row args => exact Rows.mono h3 fun u w'' he => ⟨he.1, hK _ _ he.2⟩
    | halt x w' =>
      cases x <;> simp only [Oper.upon] at h3 ⊢
      case panic u => exact h3
  · obtain ⟨h3, a1, w1, h4⟩ := h3
    exact .inr ⟨h3, a1, w1, h4.2⟩

theorem wpAM_plan {n g : Nat} {tail : List Oper} (hsel : Region.noSelect ops = true) (hw : TailWaits md ops n) :
    ∀ (r : Plan) (listed : Array Bool) (a : Act) (wc : World), HeadInv md ops n listed → Region.planB md ops g n r listed = true → wpP P ops w0 Q tail r a wc →
    wpAM P md ops w0 Q n (fun listed' a' wc' => Region.seqB md ops g n listed' = true ∧ ∀ w, Below wc'.heap.size wc' w → Below w0.heap.size w0 w → wpList P ops Q tail a' w) r.len listed a wc
  | .stop, listed, a, wc, _, hB, h => ⟨by simpa [Region.planB] using hB, h⟩
  | .mild k r, listed, a, wc, inv, hB, h => by
    obtain ⟨o, h0, h⟩ := h
    simp only [Region.planB, Bool.and_eq_true, decide_eq_true_eq] at hB
    obtain ⟨⟨⟨hr, hf⟩, hkn⟩, hB'⟩ := hB
    have hr' : k ∈ Region.ready md ops listed := by simpa using hr
    obtain ⟨v, hy, hK⟩ : ∃ v, YM P ops w0 o v a ∧ wpP P ops w0 Q tail r (a.put o.dst v) wc := by
      by_cases hwt : Region.wanted o (yielded ops a.tmps) = true
      · rw [if_pos hwt] at h
        obtain ⟨v, h1, h2⟩ := h
        exact ⟨v, .inl ⟨hwt, h1⟩, h2⟩
      · rw [if_neg hwt] at h
        exact ⟨undef, .inr ⟨by simpa using hwt, rfl⟩, h⟩
    exact wpAM_first h0 (Region.noSelect_spec hsel) hw hkn (fun listed' a' wc' hL => seqB_ready hL.1) r.len listed a wc inv (Region.free_spec h0 hf) hr' hy
      (wpAM_plan hsel hw r _ _ _ (inv.set hr' hkn) hB' hK)
  | .eff k r, listed, a, wc, inv, hB, h => by
    obtain ⟨o, h0, h⟩ := h
    simp only [Region.planB, Region.effB, Bool.and_eq_true, decide_eq_true_eq] at hB
    obtain ⟨⟨hr, hkn, hgd⟩, hB'⟩ := hB
    have hr' : k ∈ Region.ready md ops listed := by rw [hr]; simp
    have hgd' : o.guard = none := by rw [h0] at hgd; simpa using hgd
    refine ⟨by rw [hr]; simp, fun j hj => ?_⟩
    rw [hr] at hj
    have hjk : j = k := by simpa using hj
    subst hjk
    exact ⟨hkn, mOp_of_eff h0 hgd' (fun a' w' h' => wpAM_plan hsel hw r _ _ _ (inv.set hr' hkn) hB' h') h⟩
  | .two k1 r1 k2 r2, listed, a, wc, inv, hB, h => by
    obtain ⟨⟨o1, h01, h1⟩, ⟨o2, h02, h2⟩⟩ := h
    simp only [Region.planB, Region.effB, Bool.and_eq_true, decide_eq_true_eq] at hB
    obtain ⟨⟨⟨⟨⟨hr, hkn1, hgd1⟩, hkn2, hgd2⟩, hlen⟩, hB1⟩, hB2⟩ := hB
    have hr1 : k1 ∈ Region.ready md ops listed := by rw [hr]; simp
    have hr2 : k2 ∈ Region.ready md ops listed := by rw [hr]; simp
    have hgd1' : o1.guard = none := by rw [h01] at hgd1; simpa using hgd1
    have hgd2' : o2.guard = none := by rw [h02] at hgd2; simpa using hgd2
    refine ⟨by rw [hr]; simp, fun j hj => ?_⟩
    rw [hr] at hj
    have hjk : j = k1 ∨ j = k2 := by simpa using hj
    rcases hjk with rfl | rfl
    · exact ⟨hkn1, mOp_of_eff h01 hgd1' (fun a' w' h' => wpAM_plan hsel hw r1 _ _ _ (inv.set hr1 hkn1) hB1 h') h1⟩
    · exact ⟨hkn2, mOp_of_eff h02 hgd2' (fun a' w' h' => by
        have := wpAM_plan hsel hw r2 _ _ _ (inv.set hr2 hkn2) hB2 h'
        rw [← hlen] at this
        exact this) h2⟩

def Region.plannedB (md : Region.Mode) (ops : Array Oper) (n : Nat) (r : Plan) : Bool :=
  Region.noSelect ops && decide (n ≤ ops.size) && decide (r.len = n) && (decide (n = ops.size) || (Region.sinkB md ops n && Region.chainB md ops n)) && Region.planB md ops (ops.size - n) n r (Array.replicate ops.size false)

/-- A REGION THAT DRAWS ITS ORDER, WALKED BY A PLAN. -/
theorem wp_region_plan {id : Nat} {a : Act} {w : World} {l : List Oper} (n : Nat) (r : Plan) (hm : P.follows .mixedOrders = true) (hB : Region.plannedB .any l.toArray n r = true)
    (h : wpP P l.toArray w Q (l.drop n) r a w) : (Code.region id l.toArray true).wp P Q a w := by
  simp only [Region.plannedB, Bool.and_eq_true, decide_eq_true_eq, Bool.or_eq_true] at hB
  obtain ⟨⟨⟨⟨hsel, hn⟩, hrl⟩, hs⟩, hmix⟩ := hB
  have hdl : (l.drop n).length = l.toArray.size - n := by simp
  have hw : TailWaits .any l.toArray n := by
    rcases hs with hs | ⟨hs, hc⟩
    · intro listed _ i _ _ t ht hr
      obtain ⟨_, o, ho, _⟩ := mem_ready.1 hr
      have := (Array.getElem?_eq_some_iff.1 ho).1
      omega
    · intro listed inv i hi hun t ht
      by_cases hn' : n < l.toArray.size
      · exact tail_waits hs hc hn' inv _ i rfl hi hun t ht
      · intro hr
        obtain ⟨_, o, ho, _⟩ := mem_ready.1 hr
        have := (Array.getElem?_eq_some_iff.1 ho).1
        omega
  have inv0 : HeadInv .any l.toArray n (Array.replicate l.toArray.size false) :=
    ⟨by simp, fun j oj _ hl => (by rw [getD_replicate_false] at hl; cases hl), fun t _ ht => getD_in (by simpa using ht) (getD_replicate_false _ _)⟩
  have H := wpAM_plan (md := .any) (g := l.toArray.size - n) hsel hw r _ a w inv0 hmix h
  refine wp_region_any hm ?_
  have hd : Below w.heap.size w { w with drawn := w.drawn + 1 } := ⟨rfl, rfl, rfl, Nat.le_refl _, fun _ _ => rfl⟩
  have := wpAny_of_AM (Q := Q) (g := l.toArray.size - n) (fun listed a' wc w' h1 h2 hL => by
    have := wpAny_of_seq (md := .any) (Q' := Q) (l.drop n) n listed a' w' (fun j => by simp [List.getElem?_drop]) (by rw [hdl]; exact hL.1) (hL.2 w' h1 h2)
    rwa [hdl] at this) _ _ _ _ _ hd hd H
  rw [hrl, show n + (l.toArray.size - n) = l.toArray.size by omega] at this
  exact this

theorem wpP_mild {l : List Oper} {tail : List Oper} {k : Nat} {r : Plan} {a : Act} {wc : World} {o : Oper} (ho : l[k]? = some o)
    (h : ∀ K : Act → Prop, (∀ a', wpP P l.toArray w0 Q tail r a' wc → K a') → if Region.wanted o (yielded l.toArray a.tmps) then o.mild P a w0 K else K (a.put o.dst undef)) : wpP P l.toArray w0 Q tail (.mild k r) a wc :=
  ⟨o, by simpa using ho, h _ (fun _ h => h)⟩
theorem wpP_eff {l : List Oper} {tail : List Oper} {k : Nat} {r : Plan} {a : Act} {wc : World} {o : Oper} (ho : l[k]? = some o)
    (h : ∀ w, Below wc.heap.size wc w → Below w0.heap.size w0 w → wpList P l.toArray (Exit.then (fun a' w' => Below w0.heap.size w0 w' ∧ wpP P l.toArray w0 Q tail r a' w') (calm Q)) [o] a w) : wpP P l.toArray w0 Q tail (.eff k r) a wc :=
  ⟨o, by simpa using ho, h⟩
theorem wpP_two {l : List Oper} {tail : List Oper} {k1 k2 : Nat} {r1 r2 : Plan} {a : Act} {wc : World}
    (h1 : wpP P l.toArray w0 Q tail (.eff k1 r1) a wc) (h2 : wpP P l.toArray w0 Q tail (.eff k2 r2) a wc) : wpP P l.toArray w0 Q tail (.two k1 r1 k2 r2) a wc := ⟨h1, h2⟩
theorem wpP_end {a : Act} {wc : World} (h : ∀ w, Below wc.heap.size wc w → Below w0.heap.size w0 w → Q .normal a w) : wpP P ops w0 Q [] .stop a wc := h
theorem wpP_tail {tail : List Oper} {a : Act} {wc : World} (h : ∀ w, Below wc.heap.size wc w → Below w0.heap.size w0 w → wpList P ops Q tail a w) : wpP P ops w0 Q tail .stop a wc := h
end
end Go
