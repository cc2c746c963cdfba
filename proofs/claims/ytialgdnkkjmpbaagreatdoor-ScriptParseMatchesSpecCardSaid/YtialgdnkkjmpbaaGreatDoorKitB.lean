/-
  Helpers over any program: the region law of Kit3 where effects may turn blocks that M names. No conditions beside those that each theorem names.
-/
import Derived.Test.YtialgdnkkjmpbaaGreatDoorKitA
import Derived.Laws.CopyOwn
import Derived.OrdersIn
import Derived.RangeFuncNested
import Derived.RangeFuncCalls
import Derived.RangeFuncLeaves
import Derived.Laws.Rows
import Derived.Laws.Tables
import Derived.BigFrame
namespace Go
open Go.Sort Go.RowKit
section
variable {P : Program} {ops : Array Oper} {md : Region.Mode} {w0 : World} {M : Nat → Prop} {Q : Exit → Act → World → Prop}

/-- The worlds in which only blocks that M names have turned since w0. -/
structure TurnW (M : Nat → Prop) (w0 : World) where
  w : World
  h : Turn M w0 w
instance (M : Nat → Prop) (w0 : World) : Nonempty (TurnW M w0) := ⟨⟨w0, Turn.refl _ _⟩⟩
/-- One value, in every world that has grown out of w0. -/
def Oper.mildT (P : Program) (o : Oper) (a : Act) (M : Nat → Prop) (w0 : World) (next : Act → Prop) : Prop := ∃ v, (∀ w, (∃ p : TurnW M w0, w = p.w) → o.mildAt P a w v) ∧ next (a.put o.dst v)
/-- Operation number i comes up: a mild one, or an effect in whatever world has grown out of the last effect's. -/
def mOpT (P : Program) (ops : Array Oper) (M : Nat → Prop) (w0 : World) (Q : Exit → Act → World → Prop) (i : Nat) (K : Act → World → Prop) (a : Act) (wc : World) : Prop :=
  match ops[i]? with
  | none => False
  | some o => if Region.wanted o (yielded ops a.tmps) then (o.mildT P a M w0 (fun a' => K a' wc)) ∨ (∀ w, Below wc.heap.size wc w → Turn M w0 w → (o.wp P a w (fun a' w' => Turn M w0 w' ∧ K a' w') (calm Q) ∨ (o.asks P a w ∧ LetsOut Q))) else K (a.put o.dst undef) wc

theorem mOp_monoT {i : Nat} {a : Act} {wc : World} {K K' : Act → World → Prop} (h : ∀ a w, K a w → K' a w) (hh : mOpT P ops M w0 Q i K a wc) : mOpT P ops M w0 Q i K' a wc := by
  unfold mOpT at *
  split
  · simp_all
  · rename_i o ho
    simp only [ho] at hh
    split
    · rename_i hw
      simp only [hw, if_true] at hh
      rcases hh with ⟨v, h1, h2⟩ | hh
      · exact .inl ⟨v, h1, h _ _ h2⟩
      · exact .inr fun w h1 h2 => (hh w h1 h2).imp (Oper.wp_mono fun a w h3 => ⟨h3.1, h _ _ h3.2⟩) id
    · rename_i hw; simp only [hw] at hh; exact h _ _ hh

theorem wpOp_of_mOpT {i : Nat} {a : Act} {wc w : World} {K K' : Act → World → Prop} (h1 : Below wc.heap.size wc w) (h2 : Turn M w0 w)
    (h : ∀ a wc' w', Below wc'.heap.size wc' w' → Turn M w0 w' → K a wc' → K' a w') (hh : mOpT P ops M w0 Q i K a wc) : wpOp P ops Q i K' a w := by
  unfold mOpT at hh
  unfold wpOp
  split
  · simp_all
  · rename_i o ho
    simp only [ho] at hh
    split
    · rename_i hw
      simp only [hw, if_true] at hh
      rcases hh with ⟨v, h3, h4⟩ | hh
      · have h5 := h3 w ⟨⟨w, h2⟩, rfl⟩
        refine .inl ?_
        unfold Oper.mildAt at h5
        unfold Oper.wp
        generalize (execOp a.eval o).run P w = r at *
        cases r with
        | ok n w' =>
          cases n <;> simp only [Oper.mildUpon] at h5 <;> simp only [Oper.upon]
          case value u => obtain ⟨e1, e2⟩ := h5; rw [e1, e2]; exact h _ _ _ h1 h2 h4
          case skip => obtain ⟨e1, e2⟩ := h5; rw [e1, ← e2]; exact h _ _ _ h1 h2 h4
          case enter f args =>
            obtain ⟨e1, hc⟩ := h5
            rw [e1]
            exact hc.mono fun e w'' ⟨he, hw''⟩ => by subst he; exact h _ _ _ (h1.step hw'') (h2.step hw'') h4
        | halt x w' => simp only [Oper.mildUpon] at h5
      · exact (hh w h1 h2).imp (Oper.wp_calm fun a' w' h3 => h _ _ _ (Below.refl _ _) h3.1 h3.2) id
    · rename_i hw; simp only [hw] at hh; exact h _ _ _ h1 h2 hh

def YMT (P : Program) (ops : Array Oper) (M : Nat → Prop) (w0 : World) (o : Oper) (v : Value) (a : Act) : Prop :=
  (Region.wanted o (yielded ops a.tmps) = true ∧ ∀ w, (∃ p : TurnW M w0, w = p.w) → o.mildAt P a w v) ∨ (Region.wanted o (yielded ops a.tmps) = false ∧ v = undef)
theorem YMT.mOp {i : Nat} {o : Oper} {v : Value} {a : Act} (hi : ops[i]? = some o) (hy : YMT P ops M w0 o v a) {K : Act → World → Prop} {wc : World} (h : K (a.put o.dst v) wc) : mOpT P ops M w0 Q i K a wc := by
  unfold Go.mOpT
  simp only [hi]
  rcases hy with ⟨hw, hv⟩ | ⟨hw, rfl⟩
  · simp only [hw, if_true]; exact .inl ⟨v, hv, h⟩
  · simp only [hw, Bool.false_eq_true, if_false]; exact h
theorem YMT.of_same {o : Oper} {v : Value} {a a' : Act} (hy : YMT P ops M w0 o v a) (he : execOp a'.eval o = execOp a.eval o)
    (hw : Region.wanted o (yielded ops a'.tmps) = Region.wanted o (yielded ops a.tmps)) : YMT P ops M w0 o v a' := by
  unfold YMT Oper.mildAt at *
  rw [he, hw]
  exact hy

theorem mOp_putT {j : Nat} {oi oj : Oper} {v : Value} (hj : ops[j]? = some oj) (hap : oi.apart ops oj = true)
    (hsi : ∀ cs b, oi.op ≠ .select cs b) (hsj : ∀ cs b, oj.op ≠ .select cs b) {K : Act → World → Prop} {a : Act} {wc : World}
    (hy : YMT P ops M w0 oi v a) (h : mOpT P ops M w0 Q j K (a.put oi.dst v) wc) :
    mOpT P ops M w0 Q j (fun a' wc' => YMT P ops M w0 oi v a' ∧ K (a'.put oi.dst v) wc') a wc := by
  obtain ⟨h1, h2, h3⟩ := Oper.apart_spec hap
  have keep : ∀ (a : Act), YMT P ops M w0 oi v a → ∀ u, YMT P ops M w0 oi v (a.put oj.dst u) := fun a hy u =>
    hy.of_same (execOp_put oi hsi a oj.dst u h3) (wanted_put oi a oj.dst u h3)
  have keepD : ∀ d, YMT P ops M w0 oi v { a with defers := d :: a.defers } := fun d => hy.of_same rfl rfl
  unfold mOpT at *
  simp only [hj] at *
  rw [wanted_put oj a oi.dst v h1] at h
  split
  · rename_i hw
    simp only [hw, if_true] at h
    rcases h with ⟨u, hu, hn⟩ | h
    · refine .inl ⟨u, fun w hw' => ?_, keep a hy u, by rw [← Act.put_comm a v u h2]; exact hn⟩
      have := hu w hw'
      unfold Oper.mildAt at *
      rwa [execOp_put oj hsj a oi.dst v h1] at this
    · refine .inr fun w hw1 hw2 => ?_
      rcases h w hw1 hw2 with h | ⟨hasks, hlets⟩
      case inr => exact .inr ⟨by unfold Oper.asks at *; rw [execOp_put oj hsj a oi.dst v h1] at hasks; exact hasks, hlets⟩
      refine .inl ?_
      unfold Oper.wp at *
      rw [execOp_put oj hsj a oi.dst v h1] at h
      generalize (execOp a.eval oj).run P w = r at *
      cases r with
      | ok n w' =>
        cases n <;> simp only [Oper.upon] at h ⊢
        case value u => exact ⟨h.1, keep a hy u, by rw [← Act.put_comm a v u h2]; exact h.2⟩
        case skip => exact ⟨h.1, keep a hy _, by rw [← Act.put_comm a v undef h2]; exact h.2⟩
        case defer d =>
          refine ⟨h.1, keep _ (keepD d) _, ?_⟩
          rw [← Act.put_comm _ v undef h2, ← Act.put_defers]
          exact h.2
        case enter f args =>
          refine Calls.mono h fun e w'' he => ?_
          cases e with
          | returned u => exact ⟨he.1, keep a hy u, by rw [← Act.put_comm a v u h2]; exact he.2⟩
          | panicked c => exact absurd he.1 (by simp)
          | outgrown => exact he
        case row row args => exact Rows.mono h fun u w'' he => ⟨he.1, keep a hy u, by rw [← Act.put_comm a v u h2]; exact he.2⟩
      | halt x w' =>
        cases x <;> simp only [Oper.upon] at h ⊢
        case panic u => exact absurd h.1 (by simp)
  · rename_i hw
    simp only [hw] at h
    exact ⟨keep a hy _, by rw [← Act.put_comm a v undef h2]; exact h⟩

/-- Whatever order is picked among the operations ahead of the tail; behind them 'L'. -/
def wpAMT (P : Program) (md : Region.Mode) (ops : Array Oper) (M : Nat → Prop) (w0 : World) (Q : Exit → Act → World → Prop) (n : Nat) (L : Array Bool → Act → World → Prop) : Nat → Array Bool → Act → World → Prop
  | 0, listed, a, wc => L listed a wc
  | f + 1, listed, a, wc =>
    Region.ready md ops listed ≠ [] ∧ ∀ i ∈ Region.ready md ops listed, i < n ∧ mOpT P ops M w0 Q i (wpAMT P md ops M w0 Q n L f (listed.setIfInBounds i true)) a wc

theorem wpAny_of_AMT {n g : Nat} {L : Array Bool → Act → World → Prop} (hL : ∀ listed a wc w, Below wc.heap.size wc w → Turn M w0 w → L listed a wc → wpAny P md ops Q g listed a w) :
    ∀ (f : Nat) (listed : Array Bool) (a : Act) (wc w : World), Below wc.heap.size wc w → Turn M w0 w → wpAMT P md ops M w0 Q n L f listed a wc → wpAny P md ops Q (f + g) listed a w
  | 0, listed, a, wc, w, h1, h2, h => by rw [Nat.zero_add]; exact hL _ _ _ _ h1 h2 h
  | f + 1, listed, a, wc, w, h1, h2, h => by
    rw [show f + 1 + g = (f + g) + 1 by omega]
    exact ⟨fun h0 => absurd h0 h.1, fun i hi => wpOp_of_mOpT h1 h2 (fun a' wc' w' h3 h4 h5 => wpAny_of_AMT hL f _ a' wc' w' h3 h4 h5) (h.2 i hi).2⟩

theorem wpAM_firstT {n i : Nat} {oi : Oper} {v : Value} {L : Array Bool → Act → World → Prop} (hi : ops[i]? = some oi) (hsel : ∀ (j : Nat) (o : Oper) cs b, ops[j]? = some o → o.op ≠ .select cs b)
    (hw : TailWaits md ops n) (hin : i < n)
    (hdone : ∀ listed a wc, L listed a wc → ∀ j ∈ Region.ready md ops listed, n ≤ j) :
    ∀ (f : Nat) (listed : Array Bool) (a : Act) (wc : World), HeadInv md ops n listed →
      (∀ j oj, ops[j]? = some oj → j ≠ i → listed.getD j true = false → (∀ e ∈ oj.after, Region.binds md e = true → e.on ≠ i) → oi.apart ops oj = true) →
      i ∈ Region.ready md ops listed → YMT P ops M w0 oi v a →
      wpAMT P md ops M w0 Q n L f (listed.setIfInBounds i true) (a.put oi.dst v) wc → wpAMT P md ops M w0 Q n L (f + 1) listed a wc := by
  intro f
  induction f with
  | zero =>
    intro listed a wc inv _ hr hy H
    have hun := (mem_ready.1 hr).1
    refine ⟨fun h => (by rw [h] at hr; cases hr), fun j hj => ?_⟩
    have hjn : j < n := by
      rcases Nat.lt_or_ge j n with h | h
      · exact h
      · exact absurd hj (hw listed inv i hin hun j h)
    refine ⟨hjn, ?_⟩
    by_cases hji : j = i
    · subst hji; exact hy.mOp hi H
    · have := hdone _ _ _ H j (ready_mono hj hji)
      omega
  | succ f ih =>
    intro listed a wc inv hfree hr hy H
    have hun := (mem_ready.1 hr).1
    refine ⟨fun h => (by rw [h] at hr; cases hr), fun j hj => ?_⟩
    have hjn : j < n := by
      rcases Nat.lt_or_ge j n with h | h
      · exact h
      · exact absurd hj (hw listed inv i hin hun j h)
    refine ⟨hjn, ?_⟩
    by_cases hji : j = i
    · subst hji; exact hy.mOp hi H
    · have h1 := (H.2 j (ready_mono hj hji)).2
      obtain ⟨hjun, oj, hoj, hall⟩ := mem_ready.1 hj
      have hnot : ∀ e ∈ oj.after, Region.binds md e = true → e.on ≠ i := fun e he hb heq => by
        have h1 := hall e he hb
        rw [heq, getD_both hun] at h1
        cases h1
      have h2 := mOp_putT hoj (hfree j oj hoj hji hjun hnot) (fun cs b => hsel i oi cs b hi) (fun cs b => hsel j oj cs b hoj) hy h1
      have hfree' : ∀ k ok, ops[k]? = some ok → k ≠ i → (listed.setIfInBounds j true).getD k true = false →
          (∀ e ∈ ok.after, Region.binds md e = true → e.on ≠ i) → oi.apart ops ok = true := fun k ok hk hki hun hno => by
        refine hfree k ok hk hki ?_ hno
        by_cases hjk : j = k
        · subst hjk; exact hjun
        · rw [getD_set_ne true hjk] at hun; exact hun
      refine mOp_monoT (fun a' wc' h3 => ih (listed.setIfInBounds j true) a' wc' (inv.set hj hjn) hfree' (ready_mono hr (Ne.symm hji)) h3.1 ?_) h2
      rw [Array.setIfInBounds_comm _ _ hji]
      exact h3.2

/-- The walk: mild operations (false) and effects (true), by their numbers; then the tail. -/
def wpMT (P : Program) (ops : Array Oper) (M : Nat → Prop) (w0 : World) (Q : Exit → Act → World → Prop) (tail : List Oper) : List (Nat × Bool) → Act → World → Prop
  | [], a, wc => ∀ w, Below wc.heap.size wc w → Turn M w0 w → wpList P ops Q tail a w
  | (k, false) :: r, a, wc => ∃ o, ops[k]? = some o ∧ if Region.wanted o (yielded ops a.tmps) then o.mildT P a M w0 (fun a' => wpMT P ops M w0 Q tail r a' wc) else wpMT P ops M w0 Q tail r (a.put o.dst undef) wc
  | (k, true) :: r, a, wc => ∃ o, ops[k]? = some o ∧ ∀ w, Below wc.heap.size wc w → Turn M w0 w →
      wpList P ops (Exit.then (fun a' w' => Turn M w0 w' ∧ wpMT P ops M w0 Q tail r a' w') (calm Q)) [o] a w

theorem wpAM_mixT {n g : Nat} {tail : List Oper} (hsel : Region.noSelect ops = true) (hw : TailWaits md ops n) :
    ∀ (r : List (Nat × Bool)) (listed : Array Bool) (a : Act) (wc : World), HeadInv md ops n listed → Region.mixB md ops g n r listed = true → wpMT P ops M w0 Q tail r a wc →
    wpAMT P md ops M w0 Q n (fun listed' a' wc' => Region.seqB md ops g n listed' = true ∧ ∀ w, Below wc'.heap.size wc' w → Turn M w0 w → wpList P ops Q tail a' w) r.length listed a wc
  | [], listed, a, wc, _, hB, h => ⟨by simpa [Region.mixB] using hB, h⟩
  | (k, false) :: r, listed, a, wc, inv, hB, h => by
    obtain ⟨o, h0, h⟩ := h
    simp only [Region.mixB, Bool.and_eq_true, decide_eq_true_eq] at hB
    obtain ⟨⟨⟨hr, hf⟩, hkn⟩, hB'⟩ := hB
    have hr' : k ∈ Region.ready md ops listed := by simpa using hr
    obtain ⟨v, hy, hK⟩ : ∃ v, YMT P ops M w0 o v a ∧ wpMT P ops M w0 Q tail r (a.put o.dst v) wc := by
      by_cases hwt : Region.wanted o (yielded ops a.tmps) = true
      · rw [if_pos hwt] at h
        obtain ⟨v, h1, h2⟩ := h
        exact ⟨v, .inl ⟨hwt, h1⟩, h2⟩
      · rw [if_neg hwt] at h
        exact ⟨undef, .inr ⟨by simpa using hwt, rfl⟩, h⟩
    exact wpAM_firstT h0 (Region.noSelect_spec hsel) hw hkn (fun listed' a' wc' hL => seqB_ready hL.1) r.length listed a wc inv (Region.free_spec h0 hf) hr' hy
      (wpAM_mixT hsel hw r _ _ _ (inv.set hr' hkn) hB' hK)
  | (k, true) :: r, listed, a, wc, inv, hB, h => by
    obtain ⟨o, h0, h⟩ := h
    simp only [Region.mixB, Bool.and_eq_true, decide_eq_true_eq] at hB
    obtain ⟨⟨⟨hr, hkn⟩, hgd⟩, hB'⟩ := hB
    have hr' : k ∈ Region.ready md ops listed := by rw [hr]; simp
    have hgd' : o.guard = none := by rw [h0] at hgd; simpa using hgd
    refine ⟨by rw [hr]; simp, fun j hj => ?_⟩
    rw [hr] at hj
    have hjk : j = k := by simpa using hj
    subst hjk
    refine ⟨hkn, ?_⟩
    have hwt : ∀ a : Act, Region.wanted o (yielded ops a.tmps) = true := fun a => by simp [Region.wanted, hgd']
    unfold mOpT
    simp only [h0, hwt a, if_true]
    refine .inr fun w h1 h2 => ?_
    have h3 := h w h1 h2
    simp only [wpList, hwt a, if_true] at h3
    rcases h3 with h3 | h3
    · refine .inl ?_
      unfold Oper.wp at *
      generalize (execOp a.eval o).run P w = r' at *
      cases r' with
      | ok nx w' =>
        cases nx <;> simp only [Oper.upon] at h3 ⊢
        case value u => exact ⟨h3.1, wpAM_mixT hsel hw r _ _ _ (inv.set hr' hkn) hB' h3.2⟩
        case skip => exact ⟨h3.1, wpAM_mixT hsel hw r _ _ _ (inv.set hr' hkn) hB' h3.2⟩
        case defer d => exact ⟨h3.1, wpAM_mixT hsel hw r _ _ _ (inv.set hr' hkn) hB' h3.2⟩
        case enter f args =>
          refine Calls.mono h3 fun e w'' he => ?_
          cases e with
          | returned u => exact ⟨he.1, wpAM_mixT hsel hw r _ _ _ (inv.set hr' hkn) hB' he.2⟩
          | panicked c => exact he
          | outgrown => obtain ⟨a1, w1, h4⟩ := he; exact ⟨a1, w1, h4⟩
        case row row args => exact Rows.mono h3 fun u w'' he => ⟨he.1, wpAM_mixT hsel hw r _ _ _ (inv.set hr' hkn) hB' he.2⟩
      | halt x w' =>
        cases x <;> simp only [Oper.upon] at h3 ⊢
        case panic u => exact h3
    · obtain ⟨h3, a1, w1, h4⟩ := h3
      exact .inr ⟨h3, a1, w1, h4.2⟩

/-- A REGION THAT DRAWS ITS ORDER, WALKED IN ONE ORDER. -/
theorem wp_region_mixedT (M : Nat → Prop) {id : Nat} {a : Act} {w : World} {l : List Oper} (n : Nat) (r : List (Nat × Bool)) (hm : P.follows .mixedOrders = true) (hB : Region.mixedB .any l.toArray n r = true)
    (h : wpMT P l.toArray M w Q (l.drop n) r a w) : (Code.region id l.toArray true).wp P Q a w := by
  simp only [Region.mixedB, Bool.and_eq_true, decide_eq_true_eq, Bool.or_eq_true] at hB
  obtain ⟨⟨⟨⟨hsel, hn⟩, hrl⟩, hs⟩, hmix⟩ := hB
  have hdl : (l.drop n).length = l.toArray.size - n := by simp
  have hw : TailWaits .any l.toArray n := by
    rcases hs with hs | ⟨hs, hc⟩
    · intro listed _ i _ _ t ht hr
      obtain ⟨_, o, ho, _⟩ := mem_ready.1 hr
      have := (Array.getElem?_eq_some_iff.1 ho).1
      omega
    · intro listed inv i hi hun t ht
      by_cases hn' : n < l.toArray.size
      · exact tail_waits hs hc hn' inv _ i rfl hi hun t ht
      · intro hr
        obtain ⟨_, o, ho, _⟩ := mem_ready.1 hr
        have := (Array.getElem?_eq_some_iff.1 ho).1
        omega
  have inv0 : HeadInv .any l.toArray n (Array.replicate l.toArray.size false) :=
    ⟨by simp, fun j oj _ hl => (by rw [getD_replicate_false] at hl; cases hl), fun t _ ht => getD_in (by simpa using ht) (getD_replicate_false _ _)⟩
  have H := wpAM_mixT (md := .any) (g := l.toArray.size - n) hsel hw r _ a w inv0 hmix h
  refine wp_region_any hm ?_
  have hd : Below w.heap.size w { w with drawn := w.drawn + 1 } := ⟨rfl, rfl, rfl, Nat.le_refl _, fun _ _ => rfl⟩
  have hdT : Turn M w { w with drawn := w.drawn + 1 } := Turn.of_below hd
  have := wpAny_of_AMT (Q := Q) (g := l.toArray.size - n) (fun listed a' wc w' h1 h2 hL => by
    have := wpAny_of_seq (md := .any) (Q' := Q) (l.drop n) n listed a' w' (fun j => by simp [List.getElem?_drop]) (by rw [hdl]; exact hL.1) (hL.2 w' h1 h2)
    rwa [hdl] at this) _ _ _ _ _ hd hdT H
  rw [hrl, show n + (l.toArray.size - n) = l.toArray.size by omega] at this
  exact this

/-- One mild operation, what follows behind a variable. -/
theorem wpM_mildT {l : List Oper} {tail : List Oper} {k : Nat} {r : List (Nat × Bool)} {a : Act} {wc : World} {o : Oper} (ho : l[k]? = some o)
    (h : ∀ K : Act → Prop, (∀ a', wpMT P l.toArray M w0 Q tail r a' wc → K a') → if Region.wanted o (yielded l.toArray a.tmps) then o.mildT P a M w0 K else K (a.put o.dst undef)) : wpMT P l.toArray M w0 Q tail ((k, false) :: r) a wc :=
  ⟨o, by simpa using ho, h _ (fun _ h => h)⟩
/-- One effect. -/
theorem wpM_effT {l : List Oper} {tail : List Oper} {k : Nat} {r : List (Nat × Bool)} {a : Act} {wc : World} {o : Oper} (ho : l[k]? = some o)
    (h : ∀ w, Below wc.heap.size wc w → Turn M w0 w → wpList P l.toArray (Exit.then (fun a' w' => Turn M w0 w' ∧ wpMT P l.toArray M w0 Q tail r a' w') (calm Q)) [o] a w) : wpMT P l.toArray M w0 Q tail ((k, true) :: r) a wc :=
  ⟨o, by simpa using ho, h⟩
theorem wpM_tailT {tail : List Oper} {a : Act} {wc : World} (h : ∀ w, Below wc.heap.size wc w → Turn M w0 w → wpList P ops Q tail a w) : wpMT P ops M w0 Q tail [] a wc := h
theorem wpM_endT {a : Act} {wc : World} (h : ∀ w, Below wc.heap.size wc w → Turn M w0 w → Q .normal a w) : wpMT P ops M w0 Q [] [] a wc := h
end
attribute [go_sem] Oper.mildT
end Go

/-
  Helpers over any program: append onto a slice without room; copy of elements of several cells. Conditions: those that each theorem names.
-/
namespace Go
open Go.Sort Go.RowKit

theorem addr_add_mk (b o j : Nat) : (⟨b, o, none⟩ : Addr).add j = ⟨b, o + j, none⟩ := by unfold Addr.add; split <;> simp_all
theorem wpList_append_full {P : Program} {ops : Array Oper} {rest : List Oper} {o : Oper} {a : Act} {Q : Exit → Act → World → Prop} {W : World} (hgd : o.guard = none) (s x : Operand) (t : TypeId)
    (ho : o.op = .call { callee := .builtin .append, args := #[s, x], argTypes := #[t, t] })
    (e : TypeId) (z : Value) (size bytes : Nat) (ht : P.underlying t = some (.slice e)) (hinfo : (P.info? e).map (fun i => (i.zero, i.size, i.bytes)) = some (some z, size, bytes)) (hzs : z.cells.size = size)
    (sa : Option Addr) (n : Nat) (xs : List Value) (hs : a.eval s = .slice sa n n) (hsl : SlAt W (.slice sa n n) n xs) (hxl : xs.length = n * size)
    (xv : Value) (m : Nat) (news : List Value) (hx : a.eval x = xv) (hm : 0 < m) (hnl : SlAt W xv m news) (hl : news.length = m * size)
    (hbytes : (n + m) * bytes ≤ 140737488355328) (h63 : n + m ≤ maxLen)
    (h : ∀ v' w', w'.ownsRow W.heap.size e size v' (n + m) (xs ++ news) → Below W.heap.size W w' → wpList P ops Q rest (a.put o.dst v') w') : wpList P ops Q (o :: rest) a W := by
  obtain ⟨i, hi, hz0, hz1, hz2⟩ := info_parts hinfo
  subst hz1 hz2
  obtain ⟨ad, cap, rfl, hcap, hcells⟩ := hnl
  obtain ⟨b, o', rfl, hat⟩ := hcells hm
  have hnews : ∀ j u, news[j]? = some u → W.cell? ((⟨b, o', none⟩ : Addr).add j) = some u := fun j u hu => by rw [addr_add_mk]; exact hat j u hu
  have hsmall : n + m ≤ 9223372036854775807 := by simp only [maxLen] at h63; omega
  have hlen : (xs ++ news).length = (n + m) * i.size := by rw [List.length_append, hxl, hl, Nat.add_mul]
  have grown : ∀ (old : Nat), (W.drew.alloc (.cells (xs.toArray ++ news.toArray ++ Builtin.zeroCells z.cells (grownCap W (n + m) old e - (n + m))) e)).ownsRow W.heap.size e i.size (.slice (some ⟨W.heap.size, 0, none⟩) (n + m) (grownCap W (n + m) old e)) (n + m) (xs ++ news) ∧
      Below W.heap.size W (W.drew.alloc (.cells (xs.toArray ++ news.toArray ++ Builtin.zeroCells z.cells (grownCap W (n + m) old e - (n + m))) e)) := by
    intro old
    have hge := grownCap_ge W (n + m) old e
    have hcm : grownCap W (n + m) old e ≤ maxLen := grownCap_le_maxLen W (n + m) old e h63
    refine ⟨⟨hlen, .inr ⟨W.heap.size, _, _, rfl, Nat.le_refl _, heap_alloc_new W.drew _, hge, hcm, ?_, ?_⟩⟩, ⟨rfl, rfl, rfl, by simp, fun k hk => Below.heap_alloc W.drew _ k hk⟩⟩
    · simp only [Array.size_append, List.size_toArray, size_zeroCells, hzs, hxl, hl, ← Nat.add_mul]
      congr 1
      omega
    · simp only [Array.toList_append, List.append_assoc]
      rw [← List.append_assoc, ← hlen]
      exact List.take_left
  refine wpList_plain hgd fun K hK => ?_
  have key : ∃ v' w', (Builtin.append_ #[t, t] o.type #[.slice sa n n, .slice (some ⟨b, o', none⟩) m cap]).run P W = .ok v' w' ∧ w'.ownsRow W.heap.size e i.size v' (n + m) (xs ++ news) ∧ Below W.heap.size W w' := by
    cases sa with
    | none =>
      obtain ⟨a2, c2, e2, hc2, hcl⟩ := hsl
      have hn0 : n = 0 := by
        rcases Nat.eq_zero_or_pos n with h0 | h0
        · exact h0
        · obtain ⟨b2, o2, e3, _⟩ := hcl h0
          simp only [Value.slice.injEq] at e2
          rw [← e2.1] at e3
          cases e3
      subst hn0
      have hx0 : xs = [] := List.eq_nil_of_length_eq_zero (by simpa using hxl)
      subst hx0
      have hr := run_append_nil (P := P) W t o.type e i z ht hi hz0 ⟨b, o', none⟩ m cap news hl hnews (by omega) (by omega) (by have hb := hbytes; simp only [Nat.zero_add] at hb; omega)
      have hg := grown 0
      simp only [Nat.zero_add, List.nil_append, Array.empty_append] at hg ⊢
      exact ⟨_, _, hr, hg.1, hg.2⟩
    | some ad =>
      have holds : ∀ j u, xs[j]? = some u → W.cell? (ad.add j) = some u := by
        intro j u hu
        obtain ⟨a2, c2, e2, hc2, hcl⟩ := hsl
        have h0 : 0 < n := by
          rcases Nat.eq_zero_or_pos n with h0 | h0
          · subst h0
            have hx0 : xs = [] := List.eq_nil_of_length_eq_zero (by simpa using hxl)
            rw [hx0] at hu; cases hu
          · exact h0
        obtain ⟨b2, o2, e3, hat2⟩ := hcl h0
        simp only [Value.slice.injEq] at e2
        rw [← e2.1] at e3
        cases e3
        rw [addr_add_mk]
        exact hat2 j u hu
      have hr := run_append_grow (P := P) W t o.type e i z ht hi hz0 ad n n xs hxl holds ⟨b, o', none⟩ m cap news hl hnews (by omega) (by omega) (growslice_fits (by omega) hbytes)
      exact ⟨_, _, hr, (grown n).1, (grown n).2⟩
  obtain ⟨v', w', hr, h2, h3⟩ := key
  unfold Oper.wp execOp
  simp only [ho, resolve, invoke, builtin, Sem.run_bind, Sem.run_pure, Result.andThen_ok, List.map_toArray, List.map_cons, List.map_nil, hs, hx, hr]
  exact hK _ _ (h v' w' h2 h3)

variable {P : Program}
theorem run_copy_rowk (w : World) (dT sT ty elem : TypeId) (g o dLen dCap : Nat) (a : Addr) (sLen sCap k q : Nat) (cur : Array Value) (t : TypeId) (cs : List Value)
    (hu : P.underlying dT = some (.slice elem)) (hs : (P.info? elem).map (·.size) = some k)
    (hg : w.heap[g]? = some (.cells cur t (0, 0))) (hq : q = Nat.min sLen dLen) (hn : cs.length = q * k)
    (hsrc : ∀ j v, cs[j]? = some v → w.cell? (a.add j) = some v) (hfit : o + cs.length ≤ cur.size) (h1 : ∀ v ∈ cs, v.oneCell' = true) :
    (Builtin.copy_ #[dT, sT] ty #[.slice (some ⟨g, o, none⟩) dLen dCap, .slice (some a) sLen sCap]).run P w =
      .ok (goInt q) (w.setRow g (cur.toList.take o ++ cs ++ cur.toList.drop (o + cs.length)).toArray) := by
  have hl := run_loadCells_list (P := P) w a cs hsrc
  have hst := run_storeCells_at P g o t cs 0 cur w hg (by simpa using hfit) h1
  cases hqi : P.info? elem with
  | none => simp [hqi] at hs
  | some i =>
    have hi : i.size = k := by simpa [hqi] using hs
    subst hi
    rw [hn] at hl
    simp [Builtin.copy_, run_underlying hu, Builtin.lenOf, Builtin.firstCells, sizeOf, typeInfo, hqi, ← hq, hl, hst]
theorem wpList_copy_rowk {w : World} {ops : Array Oper} {rest : List Oper} {o : Oper} {a : Act} {Q : Exit → Act → World → Prop} (hgd : o.guard = none) (d s : Operand) (dT sT : TypeId)
    (ho : o.op = .call { callee := .builtin .copy, args := #[d, s], argTypes := #[dT, sT] }) (elem : TypeId) (k : Nat) (hu : P.underlying dT = some (.slice elem)) (hsz : (P.info? elem).map (·.size) = some k)
    (g off dLen dCap : Nat) (ad : Addr) (sLen sCap q : Nat) (hd : a.eval d = .slice (some ⟨g, off, none⟩) dLen dCap) (hs : a.eval s = .slice (some ad) sLen sCap)
    (cur : Array Value) (t : TypeId) (hg : w.heap[g]? = some (.cells cur t (0, 0))) (cs : List Value) (hq : q = Nat.min sLen dLen) (hn : cs.length = q * k)
    (hsrc : ∀ j v, cs[j]? = some v → w.cell? (ad.add j) = some v) (hfit : off + cs.length ≤ cur.size) (h1 : ∀ v ∈ cs, v.oneCell' = true)
    (h : ∀ w', Hid (w'.heap[g]? = some (.cells (cur.toList.take off ++ (cs ++ cur.toList.drop (off + cs.length))).toArray t (0, 0))) → w.grownBy w' (some g) → wpList P ops Q rest (a.put o.dst (goInt q)) w') : wpList P ops Q (o :: rest) a w := by
  refine wpList_plain hgd fun K hK => ?_
  have hrun := run_copy_rowk (P := P) w dT sT o.type elem g off dLen dCap ad sLen sCap k q cur t cs hu hsz hg hq hn hsrc hfit h1
  unfold Oper.wp
  simp [execOp, ho, resolve, invoke, builtin, hd, hs, hrun, Result.andThen]
  refine hK _ _ (h _ (show _ = _ from ?_) ⟨rfl, rfl, rfl, by simp [World.setRow], fun k _ hk => setRow_other w g k _ (fun e => hk (by simp [e]))⟩)
  exact setRow_heap w g cur _ t _ hg
end Go

/-
  Helpers over any program: a region walked in a round of a range over a function. Conditions: those that each theorem names.
-/
namespace Go
open Go.Sort Go.RowKit
section
variable {P : Program} {ops : Array Oper} {md : Region.Mode} {Q : Exit → Act → World → Prop} {l n : Nat}

def Region.noDefer (ops : Array Oper) : Bool := ops.all fun o => match o.op with | .defer _ => false | _ => true
theorem Region.noDefer_spec (h : Region.noDefer ops = true) {i : Nat} {o : Oper} (ho : ops[i]? = some o) : ∀ c, o.op ≠ .defer c := by
  intro c e
  simp only [Region.noDefer, Array.all_eq_true] at h
  obtain ⟨hi, rfl⟩ := Array.getElem?_eq_some_iff.1 ho
  have := h i hi
  rw [e] at this
  cases this
theorem rowsIn_of_rows {row : String} {args : Array Value} {w : World} {R : Value → World → Prop} (h : Rows P row args w R) : RowsIn (Fence.wide.inRound l) n P row args w R := fun c cs _ => let ⟨v, w', r, s⟩ := h c cs; ⟨v, w', r, stepsIn_wide.2 s⟩
theorem wpIn_of_oper {o : Oper} {a : Act} {w : World} {K K' : Act → World → Prop} (hd : ∀ c, o.op ≠ .defer c) (_hQ : ¬ LetsOut Q) (hK : ∀ a w, K a w → K' a w) (h : o.wp P a w K Q) : o.wpIn (Fence.wide.inRound l) n P a w K' Q := by
  refine ⟨fun _ _ => trivial, ?_⟩
  rw [Fence.inRound_round, Oper.semAt_some l _ o hd]
  unfold Oper.wp at h
  generalize (execOp a.eval o).run P w = r at *
  cases r with
  | ok nx w' =>
    cases nx <;> simp only [Oper.upon, Oper.uponIn] at h ⊢
    case value u => exact hK _ _ h
    case skip => exact hK _ _ h
    case defer d => exact hK _ _ h
    case enter f args =>
      refine ⟨fun hf => by simp [Fence.wide] at hf, ?_⟩
      refine CallsIn.inRound l (callsIn_wide.2 (Calls.mono h fun e w'' he => ?_))
      cases e with
      | returned u => exact hK _ _ he
      | panicked c => exact he
      | outgrown => exact he
    case row row args =>
      refine ⟨fun hf => by simp [Fence.wide] at hf, ?_⟩
      exact rowsIn_of_rows (Rows.mono h fun u w'' he => hK _ _ he)
  | halt x w' =>
    cases x <;> simp only [Oper.upon, Oper.uponIn] at h ⊢
    case panic u => exact h
theorem wpOpIn_of {i : Nat} {a : Act} {w : World} {K K' : Act → World → Prop} (hd : Region.noDefer ops = true) (hQ : ¬ LetsOut Q) (hK : ∀ a w, K a w → K' a w) (h : wpOp P ops Q i K a w) : wpOpIn (Fence.wide.inRound l) n P ops Q i K' a w := by
  unfold wpOp at h
  unfold wpOpIn
  split
  · rename_i h0; simp only [h0] at h; exact hK _ _ h
  · rename_i o h0
    simp only [h0] at h
    split
    · rename_i hw
      simp only [hw, if_true] at h
      rcases h with h | ⟨_, h⟩
      · exact wpIn_of_oper (Region.noDefer_spec hd h0) hQ hK h
      · exact absurd h hQ
    · rename_i hw
      simp only [hw] at h
      exact ⟨fun _ _ => trivial, hK _ _ h⟩
theorem wpAnyIn_of (hd : Region.noDefer ops = true) (hQ : ¬ LetsOut Q) : ∀ (fuel : Nat) (listed : Array Bool) (a : Act) (w : World), wpAny P md ops Q fuel listed a w → wpAnyIn (Fence.wide.inRound l) n P md ops Q fuel listed a w
  | 0, _, _, _, h => h
  | fuel + 1, _listed, _a, _w, h => ⟨h.1, fun i hi => wpOpIn_of hd hQ (fun a' w' h' => wpAnyIn_of hd hQ fuel _ a' w' h') (h.2 i hi)⟩
/-- A region that draws its order, walked in one order, in a round. -/
theorem wpIn_region_mixedT (M : Nat → Prop) {id : Nat} {a : Act} {w : World} {l : List Oper} {lo nn : Nat} (n : Nat) (r : List (Nat × Bool)) (hm : P.follows .mixedOrders = true) (hB : Region.mixedB .any l.toArray n r = true) (hd0 : Region.noDefer l.toArray = true) (hQ0 : ¬ LetsOut Q)
    (h : wpMT P l.toArray M w Q (l.drop n) r a w) : (Code.region id l.toArray true).wpIn (Fence.wide.inRound lo) nn P Q a w := by
  simp only [Region.mixedB, Bool.and_eq_true, decide_eq_true_eq, Bool.or_eq_true] at hB
  obtain ⟨⟨⟨⟨hsel, hn⟩, hrl⟩, hs⟩, hmix⟩ := hB
  have hdl : (l.drop n).length = l.toArray.size - n := by simp
  have hw : TailWaits .any l.toArray n := by
    rcases hs with hs | ⟨hs, hc⟩
    · intro listed _ i _ _ t ht hr
      obtain ⟨_, o, ho, _⟩ := mem_ready.1 hr
      have := (Array.getElem?_eq_some_iff.1 ho).1
      omega
    · intro listed inv i hi hun t ht
      by_cases hn' : n < l.toArray.size
      · exact tail_waits hs hc hn' inv _ i rfl hi hun t ht
      · intro hr
        obtain ⟨_, o, ho, _⟩ := mem_ready.1 hr
        have := (Array.getElem?_eq_some_iff.1 ho).1
        omega
  have inv0 : HeadInv .any l.toArray n (Array.replicate l.toArray.size false) :=
    ⟨by simp, fun j oj _ hl => (by rw [getD_replicate_false] at hl; cases hl), fun t _ ht => getD_in (by simpa using ht) (getD_replicate_false _ _)⟩
  have H := wpAM_mixT (md := .any) (g := l.toArray.size - n) hsel hw r _ a w inv0 hmix h
  refine wpIn_region_any hm (wpAnyIn_of hd0 hQ0 _ _ _ _ ?_)
  have hd : Below w.heap.size w { w with drawn := w.drawn + 1 } := ⟨rfl, rfl, rfl, Nat.le_refl _, fun _ _ => rfl⟩
  have hdT : Turn M w { w with drawn := w.drawn + 1 } := Turn.of_below hd
  have := wpAny_of_AMT (Q := Q) (g := l.toArray.size - n) (fun listed a' wc w' h1 h2 hL => by
    have := wpAny_of_seq (md := .any) (Q' := Q) (l.drop n) n listed a' w' (fun j => by simp [List.getElem?_drop]) (by rw [hdl]; exact hL.1) (hL.2 w' h1 h2)
    rwa [hdl] at this) _ _ _ _ _ hd hdT H
  rw [hrl, show n + (l.toArray.size - n) = l.toArray.size by omega] at this
  exact this


/-- How the body of a round ends. -/
def roundEnd (l : Nat) (rc : LoopState → Option Code → Loop) (R : Ending → World → Prop) : Exit → Act → World → Prop
  | .normal, _, W => W.heap[l]? = some (.loop (rc .busy none)) ∧ R (.returned (.bool true)) (W.putObj l (.loop (rc .ready none)))
  | .ret, _, W => W.heap[l]? = some (.loop (rc .busy none)) ∧ R (.returned (.bool false)) (W.putObj l (.loop (rc .done (some .ret))))
  | _, _, _ => False
/-- A range over a function, outermost, its rounds ending or returning; the iterator's own state may lie in cells. -/
theorem wpIn_range_wide {g : Operand} {ps : Array Tmp} {assign body : Code} {a : Act} {w : World} {nn : Nat} (hn : 1 ≤ nn) {gf : Nat} {lb : Array Value} (hg : a.eval g = .func (.func gf) #[] lb)
    (eg : ∀ args w, (callFunc gf args).run P w = .ok (.enter gf args) w) (Done Left : (LoopState → Option Code → Loop) → World → Prop)
    (hcall : ∀ (rc : LoopState → Option Code → Loop),
      (∀ (W : World) (args : Array Value) (R : Ending → World → Prop), W.heap[w.heap.size + 1]? = some (.loop (rc .ready none)) → args.size = ps.size →
        assign.wpIn (Fence.wide.inRound (w.heap.size + 1)) (nn - 1 - 1) P (Exit.then (fun a1 W1 => W1.heap[w.heap.size + 1]? = some (.loop (rc .ready none)) ∧
          body.wpIn (Fence.wide.inRound (w.heap.size + 1)) (nn - 1 - 1) P (roundEnd (w.heap.size + 1) rc R) a1 (W1.putObj (w.heap.size + 1) (.loop (rc .busy none)))) (fun _ _ _ => False))
          { tmps := (ps.zip args).foldl (fun t (p, v) => t.setIfInBounds p v) a.tmps, defers := [] } W →
        YieldAt Fence.wide (nn - 1 - 1) P (w.heap.size + 1) args W R) →
      CallsIn Fence.wide (nn - 1) P gf (#[.func (.yield (w.heap.size + 1)) #[] #[]] ++ lb) ((w.alloc (.deferred (some []))).alloc (.loop (rc .ready none))) fun e W2 =>
        (∃ v, e = .returned v) ∧ ((Done rc W2 ∧ W2.heap[w.heap.size + 1]? = some (.loop (rc .ready none))) ∨ (Left rc W2 ∧ W2.heap[w.heap.size + 1]? = some (.loop (rc .done (some .ret))))))
    (hdone : ∀ rc W o, Done rc W → W.heap[w.heap.size + 1]? = some (.loop (rc .ready none)) → Q .normal { a with defers := { target := .collected w.heap.size, args := #[] } :: a.defers } (W.putObj (w.heap.size + 1) (.loop o)))
    (hleft : ∀ rc W o, Left rc W → W.heap[w.heap.size + 1]? = some (.loop (rc .done (some .ret))) → Code.ret.wpIn Fence.wide nn P Q { a with defers := { target := .collected w.heap.size, args := #[] } :: a.defers } (W.putObj (w.heap.size + 1) (.loop o))) :
    (Code.rangeFunc g ps assign body).wpIn Fence.wide nn P Q a w := by
  refine wpIn_rangeFunc ?_
  intro fn hfn
  rw [show Fence.wide.round = none from rfl]
  obtain ⟨rc, hrc⟩ : ∃ rc : LoopState → Option Code → Loop, rc = fun st pe => { state := st, pending := pe, fn, tmps := a.tmps, params := ps, assign, body, defers := w.heap.size } := ⟨_, rfl⟩
  have hc := hcall rc (fun W args R hl hs hw => by
    have hy := run_yield (P := P) (args := args) hl (by rw [hrc]; exact hs)
    rw [hrc] at hy
    refine ⟨fn, _, assign, body, hy, roundIn_of_wpIn hfn ?_⟩
    refine wpIn_mono hw ?_
    rintro e a1 W1 h1
    cases e with
    | normal =>
      obtain ⟨hl1, hb⟩ := h1
      have hb1 := run_beginRound (P := P) hl1 (by rw [hrc])
      have e1 : ({ rc .ready none with state := .busy } : Loop) = rc .busy none := by rw [hrc]
      rw [e1] at hb1
      refine ⟨_, hb1, wpIn_mono hb ?_⟩
      rintro e a3 W3 h3
      cases e with
      | normal =>
        obtain ⟨hl3, hR⟩ := h3
        have := run_endRound (P := P) none hl3
        have e2 : ({ rc .busy none with state := if (none : Option Code).isNone then .ready else .done, pending := none } : Loop) = rc .ready none := by rw [hrc]; rfl
        rw [e2] at this
        exact ⟨_, _, this, hR⟩
      | ret =>
        obtain ⟨hl3, hR⟩ := h3
        have := run_endRound (P := P) (some .ret) hl3
        have e2 : ({ rc .busy none with state := if (some Code.ret).isNone then .ready else .done, pending := some .ret } : Loop) = rc .done (some .ret) := by rw [hrc]; rfl
        rw [e2] at this
        exact ⟨_, _, this, hR⟩
      | exit id => exact h3.elim
      | goto t => exact h3.elim
      | panic c => exact h3.elim
      | outgrown => exact h3.elim
    | exit id => exact h1.elim
    | goto t => exact h1.elim
    | ret => exact h1.elim
    | panic c => exact h1.elim
    | outgrown => exact h1.elim)
  refine ⟨w.heap.size + 1, [{ target := .collected w.heap.size, args := #[] }], (w.alloc (.deferred (some []))).alloc (.loop (rc .ready none)), { target := .fn (.func gf) lb, args := #[.func (.yield (w.heap.size + 1)) #[] #[]] }, (w.alloc (.deferred (some []))).alloc (.loop (rc .ready none)), gf,
    #[.func (.yield (w.heap.size + 1)) #[] #[]] ++ lb, (w.alloc (.deferred (some []))).alloc (.loop (rc .ready none)), ?_, ?_, ?_, ?_, fun _ => hn, ?_⟩
  · rw [hrc]; exact run_enterLoop_outer _ _ _ _ _
  · simp only [resolve, hg]
    simp [go_sem]
  · intro f' _; exact trivial
  · simp [invoke, go_sem, eg]
  · refine hc.mono ?_
    rintro e W2 ⟨⟨v, rfl⟩, (⟨hD, hl⟩ | ⟨hL, hl⟩)⟩
    · exact ⟨none, _, by have := run_endLoop (P := P) hl (by rw [hrc]; simp); rw [hrc] at this; exact this, hdone rc _ _ hD hl⟩
    · exact ⟨some .ret, _, by have := run_endLoop (P := P) hl (by rw [hrc]; simp); rw [hrc] at this; exact this, hleft rc _ _ hL hl⟩
theorem Turn.putObj (W : World) (l : Nat) (o : Obj) : Turn (fun k => k = l) W (W.putObj l o) := ⟨rfl, rfl, rfl, by simp, fun _ _ hk => World.putObj_heap_other hk⟩
theorem St.turned {w W W' : World} {L : List Blk} {M : Nat → Prop} (h : St w W L) (k : Turn M W W') (hM : ∀ i, M i → w.heap.size ≤ i) (ha : ∀ x ∈ L, ¬ M x.1) : St w W' L :=
  ⟨⟨k.os.trans h.below.os, k.tape.trans h.below.tape, k.output.trans h.below.output, Nat.le_trans h.below.size k.size, fun i hi => (k.block i (Nat.lt_of_lt_of_le hi h.below.size) (fun hm => by have := hM i hm; omega)).trans (h.below.block i hi)⟩,
    fun x hx => ⟨(h.own x hx).1, (k.block x.1 (Array.getElem?_eq_some_iff.1 (h.own x hx).2).1 (ha x hx)).trans (h.own x hx).2⟩, h.apart⟩
theorem St.sub {w W : World} {L L' : List Blk} (h : St w W L) (hs : L'.Sublist L) : St w W L' := ⟨h.below, fun x hx => h.own x (hs.subset hx), h.apart.sublist (hs.map _)⟩
theorem St.genIn {F : Fence} {nn : Nat} {c : Code} {a : Act} {w0 w : World} {L : List Blk} (h : St w0 w L) (k : ∀ W, Hid (St w0 W L) → Code.wpIn F nn P c Q a W) : Code.wpIn F nn P c Q a w := k w h
end
end Go

/-
  Helpers over any program: a struct loaded, stored and built as a whole, under a name. Conditions: those that each theorem names.
-/
namespace Go
open Go.Sort Go.RowKit

theorem heap_setRow_same {w : World} {b : Nat} {cs old : Array Value} {t : TypeId} {fr : Nat × Nat} (h : w.heap[b]? = some (.cells old t fr)) : (w.setRow b cs).heap[b]? = some (.cells cs t fr) := by
  simp [World.setRow, Array.getElem?_modify, h]
theorem heap_setRow_other {w : World} {b k : Nat} {cs : Array Value} (h : k ≠ b) : (w.setRow b cs).heap[k]? = w.heap[k]? := by
  simp [World.setRow, Array.getElem?_modify, Ne.symm h]
theorem Turn.setRow {M : Nat → Prop} {w w' : World} (h : Turn M w w') {b : Nat} {cs : Array Value} (hb : M b ∨ w.heap.size ≤ b) : Turn M w (w'.setRow b cs) :=
  ⟨h.os, h.tape, h.output, by have := h.size; simp [World.setRow]; omega, fun k hk hm => by
    rw [heap_setRow_other (fun e => by subst e; rcases hb with hb | hb; exact hm hb; omega)]
    exact h.block k hk hm⟩
theorem StM.row {M : Nat → Prop} {w0 w : World} {L : List Blk} (i : Nat) {b : Nat} {cs : Array Value} {t : TypeId} (vs : Array Value) (h : StM M w0 w L) (hi : L[i]? = some (b, cs, t)) : StM M w0 (w.setRow b vs) (L.set i (b, vs, t)) := by
  have ho := h.own _ (List.mem_of_getElem? hi)
  refine ⟨h.turn.setRow ho.1, fun x hx => ?_, ?_⟩
  · obtain ⟨j, hj⟩ := List.mem_iff_getElem?.1 hx
    rw [List.getElem?_set] at hj
    split at hj
    · split at hj
      · cases hj; exact ⟨ho.1, heap_setRow_same ho.2⟩
      · cases hj
    · rename_i hne
      have hox := h.own x (List.mem_of_getElem? hj)
      exact ⟨hox.1, by rw [heap_setRow_other (Ne.symm (nodup_idx h.apart hi hj hne))]; exact hox.2⟩
  · have e : (L.set i (b, vs, t)).map (·.1) = L.map (·.1) := by
      rw [List.map_set]
      have h1 : (L.map (·.1))[i]? = some b := by simp [hi]
      apply List.ext_getElem?
      intro j
      rw [List.getElem?_set]
      split
      · rename_i e; subst e; rw [h1, if_pos (by simpa using (List.getElem?_eq_some_iff.1 hi).1)]
      · rfl
    rw [e]; exact h.apart
theorem StM.toSt {w W : World} {L : List Blk} {M : Nat → Prop} (h : StM M w W L) (hM : ∀ k, k < w.heap.size → ¬ M k) (hL : ∀ x ∈ L, w.heap.size ≤ x.1) : St w W L :=
  ⟨⟨h.turn.os, h.turn.tape, h.turn.output, h.turn.size, fun k hk => h.turn.block k hk (hM k hk)⟩, fun x hx => ⟨hL x hx, (h.own x hx).2⟩, h.apart⟩
theorem St.toM {w W : World} {L : List Blk} (M : Nat → Prop) (h : St w W L) : StM M w W L := ⟨Turn.of_below h.below, fun x hx => ⟨.inr (h.own x hx).1, (h.own x hx).2⟩, h.apart⟩
theorem St.row {w0 w : World} {L : List Blk} (i : Nat) {b : Nat} {cs : Array Value} {t : TypeId} (vs : Array Value) (h : St w0 w L) (hi : L[i]? = some (b, cs, t)) : St w0 (w.setRow b vs) (L.set i (b, vs, t)) := by
  refine StM.toSt (StM.row i vs (St.toM (fun _ => False) h) hi) (fun k _ h => h) (fun x hx => ?_)
  obtain ⟨j, hj⟩ := List.mem_iff_getElem?.1 hx
  rw [List.getElem?_set] at hj
  split at hj
  · split at hj
    · cases hj; exact (h.own _ (List.mem_of_getElem? hi)).1
    · cases hj
  · exact (h.own x (List.mem_of_getElem? hj)).1
section
variable {P : Program} {ops : Array Oper} {rest : List Oper} {o : Oper} {a : Act} {w : World} {Q : Exit → Act → World → Prop}
theorem wpList_load_rowW (hw : Region.wanted o (yielded ops a.tmps) = true) (ty : TypeId) (x : Operand) (ho : o.op = .load ty x)
    (g : Nat) (hx : a.eval x = .pointer (some ⟨g, 0, none⟩)) (t : TypeId) (cs : Array Value) (fr : Nat × Nat) (d : TypeDesc) (hg : w.heap[g]? = some (.cells cs t fr))
    (hu : P.underlying ty = some d) (hd : (match d with | .struct _ | .array _ _ => true | _ => false) = true) (hi : (P.info? ty).map (·.size) = some cs.size)
    (h : wpList P ops Q rest (a.put o.dst (.agg cs)) w) : wpList P ops Q (o :: rest) a w :=
  BigFrame.wpList_want hw fun _ hK => wp_load_row ty x ho g hx t cs fr d hg hu hd hi (hK _ _ h)
theorem wpList_build_row (hg : o.guard = none) (t : TypeId) (parts : Array (Nat × Operand)) (ho : o.op = .build t parts) (cs : Array Value)
    (hf : P.built t (parts.map fun (i, x) => (i, a.eval x)).toList = some cs)
    (h : wpList P ops Q rest (a.put o.dst (.agg cs)) w) : wpList P ops Q (o :: rest) a w := by
  refine wpList_build hg t parts ho (by rw [hf]; rfl) ?_
  rw [hf]; exact h
end
end Go

/-
  Helpers over any program: a struct loaded as a whole in a region that draws. Conditions: those that each theorem names.
-/
namespace Go
open Go.Sort Go.RowKit
section
variable {P : Program} {ops : Array Oper} {rest : List Oper} {o : Oper} {a : Act} {w : World} {Q : Exit → Act → World → Prop}
theorem mildT_load_row {M : Nat → Prop} {w0 : World} {next : Act → Prop} (ty : TypeId) (x : Operand) (ho : o.op = .load ty x)
    (g : Nat) (hx : a.eval x = .pointer (some ⟨g, 0, none⟩)) (t : TypeId) (cs : Array Value) (fr : Nat × Nat) (d : TypeDesc) (hg : ∀ p : TurnW M w0, p.w.heap[g]? = some (.cells cs t fr))
    (hu : P.underlying ty = some d) (hd : (match d with | .struct _ | .array _ _ => true | _ => false) = true) (hi : (P.info? ty).map (·.size) = some cs.size)
    (h : next (a.put o.dst (.agg cs))) : o.mildT P a M w0 next := by
  refine ⟨.agg cs, ?_, h⟩
  rintro w ⟨p, rfl⟩
  unfold Oper.mildAt execOp
  simp only [ho, hx, Instr.loadAt, Instr.sureAddr, Sem.run_bind, Sem.run_pure, Result.andThen_ok, run_loadVar_row p.w g t ty cs fr d (hg p) hu hd hi, Oper.mildUpon, and_self]
theorem wpM_load_rowT {M : Nat → Prop} {w0 wc : World} {l : List Oper} {tail : List Oper} {k : Nat} {r : List (Nat × Bool)} (hk : l[k]? = some o) (hw : Region.wanted o (yielded l.toArray a.tmps) = true) (ty : TypeId) (x : Operand) (ho : o.op = .load ty x)
    (g : Nat) (hx : a.eval x = .pointer (some ⟨g, 0, none⟩)) (t : TypeId) (cs : Array Value) (fr : Nat × Nat) (d : TypeDesc) (hg : ∀ p : TurnW M w0, p.w.heap[g]? = some (.cells cs t fr))
    (hu : P.underlying ty = some d) (hd : (match d with | .struct _ | .array _ _ => true | _ => false) = true) (hi : (P.info? ty).map (·.size) = some cs.size)
    (h : wpMT P l.toArray M w0 Q tail r (a.put o.dst (.agg cs)) wc) : wpMT P l.toArray M w0 Q tail ((k, false) :: r) a wc :=
  wpM_mildT hk (fun K hK => by rw [if_pos hw]; exact mildT_load_row ty x ho g hx t cs fr d hg hu hd hi (hK _ h))
theorem turnW_block {M : Nat → Prop} {w0 : World} (p : TurnW M w0) {k : Nat} {o : Obj} (h : w0.heap[k]? = some o) (hM : ¬ M k) : p.w.heap[k]? = some o := (p.h.block k (Array.getElem?_eq_some_iff.1 h).1 hM).trans h
end
end Go
