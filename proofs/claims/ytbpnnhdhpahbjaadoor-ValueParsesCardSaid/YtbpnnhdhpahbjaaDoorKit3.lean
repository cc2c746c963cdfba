/-
  Helpers over any program: A REGION THAT DRAWS ITS ORDER, walked once, in one order, where its operations are of three kinds: mild ones (each yields one value in every world that has grown out of the first; a call among them lays blocks at most), effects (each is, when it comes up, the only one that can), and a forced tail. The order in which they are walked is given; a Bool over the region's own edges shows that it serves every order. No conditions beside those that each theorem names.
-/
import Derived.Test.YtbpnnhdhpahbjaaDoorKit2
namespace Go
open Go.Sort Go.RowKit
section
variable {P : Program} {ops : Array Oper} {md : Region.Mode} {w0 : World} {Q : Exit → Act → World → Prop}

/-- Nothing that was there has turned; blocks may have been laid. (Under a name of its own, so that the walk does not rewrite the heap's size.) -/
def Laid (w w' : World) : Prop := Below w.heap.size w w'
/-- What a mild operation may come to in the world w: this value; or a call that hands it back and lays blocks at most. -/
def Oper.mildUpon (P : Program) (w : World) (v : Value) : Result Next → Prop
  | .ok (.value u) w' => w' = w ∧ u = v
  | .ok .skip w' => w' = w ∧ v = undef
  | .ok (.enter f args) w' => w' = w ∧ Calls P f args w (fun e w'' => e = .returned v ∧ Laid w w'')
  | _ => False
def Oper.mildAt (P : Program) (o : Oper) (a : Act) (w : World) (v : Value) : Prop := Oper.mildUpon P w v ((execOp a.eval o).run P w)
/-- One value, in every world that has grown out of w0. -/
def Oper.mild (P : Program) (o : Oper) (a : Act) (w0 : World) (next : Act → Prop) : Prop := ∃ v, (∀ w, (∃ p : Regrown, w = grow (redrawn w0 p.d) p.os) → o.mildAt P a w v) ∧ next (a.put o.dst v)
/-- No panic; the way out of memory alone. -/
def calm (Q : Exit → Act → World → Prop) : Exit → Act → World → Prop := fun e a w => e = .outgrown ∧ Q .outgrown a w

theorem calm_le (Q : Exit → Act → World → Prop) (e : Exit) (a : Act) (w : World) (h : calm Q e a w) : Q e a w := by obtain ⟨rfl, h⟩ := h; exact h
theorem LetsOut.of_calm (h : LetsOut (calm Q)) : LetsOut Q := by obtain ⟨a, w, h⟩ := h; exact ⟨a, w, h.2⟩

theorem Oper.wp_calm {o : Oper} {a : Act} {w : World} {K K' : Act → World → Prop} (h : ∀ a w, K a w → K' a w) (hh : o.wp P a w K (calm Q)) : o.wp P a w K' Q := by
  unfold Oper.wp at *
  generalize (execOp a.eval o).run P w = r at *
  cases r with
  | ok n w' =>
    cases n <;> simp only [Oper.upon] at hh ⊢ <;>
      first
        | exact h _ _ hh
        | exact Calls.mono hh (fun e w'' he => by cases e <;> first | exact h _ _ he | exact calm_le _ _ _ _ he | exact LetsOut.of_calm he)
        | exact Rows.mono hh (fun _ _ he => h _ _ he)
  | halt x w' => cases x <;> simp only [Oper.upon] at hh ⊢ <;> first | exact calm_le _ _ _ _ hh | exact hh

/-- Operation number i comes up: a mild one, or an effect in whatever world has grown out of the last effect's. -/
def mOp (P : Program) (ops : Array Oper) (w0 : World) (Q : Exit → Act → World → Prop) (i : Nat) (K : Act → World → Prop) (a : Act) (wc : World) : Prop :=
  match ops[i]? with
  | none => False
  | some o => if Region.wanted o (yielded ops a.tmps) then (o.mild P a w0 (fun a' => K a' wc)) ∨ (∀ w, Below wc.heap.size wc w → Below w0.heap.size w0 w → (o.wp P a w (fun a' w' => Below w0.heap.size w0 w' ∧ K a' w') (calm Q) ∨ (o.asks P a w ∧ LetsOut Q))) else K (a.put o.dst undef) wc

theorem mOp_mono {i : Nat} {a : Act} {wc : World} {K K' : Act → World → Prop} (h : ∀ a w, K a w → K' a w) (hh : mOp P ops w0 Q i K a wc) : mOp P ops w0 Q i K' a wc := by
  unfold mOp at *
  split
  · simp_all
  · rename_i o ho
    simp only [ho] at hh
    split
    · rename_i hw
      simp only [hw, if_true] at hh
      rcases hh with ⟨v, h1, h2⟩ | hh
      · exact .inl ⟨v, h1, h _ _ h2⟩
      · exact .inr fun w h1 h2 => (hh w h1 h2).imp (Oper.wp_mono fun a w h3 => ⟨h3.1, h _ _ h3.2⟩) id
    · rename_i hw; simp only [hw] at hh; exact h _ _ hh

theorem wpOp_of_mOp {i : Nat} {a : Act} {wc w : World} {K K' : Act → World → Prop} (h1 : Below wc.heap.size wc w) (h2 : Below w0.heap.size w0 w)
    (h : ∀ a wc' w', Below wc'.heap.size wc' w' → Below w0.heap.size w0 w' → K a wc' → K' a w') (hh : mOp P ops w0 Q i K a wc) : wpOp P ops Q i K' a w := by
  unfold mOp at hh
  unfold wpOp
  split
  · simp_all
  · rename_i o ho
    simp only [ho] at hh
    split
    · rename_i hw
      simp only [hw, if_true] at hh
      rcases hh with ⟨v, h3, h4⟩ | hh
      · have h5 := h3 w (regrown_of_below h2)
        refine .inl ?_
        unfold Oper.mildAt at h5
        unfold Oper.wp
        generalize (execOp a.eval o).run P w = r at *
        cases r with
        | ok n w' =>
          cases n <;> simp only [Oper.mildUpon] at h5 <;> simp only [Oper.upon]
          case value u => obtain ⟨e1, e2⟩ := h5; rw [e1, e2]; exact h _ _ _ h1 h2 h4
          case skip => obtain ⟨e1, e2⟩ := h5; rw [e1, ← e2]; exact h _ _ _ h1 h2 h4
          case enter f args =>
            obtain ⟨e1, hc⟩ := h5
            rw [e1]
            exact hc.mono fun e w'' ⟨he, hw''⟩ => by subst he; exact h _ _ _ (h1.step hw'') (h2.step hw'') h4
        | halt x w' => simp only [Oper.mildUpon] at h5
      · exact (hh w h1 h2).imp (Oper.wp_calm fun a' w' h3 => h _ _ _ (Below.refl _ _) h3.1 h3.2) id
    · rename_i hw; simp only [hw] at hh; exact h _ _ _ h1 h2 hh

def YM (P : Program) (ops : Array Oper) (w0 : World) (o : Oper) (v : Value) (a : Act) : Prop :=
  (Region.wanted o (yielded ops a.tmps) = true ∧ ∀ w, (∃ p : Regrown, w = grow (redrawn w0 p.d) p.os) → o.mildAt P a w v) ∨ (Region.wanted o (yielded ops a.tmps) = false ∧ v = undef)
theorem YM.mOp {i : Nat} {o : Oper} {v : Value} {a : Act} (hi : ops[i]? = some o) (hy : YM P ops w0 o v a) {K : Act → World → Prop} {wc : World} (h : K (a.put o.dst v) wc) : mOp P ops w0 Q i K a wc := by
  unfold Go.mOp
  simp only [hi]
  rcases hy with ⟨hw, hv⟩ | ⟨hw, rfl⟩
  · simp only [hw, if_true]; exact .inl ⟨v, hv, h⟩
  · simp only [hw, Bool.false_eq_true, if_false]; exact h
theorem YM.of_same {o : Oper} {v : Value} {a a' : Act} (hy : YM P ops w0 o v a) (he : execOp a'.eval o = execOp a.eval o)
    (hw : Region.wanted o (yielded ops a'.tmps) = Region.wanted o (yielded ops a.tmps)) : YM P ops w0 o v a' := by
  unfold YM Oper.mildAt at *
  rw [he, hw]
  exact hy

theorem mOp_put {j : Nat} {oi oj : Oper} {v : Value} (hj : ops[j]? = some oj) (hap : oi.apart ops oj = true)
    (hsi : ∀ cs b, oi.op ≠ .select cs b) (hsj : ∀ cs b, oj.op ≠ .select cs b) {K : Act → World → Prop} {a : Act} {wc : World}
    (hy : YM P ops w0 oi v a) (h : mOp P ops w0 Q j K (a.put oi.dst v) wc) :
    mOp P ops w0 Q j (fun a' wc' => YM P ops w0 oi v a' ∧ K (a'.put oi.dst v) wc') a wc := by
  obtain ⟨h1, h2, h3⟩ := Oper.apart_spec hap
  have keep : ∀ (a : Act), YM P ops w0 oi v a → ∀ u, YM P ops w0 oi v (a.put oj.dst u) := fun a hy u =>
    hy.of_same (execOp_put oi hsi a oj.dst u h3) (wanted_put oi a oj.dst u h3)
  have keepD : ∀ d, YM P ops w0 oi v { a with defers := d :: a.defers } := fun d => hy.of_same rfl rfl
  unfold mOp at *
  simp only [hj] at *
  rw [wanted_put oj a oi.dst v h1] at h
  split
  · rename_i hw
    simp only [hw, if_true] at h
    rcases h with ⟨u, hu, hn⟩ | h
    · refine .inl ⟨u, fun w hw' => ?_, keep a hy u, by rw [← Act.put_comm a v u h2]; exact hn⟩
      have := hu w hw'
      unfold Oper.mildAt at *
      rwa [execOp_put oj hsj a oi.dst v h1] at this
    · refine .inr fun w hw1 hw2 => ?_
      rcases h w hw1 hw2 with h | ⟨hasks, hlets⟩
      case inr => exact .inr ⟨by unfold Oper.asks at *; rw [execOp_put oj hsj a oi.dst v h1] at hasks; exact hasks, hlets⟩
      refine .inl ?_
      unfold Oper.wp at *
      rw [execOp_put oj hsj a oi.dst v h1] at h
      generalize (execOp a.eval oj).run P w = r at *
      cases r with
      | ok n w' =>
        cases n <;> simp only [Oper.upon] at h ⊢
        case value u => exact ⟨h.1, keep a hy u, by rw [← Act.put_comm a v u h2]; exact h.2⟩
        case skip => exact ⟨h.1, keep a hy _, by rw [← Act.put_comm a v undef h2]; exact h.2⟩
        case defer d =>
          refine ⟨h.1, keep _ (keepD d) _, ?_⟩
          rw [← Act.put_comm _ v undef h2, ← Act.put_defers]
          exact h.2
        case enter f args =>
          refine Calls.mono h fun e w'' he => ?_
          cases e with
          | returned u => exact ⟨he.1, keep a hy u, by rw [← Act.put_comm a v u h2]; exact he.2⟩
          | panicked c => exact absurd he.1 (by simp)
          | outgrown => exact he
        case row row args => exact Rows.mono h fun u w'' he => ⟨he.1, keep a hy u, by rw [← Act.put_comm a v u h2]; exact he.2⟩
      | halt x w' =>
        cases x <;> simp only [Oper.upon] at h ⊢
        case panic u => exact absurd h.1 (by simp)
  · rename_i hw
    simp only [hw] at h
    exact ⟨keep a hy _, by rw [← Act.put_comm a v undef h2]; exact h⟩

/-- Whatever order is picked among the operations ahead of the tail; behind them 'L'. -/
def wpAM (P : Program) (md : Region.Mode) (ops : Array Oper) (w0 : World) (Q : Exit → Act → World → Prop) (n : Nat) (L : Array Bool → Act → World → Prop) : Nat → Array Bool → Act → World → Prop
  | 0, listed, a, wc => L listed a wc
  | f + 1, listed, a, wc =>
    Region.ready md ops listed ≠ [] ∧ ∀ i ∈ Region.ready md ops listed, i < n ∧ mOp P ops w0 Q i (wpAM P md ops w0 Q n L f (listed.setIfInBounds i true)) a wc

theorem wpAny_of_AM {n g : Nat} {L : Array Bool → Act → World → Prop} (hL : ∀ listed a wc w, Below wc.heap.size wc w → Below w0.heap.size w0 w → L listed a wc → wpAny P md ops Q g listed a w) :
    ∀ (f : Nat) (listed : Array Bool) (a : Act) (wc w : World), Below wc.heap.size wc w → Below w0.heap.size w0 w → wpAM P md ops w0 Q n L f listed a wc → wpAny P md ops Q (f + g) listed a w
  | 0, listed, a, wc, w, h1, h2, h => by rw [Nat.zero_add]; exact hL _ _ _ _ h1 h2 h
  | f + 1, listed, a, wc, w, h1, h2, h => by
    rw [show f + 1 + g = (f + g) + 1 by omega]
    exact ⟨fun h0 => absurd h0 h.1, fun i hi => wpOp_of_mOp h1 h2 (fun a' wc' w' h3 h4 h5 => wpAny_of_AM hL f _ a' wc' w' h3 h4 h5) (h.2 i hi).2⟩

/-- No operation of the tail can come up while one ahead of it has not. -/
def TailWaits (md : Region.Mode) (ops : Array Oper) (n : Nat) : Prop := ∀ (listed : Array Bool), HeadInv md ops n listed → ∀ i, i < n → listed.getD i true = false → ∀ t, n ≤ t → t ∉ Region.ready md ops listed

theorem wpAM_first {n i : Nat} {oi : Oper} {v : Value} {L : Array Bool → Act → World → Prop} (hi : ops[i]? = some oi) (hsel : ∀ (j : Nat) (o : Oper) cs b, ops[j]? = some o → o.op ≠ .select cs b)
    (hw : TailWaits md ops n) (hin : i < n)
    (hdone : ∀ listed a wc, L listed a wc → ∀ j ∈ Region.ready md ops listed, n ≤ j) :
    ∀ (f : Nat) (listed : Array Bool) (a : Act) (wc : World), HeadInv md ops n listed →
      (∀ j oj, ops[j]? = some oj → j ≠ i → listed.getD j true = false → (∀ e ∈ oj.after, Region.binds md e = true → e.on ≠ i) → oi.apart ops oj = true) →
      i ∈ Region.ready md ops listed → YM P ops w0 oi v a →
      wpAM P md ops w0 Q n L f (listed.setIfInBounds i true) (a.put oi.dst v) wc → wpAM P md ops w0 Q n L (f + 1) listed a wc := by
  intro f
  induction f with
  | zero =>
    intro listed a wc inv _ hr hy H
    have hun := (mem_ready.1 hr).1
    refine ⟨fun h => (by rw [h] at hr; cases hr), fun j hj => ?_⟩
    have hjn : j < n := by
      rcases Nat.lt_or_ge j n with h | h
      · exact h
      · exact absurd hj (hw listed inv i hin hun j h)
    refine ⟨hjn, ?_⟩
    by_cases hji : j = i
    · subst hji; exact hy.mOp hi H
    · have := hdone _ _ _ H j (ready_mono hj hji)
      omega
  | succ f ih =>
    intro listed a wc inv hfree hr hy H
    have hun := (mem_ready.1 hr).1
    refine ⟨fun h => (by rw [h] at hr; cases hr), fun j hj => ?_⟩
    have hjn : j < n := by
      rcases Nat.lt_or_ge j n with h | h
      · exact h
      · exact absurd hj (hw listed inv i hin hun j h)
    refine ⟨hjn, ?_⟩
    by_cases hji : j = i
    · subst hji; exact hy.mOp hi H
    · have h1 := (H.2 j (ready_mono hj hji)).2
      obtain ⟨hjun, oj, hoj, hall⟩ := mem_ready.1 hj
      have hnot : ∀ e ∈ oj.after, Region.binds md e = true → e.on ≠ i := fun e he hb heq => by
        have h1 := hall e he hb
        rw [heq, getD_both hun] at h1
        cases h1
      have h2 := mOp_put hoj (hfree j oj hoj hji hjun hnot) (fun cs b => hsel i oi cs b hi) (fun cs b => hsel j oj cs b hoj) hy h1
      have hfree' : ∀ k ok, ops[k]? = some ok → k ≠ i → (listed.setIfInBounds j true).getD k true = false →
          (∀ e ∈ ok.after, Region.binds md e = true → e.on ≠ i) → oi.apart ops ok = true := fun k ok hk hki hun hno => by
        refine hfree k ok hk hki ?_ hno
        by_cases hjk : j = k
        · subst hjk; exact hjun
        · rw [getD_set_ne true hjk] at hun; exact hun
      refine mOp_mono (fun a' wc' h3 => ih (listed.setIfInBounds j true) a' wc' (inv.set hj hjn) hfree' (ready_mono hr (Ne.symm hji)) h3.1 ?_) h2
      rw [Array.setIfInBounds_comm _ _ hji]
      exact h3.2

/-- The walk: mild operations (false) and effects (true), by their numbers; then the tail. -/
def wpM (P : Program) (ops : Array Oper) (w0 : World) (Q : Exit → Act → World → Prop) (tail : List Oper) : List (Nat × Bool) → Act → World → Prop
  | [], a, wc => ∀ w, Below wc.heap.size wc w → Below w0.heap.size w0 w → wpList P ops Q tail a w
  | (k, false) :: r, a, wc => ∃ o, ops[k]? = some o ∧ if Region.wanted o (yielded ops a.tmps) then o.mild P a w0 (fun a' => wpM P ops w0 Q tail r a' wc) else wpM P ops w0 Q tail r (a.put o.dst undef) wc
  | (k, true) :: r, a, wc => ∃ o, ops[k]? = some o ∧ ∀ w, Below wc.heap.size wc w → Below w0.heap.size w0 w →
      wpList P ops (Exit.then (fun a' w' => Below w0.heap.size w0 w' ∧ wpM P ops w0 Q tail r a' w') (calm Q)) [o] a w

/-- The Bool over a region's edges: the order given serves every order. -/
def Region.mixB (md : Region.Mode) (ops : Array Oper) (g n : Nat) : List (Nat × Bool) → Array Bool → Bool
  | [], listed => Region.seqB md ops g n listed
  | (k, false) :: r, listed => (Region.ready md ops listed).contains k && Region.free md ops listed k && decide (k < n) && Region.mixB md ops g n r (listed.setIfInBounds k true)
  | (k, true) :: r, listed => decide (Region.ready md ops listed = [k]) && decide (k < n) && (match ops[k]? with | some o => o.guard.isNone | none => false) && Region.mixB md ops g n r (listed.setIfInBounds k true)

theorem wpAM_mix {n g : Nat} {tail : List Oper} (hsel : Region.noSelect ops = true) (hw : TailWaits md ops n) :
    ∀ (r : List (Nat × Bool)) (listed : Array Bool) (a : Act) (wc : World), HeadInv md ops n listed → Region.mixB md ops g n r listed = true → wpM P ops w0 Q tail r a wc →
    wpAM P md ops w0 Q n (fun listed' a' wc' => Region.seqB md ops g n listed' = true ∧ ∀ w, Below wc'.heap.size wc' w → Below w0.heap.size w0 w → wpList P ops Q tail a' w) r.length listed a wc
  | [], listed, a, wc, _, hB, h => ⟨by simpa [Region.mixB] using hB, h⟩
  | (k, false) :: r, listed, a, wc, inv, hB, h => by
    obtain ⟨o, h0, h⟩ := h
    simp only [Region.mixB, Bool.and_eq_true, decide_eq_true_eq] at hB
    obtain ⟨⟨⟨hr, hf⟩, hkn⟩, hB'⟩ := hB
    have hr' : k ∈ Region.ready md ops listed := by simpa using hr
    obtain ⟨v, hy, hK⟩ : ∃ v, YM P ops w0 o v a ∧ wpM P ops w0 Q tail r (a.put o.dst v) wc := by
      by_cases hwt : Region.wanted o (yielded ops a.tmps) = true
      · rw [if_pos hwt] at h
        obtain ⟨v, h1, h2⟩ := h
        exact ⟨v, .inl ⟨hwt, h1⟩, h2⟩
      · rw [if_neg hwt] at h
        exact ⟨undef, .inr ⟨by simpa using hwt, rfl⟩, h⟩
    exact wpAM_first h0 (Region.noSelect_spec hsel) hw hkn (fun listed' a' wc' hL => seqB_ready hL.1) r.length listed a wc inv (Region.free_spec h0 hf) hr' hy
      (wpAM_mix hsel hw r _ _ _ (inv.set hr' hkn) hB' hK)
  | (k, true) :: r, listed, a, wc, inv, hB, h => by
    obtain ⟨o, h0, h⟩ := h
    simp only [Region.mixB, Bool.and_eq_true, decide_eq_true_eq] at hB
    obtain ⟨⟨⟨hr, hkn⟩, hgd⟩, hB'⟩ := hB
    have hr' : k ∈ Region.ready md ops listed := by rw [hr]; simp
    have hgd' : o.guard = none := by rw [h0] at hgd; simpa using hgd
    refine ⟨by rw [hr]; simp, fun j hj => ?_⟩
    rw [hr] at hj
    have hjk : j = k := by simpa using hj
    subst hjk
    refine ⟨hkn, ?_⟩
    have hwt : ∀ a : Act, Region.wanted o (yielded ops a.tmps) = true := fun a => by simp [Region.wanted, hgd']
    unfold mOp
    simp only [h0, hwt a, if_true]
    refine .inr fun w h1 h2 => ?_
    have h3 := h w h1 h2
    simp only [wpList, hwt a, if_true] at h3
    rcases h3 with h3 | h3
    · refine .inl ?_
      unfold Oper.wp at *
      generalize (execOp a.eval o).run P w = r' at *
      cases r' with
      | ok nx w' =>
        cases nx <;> simp only [Oper.upon] at h3 ⊢
        case value u => exact ⟨h3.1, wpAM_mix hsel hw r _ _ _ (inv.set hr' hkn) hB' h3.2⟩
        case skip => exact ⟨h3.1, wpAM_mix hsel hw r _ _ _ (inv.set hr' hkn) hB' h3.2⟩
        case defer d => exact ⟨h3.1, wpAM_mix hsel hw r _ _ _ (inv.set hr' hkn) hB' h3.2⟩
        case enter f args =>
          refine Calls.mono h3 fun e w'' he => ?_
          cases e with
          | returned u => exact ⟨he.1, wpAM_mix hsel hw r _ _ _ (inv.set hr' hkn) hB' he.2⟩
          | panicked c => exact he
          | outgrown => obtain ⟨a1, w1, h4⟩ := he; exact ⟨a1, w1, h4⟩
        case row row args => exact Rows.mono h3 fun u w'' he => ⟨he.1, wpAM_mix hsel hw r _ _ _ (inv.set hr' hkn) hB' he.2⟩
      | halt x w' =>
        cases x <;> simp only [Oper.upon] at h3 ⊢
        case panic u => exact h3
    · obtain ⟨h3, a1, w1, h4⟩ := h3
      exact .inr ⟨h3, a1, w1, h4.2⟩

/-- The whole Bool. n: where the tail begins (the number of operations where there is none). -/
def Region.mixedB (md : Region.Mode) (ops : Array Oper) (n : Nat) (r : List (Nat × Bool)) : Bool :=
  Region.noSelect ops && decide (n ≤ ops.size) && decide (r.length = n) && (decide (n = ops.size) || (Region.sinkB md ops n && Region.chainB md ops n)) && Region.mixB md ops (ops.size - n) n r (Array.replicate ops.size false)

/-- A REGION THAT DRAWS ITS ORDER, WALKED IN ONE ORDER. -/
theorem wp_region_mixed {id : Nat} {a : Act} {w : World} {l : List Oper} (n : Nat) (r : List (Nat × Bool)) (hm : P.follows .mixedOrders = true) (hB : Region.mixedB .any l.toArray n r = true)
    (h : wpM P l.toArray w Q (l.drop n) r a w) : (Code.region id l.toArray true).wp P Q a w := by
  simp only [Region.mixedB, Bool.and_eq_true, decide_eq_true_eq, Bool.or_eq_true] at hB
  obtain ⟨⟨⟨⟨hsel, hn⟩, hrl⟩, hs⟩, hmix⟩ := hB
  have hdl : (l.drop n).length = l.toArray.size - n := by simp
  have hw : TailWaits .any l.toArray n := by
    rcases hs with hs | ⟨hs, hc⟩
    · intro listed _ i _ _ t ht hr
      obtain ⟨_, o, ho, _⟩ := mem_ready.1 hr
      have := (Array.getElem?_eq_some_iff.1 ho).1
      omega
    · intro listed inv i hi hun t ht
      by_cases hn' : n < l.toArray.size
      · exact tail_waits hs hc hn' inv _ i rfl hi hun t ht
      · intro hr
        obtain ⟨_, o, ho, _⟩ := mem_ready.1 hr
        have := (Array.getElem?_eq_some_iff.1 ho).1
        omega
  have inv0 : HeadInv .any l.toArray n (Array.replicate l.toArray.size false) :=
    ⟨by simp, fun j oj _ hl => (by rw [getD_replicate_false] at hl; cases hl), fun t _ ht => getD_in (by simpa using ht) (getD_replicate_false _ _)⟩
  have H := wpAM_mix (md := .any) (g := l.toArray.size - n) hsel hw r _ a w inv0 hmix h
  refine wp_region_any hm ?_
  have hd : Below w.heap.size w { w with drawn := w.drawn + 1 } := ⟨rfl, rfl, rfl, Nat.le_refl _, fun _ _ => rfl⟩
  have := wpAny_of_AM (Q := Q) (g := l.toArray.size - n) (fun listed a' wc w' h1 h2 hL => by
    have := wpAny_of_seq (md := .any) (Q' := Q) (l.drop n) n listed a' w' (fun j => by simp [List.getElem?_drop]) (by rw [hdl]; exact hL.1) (hL.2 w' h1 h2)
    rwa [hdl] at this) _ _ _ _ _ hd hd H
  rw [hrl, show n + (l.toArray.size - n) = l.toArray.size by omega] at this
  exact this

/-- One mild operation, what follows behind a variable. -/
theorem wpM_mild {l : List Oper} {tail : List Oper} {k : Nat} {r : List (Nat × Bool)} {a : Act} {wc : World} {o : Oper} (ho : l[k]? = some o)
    (h : ∀ K : Act → Prop, (∀ a', wpM P l.toArray w0 Q tail r a' wc → K a') → if Region.wanted o (yielded l.toArray a.tmps) then o.mild P a w0 K else K (a.put o.dst undef)) : wpM P l.toArray w0 Q tail ((k, false) :: r) a wc :=
  ⟨o, by simpa using ho, h _ (fun _ h => h)⟩
/-- One effect. -/
theorem wpM_eff {l : List Oper} {tail : List Oper} {k : Nat} {r : List (Nat × Bool)} {a : Act} {wc : World} {o : Oper} (ho : l[k]? = some o)
    (h : ∀ w, Below wc.heap.size wc w → Below w0.heap.size w0 w → wpList P l.toArray (Exit.then (fun a' w' => Below w0.heap.size w0 w' ∧ wpM P l.toArray w0 Q tail r a' w') (calm Q)) [o] a w) : wpM P l.toArray w0 Q tail ((k, true) :: r) a wc :=
  ⟨o, by simpa using ho, h⟩
theorem wpM_tail {tail : List Oper} {a : Act} {wc : World} (h : ∀ w, Below wc.heap.size wc w → Below w0.heap.size w0 w → wpList P ops Q tail a w) : wpM P ops w0 Q tail [] a wc := h
theorem wpM_end {a : Act} {wc : World} (h : ∀ w, Below wc.heap.size wc w → Below w0.heap.size w0 w → Q .normal a w) : wpM P ops w0 Q [] [] a wc := h
end
attribute [go_sem] Oper.mild Oper.mildAt Oper.mildUpon
end Go
