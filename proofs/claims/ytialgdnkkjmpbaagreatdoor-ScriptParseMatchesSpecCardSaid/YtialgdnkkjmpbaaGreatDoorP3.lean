/-
  ScriptParseMatchesSpec: for every argument the law returns true, and what was there is as it was. No condition beside the card's own.
-/
import Derived.Test.YtialgdnkkjmpbaaGreatDoorBase
import Derived.Test.YtialgdnkkjmpbaaGreatDoorL3
import Derived.Test.YtialgdnkkjmpbaaGreatDoorStart
namespace Go.Proofs.YtialgdnkkjmpbaaGreatDoor
open Go.ChangeShapes Go.WideShapes Go.ChangeAt Go.RowKit Go.Joins

namespace parseMatchesSpec
set_option maxRecDepth 100000 in
/-- FOR EVERY ARGUMENT. -/
theorem contract (H : Type) (enc : TypeId × Value → H) (W : World) (base : Nat) (args : Array Value) (ds gs : List (DataW H)) (before : List MemPlace)
    (hval : ∀ (j : Nat) t v, Tryz.f3.params[j]? = some t → args[j]? = some v → Value.okWide Tryz.prog W .any base t v)
    (hW : DataW.Whole enc Tryz.prog Tryz.f3.params.toList Rows.scriptParseMatchesSpecSpec.vars false W args.toList ds gs before)
    (hL : laidMetH Tryz.prog Rows.scriptParseMatchesSpecRow.laid W) (hS : W.ShapedOpen Tryz.prog) :
    Calls Tryz.prog 3 args W fun e W' => ∃ v, e = .returned v ∧ Rows.scriptParseMatchesSpecSpec.post enc Tryz.prog Tryz.f3 false true false false W args v W' := by
  have hE : Env W := env_of hL hS (by kernel_rfl) (by kernel_rfl) (by kernel_rfl) (by kernel_rfl) (by kernel_rfl)
  have hW' := hW
  obtain ⟨p, q, hA, hV, rfl, _, _⟩ := hW
  rw [Tryz.params3] at hA hval
  obtain ⟨v0, vs0, d0, ds0, p0, q0, hargs, rfl, rfl, h0, r0⟩ := trodAll_cons hA
  obtain ⟨rfl, rfl, rfl⟩ := trodAll_nil r0
  obtain rfl : args = #[v0] := by cases args; simp_all
  obtain ⟨rfl, rfl⟩ := trodVars_none hV
  obtain ⟨a, rfl, rfl, rfl, la⟩ := Go.ChangeMaps.open_string Tryz.underlying9 (hval 0 9 v0 rfl rfl) h0
  refine (law3 a.data.toList W hE).mono fun e W' ⟨he, hb⟩ => ⟨_, he, ?_⟩
  exact law_post laidOut (fun t ht => readable t (by rw [Tryz.params3] at ht; simp at ht; rcases ht with rfl <;> simp)) rfl (by kernel_rfl) Tryz.underlying4 hW' hb rfl

noncomputable def start (os : Os) : World := startOf os allLaid
theorem laid_same : Rows.scriptParseMatchesSpecRow.laid = allLaid := by kernel_rfl
theorem laid_met (os : Os) : laidMet Tryz.prog Rows.scriptParseMatchesSpecRow.laid ((start os).forCall (fun _ _ => 0) ⟨#[], #[(.string ⟨#[]⟩)], []⟩).memory := by
  rw [laid_same]
  exact all_met os _
theorem reads (os : Os) {H : Type} (enc : TypeId × Value → H) : ∃ x, DataW.whole enc Tryz.prog ((start os).forCall (fun _ _ => 0) ⟨#[], #[(.string ⟨#[]⟩)], []⟩).memory Tryz.f3.params.toList Rows.scriptParseMatchesSpecSpec.vars false #[(.string ⟨#[]⟩)].toList 8 = some x ∧ True :=
  ⟨([.lit (.string [])], [], []), by kernel_rfl, trivial⟩

set_option maxRecDepth 100000 in
theorem lifted (os : Os) (started : os.Started) (H : Type) (enc : TypeId × Value → H) (F : Stop.Interp) :
    ReturnsInHanded {} Tryz.checked os 3 .any ((OpenSpec.ofChange Rows.scriptParseMatchesSpecSpec).preRow enc Tryz.prog Tryz.f3 Rows.scriptParseMatchesSpecRow.domain false Rows.scriptParseMatchesSpecRow.laid) (((OpenSpec.ofChange Rows.scriptParseMatchesSpecSpec).at F).post enc Tryz.prog Tryz.f3 false true false false) := by
  obtain ⟨x, hx, _⟩ := reads os enc
  refine returnsInHanded_of_row (C := Tryz.checked) (s := OpenSpec.ofChange Rows.scriptParseMatchesSpecSpec) own started (by kernel_rfl) Tryz.func3
    (witness_row_atZip (enc := enc) (C := Tryz.checked) false (start os) #[(.string ⟨#[]⟩)] (startOf_os _ _) (all_zip os _) (all_blocks os _) (by kernel_rfl)
      (OpenSpec.preRow_of_cond 8 hx (by kernel_rfl) (fun k hk => by cases hk) (by kernel_rfl) (laid_met os))) ?_
  intro W base args ds gs before hval hW _ _ _ hL hS _
  exact contract H enc W base args ds gs before hval hW hL hS

set_option maxRecDepth 100000 in
set_option maxHeartbeats 8000000 in
theorem closed : joinedFacts Tryz.prog 3 Tryz.f3 (OpenSpec.ofChange Rows.scriptParseMatchesSpecSpec).bare Rows.scriptParseMatchesSpecRow = true := by
  unfold joinedFacts
  simp only [Bool.and_eq_true]
  and_intros
  all_goals (as_aux_lemma => kernel_rfl)
theorem said : Rows.ScriptParseMatchesSpecSaid :=
  OpenClaim.holds_of_cond 3 Tryz.f3 rfl rfl rfl rfl rfl rfl rfl ⟨rfl, rfl, rfl, rfl, rfl⟩ rfl rfl rfl rfl rfl (by kernel_rfl) Tryz.func3 closed
    (of_decide_eq_true (by kernel_rfl)) (by unfold Func.isWrapper; first | (rw [if_pos (by decide +kernel)]; kernel_rfl) | (rw [if_neg (by decide +kernel)]; exact ⟨rfl, rfl⟩))
    (fun os started H enc _ F => by rw [OpenClaim.pre_eq_preRow]; exact lifted os started H enc F)

theorem plain (f : FuncId) (fn : Func) (hf : Tryz.pinned.checked.prog.funcNamed Rows.scriptParseMatchesSpecRow.func = some f) (hfn : Tryz.pinned.checked.prog.funcs[f]? = some fn) :
    true = Tryz.pinned.checked.prog.looks [] ∧ ∀ (j : Nat) t, fn.params[j]? = some t → Tryz.pinned.checked.prog.wantsStandIn t = false := by
  obtain rfl : f = 3 := Option.some.inj ((show Tryz.prog.funcNamed Rows.scriptParseMatchesSpecRow.func = some 3 by kernel_rfl).symm.trans hf) |>.symm
  obtain rfl : fn = Tryz.f3 := (Option.some.inj (Tryz.func3.symm.trans hfn)).symm
  refine ⟨by kernel_rfl, fun j t ht => ?_⟩
  rw [Tryz.params3] at ht
  exact noStandIn t (by have := Array.mem_of_getElem? ht; simp at this; rcases this with rfl <;> simp)

/-- THE CARD. -/
theorem card : Rows.ScriptParseMatchesSpecCardSaid :=
  Claim7.holds_tied_plain_at .later [] _ _ _ _ said (fun _ h => by cases h) (by kernel_rfl) (fun _ h => by cases h) scriptParseMatchesSpec_row_tie rfl ⟨rfl, rfl⟩ (by kernel_rfl) rfl plain (by kernel_rfl)
#print axioms card
end parseMatchesSpec
end Go.Proofs.YtialgdnkkjmpbaaGreatDoor
