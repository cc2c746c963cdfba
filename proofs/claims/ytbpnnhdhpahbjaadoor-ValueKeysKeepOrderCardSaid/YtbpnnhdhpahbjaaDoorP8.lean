/-
  ValueKeysKeepOrder: for every argument the law returns true, and what was there is as it was. No condition beside the card's own.
-/
import Derived.Test.YtbpnnhdhpahbjaaDoorBase
import Derived.Test.YtbpnnhdhpahbjaaDoorL8
import Derived.Test.YtbpnnhdhpahbjaaDoorOpen
namespace Go.Proofs.YtbpnnhdhpahbjaaDoor
open Go.ChangeShapes Go.WideShapes Go.ChangeAt Go.RowKit Go.Joins

namespace keysKeep
set_option maxRecDepth 100000 in
/-- FOR EVERY ARGUMENT. -/
theorem contract (H : Type) (enc : TypeId × Value → H) (W : World) (base : Nat) (args : Array Value) (ds gs : List (DataW H)) (before : List MemPlace)
    (hval : ∀ (j : Nat) t v, Tryd.f8.params[j]? = some t → args[j]? = some v → Value.okWide Tryd.prog W .any base t v)
    (hW : DataW.Whole enc Tryd.prog Tryd.f8.params.toList Rows.valueKeysKeepOrderSpec.vars false W args.toList ds gs before)
    (_hL : laidMetH Tryd.prog Rows.valueKeysKeepOrderRow.laid W) :
    Calls Tryd.prog 8 args W fun e W' => ∃ v, e = .returned v ∧ Rows.valueKeysKeepOrderSpec.post enc Tryd.prog Tryd.f8 false true false false W args v W' := by
  have hW' := hW
  obtain ⟨p, q, hA, hV, rfl, _, _⟩ := hW
  rw [Tryd.params8] at hA hval
  obtain ⟨v0, vs0, d0, ds0, p0, q0, hargs, rfl, rfl, h0, r0⟩ := trodAll_cons hA
  obtain ⟨v1, vs1, d1, ds1, p1, q1, rfl, rfl, rfl, h1, r1⟩ := trodAll_cons r0
  obtain ⟨v2, vs2, d2, ds2, p2, q2, rfl, rfl, rfl, h2, r2⟩ := trodAll_cons r1
  obtain ⟨rfl, rfl, rfl⟩ := trodAll_nil r2
  obtain rfl : args = #[v0, v1, v2] := by cases args; simp_all
  obtain ⟨rfl, rfl⟩ := trodVars_none hV
  obtain ⟨a, sa, la, wa⟩ := open_row_like (hval 0 39 v0 rfl rfl) h0
  obtain ⟨b, sb, lb, wb⟩ := open_row_like (hval 1 39 v1 rfl rfl) h1
  obtain ⟨c, rfl, rfl, rfl, wc⟩ := open_int Tryd.underlying3 (hval 2 3 v2 rfl rfl) h2
  refine (keep_any v0 v1 a b c W sa sb (fun x y => row_cap h0 x _ y) (fun x y => row_cap h1 x _ y) la lb).mono fun _ _ ⟨he, hb⟩ => ⟨_, he, ?_⟩
  exact law_post laidOut (fun t ht => readable t (by rw [Tryd.params8] at ht; simp at ht; rcases ht with rfl | rfl <;> simp)) rfl (by kernel_rfl) Tryd.underlying4 hW' hb rfl

noncomputable def start (os : Os) : World := World.laidAll Tryd.prog os Rows.valueKeysKeepOrderRow.laid
theorem laid_met (os : Os) : laidMet Tryd.prog Rows.valueKeysKeepOrderRow.laid ((start os).forCall (fun _ _ => 0) ⟨#[], #[(.slice none 0 0), (.slice none 0 0), (.int .i64 0)], []⟩).memory :=
  laidMet_laidAll _ (by kernel_rfl) (by kernel_rfl)
theorem reads (os : Os) {H : Type} (enc : TypeId × Value → H) : ∃ x, DataW.whole enc Tryd.prog ((start os).forCall (fun _ _ => 0) ⟨#[], #[(.slice none 0 0), (.slice none 0 0), (.int .i64 0)], []⟩).memory Tryd.f8.params.toList Rows.valueKeysKeepOrderSpec.vars false #[(.slice none 0 0), (.slice none 0 0), (.int .i64 0)].toList 8 = some x ∧ True :=
  ⟨([.nil, .nil, .lit (.int .i64 0)], [], []), by kernel_rfl, trivial⟩

set_option maxRecDepth 100000 in
theorem lifted (os : Os) (started : os.Started) (H : Type) (enc : TypeId × Value → H) (F : Stop.Interp) :
    ReturnsInHanded {} Tryd.checked os 8 .any ((OpenSpec.ofChange Rows.valueKeysKeepOrderSpec).preRow enc Tryd.prog Tryd.f8 Rows.valueKeysKeepOrderRow.domain false Rows.valueKeysKeepOrderRow.laid) (((OpenSpec.ofChange Rows.valueKeysKeepOrderSpec).at F).post enc Tryd.prog Tryd.f8 false true false false) := by
  obtain ⟨x, hx, _⟩ := reads os enc
  refine returnsInHanded_of_row (C := Tryd.checked) (s := OpenSpec.ofChange Rows.valueKeysKeepOrderSpec) own started (by kernel_rfl) Tryd.func8
    (witness_row_at (enc := enc) (C := Tryd.checked) false (start os) #[(.slice none 0 0), (.slice none 0 0), (.int .i64 0)] (World.laidAll_os _ _ _) (by kernel_rfl) (by kernel_rfl) (by kernel_rfl)
      (OpenSpec.preRow_of_cond 8 hx (by kernel_rfl) (fun k hk => by cases hk) (by kernel_rfl) (laid_met os))) ?_
  intro W base args ds gs before hval hW _ _ _ hL _ _
  exact contract H enc W base args ds gs before hval hW hL

theorem said : Rows.ValueKeysKeepOrderSaid :=
  OpenClaim.holds_of_cond 8 Tryd.f8 rfl rfl rfl rfl rfl rfl rfl ⟨rfl, rfl, rfl, rfl, rfl⟩ rfl rfl rfl rfl rfl (by kernel_rfl) Tryd.func8 (by kernel_rfl)
    (of_decide_eq_true (by kernel_rfl)) (by unfold Func.isWrapper; first | (rw [if_pos (by decide +kernel)]; kernel_rfl) | (rw [if_neg (by decide +kernel)]; exact ⟨rfl, rfl⟩))
    (fun os started H enc _ F => by rw [OpenClaim.pre_eq_preRow]; exact lifted os started H enc F)

theorem plain (f : FuncId) (fn : Func) (hf : Tryd.pinned.checked.prog.funcNamed Rows.valueKeysKeepOrderRow.func = some f) (hfn : Tryd.pinned.checked.prog.funcs[f]? = some fn) :
    true = Tryd.pinned.checked.prog.looks [] ∧ ∀ (j : Nat) t, fn.params[j]? = some t → Tryd.pinned.checked.prog.wantsStandIn t = false := by
  obtain rfl : f = 8 := Option.some.inj ((show Tryd.prog.funcNamed Rows.valueKeysKeepOrderRow.func = some 8 by kernel_rfl).symm.trans hf) |>.symm
  obtain rfl : fn = Tryd.f8 := (Option.some.inj (Tryd.func8.symm.trans hfn)).symm
  refine ⟨by kernel_rfl, fun j t ht => ?_⟩
  rw [Tryd.params8] at ht
  exact noStandIn t (by have := Array.mem_of_getElem? ht; simp at this; rcases this with rfl | rfl <;> simp)

/-- THE CARD. -/
theorem card : Rows.ValueKeysKeepOrderCardSaid :=
  Claim7.holds_tied_plain_at .later [] _ _ _ _ said (fun _ h => by cases h) (by kernel_rfl) (fun _ h => by cases h) valueKeysKeepOrder_row_tie rfl ⟨rfl, rfl⟩ (by kernel_rfl) rfl plain (by kernel_rfl)
#print axioms card
end keysKeep
end Go.Proofs.YtbpnnhdhpahbjaaDoor
