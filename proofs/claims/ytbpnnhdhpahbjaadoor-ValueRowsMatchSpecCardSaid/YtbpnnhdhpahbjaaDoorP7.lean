/-
  ValueRowsMatchSpec: for every argument the law returns true, and what was there is as it was. No condition beside the card's own.
-/
import Derived.Test.YtbpnnhdhpahbjaaDoorBase
import Derived.Test.YtbpnnhdhpahbjaaDoorL7
import Derived.Test.YtbpnnhdhpahbjaaDoorOpen
namespace Go.Proofs.YtbpnnhdhpahbjaaDoor
open Go.ChangeShapes Go.WideShapes Go.ChangeAt Go.RowKit Go.Joins

namespace rowsMatch
set_option maxRecDepth 100000 in
/-- FOR EVERY ARGUMENT. -/
theorem contract (H : Type) (enc : TypeId × Value → H) (W : World) (base : Nat) (args : Array Value) (ds gs : List (DataW H)) (before : List MemPlace)
    (hval : ∀ (j : Nat) t v, Tryd.f7.params[j]? = some t → args[j]? = some v → Value.okWide Tryd.prog W .any base t v)
    (hW : DataW.Whole enc Tryd.prog Tryd.f7.params.toList Rows.valueRowsMatchSpecSpec.vars false W args.toList ds gs before)
    (_hL : laidMetH Tryd.prog Rows.valueRowsMatchSpecRow.laid W) :
    Calls Tryd.prog 7 args W fun e W' => ∃ v, e = .returned v ∧ Rows.valueRowsMatchSpecSpec.post enc Tryd.prog Tryd.f7 false true false false W args v W' := by
  have hW' := hW
  obtain ⟨p, q, hA, hV, rfl, _, _⟩ := hW
  rw [Tryd.params7] at hA hval
  obtain ⟨v0, vs0, d0, ds0, p0, q0, hargs, rfl, rfl, h0, r0⟩ := trodAll_cons hA
  obtain ⟨v1, vs1, d1, ds1, p1, q1, rfl, rfl, rfl, h1, r1⟩ := trodAll_cons r0
  obtain ⟨v2, vs2, d2, ds2, p2, q2, rfl, rfl, rfl, h2, r2⟩ := trodAll_cons r1
  obtain ⟨v3, vs3, d3, ds3, p3, q3, rfl, rfl, rfl, h3, r3⟩ := trodAll_cons r2
  obtain ⟨v4, vs4, d4, ds4, p4, q4, rfl, rfl, rfl, h4, r4⟩ := trodAll_cons r3
  obtain ⟨rfl, rfl, rfl⟩ := trodAll_nil r4
  obtain rfl : args = #[v0, v1, v2, v3, v4] := by cases args; simp_all
  obtain ⟨rfl, rfl⟩ := trodVars_none hV
  obtain ⟨a, sa, la, wa⟩ := open_row_like (hval 0 39 v0 rfl rfl) h0
  obtain ⟨b, sb, lb, wb⟩ := open_row_like (hval 1 39 v1 rfl rfl) h1
  obtain ⟨c, rfl, rfl, rfl, wc⟩ := open_int Tryd.underlying3 (hval 2 3 v2 rfl rfl) h2
  obtain ⟨d, sd, ld, wd⟩ := open_ints_like (hval 3 28 v3 rfl rfl) h3
  obtain ⟨e, se, le, we⟩ := open_ints_like (hval 4 28 v4 rfl rfl) h4
  refine (rows_any v0 v1 v3 v4 a b d e c W sa sb sd se la lb ld le).mono fun _ _ ⟨he, hb⟩ => ⟨_, he, ?_⟩
  exact law_post laidOut (fun t ht => readable t (by rw [Tryd.params7] at ht; simp at ht; rcases ht with rfl | rfl | rfl <;> simp)) rfl (by kernel_rfl) Tryd.underlying4 hW' hb rfl

noncomputable def start (os : Os) : World := World.laidAll Tryd.prog os Rows.valueRowsMatchSpecRow.laid
theorem laid_met (os : Os) : laidMet Tryd.prog Rows.valueRowsMatchSpecRow.laid ((start os).forCall (fun _ _ => 0) ⟨#[], #[(.slice none 0 0), (.slice none 0 0), (.int .i64 0), (.slice none 0 0), (.slice none 0 0)], []⟩).memory :=
  laidMet_laidAll _ (by kernel_rfl) (by kernel_rfl)
theorem reads (os : Os) {H : Type} (enc : TypeId × Value → H) : ∃ x, DataW.whole enc Tryd.prog ((start os).forCall (fun _ _ => 0) ⟨#[], #[(.slice none 0 0), (.slice none 0 0), (.int .i64 0), (.slice none 0 0), (.slice none 0 0)], []⟩).memory Tryd.f7.params.toList Rows.valueRowsMatchSpecSpec.vars false #[(.slice none 0 0), (.slice none 0 0), (.int .i64 0), (.slice none 0 0), (.slice none 0 0)].toList 8 = some x ∧ True :=
  ⟨([.nil, .nil, .lit (.int .i64 0), .nil, .nil], [], []), by kernel_rfl, trivial⟩

set_option maxRecDepth 100000 in
theorem lifted (os : Os) (started : os.Started) (H : Type) (enc : TypeId × Value → H) (F : Stop.Interp) :
    ReturnsInHanded {} Tryd.checked os 7 .any ((OpenSpec.ofChange Rows.valueRowsMatchSpecSpec).preRow enc Tryd.prog Tryd.f7 Rows.valueRowsMatchSpecRow.domain false Rows.valueRowsMatchSpecRow.laid) (((OpenSpec.ofChange Rows.valueRowsMatchSpecSpec).at F).post enc Tryd.prog Tryd.f7 false true false false) := by
  obtain ⟨x, hx, _⟩ := reads os enc
  refine returnsInHanded_of_row (C := Tryd.checked) (s := OpenSpec.ofChange Rows.valueRowsMatchSpecSpec) own started (by kernel_rfl) Tryd.func7
    (witness_row_at (enc := enc) (C := Tryd.checked) false (start os) #[(.slice none 0 0), (.slice none 0 0), (.int .i64 0), (.slice none 0 0), (.slice none 0 0)] (World.laidAll_os _ _ _) (by kernel_rfl) (by kernel_rfl) (by kernel_rfl)
      (OpenSpec.preRow_of_cond 8 hx (by kernel_rfl) (fun k hk => by cases hk) (by kernel_rfl) (laid_met os))) ?_
  intro W base args ds gs before hval hW _ _ _ hL _ _
  exact contract H enc W base args ds gs before hval hW hL

theorem said : Rows.ValueRowsMatchSpecSaid :=
  OpenClaim.holds_of_cond 7 Tryd.f7 rfl rfl rfl rfl rfl rfl rfl ⟨rfl, rfl, rfl, rfl, rfl⟩ rfl rfl rfl rfl rfl (by kernel_rfl) Tryd.func7 (by kernel_rfl)
    (of_decide_eq_true (by kernel_rfl)) (by unfold Func.isWrapper; first | (rw [if_pos (by decide +kernel)]; kernel_rfl) | (rw [if_neg (by decide +kernel)]; exact ⟨rfl, rfl⟩))
    (fun os started H enc _ F => by rw [OpenClaim.pre_eq_preRow]; exact lifted os started H enc F)

theorem plain (f : FuncId) (fn : Func) (hf : Tryd.pinned.checked.prog.funcNamed Rows.valueRowsMatchSpecRow.func = some f) (hfn : Tryd.pinned.checked.prog.funcs[f]? = some fn) :
    true = Tryd.pinned.checked.prog.looks [] ∧ ∀ (j : Nat) t, fn.params[j]? = some t → Tryd.pinned.checked.prog.wantsStandIn t = false := by
  obtain rfl : f = 7 := Option.some.inj ((show Tryd.prog.funcNamed Rows.valueRowsMatchSpecRow.func = some 7 by kernel_rfl).symm.trans hf) |>.symm
  obtain rfl : fn = Tryd.f7 := (Option.some.inj (Tryd.func7.symm.trans hfn)).symm
  refine ⟨by kernel_rfl, fun j t ht => ?_⟩
  rw [Tryd.params7] at ht
  exact noStandIn t (by have := Array.mem_of_getElem? ht; simp at this; rcases this with rfl | rfl | rfl <;> simp)

/-- THE CARD. -/
theorem card : Rows.ValueRowsMatchSpecCardSaid :=
  Claim7.holds_tied_plain_at .later [] _ _ _ _ said (fun _ h => by cases h) (by kernel_rfl) (fun _ h => by cases h) valueRowsMatchSpec_row_tie rfl ⟨rfl, rfl⟩ (by kernel_rfl) rfl plain (by kernel_rfl)
#print axioms card
end rowsMatch
end Go.Proofs.YtbpnnhdhpahbjaaDoor
