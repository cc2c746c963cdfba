/- Part 33; the last part says what is proved. No condition. -/
import Derived.Test.YtjmmbebkbkgefaaGreatDoorA14
namespace Go.Proofs.YtjmmbebkbkgefaaGreatDoor
open Go.ChangeShapes Go.WideShapes Go.ChangeAt Go.RowKit Go.Joins
namespace resolveMatches
noncomputable def start (os : Os) : World:=startOf os allLaid
theorem laid_same : Rows.sqlResolveMatchesSpecRow.laid = allLaid:=by kernel_rfl
theorem laid_met (os : Os) : laidMet Tryz.prog Rows.sqlResolveMatchesSpecRow.laid ((start os).forCall (fun _ _=>0) ⟨#[],#[(.slice none 0 0),(.agg #[.int .i64 0,.string ⟨#[]⟩,.string ⟨#[]⟩,.int .i64 0,.int .i64 0,.string ⟨#[]⟩,.slice none 0 0])],[]⟩).memory:=by
 rw [laid_same]
 exact all_met os _
theorem reads (os : Os) {H : Type} (enc : TypeId × Value→H) : ∃ x,DataW.whole enc Tryz.prog ((start os).forCall (fun _ _=>0) ⟨#[],#[(.slice none 0 0),(.agg #[.int .i64 0,.string ⟨#[]⟩,.string ⟨#[]⟩,.int .i64 0,.int .i64 0,.string ⟨#[]⟩,.slice none 0 0])],[]⟩).memory Tryz.f3.params.toList Rows.sqlResolveMatchesSpecSpec.vars false #[(.slice none 0 0),(.agg #[.int .i64 0,.string ⟨#[]⟩,.string ⟨#[]⟩,.int .i64 0,.int .i64 0,.string ⟨#[]⟩,.slice none 0 0])].toList 8 = some x∧True:=
 ⟨([.nil,.agg [.lit (.int .i64 0),.lit (.string []),.lit (.string []),.agg [.lit (.int .i64 0),.lit (.int .i64 0),.lit (.string [])],.nil]],[],[]),by kernel_rfl,trivial⟩
set_option maxRecDepth 100000 in
set_option maxHeartbeats 8000000 in
theorem closed : joinedFacts Tryz.prog 3 Tryz.f3 (OpenSpec.ofChange Rows.sqlResolveMatchesSpecSpec).bare Rows.sqlResolveMatchesSpecRow = true:=by
 unfold joinedFacts
 simp only [Bool.and_eq_true]
 and_intros
 all_goals (as_aux_lemma=>kernel_rfl)
theorem plain (f : FuncId) (fn : Func) (hf : Tryz.pinned.checked.prog.funcNamed Rows.sqlResolveMatchesSpecRow.func = some f) (hfn : Tryz.pinned.checked.prog.funcs[f]? = some fn) :
  true = Tryz.pinned.checked.prog.looks []∧∀ (j : Nat) t,fn.params[j]? = some t→Tryz.pinned.checked.prog.wantsStandIn t = false:=by
 obtain rfl : f = 3:=Option.some.inj ((show Tryz.prog.funcNamed Rows.sqlResolveMatchesSpecRow.func = some 3 by kernel_rfl).symm.trans hf) |>.symm
 obtain rfl : fn = Tryz.f3:=(Option.some.inj (Tryz.func3.symm.trans hfn)).symm
 refine ⟨by kernel_rfl,fun j t ht=>?_⟩
 rw [Tryz.params3] at ht
 exact noStandIn3 t (by have:=Array.mem_of_getElem? ht; simp at this; rcases this with rfl | rfl <;> simp)
end resolveMatches
end Go.Proofs.YtjmmbebkbkgefaaGreatDoor
