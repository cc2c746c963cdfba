/-
  SqlTokensMatchSpec: for every argument the law returns true, and what was there is as it was. No condition beside the card's own.
-/
import Derived.Test.YtimoefagohifaaaGreatDoorQ29
import Derived.Test.YtimoefagohifaaaGreatDoorQ28
namespace Go.Proofs.YtimoefagohifaaaGreatDoor
open Go.ChangeShapes Go.WideShapes Go.ChangeAt Go.RowKit Go.Joins
namespace tokensMatch
set_option maxRecDepth 100000 in
theorem contract (H : Type) (enc : TypeId × Value→H) (W : World) (base : Nat) (args : Array Value) (ds gs : List (DataW H)) (before : List MemPlace)
  (hval : ∀ (j : Nat) t v,Tryz.f3.params[j]? = some t→args[j]? = some v→Value.okWide Tryz.prog W .any base t v)
  (hW : DataW.Whole enc Tryz.prog Tryz.f3.params.toList Rows.sqlTokensMatchSpecSpec.vars false W args.toList ds gs before)
  (hL : laidMetH Tryz.prog Rows.sqlTokensMatchSpecRow.laid W) (hS : W.ShapedOpen Tryz.prog) :
  Calls Tryz.prog 3 args W fun e W'=>∃ v,e = .returned v∧Rows.sqlTokensMatchSpecSpec.post enc Tryz.prog Tryz.f3 false true false false W args v W':=by
 have hE : Env W.heap.size W:=env_of hL hS (by kernel_rfl) (by kernel_rfl) (by kernel_rfl) (by kernel_rfl) (by kernel_rfl)
 have hW':=hW
 obtain ⟨p,q,hA,hV,rfl,_,_⟩:=hW
 rw [Tryz.params3] at hA hval
 obtain ⟨v0,vs0,d0,ds0,p0,q0,hargs,rfl,rfl,h0,r0⟩:=trodAll_cons hA
 obtain ⟨rfl,rfl,rfl⟩:=trodAll_nil r0
 obtain rfl : args = #[v0]:=by cases args; simp_all
 obtain ⟨rfl,rfl⟩:=trodVars_none hV
 obtain ⟨a,rfl,rfl,rfl,la⟩:=Go.ChangeMaps.open_string Tryz.underlying9 (hval 0 9 v0 rfl rfl) h0
 refine (law3_few (B:=W.heap.size) a.data.toList W hE).mono fun e W' ⟨he,hb⟩=>⟨_,he,?_⟩
 exact law_post laidOut (fun t ht=>readable t (by rw [Tryz.params3] at ht; simp at ht; rcases ht with rfl <;> simp)) rfl (by kernel_rfl) Tryz.underlying4 hW' hb rfl
set_option maxRecDepth 100000 in
theorem lifted (os : Os) (started : os.Started) (H : Type) (enc : TypeId × Value→H) (F : Stop.Interp) :
  ReturnsInHanded {} Tryz.checked os 3 .any ((OpenSpec.ofChange Rows.sqlTokensMatchSpecSpec).preRow enc Tryz.prog Tryz.f3 Rows.sqlTokensMatchSpecRow.domain false Rows.sqlTokensMatchSpecRow.laid) (((OpenSpec.ofChange Rows.sqlTokensMatchSpecSpec).at F).post enc Tryz.prog Tryz.f3 false true false false):=by
 obtain ⟨x,hx,_⟩:=reads os enc
 refine returnsInHanded_of_row (C:=Tryz.checked) (s:=OpenSpec.ofChange Rows.sqlTokensMatchSpecSpec) own started (by kernel_rfl) Tryz.func3
  (witness_row_atZip (enc:=enc) (C:=Tryz.checked) false (start os) #[(.string ⟨#[]⟩)] (startOf_os _ _) (all_zip os _) (all_blocks os _) (by kernel_rfl)
   (OpenSpec.preRow_of_cond 8 hx (by kernel_rfl) (fun k hk=>by cases hk) (by kernel_rfl) (laid_met os))) ?_
 intro W base args ds gs before hval hW _ _ _ hL hS _
 exact contract H enc W base args ds gs before hval hW hL hS
theorem said : Rows.SqlTokensMatchSpecSaid:=
 OpenClaim.holds_of_cond 3 Tryz.f3 rfl rfl rfl rfl rfl rfl rfl ⟨rfl,rfl,rfl,rfl,rfl⟩ rfl rfl rfl rfl rfl (by kernel_rfl) Tryz.func3 closed
  (of_decide_eq_true (by kernel_rfl)) (by unfold Func.isWrapper; first | (rw [if_pos (by decide +kernel)]; kernel_rfl) | (rw [if_neg (by decide +kernel)]; exact ⟨rfl,rfl⟩))
  (fun os started H enc _ F=>by rw [OpenClaim.pre_eq_preRow]; exact lifted os started H enc F)
theorem card : Rows.SqlTokensMatchSpecCardSaid:=
 Claim7.holds_tied_plain_at .later [] _ _ _ _ said (fun _ h=>by cases h) (by kernel_rfl) (fun _ h=>by cases h) sqlTokensMatchSpec_row_tie rfl ⟨rfl,rfl⟩ (by kernel_rfl) rfl plain (by kernel_rfl)
#print axioms card
end tokensMatch
end Go.Proofs.YtimoefagohifaaaGreatDoor
