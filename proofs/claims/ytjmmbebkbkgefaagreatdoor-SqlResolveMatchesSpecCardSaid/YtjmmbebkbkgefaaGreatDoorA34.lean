/-
  SqlResolveMatchesSpec: for every argument the law returns true, and what was there is as it was. No condition beside the card's own.
-/
import Derived.Test.YtjmmbebkbkgefaaGreatDoorA32
import Derived.Test.YtjmmbebkbkgefaaGreatDoorA33
namespace Go.Proofs.YtjmmbebkbkgefaaGreatDoor
open Go.ChangeShapes Go.WideShapes Go.ChangeAt Go.RowKit Go.Joins
namespace resolveMatches
set_option maxRecDepth 100000 in
theorem contract (H : Type) (enc : TypeId × Value→H) (W : World) (base : Nat) (args : Array Value) (ds gs : List (DataW H)) (before : List MemPlace)
  (hval : ∀ (j : Nat) t v,Tryz.f3.params[j]? = some t→args[j]? = some v→Value.okWide Tryz.prog W .any base t v)
  (hW : DataW.Whole enc Tryz.prog Tryz.f3.params.toList Rows.sqlResolveMatchesSpecSpec.vars false W args.toList ds gs before)
  (hZ : (DataW.weightsEach Tryz.prog (Tryz.f3.params.toList ++ (OpenSpec.ofChange Rows.sqlResolveMatchesSpecSpec).bare.plain.varTypes Tryz.prog) (ds ++ gs)).all (·≤reachBytes) = true)
  (hL : laidMetH Tryz.prog Rows.sqlResolveMatchesSpecRow.laid W) (hS : W.ShapedOpen Tryz.prog) :
  Calls Tryz.prog 3 args W fun e W'=>∃ v,e = .returned v∧Rows.sqlResolveMatchesSpecSpec.post enc Tryz.prog Tryz.f3 false true false false W args v W':=by
 have hE : Env W.heap.size W:=env_of hL hS (by kernel_rfl) (by kernel_rfl) (by kernel_rfl) (by kernel_rfl) (by kernel_rfl)
 have hW':=hW
 obtain ⟨p,q,hA,hV,rfl,_,_⟩:=hW
 rw [Tryz.params3] at hA hval
 obtain ⟨v0,vs0,d0,ds0,p0,q0,hargs,rfl,rfl,h0,r0⟩:=trodAll_cons hA
 obtain ⟨v1,vs1,d1,ds1,p1,q1,rfl,rfl,rfl,h1,r1⟩:=trodAll_cons r0
 obtain ⟨rfl,rfl,rfl⟩:=trodAll_nil r1
 obtain rfl : args = #[v0,v1]:=by cases args; simp_all
 obtain ⟨rfl,rfl⟩:=trodVars_none hV
 obtain ⟨xa,hina,hla⟩:=open_tables (hval 0 22 v0 rfl rfl) h0 (fun k hk=>by simpa using List.all_eq_true.1 hZ k (DataW.weights_mem_each (j:=0) rfl rfl k hk))
 obtain ⟨xb,cb,rfl,hinb,hwfb⟩:=open_ex (hval 1 27 v1 rfl rfl) h1 (fun k hk=>by simpa using List.all_eq_true.1 hZ k (DataW.weights_mem_each (j:=1) rfl rfl k hk))
 refine (law39_any (B:=W.heap.size) xa xb v0 cb W hE hina hla hinb hwfb).mono fun e W' ⟨he,hb⟩=>⟨_,he,?_⟩
 exact law_post laidOut (fun t ht=>readable3 t (by rw [Tryz.params3] at ht; simp at ht; rcases ht with rfl | rfl <;> simp)) rfl (by kernel_rfl) Tryz.underlying4 hW' hb rfl
set_option maxRecDepth 100000 in
theorem lifted (os : Os) (started : os.Started) (H : Type) (enc : TypeId × Value→H) (F : Stop.Interp) :
  ReturnsInHanded {} Tryz.checked os 3 .any ((OpenSpec.ofChange Rows.sqlResolveMatchesSpecSpec).preRow enc Tryz.prog Tryz.f3 Rows.sqlResolveMatchesSpecRow.domain false Rows.sqlResolveMatchesSpecRow.laid) (((OpenSpec.ofChange Rows.sqlResolveMatchesSpecSpec).at F).post enc Tryz.prog Tryz.f3 false true false false):=by
 obtain ⟨x,hx,_⟩:=reads os enc
 refine returnsInHanded_of_row (C:=Tryz.checked) (s:=OpenSpec.ofChange Rows.sqlResolveMatchesSpecSpec) own started (by kernel_rfl) Tryz.func3
  (witness_row_atZip (enc:=enc) (C:=Tryz.checked) false (start os) #[(.slice none 0 0),(.agg #[.int .i64 0,.string ⟨#[]⟩,.string ⟨#[]⟩,.int .i64 0,.int .i64 0,.string ⟨#[]⟩,.slice none 0 0])] (startOf_os _ _) (all_zip os _) (all_blocks os _) (by kernel_rfl)
   (OpenSpec.preRow_of_cond 8 hx (by kernel_rfl) (fun k hk=>by cases hk) (by kernel_rfl) (laid_met os))) ?_
 intro W base args ds gs before hval hW _ _ hZ hL hS _
 exact contract H enc W base args ds gs before hval hW hZ hL hS
theorem said : Rows.SqlResolveMatchesSpecSaid:=
 OpenClaim.holds_of_cond 3 Tryz.f3 rfl rfl rfl rfl rfl rfl rfl ⟨rfl,rfl,rfl,rfl,rfl⟩ rfl rfl rfl rfl rfl (by kernel_rfl) Tryz.func3 closed
  (of_decide_eq_true (by kernel_rfl)) (by unfold Func.isWrapper; first | (rw [if_pos (by decide +kernel)]; kernel_rfl) | (rw [if_neg (by decide +kernel)]; exact ⟨rfl,rfl⟩))
  (fun os started H enc _ F=>by rw [OpenClaim.pre_eq_preRow]; exact lifted os started H enc F)
theorem card : Rows.SqlResolveMatchesSpecCardSaid:=
 Claim7.holds_tied_plain_at .later [] _ _ _ _ said (fun _ h=>by cases h) (by kernel_rfl) (fun _ h=>by cases h) sqlResolveMatchesSpec_row_tie rfl ⟨rfl,rfl⟩ (by kernel_rfl) rfl plain (by kernel_rfl)
#print axioms card
end resolveMatches
end Go.Proofs.YtjmmbebkbkgefaaGreatDoor
