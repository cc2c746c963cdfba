/-
  card: for every argument the law returns true, and what was there is as it was. No condition beside the card's own.
-/
import Derived.Test.YtjmmbebkbkgefaaGreatDoorB40
set_option linter.unusedVariables false
set_option linter.unusedSimpArgs false
set_option maxRecDepth 100000
namespace Go.Proofs.YtjmmbebkbkgefaaGreatDoor
open Go.ChangeShapes Go.WideShapes Go.ChangeAt Go.RowKit Go.Joins Go.Proofs.Tryz
namespace qualifiedIsTheSame
theorem contract (H:Type) (enc:TypeId×Value->H) (W:World) (base:Nat) (args:Array Value) (ds gs:List (DataW H)) (before:List MemPlace)
 (hval:∀(j:Nat) t v,Tryz.f5.params[j]?=some t->args[j]?=some v->Value.okWide prog W .any base t v)
 (hW:DataW.Whole enc prog Tryz.f5.params.toList Rows.sqlQualifiedIsTheSameSpec.vars false W args.toList ds gs before)
 (hZ:(DataW.weightsEach prog (Tryz.f5.params.toList++(OpenSpec.ofChange Rows.sqlQualifiedIsTheSameSpec).bare.plain.varTypes prog) (ds++gs)).all (·≤reachBytes)=true)
 (hL:laidMetH prog Rows.sqlQualifiedIsTheSameRow.laid W) (hS:W.ShapedOpen prog):
 Calls prog 5 args W fun e W'=>∃v,e=.returned v/\Rows.sqlQualifiedIsTheSameSpec.post enc prog Tryz.f5 false true false false W args v W':=by
 have hE:Env W.heap.size W:=Ym hL hS (by kernel_rfl) (by kernel_rfl) (by kernel_rfl) (by kernel_rfl) (by kernel_rfl)
 have hW':=hW
 obtain⟨p,q,hA,hV,rfl,_,_⟩:=hW
 rw[Tryz.params5]at hA hval
 obtain⟨v0,vs0,d0,ds0,p0,q0,hargs,rfl,rfl,h0,r0⟩:=trodAll_cons hA
 obtain⟨v1,vs1,d1,ds1,p1,q1,rfl,rfl,rfl,h1,r1⟩:=trodAll_cons r0
 obtain⟨rfl,rfl,rfl⟩:=trodAll_nil r1
 obtain rfl:args=#[v0,v1]:=by cases args;simp_all
 obtain⟨rfl,rfl⟩:=trodVars_none hV
 obtain⟨xa,hina,hla⟩:=Ib (hval 0 22 v0 rfl rfl) h0 (fun k hk=>by simpa using List.all_eq_true.1 hZ k (DataW.weights_mem_each (j:=0) rfl rfl k hk))
 obtain⟨xb,hinb,hwfb,hllb⟩:=Ic (hval 1 44 v1 rfl rfl) h1 (fun k hk=>by simpa using List.all_eq_true.1 hZ k (DataW.weights_mem_each (j:=1) rfl rfl k hk))
 refine(U8 (B:=W.heap.size) xa xb v0 v1 W hE hina hla hinb hwfb hllb).mono fun e W' ⟨he,hb⟩=>⟨_,he,?_⟩
 exact Ov Sw (fun t ht=>Ls t (by rw[Tryz.params5]at ht;simp at ht;rcases ht with rfl|rfl<;>simp)) rfl (by kernel_rfl) underlying4 hW' hb rfl
theorem lifted (os:Os) (started:os.Started) (H:Type) (enc:TypeId×Value->H) (F:Stop.Interp):
 ReturnsInHanded {} Tryz.checked os 5 .any ((OpenSpec.ofChange Rows.sqlQualifiedIsTheSameSpec).preRow enc prog Tryz.f5 Rows.sqlQualifiedIsTheSameRow.domain false Rows.sqlQualifiedIsTheSameRow.laid) (((OpenSpec.ofChange Rows.sqlQualifiedIsTheSameSpec).at F).post enc prog Tryz.f5 false true false false):=by
 obtain⟨x,hx,_⟩:=reads os enc
 refine returnsInHanded_of_row (C:=Tryz.checked) (s:=OpenSpec.ofChange Rows.sqlQualifiedIsTheSameSpec) own started (by kernel_rfl) func5
  (Dn (enc:=enc) (C:=Tryz.checked) false (start os) #[(.slice none 0 0),(.agg #[.bool false,.slice none 0 0,.slice none 0 0,.slice none 0 0,.int .i64 0,.string ⟨#[]⟩,.string ⟨#[]⟩,.int .i64 0,.int .i64 0,.string ⟨#[]⟩,.slice none 0 0,.slice none 0 0,.slice none 0 0,.int .i64 0])] (Jl _ _) (Tk os _) (Kv os _) (by kernel_rfl)
   (OpenSpec.preRow_of_cond 8 hx (by kernel_rfl) (fun k hk=>by cases hk) (by kernel_rfl) (laid_met os))) ?_
 intro W base args ds gs before hval hW _ _ hZ hL hS _
 exact contract H enc W base args ds gs before hval hW hZ hL hS
theorem said:Rows.SqlQualifiedIsTheSameSaid:=
 OpenClaim.holds_of_cond 5 Tryz.f5 rfl rfl rfl rfl rfl rfl rfl ⟨rfl,rfl,rfl,rfl,rfl⟩ rfl rfl rfl rfl rfl (by kernel_rfl) func5 closed
  (of_decide_eq_true (by kernel_rfl)) (by unfold Func.isWrapper;first|(rw[if_pos (by decide+kernel)];kernel_rfl)|(rw[if_neg (by decide+kernel)];exact⟨rfl,rfl⟩))
  (fun os started H enc _ F=>by rw[OpenClaim.pre_eq_preRow];exact lifted os started H enc F)
theorem card:Rows.SqlQualifiedIsTheSameCardSaid:=
 Claim7.holds_tied_plain_at .later [] _ _ _ _ said (fun _ h=>by cases h) (by kernel_rfl) (fun _ h=>by cases h) sqlQualifiedIsTheSame_row_tie rfl ⟨rfl,rfl⟩ (by kernel_rfl) rfl plain (by kernel_rfl)
#print axioms card
end qualifiedIsTheSame
end Go.Proofs.YtjmmbebkbkgefaaGreatDoor
