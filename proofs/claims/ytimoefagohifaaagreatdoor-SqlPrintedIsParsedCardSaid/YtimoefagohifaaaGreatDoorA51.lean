/- Laws that the last part needs. No condition. -/
import Derived.Test.YtimoefagohifaaaGreatDoorA42
import Derived.Test.YtimoefagohifaaaGreatDoorA47
set_option maxHeartbeats 8000000
set_option maxRecDepth 100000
namespace Go.Proofs.YtimoefagohifaaaGreatDoor
open Go.RowKit Go.Proofs.Tryz
section
open Go.Sort
theorem ag7 (HS:SanityAt) (x:Stm) (s:SV) (w:World) (h:StmIn (·<w.heap.size) w s x) (hwf:x.Wf) (hl:x.lists<=4611686018427387904) (ht:x.txt<=4611686018427387904) (he:Env w.heap.size w):Calls prog 4 #[.agg s.arr] w (fun e w'=>e=.returned (.bool true)/\Below w.heap.size w w'):=by
 have HE:=tm he;have C:=tm HS;have FW:=tm (fun W (h:StmIn (·<w.heap.size) W s x)=>aet _ x s W h hl);have PR:=tm (fun W (h:StmIn (·<W.heap.size) W s x) (he:Env W.heap.size W)=>Ph x s W h he hwf hl ht);have CK:=tm (fun W (h:StmIn (·<w.heap.size) W s x)=>sqlCheck_any (·<w.heap.size) x s W h hwf hl ht);have S:Hid (St w (w.alloc (.cells s.arr 50)) [(w.heap.size,s.arr,50)]):=St.alloc (St.start w);have H:Hid (StmIn (·<w.heap.size) w s x):=h;clear h hwf hl ht he HS;go_enter func4,ntmps4;go_upto_region 1 with fail;refine St.gen S.out ?_;clear S;intro w1 S;go_wp2_with fail;refine tp (C.out w.heap.size w1 (HE.out.kept S.out.below)) ?_;rintro e w2 ⟨rfl,hb⟩;replace S:=tm (S.out.kept hb);clear hb;go_upto_region 2 with fail;go_wp2_with(refine ux rfl 50 (.tmp 1) rfl w.heap.size rfl 50 s.arr (0,0) _ (S.out.blk 0 rfl) underlying50 rfl (sv_size _) ?_);refine tp (FW.out w2 (H.out.kept S.out.below)) ?_;rintro e w3 ⟨b,rfl,hb⟩;replace S:=tm (S.out.kept hb);clear hb FW
 cases b with
 | false=>exact z1033
 | true=>
  go_upto_region 4 with fail;go_wp2_with(refine ux rfl 50 (.tmp 1) rfl w.heap.size rfl 50 s.arr (0,0) _ (S.out.blk 0 rfl) underlying50 rfl (sv_size _) ?_);refine tp (PR.out w3 ((H.out.kept S.out.below).mono (fun b hb=>vw hb S.out.below.size)) ((HE.out.kept S.out.below).up S.out.below.size (tu _))) ?_;rintro e w4 ⟨rfl,hb⟩;replace S:=tm (S.out.kept hb);clear hb PR;obtain⟨f,hf⟩:∃f,x.formed=f:=⟨_,rfl⟩
  cases f with
  | false=>
   have hpx:printS x=([],3):=by unfold printS;rw[hf];rfl
   rw[hpx];exact nf
  | true=>
   have hpx:printS x=if 4000<(joinSp (stmP x)).length then([],2)else(joinSp (stmP x),0):=by unfold printS;rw[if_pos hf]
   by_cases hlim:4000<(joinSp (stmP x)).length
   ·rw[hpx,if_pos hlim];exact nf
   have hpt:parseS (joinSp (stmP x))=.ok x:=Sl hf acw;have CT:Hid (∀(B:Nat) (W:World),Env B W->Calls prog 15 #[.string ⟨(joinSp (stmP x)).toArray⟩] W (ParsePost W (.ok x))):=by rw[<- hpt];exact Cs _ acw
   have CS:=tm (fun(r:SV) W (h1:StmIn (·<w.heap.size) W s x) (h2:StmIn (·<W.heap.size) W r x)=>O5 _ _ x x s r W h1 h2 (Ji hf) (T5 hf) true acx);rw[hpx,if_neg hlim];clear hpt hlim hpx CK;generalize joinSp (stmP x)=t at CT ⊢;go_upto_region 7 with fail;go_wp2_with fail;refine tp (CT.out w.heap.size w4 (HE.out.kept S.out.below)) ?_;rintro e w5 ⟨sv,rfl,hs,hb⟩;refine z252 ?_;intro S;have H2:Hid (StmIs (w4.heap.size≤·) w5 sv x):=hs;clear hb hs CT;go_upto_region 8 with(first|(refine ur rfl 50 (.tmp 6) (.tmp 36) rfl w5.heap.size sv.arr rfl rfl 50 (SV.arr {}) ((De S.out).blk 1 rfl) (sv_size _) rfl (sv_one _) ?_)|(refine ur rfl 26 (.tmp 7) (.tmp 37) rfl (w5.heap.size+1) #[U 0,U 0] rfl rfl 26 #[U 0,U 0] ((Dd S.out sv.arr).blk 0 rfl) (Cc _ _) rfl (Gl _ _) ?_));refine Cf (Bl (St.start w5) sv.arr 0 0).below (Bl S.out sv.arr 0 0) ?_;clear S;intro w6 hb S;replace H2:=tm (H2.out.kept hb);clear hb;generalize w5.heap.size=b2 at S ⊢;obtain⟨q,qf,ql⟩:=Aa (o:=0) (S.out.blk 0 rfl) rfl;obtain⟨q,qf,ql⟩:=Aa (o:=1) (S.out.blk 0 rfl) rfl;go_wp2_with(first|(refine Ap rfl 50 (.tmp 1) rfl w.heap.size rfl 50 s.arr (0,0) _ (S.out.blk 2 rfl) underlying50 rfl (sv_size _) ?_)|(refine Ap rfl 50 (.tmp 6) rfl b2 rfl 50 sv.arr (0,0) _ (S.out.blk 1 rfl) underlying50 rfl (sv_size _) ?_));refine tp (CS.out sv w6 (H.out.kept S.out.below) H2.out.lt) ?_;rintro e w7 ⟨rfl,hb⟩;exact gh
theorem agn (x:Stm) (s:SV) (w:World) (h:StmIn (·<w.heap.size) w s x) (hwf:x.Wf) (hl:x.lists<=4611686018427387904) (ht:x.txt<=4611686018427387904) (he:Env w.heap.size w):
 Calls prog 4 #[.agg s.arr] w (fun e w'=>e=.returned (.bool true)/\Below w.heap.size w w'):=ag7 Ry x s w h hwf hl ht he
end
section
open Go.ChangeShapes Go.WideShapes Go.ChangeAt Go.Joins
namespace printedIsParsed
noncomputable def start (os:Os):World:=startOf os allLaid
theorem laid_same:Rows.sqlPrintedIsParsedRow.laid=allLaid:=acz
theorem laid_met (os:Os):laidMet prog Rows.sqlPrintedIsParsedRow.laid ((start os).forCall (fun _ _=>0) ⟨#[],#[(.agg (SV.arr {}))],[]⟩).memory:=ags
theorem reads (os:Os) {H:Type} (enc:TypeId×Value->H):∃x,DataW.whole enc prog ((start os).forCall (fun _ _=>0) ⟨#[],#[(.agg (SV.arr {}))],[]⟩).memory Tryz.f4.params.toList Rows.sqlPrintedIsParsedSpec.vars false #[(.agg (SV.arr {}))].toList 8=some x/\True:=
 ⟨([.agg [.lit (.int .i64 0),.lit (.string []),.lit (.string []),.agg [.lit (.string []),.nil,.nil,.nil],.agg [.lit (.string []),.lit (.int .i64 0),.lit (.bool false)],.nil,.lit (.bool false),.nil,.nil,.agg [.lit (.int .i64 0),.lit (.string []),.lit (.string []),.agg [.lit (.int .i64 0),.lit (.int .i64 0),.lit (.string [])],.nil],.agg [.lit (.bool false),.nil,.nil,.nil,.agg [.lit (.int .i64 0),.lit (.string []),.lit (.string []),.agg [.lit (.int .i64 0),.lit (.int .i64 0),.lit (.string [])],.nil],.nil,.nil,.lit (.int .i64 0)],.lit (.int .i64 0)]],[],[]),by kernel_rfl,trivial⟩
theorem closed:joinedFacts prog 4 Tryz.f4 (OpenSpec.ofChange Rows.sqlPrintedIsParsedSpec).bare Rows.sqlPrintedIsParsedRow=true:=by
 unfold joinedFacts
 simp only[tr]
 and_intros
 all_goals(as_aux_lemma=>kernel_rfl)
theorem plain (f:FuncId) (fn:Func) (hf:Tryz.pinned.checked.prog.funcNamed Rows.sqlPrintedIsParsedRow.func=some f) (hfn:Tryz.pinned.checked.prog.funcs[f]?=some fn):true=Tryz.pinned.checked.prog.looks []/\∀(j:Nat) t,fn.params[j]?=some t->Tryz.pinned.checked.prog.wantsStandIn t=false:=by
 obtain rfl:f=4:=xt ((show prog.funcNamed Rows.sqlPrintedIsParsedRow.func=some 4 by kernel_rfl).symm.trans hf) |>.symm
 obtain rfl:fn=Tryz.f4:=(xt (func4.symm.trans hfn)).symm;refine⟨by kernel_rfl,fun j t ht=>?_⟩;rw[Tryz.params4]at ht;exact ad9 t (by have:=Array.mem_of_getElem? ht;simp at this;rcases this with rfl<;>simp)
end printedIsParsed
namespace printedIsParsed
theorem contract (H:Type) (enc:TypeId×Value->H) (W:World) (base:Nat) (args:Array Value) (ds gs:List (DataW H)) (before:List MemPlace) (hval:∀(j:Nat) t v,Tryz.f4.params[j]?=some t->args[j]?=some v->Value.okWide prog W .any base t v) (hW:DataW.Whole enc prog Tryz.f4.params.toList Rows.sqlPrintedIsParsedSpec.vars false W args.toList ds gs before) (hZ:(DataW.weightsEach prog (Tryz.f4.params.toList++(OpenSpec.ofChange Rows.sqlPrintedIsParsedSpec).bare.plain.varTypes prog) (ds++gs)).all (·≤reachBytes)=true) (hL:laidMetH prog Rows.sqlPrintedIsParsedRow.laid W) (hS:W.ShapedOpen prog):Calls prog 4 args W fun e W'=>∃v,e=.returned v/\Rows.sqlPrintedIsParsedSpec.post enc prog Tryz.f4 false true false false W args v W':=by
 have hE:Env W.heap.size W:=o9 hL hS acz acz acz acz acz;have hW':=hW;obtain⟨p,q,hA,hV,rfl,_,_⟩:=hW;rw[Tryz.params4]at hA hval;obtain⟨v0,vs,d,ds0,p0,q0,hargs,rfl,rfl,h0,r⟩:=trodAll_cons hA;obtain⟨rfl,rfl,rfl⟩:=trodAll_nil r;obtain rfl:args=#[v0]:=by cases args;simp_all
 obtain⟨rfl,rfl⟩:=trodVars_none hV;obtain⟨sa,xa,rfl,hina,hwfa,hla,hta⟩:=adw (hval 0 50 v0 rfl rfl) h0 (fun k hk=>by simpa using vg.1 hZ k (DataW.weights_mem_each (j:=0) rfl rfl k hk));refine(agn xa sa W (hina.move fun _ h _=>⟨h,rfl⟩) hwfa hla hta hE).mono fun e W' ⟨he,hb⟩=>⟨_,he,?_⟩;exact cw jj (fun t ht=>adv t (by rw[Tryz.params4]at ht;simp at ht;rcases ht with rfl<;>simp)) rfl acz underlying4 hW' hb rfl
theorem lifted (os:Os) (started:os.Started) (H:Type) (enc:TypeId×Value->H) (F:Stop.Interp):ReturnsInHanded {} Tryz.checked os 4 .any ((OpenSpec.ofChange Rows.sqlPrintedIsParsedSpec).preRow enc prog Tryz.f4 Rows.sqlPrintedIsParsedRow.domain false Rows.sqlPrintedIsParsedRow.laid) (((OpenSpec.ofChange Rows.sqlPrintedIsParsedSpec).at F).post enc prog Tryz.f4 false true false false):=by
 obtain⟨x,hx,_⟩:=reads os enc;refine returnsInHanded_of_row (C:=Tryz.checked) (s:=OpenSpec.ofChange Rows.sqlPrintedIsParsedSpec) own started acz func4
  (Hz (enc:=enc) (C:=Tryz.checked) false (start os) #[(.agg (SV.arr {}))] (Ru _ _) (kh os _) (Uu os _) acz
   (OpenSpec.preRow_of_cond 8 hx acz (fun k hk=>by cases hk) acz (laid_met os))) ?_
 exact rd
theorem said:Rows.SqlPrintedIsParsedSaid:=
 OpenClaim.holds_of_cond 4 Tryz.f4 rfl rfl rfl rfl rfl rfl rfl ⟨rfl,rfl,rfl,rfl,rfl⟩ rfl rfl rfl rfl rfl acz func4 closed
  (zw acz) (by unfold Func.isWrapper;first|(rw[if_pos ac0];kernel_rfl)|(rw[if_neg ac0];exact⟨rfl,rfl⟩))
  (fun os started H enc _ F=>by rw[OpenClaim.pre_eq_preRow];exact lifted os started H enc F)
theorem card:Rows.SqlPrintedIsParsedCardSaid:=
 Claim7.holds_tied_plain_at .later [] _ _ _ _ said (fun _ h=>by cases h) acz (fun _ h=>by cases h) sqlPrintedIsParsed_row_tie rfl ⟨rfl,rfl⟩ acz rfl plain acz
#print axioms card
end printedIsParsed
end
end Go.Proofs.YtimoefagohifaaaGreatDoor
