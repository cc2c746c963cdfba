/- Laws that the last part needs. No condition. -/
import Derived.Test.YtimoefagohifaaaGreatDoorA20
import Derived.Test.YtimoefagohifaaaGreatDoorA39
import Derived.Test.YtimoefagohifaaaGreatDoorA41
import Derived.Test.YtimoefagohifaaaGreatDoorA43
import Derived.Test.YtimoefagohifaaaGreatDoorA47
set_option maxHeartbeats 8000000
set_option maxRecDepth 100000
namespace Go.Proofs.YtimoefagohifaaaGreatDoor
open Go.Proofs.Tryz
section
open Go.ChangeShapes Go.WideShapes Go.ChangeAt Go.RowKit Go.Joins
theorem a8 (t:TypeId) (h:t∈[9]):prog.readableRec t=true/\t<prog.types.size:=by
 have hall:([9].all fun t=>prog.readableRec t&&decide (t<prog.types.size))=true:=acz;have:=vg.1 hall t h;simpa using this
theorem Xh (t:TypeId) (h:t∈[9]):prog.wantsStandIn t=false:=by
 have hall:([9].all fun t=>!prog.wantsStandIn t)=true:=acz;simpa using vg.1 hall t h
section
variable {H:Type} {enc:TypeId×Value->H} {w:World} {base:Nat} {sp:Nat->Bool} {held:Bool} {fuel:Nat} {cs:List Value} {p:List MemPlace}
end
end
theorem Vy (k:Int):({Stm.zero with kind:=k}:Stm).Nice:=⟨rfl,⟨yu _,yu _⟩,yu _,⟨yu _,by simp[Stm.zero]⟩,⟨yu _,by simp[Stm.zero]⟩,.inr rfl,Br⟩
section
open Go.RowKit Go.Sort
theorem ads {P:Program} {ops:Array Oper} {rest:List Oper} {o:Oper} {a:Act} {w:World} {Q:Exit->Act->World->Prop} (hw:Region.wanted o (yielded ops a.tmps)=true) (t:TypeId) (parts:Array (Nat×Operand)) (ho:o.op=.build t parts) (cs:Array Value) (hf:P.built t (parts.map fun(i,x)=>(i,a.eval x)).toList=some cs) (h:wpList P ops Q rest (a.put o.dst (.agg cs)) w):wpList P ops Q (o::rest) a w:=by
 refine BigFrame.wpList_want hw fun _ hK=>wp_build t parts ho (by rw[hf];rfl) ?_;rw[hf];exact hK _ _ h
theorem ji (HS:SanityAt) {B:Nat} (s:Bytes) (w:World) (he:Env B w) (hi:B<=w.heap.size):Calls prog 5 #[.string ⟨s.toArray⟩] w (fun e w'=>e=.returned (.bool true)/\Below w.heap.size w w'):=by
 have HE:=tm he;have C:=tm HS;have hsz:(⟨s.toArray⟩:ByteArray).size=s.length:=by show s.toArray.size=_;simp
 have S:=tm (St.start w);clear he HS;go_enter func5,ntmps5;go_wp2_with fail;refine tp (C.out B w HE.out) ?_;rintro e w1 ⟨rfl,hb1⟩;replace S:=tm (S.out.kept hb1);clear hb1;by_cases hlen:4100<s.length
 ·exact z1033
 cases hx:parseS s with
 | error pq=>
  obtain⟨p,q⟩:=pq;have CP:Hid (∀(B:Nat) (W:World),Env B W->Calls prog 15 #[.string ⟨s.toArray⟩] W (ParsePost W (.error (p,q)))):=by rw[<- hx];exact Cs s acw
  obtain⟨h1,h2,h3⟩:=Su hx;have CS:=tm (fun W=>O5 (fun _=>True) (fun _=>True) Stm.zero Stm.zero {} {} W (Ad _ _).toIn (Ad _ _).toIn (Vy 0) rfl true acx);have g:(q==0)=false:=by simpa using h3
  have g:decide (p≥0)=true:=vf h1;have g:decide (p<=(s.length:Int))=true:=vf h2;clear hx;go_wp2_with fail;refine tp (CP.out B w1 (HE.out.kept S.out.below)) ?_;rintro e w2 ⟨rfl,hb⟩;replace S:=tm (S.out.kept hb);clear hb;go_upto_region 5 with(first|(refine ur rfl 50 (.tmp 4) (.tmp 20) rfl w2.heap.size (SV.arr {}) rfl rfl 50 (SV.arr {}) ((De S.out).blk 1 rfl) (sv_size _) rfl (sv_one _) ?_)|(refine ur rfl 26 (.tmp 5) (.tmp 21) rfl (w2.heap.size+1) #[U p,U q] rfl rfl 26 #[U 0,U 0] ((Dd S.out (SV.arr {})).blk 0 rfl) (Cc _ _) rfl (Gl _ _) ?_));refine Cf (Bl (St.start w2) (SV.arr {}) p q).below (Bl S.out (SV.arr {}) p q) ?_;clear S;intro w3 hb S;clear hb;generalize w2.heap.size=b at S ⊢;obtain⟨p0,pf,pl⟩:=Aa (o:=0) (S.out.blk 0 rfl) rfl;obtain⟨p1,pf,pl⟩:=Aa (o:=1) (S.out.blk 0 rfl) rfl;go_upto_region 6 with fail;go_wp2_with(first|(refine Ap rfl 50 (.tmp 4) rfl b rfl 50 (SV.arr {}) (0,0) _ (S.out.blk 1 rfl) underlying50 rfl (sv_size _) ?_)|(refine ads rfl 50 #[] rfl (SV.arr {}) Vv ?_));refine tp (CS.out w3) ?_;rintro e w4 ⟨rfl,hb⟩;exact gh
 | ok x=>
  obtain⟨hf,hwf,hl,ht⟩:=Ee hx;have CP:Hid (∀(B:Nat) (W:World),Env B W->Calls prog 15 #[.string ⟨s.toArray⟩] W (ParsePost W (.ok x))):=by rw[<- hx];exact Cs s acw
  have PR:=tm (K0 hx);have CK:Hid (∀(s:SV) (W:World),StmIn (·<W.heap.size) W s x->Calls prog 14 #[.agg s.arr] W (Says (U 0) W)):=fun s W h=>by
   have:=sqlCheck_any (·<W.heap.size) x s W h hwf hl ht;rw[hf]at this;exact this
  have CS:=tm (fun(s r:SV) W (h1:StmIn (·<W.heap.size) W s x) (h2:StmIn (·<W.heap.size) W r x)=>O5 _ _ x x s r W h1 h2 (Ji hf) (T5 hf) true acx);clear hx hwf hl ht;go_wp2_with fail;refine tp (CP.out B w1 (HE.out.kept S.out.below)) ?_;rintro e w2 ⟨sv,rfl,hs,hb⟩;replace S:=tm (S.out.kept hb);have H:Hid (StmIs (w1.heap.size≤·) w2 sv x):=hs;clear hb hs CP;go_upto_region 5 with(first|(refine ur rfl 50 (.tmp 4) (.tmp 20) rfl w2.heap.size sv.arr rfl rfl 50 (SV.arr {}) ((De S.out).blk 1 rfl) (sv_size _) rfl (sv_one _) ?_)|(refine ur rfl 26 (.tmp 5) (.tmp 21) rfl (w2.heap.size+1) #[U 0,U 0] rfl rfl 26 #[U 0,U 0] ((Dd S.out sv.arr).blk 0 rfl) (Cc _ _) rfl (Gl _ _) ?_));refine Cf (Bl (St.start w2) sv.arr 0 0).below (Bl S.out sv.arr 0 0) ?_;clear S;intro w3 hb S;replace H:=tm (H.out.kept hb);clear hb;generalize w2.heap.size=b at S ⊢;obtain⟨p1,pf,pl⟩:=Aa (o:=1) (S.out.blk 0 rfl) rfl;go_upto_region 7 with fail;clear p1 pf pl;go_wp2_with(refine ux rfl 50 (.tmp 4) rfl b rfl 50 sv.arr (0,0) _ (S.out.blk 1 rfl) underlying50 rfl (sv_size _) ?_);refine tp (PR.out sv w3 H.out.lt ((HE.out.kept S.out.below).up (vj hi S.out.below.size) (tu _))) ?_;rintro e w4 ⟨rfl,hb⟩;replace S:=tm (S.out.kept hb);replace H:=tm (H.out.kept hb);clear hb;have hpx:printS x=if 4000<(joinSp (stmP x)).length then([],2)else(joinSp (stmP x),0):=by unfold printS;rw[if_pos hf]
  by_cases hlim:4000<(joinSp (stmP x)).length
  ·rw[hpx,if_pos hlim];go_upto_region 9 with fail;go_wp2_with(refine Ap rfl 50 (.tmp 4) rfl b rfl 50 sv.arr (0,0) _ (S.out.blk 1 rfl) underlying50 rfl (sv_size _) ?_);refine tp (CK.out sv w4 H.out.lt) ?_;rintro e w5 ⟨rfl,hb⟩;exact gh
  have hpt:parseS (joinSp (stmP x))=.ok x:=Sl hf acw;have CT:Hid (∀(B:Nat) (W:World),Env B W->Calls prog 15 #[.string ⟨(joinSp (stmP x)).toArray⟩] W (ParsePost W (.ok x))):=by rw[<- hpt];exact Cs _ acw
  rw[if_neg hlim]at hpx;have HPX:=tm hpx;rw[hpx];clear hpt hlim hpx;generalize joinSp (stmP x)=t at CT HPX ⊢;go_upto_region 10 with fail;go_wp2_with fail;refine tp (CT.out B w4 (HE.out.kept S.out.below)) ?_;rintro e w5 ⟨sv2,rfl,hs,hb⟩;replace S:=tm (S.out.kept hb);replace H:=tm (H.out.kept hb);have H2:Hid (StmIs (w4.heap.size≤·) w5 sv2 x):=hs;clear hb hs CT;go_upto_region 11 with(first|(refine ur rfl 50 (.tmp 8) (.tmp 59) rfl w5.heap.size sv2.arr rfl rfl 50 (SV.arr {}) ((De S.out).blk 1 rfl) (sv_size _) rfl (sv_one _) ?_)|(refine ur rfl 26 (.tmp 9) (.tmp 60) rfl (w5.heap.size+1) #[U 0,U 0] rfl rfl 26 #[U 0,U 0] ((Dd S.out sv2.arr).blk 0 rfl) (Cc _ _) rfl (Gl _ _) ?_));refine Cf (Bl (St.start w5) sv2.arr 0 0).below (Bl S.out sv2.arr 0 0) ?_;clear S;intro w6 hb S;replace H:=tm (H.out.kept hb);replace H2:=tm (H2.out.kept hb);clear hb;generalize w5.heap.size=b2 at S ⊢;go_wp2_with(refine ux rfl 50 (.tmp 8) rfl b2 rfl 50 sv2.arr (0,0) _ (S.out.blk 1 rfl) underlying50 rfl (sv_size _) ?_);refine tp (PR.out sv2 w6 H2.out.lt ((HE.out.kept S.out.below).up (vj hi S.out.below.size) (tu _))) ?_;rintro e w7 ⟨rfl,hb⟩;rw[HPX.out];replace S:=tm (S.out.kept hb);replace H:=tm (H.out.kept hb);replace H2:=tm (H2.out.kept hb);clear hb;go_upto_region 12 with fail;obtain⟨q0,qf,ql⟩:=Aa (o:=0) (S.out.blk 0 rfl) rfl;obtain⟨q1,q1f,q1l⟩:=Aa (o:=1) (S.out.blk 0 rfl) rfl
  go_wp2_with(refine Ap rfl 50 (.tmp 4) rfl b rfl 50 sv.arr (0,0) _ (S.out.blk 3 rfl) underlying50 rfl (sv_size _) ?_);refine tp (CK.out sv w7 H.out.lt) ?_;rintro e w8 ⟨rfl,hb⟩;replace S:=tm (S.out.kept hb);replace H:=tm (H.out.kept hb);replace H2:=tm (H2.out.kept hb);clear hb q0 qf ql q1 q1f q1l;obtain⟨q0,qf,ql⟩:=Aa (o:=0) (S.out.blk 0 rfl) rfl;obtain⟨q1,qf,ql⟩:=Aa (o:=1) (S.out.blk 0 rfl) rfl;go_wp2_with(first|(refine Ap rfl 50 (.tmp 4) rfl b rfl 50 sv.arr (0,0) _ (S.out.blk 3 rfl) underlying50 rfl (sv_size _) ?_)|(refine Ap rfl 50 (.tmp 8) rfl b2 rfl 50 sv2.arr (0,0) _ (S.out.blk 1 rfl) underlying50 rfl (sv_size _) ?_));refine tp (CS.out sv sv2 w8 H.out.lt H2.out.lt) ?_;rintro e w9 ⟨rfl,hb⟩;exact gh
theorem cx {B:Nat} (s:Bytes) (w:World) (he:Env B w) (hi:B<=w.heap.size):
 Calls prog 5 #[.string ⟨s.toArray⟩] w (fun e w'=>e=.returned (.bool true)/\Below w.heap.size w w'):=ji Ry s w he hi
end
section
open Go.ChangeShapes Go.WideShapes Go.ChangeAt Go.RowKit Go.Joins
namespace parsedIsPrinted
noncomputable def start (os:Os):World:=startOf os allLaid
theorem laid_same:Rows.sqlParsedIsPrintedRow.laid=allLaid:=acz
theorem laid_met (os:Os):laidMet prog Rows.sqlParsedIsPrintedRow.laid ((start os).forCall (fun _ _=>0) ⟨#[],#[eS],[]⟩).memory:=ags
theorem reads (os:Os) {H:Type} (enc:TypeId×Value->H):∃x,DataW.whole enc prog ((start os).forCall (fun _ _=>0) ⟨#[],#[eS],[]⟩).memory Tryz.f5.params.toList Rows.sqlParsedIsPrintedSpec.vars false #[eS].toList 8=some x/\True:=
 ⟨([.lit (.string [])],[],[]),by kernel_rfl,trivial⟩
theorem closed:joinedFacts prog 5 Tryz.f5 (OpenSpec.ofChange Rows.sqlParsedIsPrintedSpec).bare Rows.sqlParsedIsPrintedRow=true:=by
 unfold joinedFacts
 simp only[tr]
 and_intros
 all_goals(as_aux_lemma=>kernel_rfl)
theorem plain (f:FuncId) (fn:Func) (hf:Tryz.pinned.checked.prog.funcNamed Rows.sqlParsedIsPrintedRow.func=some f) (hfn:Tryz.pinned.checked.prog.funcs[f]?=some fn):true=Tryz.pinned.checked.prog.looks []/\∀(j:Nat) t,fn.params[j]?=some t->Tryz.pinned.checked.prog.wantsStandIn t=false:=by
 obtain rfl:f=5:=xt ((show prog.funcNamed Rows.sqlParsedIsPrintedRow.func=some 5 by kernel_rfl).symm.trans hf) |>.symm
 obtain rfl:fn=Tryz.f5:=(xt (func5.symm.trans hfn)).symm;refine⟨by kernel_rfl,fun j t ht=>?_⟩;rw[Tryz.params5]at ht;exact Xh t (by have:=Array.mem_of_getElem? ht;simp at this;rcases this with rfl<;>simp)
end parsedIsPrinted
namespace parsedIsPrinted
theorem contract (H:Type) (enc:TypeId×Value->H) (W:World) (base:Nat) (args:Array Value) (ds gs:List (DataW H)) (before:List MemPlace) (hval:∀(j:Nat) t v,Tryz.f5.params[j]?=some t->args[j]?=some v->Value.okWide prog W .any base t v) (hW:DataW.Whole enc prog Tryz.f5.params.toList Rows.sqlParsedIsPrintedSpec.vars false W args.toList ds gs before) (hL:laidMetH prog Rows.sqlParsedIsPrintedRow.laid W) (hS:W.ShapedOpen prog):Calls prog 5 args W fun e W'=>∃v,e=.returned v/\Rows.sqlParsedIsPrintedSpec.post enc prog Tryz.f5 false true false false W args v W':=by
 have hE:Env W.heap.size W:=o9 hL hS acz acz acz acz acz;have hW':=hW;obtain⟨p,q,hA,hV,rfl,_,_⟩:=hW;rw[Tryz.params5]at hA hval;obtain⟨v0,vs,d,ds0,p0,q0,hargs,rfl,rfl,h,r⟩:=trodAll_cons hA;obtain⟨rfl,rfl,rfl⟩:=trodAll_nil r;obtain rfl:args=#[v0]:=by cases args;simp_all
 obtain⟨rfl,rfl⟩:=trodVars_none hV;obtain⟨a,rfl,rfl,rfl,la⟩:=Go.ChangeMaps.open_string underlying9 (hval 0 9 v0 rfl rfl) h;refine(cx (B:=W.heap.size) a.data.toList W hE (tu _)).mono fun e W' ⟨he,hb⟩=>⟨_,he,?_⟩;exact cw jj (fun t ht=>a8 t (by rw[Tryz.params5]at ht;simp at ht;rcases ht with rfl<;>simp)) rfl acz underlying4 hW' hb rfl
theorem lifted (os:Os) (started:os.Started) (H:Type) (enc:TypeId×Value->H) (F:Stop.Interp):ReturnsInHanded {} Tryz.checked os 5 .any ((OpenSpec.ofChange Rows.sqlParsedIsPrintedSpec).preRow enc prog Tryz.f5 Rows.sqlParsedIsPrintedRow.domain false Rows.sqlParsedIsPrintedRow.laid) (((OpenSpec.ofChange Rows.sqlParsedIsPrintedSpec).at F).post enc prog Tryz.f5 false true false false):=by
 obtain⟨x,hx,_⟩:=reads os enc;refine returnsInHanded_of_row (C:=Tryz.checked) (s:=OpenSpec.ofChange Rows.sqlParsedIsPrintedSpec) own started acz func5
  (Hz (enc:=enc) (C:=Tryz.checked) false (start os) #[eS] (Ru _ _) (kh os _) (Uu os _) acz
   (OpenSpec.preRow_of_cond 8 hx acz (fun k hk=>by cases hk) acz (laid_met os))) ?_
 intro W base args ds gs before hval hW _ _ _ hL hS _;exact contract H enc W base args ds gs before hval hW hL hS
theorem said:Rows.SqlParsedIsPrintedSaid:=
 OpenClaim.holds_of_cond 5 Tryz.f5 rfl rfl rfl rfl rfl rfl rfl ⟨rfl,rfl,rfl,rfl,rfl⟩ rfl rfl rfl rfl rfl acz func5 closed
  (zw acz) (by unfold Func.isWrapper;first|(rw[if_pos ac0];kernel_rfl)|(rw[if_neg ac0];exact⟨rfl,rfl⟩))
  (fun os started H enc _ F=>by rw[OpenClaim.pre_eq_preRow];exact lifted os started H enc F)
theorem card:Rows.SqlParsedIsPrintedCardSaid:=
 Claim7.holds_tied_plain_at .later [] _ _ _ _ said (fun _ h=>by cases h) acz (fun _ h=>by cases h) sqlParsedIsPrinted_row_tie rfl ⟨rfl,rfl⟩ acz rfl plain acz
#print axioms card
end parsedIsPrinted
end
end Go.Proofs.YtimoefagohifaaaGreatDoor
