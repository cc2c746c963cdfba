/- Part 25; the last part says what is proved. No condition. -/
import Derived.Test.YtjmmbebkbkgefaaGreatDoorB24
set_option linter.unusedVariables false
set_option linter.unusedSimpArgs false
set_option maxHeartbeats 16000000
set_option maxRecDepth 100000
namespace Go.Proofs.YtjmmbebkbkgefaaGreatDoor
open Go.RowKit Go.Sort Go.Proofs.Tryz
theorem Dm (Q R:Nat->Prop):∀e:Xp,e.short->∀(cs ds:List Value) (w:World),XpIn Q w e cs->XpIn R w e ds ->
 Calls prog 11 #[.agg cs.toArray,.agg ds.toArray] w (Says (.bool true) w):=by
 refine Xp.ind fun op n v args ih=>?_
 intro hsh cs ds w h1 h2
 obtain⟨a,rfl,hs1⟩:=Ai.1 h1
 obtain⟨a',rfl,hs2⟩:=Ai.1 h2
 obtain⟨ad,ac,rfl⟩:=hs1.slice
 obtain⟨bd,bc,rfl⟩:=hs2.slice
 have hal:args.length<=1000000:=hsh.1
 have HV1:=Lib.hid hs1
 have HV2:=Lib.hid hs2
 have IH:=Lib.hid (fun(x:Xp) (hm:x∈args)=>ih x hm (Gl hsh.2 x hm))
 clear ih hsh hs1 hs2 h1 h2
 go_enter func11,ntmps11
 go_upto_region 1 with fail
 refine St.gen (St.alloc (St.alloc (St.start _))) ?_
 intro w1 S1
 try(simp only[List.set_cons_zero,List.set_cons_succ,List.setIfInBounds_toArray,World.size_alloc]at S1)
 have F1:=S1.out.facts
 simp only[St.Facts,cellFacts,apartFacts,and_true]at F1
 go_upto_region 4 with fail
 go_loopw [5,6] (fun iv _ wr=>∃k:Nat,k<=args.length/\iv=.int .i64 k/\Hid (St w wr [(w.heap.size+1,#[.int .i64 op,.int .i64 n,.int .i64 v.k,.int .i64 v.n,.string v.s,.slice bd args.length bc],49),(w.heap.size,#[.int .i64 op,.int .i64 n,.int .i64 v.k,.int .i64 v.n,.string v.s,.slice ad args.length ac],49)])) (fun iv _ _=>args.length - (intOf iv).toNat)
 case atStart=>exact⟨0,by omega,rfl,S1.out⟩
 case round=>
  clear S1 F1;obtain⟨k,hk,rfl,S2⟩:=hrel;have F2:=S2.out.facts;simp only[St.Facts,cellFacts,apartFacts,and_true]at F2;by_cases hlt:k<args.length
  ·obtain⟨x,hx⟩:∃x,args[k]?=some x:=⟨args[k],by simp[hlt]⟩;have hbx:w.heap.size+1<wr.heap.size:=(Array.getElem?_eq_some_iff.1 (S2.out.blk 0 rfl)).1;obtain⟨b1,o1,cp1,cs1,hb1,hc1,hatx⟩:=(HV1.out.kept (by decide) S2.out.below).at hx;obtain⟨b2,o2,cp2,cs2,hb2,hc2,haty⟩:=(HV2.out.kept (by decide) S2.out.below).at hx;injection hb1 with e1 e3 e2;subst e1 e2;clear e3;injection hb2 with e1 e3 e2;subst e1 e2;clear e3;have HC1:Hid (∀W,Below wr.heap.size wr W->XpIn Q W x cs1):=fun W hb=>xpE.move (fun b hl k=>⟨k,hb.block b hl⟩) hc1;have HC2:Hid (∀W,Below wr.heap.size wr W->XpIn R W x cs2):=fun W hb=>xpE.move (fun b hl k=>⟨k,hb.block b hl⟩) hc2;obtain⟨op2,n2,v2,args2⟩:=x;obtain⟨s1,rfl,hr1⟩:=Ai.1 (show XpIn Q wr (.mk op2 n2 v2 args2) cs1 from hc1);obtain⟨s2,rfl,hr2⟩:=Ai.1 (show XpIn R wr (.mk op2 n2 v2 args2) cs2 from hc2);obtain⟨s1,d1,rfl⟩:=hr1.slice;obtain⟨s2,d2,rfl⟩:=hr2.slice;have x0:=cell_regrown (hatx 0 _ rfl);have x1:=cell_regrown (hatx 1 _ rfl);have x2:=cell_regrown (hatx 2 _ rfl);have x3:=cell_regrown (hatx 3 _ rfl);have x4:=cell_regrown (hatx 4 _ rfl);have x5:=cell_regrown (hatx 5 _ rfl);simp only[show xpE.k=6 from rfl,Nat.add_zero]at x0 x1 x2 x3 x4 x5;have y0:=cell_regrown (haty 0 _ rfl);have y1:=cell_regrown (haty 1 _ rfl);have y2:=cell_regrown (haty 2 _ rfl);have y3:=cell_regrown (haty 3 _ rfl);have y4:=cell_regrown (haty 4 _ rfl);have y5:=cell_regrown (haty 5 _ rfl);simp only[show xpE.k=6 from rfl,Nat.add_zero]at y0 y1 y2 y3 y4 y5;have hki:(k:Int)<(args.length:Int):=by omega
   have CC:Hid (∀(d:Nat) (os:Array Obj),Calls prog 11 #[.agg #[.int .i64 op2,.int .i64 n2,.int .i64 v2.k,.int .i64 v2.n,.string v2.s,.slice s1 args2.length d1],.agg #[.int .i64 op2,.int .i64 n2,.int .i64 v2.k,.int .i64 v2.n,.string v2.s,.slice s2 args2.length d2]] (grow (redrawn wr d) os) (Says (.bool true) (grow (redrawn wr d) os))):=fun d os=>
    IH.out (.mk op2 n2 v2 args2) (List.mem_of_getElem? hx) _ _ _ (HC1.out _ (below_regrown wr d os)) (HC2.out _ (below_regrown wr d os))
   clear hr1 hr2 hatx haty hc1 hc2 hx HC1 HC2;have F2:=S2.out.factsG;simp only[St.FactsG,cellFactsG,and_true]at F2;go_upto_region 6 with fail;refine Ab 12 [(0,false),(1,false),(2,false),(3,false),(4,false),(5,false),(6,false),(7,false),(8,false),(9,false),(10,false),(11,false)] (by kernel_rfl) (by kernel_rfl) ?_;repeat(refine An rfl (fun K hK=>?_);go_simp;first|(refine hK _ ?_;clear hK K)|(apply Exists.intro;refine⟨fun _=>?_,hK _ ?_⟩;(exact CC.out _ _);clear hK K))
   refine A3 ?_;intro w3 hb3 _;have S3:=Lib.hid (S2.out.kept hb3);clear hb3 x0 x1 x2 x3 x4 x5 y0 y1 y2 y3 y4 y5 S2 F2 CC;go_wp2_with fail;go_roundw
   case rel=>exact⟨k+1,by omega,by go_num,S3.out⟩
   case measure=>simp[intOf];omega
  ·obtain rfl:k=args.length:=by omega
   go_wp2_with fail;go_returns;exact⟨rfl,S2.out.below⟩
theorem Ji (Q:Nat->Prop) (sc:List Tbl) (tv:Value) (w:World) (ht:RSl tblE Q w tv sc) (hs:sc.length<=4611686018427387904):
 Calls prog 7 #[tv] w (Says (.bool (tablesP sc)) w):=by
 obtain⟨ta,tc,rfl⟩:=ht.slice
 have HT:=Lib.hid ht
 have S0:=Lib.hid (St.start w)
 clear ht
 generalize hbb:tablesP sc=bb
 have HBB:=Lib.hid hbb
 clear hbb
 go_enter func7,ntmps7
 go_wp2_with fail
 go_loopw [3] (fun iv wr=>∃k:Nat,k<=sc.length/\iv=.int .i64 k/\Hid (∀t∈sc.take k,t.cols.length<=20)/\Hid (St w wr [])) (fun iv _=>sc.length - (intOf iv).toNat)
 case atStart=>exact⟨0,by omega,rfl,(by show ∀t∈List.take 0 sc,_;simp),S0.out⟩
 case round=>
  clear S0;obtain⟨k,hk,rfl,HP,S1⟩:=hrel;by_cases hlt:k<sc.length
  ·obtain⟨a,hx⟩:∃x,sc[k]?=some x:=⟨sc[k],by simp[hlt]⟩;obtain⟨b,o,cap,cs,hbo,hin,hat⟩:=HT.out.at hx;injection hbo with e1 _ e2;subst e1;subst e2;obtain⟨ca,cc,ia,ic,ka,kc,rfl,hcols⟩:=hin;have x1:=S1.out.below.cell_kept (hat 1 _ rfl);simp only[show tblE.k=4 from rfl]at x1;have hki:(k:Int)<(sc.length:Int):=by omega
   have HX:=Lib.hid hx;clear hat hx hcols;by_cases hc:20<a.cols.length
   ·have hci:decide ((20:Int)<(a.cols.length:Int))=true:=by simp;omega
    have hb:bb=false:=by
     rw[<- HBB.out];unfold tablesP;rw[Bool.and_eq_false_iff];refine .inl (List.all_eq_false.2 ⟨a,List.mem_of_getElem? HX.out,?_⟩);simp;omega
    subst hb;go_wp2_with fail;go_returns;exact⟨rfl,S1.out.below⟩
   ·have hci:decide ((20:Int)<(a.cols.length:Int))=false:=by simp;omega
    have HP1:Hid (∀t∈sc.take (k+1),t.cols.length<=20):=fun t ht=>by
     obtain⟨h1,rfl⟩:=List.getElem?_eq_some_iff.1 HX.out;rw[List.take_succ_eq_append_getElem h1,List.mem_append,List.mem_singleton]at ht;rcases ht with ht|rfl
     ·exact HP.out t ht
     ·omega
    clear HP HX;go_wp2_with fail;go_roundw
    case rel=>exact⟨k+1,by omega,by go_num,HP1.out,S1.out⟩
    case measure=>simp[intOf];omega
  ·obtain rfl:k=sc.length:=by omega
   have hb:bb=decide ((sc.length:Int)<=10):=by
    rw[<- HBB.out];unfold tablesP;rw[List.all_eq_true.2 (fun t ht=>by have:=HP.out t (by rw[List.take_length];exact ht);simpa using this),Bool.true_and];rw[decide_eq_decide];omega
   subst hb;go_wp2_with fail;go_returns;exact⟨rfl,S1.out.below⟩
theorem R7:exSel.chosen=true:=by decide+kernel
theorem cj:exSel.Wf:=by
 constructor;all_goals simp[Ex.Wf,ExsWf,V.Wf,exSel,Ex.zero,V.null,colEx]
theorem Z8:(bindY schemaQ [exTbl] exSel).2=0:=by kernel_rfl
theorem Y1:(match (bindY schemaQ [exTbl] exSel).1 with|.mk k _ _ _ _ _ _ _ n=>(k,n))=(7,3):=by kernel_rfl
theorem Z7 (Q:Nat->Prop) (dv xv:Value) (w:World) (hd:RSl tblE Q w dv [exTbl]) (hx:RSelQ Q w exSel xv):
 Calls prog 12 #[dv,xv] w (fun e w'=>∃v:QV,e=.returned (.tuple #[.agg (QV.arr {v with k:=7,n:=3}),.int .i64 0])/\Below w.heap.size w w'):=by
 obtain⟨da,dc,rfl⟩:=hd.slice
 have hx0:=hx
 obtain⟨ia,ic,fa,fc,oa,oc,wa,wc,ga,gc,sa,sn,rfl,_⟩:=hx0
 have hok:SelOk exSel:=Hr R7
 have hdc:∀t∈[exTbl],t.cols.length<=20:=fun t ht=>by
  rw[List.mem_singleton]at ht;subst ht;decide
 have hso:∀s∈exSel.sort,0<=s.place/\s.place<=549755813887:=fun s hs=>by
  have hs':s∈[(⟨2,true⟩:Srt)]:=hs;rw[List.mem_singleton]at hs';subst hs';decide
 have hb:=Hh [exTbl] (by decide) hdc exSel hok.from_.1 hok.from_.2 hok.on.1 (fun e he=>Bb e (good_nd (hok.on.2 e he)).1) (Er hok.wh) hok.group.1 (fun e he=>Bb e (good_nd (hok.group.2 e he).2).1) hok.items.1 (fun it hit=>Cy (hok.items.2 it hit)) hok.sort hso
  (fun sc _ h0=>Cu hdc hok cj h0) da dc _ w (Ad (by decide) (fun b hb _=>⟨hb,rfl⟩) hd) ((farSel _ exSel).move (fun b hb _=>⟨hb,rfl⟩) hx)
 have h2:=Z8
 have hk:=Y1
 generalize bindY schemaQ [exTbl] exSel=r at hb h2 hk
 obtain⟨q,e0⟩:=r
 obtain rfl:e0=0:=h2
 refine hb.mono ?_
 rintro e w' ⟨v,rfl,hq,hbl⟩
 obtain⟨k,tab,subs,cond,cols,group,aggs,order,n⟩:=q
 obtain⟨xop,xn,xv,xargs⟩:=cond
 simp only[Prod.mk.injEq]at hk
 obtain⟨rfl,rfl⟩:=hk
 obtain⟨sa2,sc2,xa2,xc2,ca2,cc2,ga2,gc2,aa2,ac2,oa2,oc2,e9,_⟩:=Bl hq
 refine⟨v,?_,hbl⟩
 obtain⟨k1,tb1,s1,xo1,xn1,xv1,xa1,c1,g1,a1,o1,n1⟩:=v
 unfold QV.arr at e9
 simp only[List.cons.injEq,Value.int.injEq]at e9
 obtain⟨⟨_,rfl⟩,_,_,_,_,_,_,_,_,_,_,_,_,⟨_,rfl⟩,_⟩:=e9
 rfl
end Go.Proofs.YtjmmbebkbkgefaaGreatDoor
