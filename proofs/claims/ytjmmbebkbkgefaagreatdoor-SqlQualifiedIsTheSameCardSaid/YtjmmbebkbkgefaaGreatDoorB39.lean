/- Part 39; the last part says what is proved. No condition. -/
import Derived.Test.YtjmmbebkbkgefaaGreatDoorB23
import Derived.Test.YtjmmbebkbkgefaaGreatDoorB25
set_option linter.unusedVariables false
set_option linter.unusedSimpArgs false
set_option maxHeartbeats 16000000
set_option maxRecDepth 100000
namespace Go.Proofs.YtjmmbebkbkgefaaGreatDoor
open Go.RowKit Go.Sort Go.Proofs.Tryz
theorem K3 (Q R:Nat->Prop) (l:List Int) (hl:l.length<=1000000) (a b:Option Addr) (c d:Nat) (w:World) (h1:RSl intE Q w (.slice a l.length c) l) (h2:RSl intE R w (.slice b l.length d) l):
 Calls prog 95 #[.slice a l.length c,.slice b l.length d] w (Says (.bool true) w):=by
 have HV1:=Lib.hid h1
 have HV2:=Lib.hid h2
 have S1:=Lib.hid (St.start w)
 clear h1 h2
 go_enter func95,ntmps95
 go_wp2_with fail
 go_loopw [5] (fun iv wr=>∃k:Nat,k<=l.length/\iv=.int .i64 k/\Hid (St w wr [])) (fun iv _=>l.length - (intOf iv).toNat)
 case atStart=>exact⟨0,by omega,rfl,S1.out⟩
 case round=>
  clear S1;obtain⟨k,hk,rfl,S2⟩:=hrel;by_cases hlt:k<l.length
  ·obtain⟨x,hx⟩:∃x,l[k]?=some x:=⟨l[k],by simp[hlt]⟩;obtain⟨b1,o1,cp1,cs1,hb1,hc1,hatx⟩:=(HV1.out.kept (by decide) S2.out.below).at hx;obtain⟨b2,o2,cp2,cs2,hb2,hc2,haty⟩:=(HV2.out.kept (by decide) S2.out.below).at hx;injection hb1 with e1 e3 e2;subst e1 e2;clear e3;injection hb2 with e1 e3 e2;subst e1 e2;clear e3;have e1:cs1=[.int .i64 x]:=hc1;have e2:cs2=[.int .i64 x]:=hc2;subst e1 e2;have x0:=zC (hatx 0 _ rfl);have y0:=zC (haty 0 _ rfl);simp only[show intE.k=1 from rfl,Nat.mul_one,Nat.add_zero]at x0 y0;have hki:(k:Int)<(l.length:Int):=by omega
   clear hc1 hc2 hatx haty hx;go_upto_region 6 with fail;refine Ab 9 [(0,false),(1,false),(2,false),(3,false),(4,false),(5,false),(6,false),(7,false),(8,false)] (by kernel_rfl) (by kernel_rfl) ?_;repeat(refine An rfl (fun K hK=>?_);go_simp;first|(refine hK _ ?_;clear hK K)|(apply Exists.intro;refine⟨fun _=>?_,hK _ ?_⟩;(fail);clear hK K))
   refine A3 ?_;intro w3 hb3 _;have S3:=Lib.hid (S2.out.kept hb3);clear hb3 x0 y0 S2;go_wp2_with fail;go_roundw
   case rel=>exact⟨k+1,by omega,by go_num,S3.out⟩
   case measure=>simp[intOf];omega
  ·obtain rfl:k=l.length:=by omega
   go_wp2_with fail;go_returns;exact⟨rfl,S2.out.below⟩
theorem K2 (Q R:Nat->Prop) (l:List Xp) (hl:l.length<=1000000) (hsh:∀x∈l,x.short) (a b:Option Addr) (c d:Nat) (w:World) (h1:RSl xpE Q w (.slice a l.length c) l) (h2:RSl xpE R w (.slice b l.length d) l):
 Calls prog 94 #[.slice a l.length c,.slice b l.length d] w (Says (.bool true) w):=by
 have HV1:=Lib.hid h1
 have HV2:=Lib.hid h2
 have HSH:=Lib.hid hsh
 have S1:=Lib.hid (St.start w)
 clear h1 h2 hsh
 go_enter func94,ntmps94
 go_wp2_with fail
 go_loopw [5,6] (fun iv _ wr=>∃k:Nat,k<=l.length/\iv=.int .i64 k/\Hid (St w wr [])) (fun iv _ _=>l.length - (intOf iv).toNat)
 case atStart=>exact⟨0,by omega,rfl,S1.out⟩
 case round=>
  clear S1;obtain⟨k,hk,rfl,S2⟩:=hrel;by_cases hlt:k<l.length
  ·obtain⟨x,hx⟩:∃x,l[k]?=some x:=⟨l[k],by simp[hlt]⟩;obtain⟨b1,o1,cp1,cs1,hb1,hc1,hatx⟩:=(HV1.out.kept (by decide) S2.out.below).at hx;obtain⟨b2,o2,cp2,cs2,hb2,hc2,haty⟩:=(HV2.out.kept (by decide) S2.out.below).at hx;injection hb1 with e1 e3 e2;subst e1 e2;clear e3;injection hb2 with e1 e3 e2;subst e1 e2;clear e3;have hxs:=HSH.out x (List.mem_of_getElem? hx);have HC1:Hid (∀W,Below wr.heap.size wr W->XpIn Q W x cs1):=fun W hb=>xpE.move (fun b hl k=>⟨k,hb.block b hl⟩) hc1;have HC2:Hid (∀W,Below wr.heap.size wr W->XpIn R W x cs2):=fun W hb=>xpE.move (fun b hl k=>⟨k,hb.block b hl⟩) hc2;obtain⟨op2,n2,v2,args2⟩:=x;obtain⟨s1,rfl,hr1⟩:=Ai.1 (show XpIn Q wr (.mk op2 n2 v2 args2) cs1 from hc1);obtain⟨s2,rfl,hr2⟩:=Ai.1 (show XpIn R wr (.mk op2 n2 v2 args2) cs2 from hc2);obtain⟨s1,d1,rfl⟩:=hr1.slice;obtain⟨s2,d2,rfl⟩:=hr2.slice;have x0:=zC (hatx 0 _ rfl);have x1:=zC (hatx 1 _ rfl);have x2:=zC (hatx 2 _ rfl);have x3:=zC (hatx 3 _ rfl);have x4:=zC (hatx 4 _ rfl);have x5:=zC (hatx 5 _ rfl);simp only[show xpE.k=6 from rfl,Nat.add_zero]at x0 x1 x2 x3 x4 x5;have y0:=zC (haty 0 _ rfl);have y1:=zC (haty 1 _ rfl);have y2:=zC (haty 2 _ rfl);have y3:=zC (haty 3 _ rfl);have y4:=zC (haty 4 _ rfl);have y5:=zC (haty 5 _ rfl);simp only[show xpE.k=6 from rfl,Nat.add_zero]at y0 y1 y2 y3 y4 y5;have hki:(k:Int)<(l.length:Int):=by omega
   have CC:Hid (∀(d:Nat) (os:Array Obj),Calls prog 11 #[.agg #[.int .i64 op2,.int .i64 n2,.int .i64 v2.k,.int .i64 v2.n,.string v2.s,.slice s1 args2.length d1],.agg #[.int .i64 op2,.int .i64 n2,.int .i64 v2.k,.int .i64 v2.n,.string v2.s,.slice s2 args2.length d2]] (grow (redrawn wr d) os) (Says (.bool true) (grow (redrawn wr d) os))):=fun d os=>
    Dm Q R (.mk op2 n2 v2 args2) hxs _ _ _ (HC1.out _ (below_regrown wr d os)) (HC2.out _ (below_regrown wr d os))
   clear hr1 hr2 hatx haty hc1 hc2 hx HC1 HC2 hxs;go_upto_region 6 with fail;refine Ab 10 [(0,false),(1,false),(2,false),(3,false),(4,false),(5,false),(6,false),(7,false),(8,false),(9,false)] (by kernel_rfl) (by kernel_rfl) ?_;repeat(refine An rfl (fun K hK=>?_);go_simp;first|(refine hK _ ?_;clear hK K)|(apply Exists.intro;refine⟨fun _=>?_,hK _ ?_⟩;(exact CC.out _ _);clear hK K))
   refine A3 ?_;intro w3 hb3 _;have S3:=Lib.hid (S2.out.kept hb3);clear hb3 x0 x1 x2 x3 x4 x5 y0 y1 y2 y3 y4 y5 S2 CC;go_wp2_with fail;go_roundw
   case rel=>exact⟨k+1,by omega,by go_num,S3.out⟩
   case measure=>simp[intOf];omega
  ·obtain rfl:k=l.length:=by omega
   go_wp2_with fail;go_returns;exact⟨rfl,S2.out.below⟩
theorem K1 (Q R:Nat->Prop) (k:Int) (tab:Bytes) (subs:List Qy) (xop xn:Int) (xv:V) (xargs cols:List Xp) (group:List Int) (aggs:List Ag) (order:List Od) (n:Int) (hxs:(Xp.mk xop xn xv xargs).short) (hcs:∀x∈cols,x.short) (hag:∀a∈aggs,a.arg.short) (hl:cols.length+group.length+aggs.length+order.length<=1000000)
 (cs ds:List Value) (w:World) (h1:QyIn Q w (.mk k tab subs (.mk xop xn xv xargs) cols group aggs order n) cs) (h2:QyIn R w (.mk k tab subs (.mk xop xn xv xargs) cols group aggs order n) ds):Calls prog 48 #[.agg cs.toArray,.agg ds.toArray] w (Says (.bool true) w):=by
 obtain⟨sa,sc,xa,xc,ca,cc,ga,gc,aa,ac,oa,oc,rfl,_,hx1,hc1,hg1,ha1,ho1⟩:=Bl h1
 obtain⟨sb,sd,xb,xd,cb,cd,gb,gd,ab,ad,ob,od,rfl,_,hx2,hc2,hg2,ha2,ho2⟩:=Bl h2
 have HX1:=Lib.hid hx1
 have HX2:=Lib.hid hx2
 have HC1:=Lib.hid hc1
 have HC2:=Lib.hid hc2
 have HG1:=Lib.hid hg1
 have HG2:=Lib.hid hg2
 have HA1:=Lib.hid ha1
 have HA2:=Lib.hid ha2
 have HO1:=Lib.hid ho1
 have HO2:=Lib.hid ho2
 have HXS:=Lib.hid hxs
 have HCS:=Lib.hid hcs
 have HAG:=Lib.hid hag
 clear h1 h2 hx1 hx2 hc1 hc2 hg1 hg2 ha1 ha2 ho1 ho2 hxs hcs hag
 go_enter func48,ntmps48
 go_upto_region 1 with fail
 refine St.gen (St.alloc (St.alloc (St.start _))) ?_
 intro w1 S1
 try(simp only[List.set_cons_zero,List.set_cons_succ,List.setIfInBounds_toArray,World.size_alloc]at S1)
 have F1:=S1.out.facts
 simp only[St.Facts,cellFacts,apartFacts,and_true]at F1
 go_wp2_with fail
 go_loopw [5] (fun iv wr=>∃j:Nat,j<=aggs.length/\iv=.int .i64 j/\Hid (St w wr [(w.heap.size+1,#[.int .i64 k,.string ⟨tab.toArray⟩,.slice sb subs.length sd,.int .i64 xop,.int .i64 xn,.int .i64 xv.k,.int .i64 xv.n,.string xv.s,.slice xb xargs.length xd,.slice cb cols.length cd,.slice gb group.length gd,.slice ab aggs.length ad,.slice ob order.length od,.int .i64 n],59),(w.heap.size,#[.int .i64 k,.string ⟨tab.toArray⟩,.slice sa subs.length sc,.int .i64 xop,.int .i64 xn,.int .i64 xv.k,.int .i64 xv.n,.string xv.s,.slice xa xargs.length xc,.slice ca cols.length cc,.slice ga group.length gc,.slice aa aggs.length ac,.slice oa order.length oc,.int .i64 n],59)])) (fun iv _=>aggs.length - (intOf iv).toNat)
 case atStart=>exact⟨0,by omega,rfl,S1.out⟩
 case round=>
  clear S1 F1;obtain⟨j,hj,rfl,S2⟩:=hrel;have F2:=S2.out.facts;simp only[St.Facts,cellFacts,apartFacts,and_true]at F2;by_cases hlt:j<aggs.length
  ·obtain⟨x,hx⟩:∃x,aggs[j]?=some x:=⟨aggs[j],by simp[hlt]⟩;obtain⟨b1,o1,cp1,cs1,hb1,hi1,hatx⟩:=(HA1.out.kept (by decide) S2.out.below).at hx;obtain⟨b2,o2,cp2,cs2,hb2,hi2,haty⟩:=(HA2.out.kept (by decide) S2.out.below).at hx;injection hb1 with e1 e3 e2;subst e1 e2;clear e3;injection hb2 with e1 e3 e2;subst e1 e2;clear e3;have hxs:=HAG.out x (List.mem_of_getElem? hx);obtain⟨fn,op2,n2,v2,args2⟩:=x;obtain⟨c1,rfl,hd1⟩:=hi1;obtain⟨c2,rfl,hd2⟩:=hi2;have HD1:Hid (∀W,Below wr.heap.size wr W->XpIn Q W (.mk op2 n2 v2 args2) c1):=fun W hb=>Au (fun b hl k=>⟨k,hb.block b hl⟩) _ _ hd1;have HD2:Hid (∀W,Below wr.heap.size wr W->XpIn R W (.mk op2 n2 v2 args2) c2):=fun W hb=>Au (fun b hl k=>⟨k,hb.block b hl⟩) _ _ hd2;obtain⟨s1,rfl,hr1⟩:=Ai.1 hd1;obtain⟨s2,rfl,hr2⟩:=Ai.1 hd2;obtain⟨s1,d1,rfl⟩:=hr1.slice;obtain⟨s2,d2,rfl⟩:=hr2.slice;have x0:=zC (hatx 0 _ rfl);have x1:=zC (hatx 1 _ rfl);have x2:=zC (hatx 2 _ rfl);have x3:=zC (hatx 3 _ rfl);have x4:=zC (hatx 4 _ rfl);have x5:=zC (hatx 5 _ rfl);have x6:=zC (hatx 6 _ rfl);simp only[show agE.k=7 from rfl,Nat.add_zero]at x0 x1 x2 x3 x4 x5 x6;have y0:=zC (haty 0 _ rfl);have y1:=zC (haty 1 _ rfl);have y2:=zC (haty 2 _ rfl);have y3:=zC (haty 3 _ rfl);have y4:=zC (haty 4 _ rfl);have y5:=zC (haty 5 _ rfl);have y6:=zC (haty 6 _ rfl);simp only[show agE.k=7 from rfl,Nat.add_zero]at y0 y1 y2 y3 y4 y5 y6
   have hki:(j:Int)<(aggs.length:Int):=by omega
   have CC:Hid (∀(d:Nat) (os:Array Obj),Calls prog 11 #[.agg #[.int .i64 op2,.int .i64 n2,.int .i64 v2.k,.int .i64 v2.n,.string v2.s,.slice s1 args2.length d1],.agg #[.int .i64 op2,.int .i64 n2,.int .i64 v2.k,.int .i64 v2.n,.string v2.s,.slice s2 args2.length d2]] (grow (redrawn wr d) os) (Says (.bool true) (grow (redrawn wr d) os))):=fun d os=>
    Dm Q R (.mk op2 n2 v2 args2) hxs _ _ _ (HD1.out _ (below_regrown wr d os)) (HD2.out _ (below_regrown wr d os))
   clear hr1 hr2 hatx haty hd1 hd2 hx HD1 HD2 hxs;have F2:=S2.out.factsG;simp only[St.FactsG,cellFactsG,and_true]at F2;go_upto_region 6 with fail;refine Ab 29 [(0,false),(1,false),(2,false),(3,false),(4,false),(5,false),(6,false),(7,false),(8,false),(9,false),(10,false),(11,false),(12,false),(13,false),(14,false),(15,false),(16,false),(17,false),(18,false),(19,false),(20,false),(21,false),(22,false),(23,false),(24,false),(25,false),(26,false),(27,false),(28,false)] (by kernel_rfl) (by kernel_rfl) ?_;repeat(refine An rfl (fun K hK=>?_);go_simp;first|(refine hK _ ?_;clear hK K)|(apply Exists.intro;refine⟨fun _=>?_,hK _ ?_⟩;(exact CC.out _ _);clear hK K))
   refine A3 ?_;intro w3 hb3 _;have S3:=Lib.hid (S2.out.kept hb3);clear hb3 x0 x1 x2 x3 x4 x5 x6 y0 y1 y2 y3 y4 y5 y6 S2 F2 CC;go_wp2_with fail;go_roundw
   case rel=>exact⟨j+1,by omega,by go_num,S3.out⟩
   case measure=>simp[intOf];omega
  ·obtain rfl:j=aggs.length:=by omega
   go_wp2_with fail;go_loopw [6] (fun iv wr=>∃j:Nat,j<=order.length/\iv=.int .i64 j/\Hid (St w wr [(w.heap.size+1,#[.int .i64 k,.string ⟨tab.toArray⟩,.slice sb subs.length sd,.int .i64 xop,.int .i64 xn,.int .i64 xv.k,.int .i64 xv.n,.string xv.s,.slice xb xargs.length xd,.slice cb cols.length cd,.slice gb group.length gd,.slice ab aggs.length ad,.slice ob order.length od,.int .i64 n],59),(w.heap.size,#[.int .i64 k,.string ⟨tab.toArray⟩,.slice sa subs.length sc,.int .i64 xop,.int .i64 xn,.int .i64 xv.k,.int .i64 xv.n,.string xv.s,.slice xa xargs.length xc,.slice ca cols.length cc,.slice ga group.length gc,.slice aa aggs.length ac,.slice oa order.length oc,.int .i64 n],59)])) (fun iv _=>order.length - (intOf iv).toNat)
   case atStart=>exact⟨0,by omega,rfl,S2.out⟩
   case round=>
    clear S2 F2;obtain⟨j,hj,rfl,S2⟩:=hrel;have F2:=S2.out.facts;simp only[St.Facts,cellFacts,apartFacts,and_true]at F2;by_cases hlt:j<order.length
    ·obtain⟨x,hx⟩:∃x,order[j]?=some x:=⟨order[j],by simp[hlt]⟩;obtain⟨b1,o1,cp1,cs1,hb1,hi1,hatx⟩:=(HO1.out.kept (by decide) S2.out.below).at hx;obtain⟨b2,o2,cp2,cs2,hb2,hi2,haty⟩:=(HO2.out.kept (by decide) S2.out.below).at hx;injection hb1 with e1 e3 e2;subst e1 e2;clear e3;injection hb2 with e1 e3 e2;subst e1 e2;clear e3;have e1:cs1=[.int .i64 x.col,.bool x.down]:=hi1;have e2:cs2=[.int .i64 x.col,.bool x.down]:=hi2;subst e1 e2;have x0:=zC (hatx 0 _ rfl);have x1:=zC (hatx 1 _ rfl);have y0:=zC (haty 0 _ rfl);have y1:=zC (haty 1 _ rfl);simp only[show odE.k=2 from rfl,Nat.add_zero]at x0 x1 y0 y1;have hki:(j:Int)<(order.length:Int):=by omega
     clear hi1 hi2 hatx haty hx;have F2:=S2.out.factsG;simp only[St.FactsG,cellFactsG,and_true]at F2;go_upto_region 11 with fail;refine Ab 11 [(0,false),(1,false),(2,false),(3,false),(4,false),(5,false),(6,false),(7,false),(8,false),(9,false),(10,false)] (by kernel_rfl) (by kernel_rfl) ?_;repeat(refine An rfl (fun K hK=>?_);go_simp;first|(refine hK _ ?_;clear hK K)|(apply Exists.intro;refine⟨fun _=>?_,hK _ ?_⟩;(fail);clear hK K))
     refine A3 ?_;intro w3 hb3 _;have S3:=Lib.hid (S2.out.kept hb3);clear hb3 x0 x1 y0 y1 S2 F2;go_wp2_with fail;go_roundw
     case rel=>exact⟨j+1,by omega,by go_num,S3.out⟩
     case measure=>simp[intOf];omega
    ·obtain rfl:j=order.length:=by omega
     go_wp2_with fail;refine Calls.mono (Dm Q R (.mk xop xn xv xargs) HXS.out [.int .i64 xop,.int .i64 xn,.int .i64 xv.k,.int .i64 xv.n,.string xv.s,.slice xa xargs.length xc] [.int .i64 xop,.int .i64 xn,.int .i64 xv.k,.int .i64 xv.n,.string xv.s,.slice xb xargs.length xd] _ (Ai.2 ⟨_,rfl,HX1.out.kept (by decide) S2.out.below⟩) (Ai.2 ⟨_,rfl,HX2.out.kept (by decide) S2.out.below⟩)) ?_;rintro e w3 ⟨rfl,hb3⟩;have S3:=Lib.hid (S2.out.kept hb3);clear hb3 S2 F2;have F3:=S3.out.facts;simp only[St.Facts,cellFacts,apartFacts,and_true]at F3;go_wp2_with fail;refine Calls.mono (K2 Q R cols (by omega) HCS.out _ _ _ _ _ (HC1.out.kept (by decide) S3.out.below) (HC2.out.kept (by decide) S3.out.below)) ?_;rintro e w4 ⟨rfl,hb4⟩;have S4:=Lib.hid (S3.out.kept hb4);clear hb4 S3 F3;have F4:=S4.out.facts;simp only[St.Facts,cellFacts,apartFacts,and_true]at F4;go_wp2_with fail;refine Calls.mono (K3 Q R group (by omega) _ _ _ _ _ (HG1.out.kept (by decide) S4.out.below) (HG2.out.kept (by decide) S4.out.below)) ?_;rintro e w5 ⟨rfl,hb5⟩;have S5:=Lib.hid (S4.out.kept hb5);clear hb5 S4 F4;go_wp2_with fail;go_returns;exact⟨rfl,S5.out.below⟩
theorem N8 (Q R:Nat->Prop):∀q:Qy,QyNice q->∀(cs ds:List Value) (w:World),QyIn Q w q cs->QyIn R w q ds->Calls prog 13 #[.agg cs.toArray,.agg ds.toArray] w (Says (.bool true) w):=by
 refine Qy.ind fun k tab subs cond cols group aggs order n ih=>?_;intro hni cs ds w h1 h2;obtain⟨xop,xn,xv,xargs⟩:=cond;have CN0:=fun W (hb:Below w.heap.size w W)=>K1 Q R k tab subs xop xn xv xargs cols group aggs order n hni.1 hni.2.1 hni.2.2.1 hni.2.2.2.1 cs ds W (Ax (fun b hl k=>⟨k,hb.block b hl⟩) _ _ h1) (Ax (fun b hl k=>⟨k,hb.block b hl⟩) _ _ h2);obtain⟨sa,sc,xa,xc,ca,cc,ga,gc,aa,ac,oa,oc,rfl,hs1,_⟩:=Bl h1;obtain⟨sb,sd,xb,xd,cb,cd,gb,gd,ab,ad,ob,od,rfl,hs2,_⟩:=Bl h2;have CN:=Lib.hid CN0;have HS1:=Lib.hid hs1;have HS2:=Lib.hid hs2;have hsl:subs.length<=1000000:=hni.2.2.2.2.1;have IH:=Lib.hid (fun(x:Qy) (hm:x∈subs)=>ih x hm (Hy hni.2.2.2.2.2 x hm));clear CN0 h1 h2 hs1 hs2 ih hni;go_enter func13,ntmps13;go_upto_region 1 with fail;refine St.gen (St.alloc (St.alloc (St.start _))) ?_;intro w1 S1;try(simp only[List.set_cons_zero,List.set_cons_succ,List.setIfInBounds_toArray,World.size_alloc]at S1)
 have F1:=S1.out.facts;simp only[St.Facts,cellFacts,apartFacts,and_true]at F1;go_wp2_with fail;refine Calls.mono (CN.out _ S1.out.below) ?_;rintro e w2 ⟨rfl,hb2⟩;have S2:=Lib.hid (S1.out.kept hb2);clear hb2 S1 F1 CN;have F2:=S2.out.facts;simp only[St.Facts,cellFacts,apartFacts,and_true]at F2;go_wp2_with fail;go_loopw [6,7] (fun iv _ wr=>∃j:Nat,j<=subs.length/\iv=.int .i64 j/\Hid (St w wr [(w.heap.size+1,#[.int .i64 k,.string ⟨tab.toArray⟩,.slice sb subs.length sd,.int .i64 xop,.int .i64 xn,.int .i64 xv.k,.int .i64 xv.n,.string xv.s,.slice xb xargs.length xd,.slice cb cols.length cd,.slice gb group.length gd,.slice ab aggs.length ad,.slice ob order.length od,.int .i64 n],59),(w.heap.size,#[.int .i64 k,.string ⟨tab.toArray⟩,.slice sa subs.length sc,.int .i64 xop,.int .i64 xn,.int .i64 xv.k,.int .i64 xv.n,.string xv.s,.slice xa xargs.length xc,.slice ca cols.length cc,.slice ga group.length gc,.slice aa aggs.length ac,.slice oa order.length oc,.int .i64 n],59)])) (fun iv _ _=>subs.length - (intOf iv).toNat)
 case atStart=>exact⟨0,by omega,rfl,S2.out⟩
 case round=>
  clear S2 F2;obtain⟨j,hj,rfl,S3⟩:=hrel;have F3:=S3.out.facts;simp only[St.Facts,cellFacts,apartFacts,and_true]at F3;by_cases hlt:j<subs.length
  ·obtain⟨x,hx⟩:∃x,subs[j]?=some x:=⟨subs[j],by simp[hlt]⟩;obtain⟨b1,o1,cp1,cs1,hb1,hi1,hatx⟩:=(HS1.out.kept (by decide) S3.out.below).at hx;obtain⟨b2,o2,cp2,cs2,hb2,hi2,haty⟩:=(HS2.out.kept (by decide) S3.out.below).at hx;injection hb1 with e1 e3 e2;subst e1 e2;clear e3;injection hb2 with e1 e3 e2;subst e1 e2;clear e3;have HD1:Hid (∀W,Below wr.heap.size wr W->QyIn Q W x cs1):=fun W hb=>Ax (fun b hl k=>⟨k,hb.block b hl⟩) _ _ hi1;have HD2:Hid (∀W,Below wr.heap.size wr W->QyIn R W x cs2):=fun W hb=>Ax (fun b hl k=>⟨k,hb.block b hl⟩) _ _ hi2;obtain⟨k1,tab1,subs1,⟨op1,xn1,v1,args1⟩,cols1,group1,aggs1,order1,n1⟩:=x;obtain⟨p1,q1,r1,s1,t1,u1,e1,f1,g1,h1,i1,j1,rfl,_⟩:=Bl (show QyIn Q wr _ cs1 from hi1);obtain⟨p2,q2,r2,s2,t2,u2,e2,f2,g2,h2,i2,j2,rfl,_⟩:=Bl (show QyIn R wr _ cs2 from hi2);have x0:=zC (hatx 0 _ rfl);have x1:=zC (hatx 1 _ rfl);have x2:=zC (hatx 2 _ rfl);have x3:=zC (hatx 3 _ rfl);have x4:=zC (hatx 4 _ rfl);have x5:=zC (hatx 5 _ rfl);have x6:=zC (hatx 6 _ rfl);have x7:=zC (hatx 7 _ rfl);have x8:=zC (hatx 8 _ rfl);have x9:=zC (hatx 9 _ rfl);have x10:=zC (hatx 10 _ rfl);have x11:=zC (hatx 11 _ rfl);have x12:=zC (hatx 12 _ rfl);have x13:=zC (hatx 13 _ rfl);have y0:=zC (haty 0 _ rfl);have y1:=zC (haty 1 _ rfl);have y2:=zC (haty 2 _ rfl);have y3:=zC (haty 3 _ rfl);have y4:=zC (haty 4 _ rfl)
   have y5:=zC (haty 5 _ rfl);have y6:=zC (haty 6 _ rfl);have y7:=zC (haty 7 _ rfl);have y8:=zC (haty 8 _ rfl);have y9:=zC (haty 9 _ rfl);have y10:=zC (haty 10 _ rfl);have y11:=zC (haty 11 _ rfl);have y12:=zC (haty 12 _ rfl);have y13:=zC (haty 13 _ rfl);simp only[show qyE.k=14 from rfl,Nat.add_zero]at x0 x1 x2 x3 x4 x5 x6 x7 x8 x9 x10 x11 x12 x13 y0 y1 y2 y3 y4 y5 y6 y7 y8 y9 y10 y11 y12 y13;have hki:(j:Int)<(subs.length:Int):=by omega
   have CC:Hid (∀(d:Nat) (os:Array Obj),Calls prog 13 #[.agg #[.int .i64 k1,.string ⟨tab1.toArray⟩,.slice p1 subs1.length q1,.int .i64 op1,.int .i64 xn1,.int .i64 v1.k,.int .i64 v1.n,.string v1.s,.slice r1 args1.length s1,.slice t1 cols1.length u1,.slice e1 group1.length f1,.slice g1 aggs1.length h1,.slice i1 order1.length j1,.int .i64 n1],.agg #[.int .i64 k1,.string ⟨tab1.toArray⟩,.slice p2 subs1.length q2,.int .i64 op1,.int .i64 xn1,.int .i64 v1.k,.int .i64 v1.n,.string v1.s,.slice r2 args1.length s2,.slice t2 cols1.length u2,.slice e2 group1.length f2,.slice g2 aggs1.length h2,.slice i2 order1.length j2,.int .i64 n1]] (grow (redrawn wr d) os) (Says (.bool true) (grow (redrawn wr d) os))):=fun d os=>
    IH.out _ (List.mem_of_getElem? hx) _ _ _ (HD1.out _ (below_regrown wr d os)) (HD2.out _ (below_regrown wr d os))
   clear hatx haty hi1 hi2 hx HD1 HD2;have F3:=S3.out.factsG;simp only[St.FactsG,cellFactsG,and_true]at F3;go_upto_region 7 with fail;refine Ab 12 [(0,false),(1,false),(2,false),(3,false),(4,false),(5,false),(6,false),(7,false),(8,false),(9,false),(10,false),(11,false)] (by kernel_rfl) (by kernel_rfl) ?_;repeat(refine An rfl (fun K hK=>?_);go_simp;first|(refine hK _ ?_;clear hK K)|(apply Exists.intro;refine⟨fun _=>?_,hK _ ?_⟩;(exact CC.out _ _);clear hK K))
   refine A3 ?_;intro w4 hb4 _;have S4:=Lib.hid (S3.out.kept hb4);clear hb4 x0 x1 x2 x3 x4 x5 x6 x7 x8 x9 x10 x11 x12 x13 y0 y1 y2 y3 y4 y5 y6 y7 y8 y9 y10 y11 y12 y13 S3 F3 CC;go_wp2_with fail;go_roundw
   case rel=>exact⟨j+1,by omega,by go_num,S4.out⟩
   case measure=>simp[intOf];omega
  ·obtain rfl:j=subs.length:=by omega
   go_wp2_with fail;go_returns;exact⟨rfl,S3.out.below⟩
end Go.Proofs.YtjmmbebkbkgefaaGreatDoor
