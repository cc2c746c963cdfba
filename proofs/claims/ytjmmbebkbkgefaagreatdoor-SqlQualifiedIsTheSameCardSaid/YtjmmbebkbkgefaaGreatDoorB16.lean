/- Part 16; the last part says what is proved. No condition. -/
import Derived.RangeFuncBound
import Derived.Shelf.Abstract
import Derived.Shelf.RegionOpen
import Derived.OwnWalkIn
import Derived.TacticsInMore
import Derived.LoopNIn
import Derived.LoopIn
import Derived.Maps.Own
import Derived.Laws.EntriesVeiled
import Derived.Test.YtjmmbebkbkgefaaGreatDoorB14
import Derived.Test.YtjmmbebkbkgefaaGreatDoorB15
set_option linter.unusedVariables false
set_option linter.unusedSimpArgs false
set_option maxHeartbeats 8000000
set_option maxRecDepth 100000
namespace Go.Proofs.YtjmmbebkbkgefaaGreatDoor
open Go.RowKit Go.Sort Go.Proofs.Tryz
theorem Mz {l:List Qy} {k:Nat} {a:Qy} (h:l[k]?=some a):nodesQs (l.take (k+1))=nodesQs (l.take k)+nodesQ a:=by
 induction l generalizing k with
 | nil=>simp at h
 | cons b l ih=>
  cases k with
  | zero=>simp only[List.getElem?_cons_zero,Option.some.injEq]at h;subst h;simp[nodesQs]
  | succ k=>simp only[List.getElem?_cons_succ]at h;simp only[List.take_succ_cons,nodesQs,ih h];omega
theorem Q2 (l:List Qy) (k:Nat):nodesQs (l.take k)<=nodesQs l:=by
 induction l generalizing k with
 | nil=>simp
 | cons b l ih=>
  cases k with
  | zero=>simp[nodesQs]
  | succ k=>have:=ih k;simp only[List.take_succ_cons,nodesQs];omega
theorem Q3 (q:Qy):1<=nodesQ q:=by obtain⟨_,_,_,_,_,_,_,_,_⟩:=q;simp only[nodesQ];omega
theorem Ol (l:List Qy):l.length<=nodesQs l:=by
 induction l with
 | nil=>simp
 | cons b l ih=>have:=Q3 b;simp only[nodesQs,List.length_cons];omega
theorem Ul (Q:Nat->Prop) (q:Qy):∀(cs:List Value) (w:World),QyIn Q w q cs->nodesQ q<=1000000000->Calls prog 49 #[.agg cs.toArray] w (Says (.int .i64 (nodesQ q)) w):=by
 refine Qy.ind (P:=fun q=>∀(cs:List Value) (w:World),QyIn Q w q cs->nodesQ q<=1000000000->Calls prog 49 #[.agg cs.toArray] w (Says (.int .i64 (nodesQ q)) w)) ?_ q;intro k0 tab subs cond cols group aggs order n0 ih cs w hin hn;obtain⟨xop,xn,xv,xargs⟩:=cond;obtain⟨sa,sc,xa,xc,ca,cc,ga,gc,aa,ac,oa,oc,rfl,hs,_⟩:=Bl hin;have IH:=Lib.hid ih;have HS:=Lib.hid hs;have hnq:nodesQ (.mk k0 tab subs (.mk xop xn xv xargs) cols group aggs order n0)=1+nodesQs subs:=rfl;rw[hnq]at hn ⊢;have hsl:=Ol subs;clear ih hin hs hnq;show Calls prog 49 #[.agg #[.int .i64 k0,.string ⟨tab.toArray⟩,.slice sa subs.length sc,.int .i64 xop,.int .i64 xn,.int .i64 xv.k,.int .i64 xv.n,.string xv.s,.slice xa xargs.length xc,.slice ca cols.length cc,.slice ga group.length gc,.slice aa aggs.length ac,.slice oa order.length oc,.int .i64 n0]] w _;have HB0:Hid (Below w.heap.size w (w.alloc (.cells #[.int .i64 k0,.string ⟨tab.toArray⟩,.slice sa subs.length sc,.int .i64 xop,.int .i64 xn,.int .i64 xv.k,.int .i64 xv.n,.string xv.s,.slice xa xargs.length xc,.slice ca cols.length cc,.slice ga group.length gc,.slice aa aggs.length ac,.slice oa order.length oc,.int .i64 n0] 59))):=(Below.refl _ _).alloc (Nat.le_refl _) _;go_enter func49,ntmps49;go_wp2_with fail;go_loopw [3,9] (fun nv i wr=>∃k:Nat,k<=subs.length/\i=.int .i64 k/\nv=.int .i64 (1+nodesQs (subs.take k):Nat)/\Hid (Below w.heap.size w wr)) (fun _ i _=>subs.length - (intOf i).toNat)
 case atStart=>exact⟨0,by omega,rfl,by simp[nodesQs],HB0.out⟩
 case round=>
  obtain⟨k,hk,rfl,rfl,HB⟩:=hrel;by_cases hlt:k<subs.length
  ·obtain⟨a,hx⟩:∃x,subs[k]?=some x:=⟨subs[k],by simp[hlt]⟩;obtain⟨b,o,cap,cs,hbo,hin,hat⟩:=(HS.out.kept (by decide) HB.out).at hx;injection hbo with e1 _ e2;subst e1;subst e2;have hma:=List.mem_of_getElem? hx;have hst:=Mz hx;have hle:=Q2 subs (k+1);have C1:=Lib.hid (fun W (hin:QyIn Q W a cs)=>IH.out a hma cs W hin (by omega));obtain⟨z,hz⟩:∃z,nodesQ a=z:=⟨_,rfl⟩;rw[hz]at C1 hst;have hin0:Hid (QyIn Q wr a cs):=hin;replace hin:QyIn Q wr a cs:=hin;obtain⟨k1,tab1,subs1,⟨xop1,xn1,xv1,xargs1⟩,cols1,group1,aggs1,order1,n1⟩:=a;obtain⟨sa1,sc1,xa1,xc1,ca1,cc1,ga1,gc1,aa1,ac1,oa1,oc1,rfl,_⟩:=Bl hin;have x0:=hat 0 _ rfl;have x1:=hat 1 _ rfl;have x2:=hat 2 _ rfl;have x3:=hat 3 _ rfl;have x4:=hat 4 _ rfl;have x5:=hat 5 _ rfl;have x6:=hat 6 _ rfl;have x7:=hat 7 _ rfl;have x8:=hat 8 _ rfl;have x9:=hat 9 _ rfl;have x10:=hat 10 _ rfl;have x11:=hat 11 _ rfl;have x12:=hat 12 _ rfl;have x13:=hat 13 _ rfl;simp only[show qyE.k=14 from rfl,Nat.add_zero]at x0 x1 x2 x3 x4 x5 x6 x7 x8 x9 x10 x11 x12 x13;have HB1:Hid (Below w.heap.size w (wr.alloc (.cells #[.int .i64 k1,.string ⟨tab1.toArray⟩,.slice sa1 subs1.length sc1,.int .i64 xop1,.int .i64 xn1,.int .i64 xv1.k,.int .i64 xv1.n,.string xv1.s,.slice xa1 xargs1.length xc1,.slice ca1 cols1.length cc1,.slice ga1 group1.length gc1,.slice aa1 aggs1.length ac1,.slice oa1 order1.length oc1,.int .i64 n1] 59))):=HB.out.alloc (by have:=HB.out.size;omega) _
   have HI1:Hid (QyIn Q (wr.alloc (.cells #[.int .i64 k1,.string ⟨tab1.toArray⟩,.slice sa1 subs1.length sc1,.int .i64 xop1,.int .i64 xn1,.int .i64 xv1.k,.int .i64 xv1.n,.string xv1.s,.slice xa1 xargs1.length xc1,.slice ca1 cols1.length cc1,.slice ga1 group1.length gc1,.slice aa1 aggs1.length ac1,.slice oa1 order1.length oc1,.int .i64 n1] 59)) _ _):=Ax (fun b hl k=>⟨k,Below.heap_alloc _ _ _ hl⟩) _ _ hin0.out;rw[hst]at hle;generalize nodesQs (subs.take k)=m at *;have hw2:wrap64 (((1+m:Nat):Int)+(z:Int))=((1+m:Nat):Int)+(z:Int):=IntWalk.wrap64_in _ ⟨by omega,by omega⟩;clear hx hat hma hz HB hin0 hin;go_wp2_with fail;refine Calls.mono (C1.out _ HI1.out) ?_;rintro e w1 ⟨rfl,hb1⟩;have HB2:=Lib.hid (HB1.out.step hb1);clear hb1 x0 x1 x2 x3 x4 x5 x6 x7 x8 x9 x10 x11 x12 x13;go_wp2_with fail;go_roundw
   case rel=>exact⟨k+1,by omega,by go_num,by rw[hst];congr 1;omega,HB2.out⟩
   case measure=>simp[intOf];omega
  ·obtain rfl:k=subs.length:=by omega
   rw[List.take_length];go_wp2_with fail;go_returns;exact⟨rfl,HB.out⟩
theorem Bo (k0:Int) (xa ca ga aa oa:Option Addr) (xc cc gc ac oc:Nat) (w:World):Calls prog 98 #[.agg #[.int .i64 k0,.string ⟨#[]⟩,.slice none 0 0,.int .i64 0,.int .i64 0,.int .i64 0,.int .i64 0,.string ⟨#[]⟩,.slice xa 0 xc,.slice ca 0 cc,.slice ga 0 gc,.slice aa 0 ac,.slice oa 0 oc,.int .i64 0],.agg #[.int .i64 k0,.string ⟨#[]⟩,.slice none 0 0,.int .i64 0,.int .i64 0,.int .i64 0,.int .i64 0,.string ⟨#[]⟩,.slice none 0 0,.slice none 0 0,.slice none 0 0,.slice none 0 0,.slice none 0 0,.int .i64 0]] w (Says (.bool true) w):=by
 have S0:Hid (St w ((w.alloc (.cells #[.int .i64 k0,.string ⟨#[]⟩,.slice none 0 0,.int .i64 0,.int .i64 0,.int .i64 0,.int .i64 0,.string ⟨#[]⟩,.slice xa 0 xc,.slice ca 0 cc,.slice ga 0 gc,.slice aa 0 ac,.slice oa 0 oc,.int .i64 0] 59)).alloc (.cells #[.int .i64 k0,.string ⟨#[]⟩,.slice none 0 0,.int .i64 0,.int .i64 0,.int .i64 0,.int .i64 0,.string ⟨#[]⟩,.slice none 0 0,.slice none 0 0,.slice none 0 0,.slice none 0 0,.slice none 0 0,.int .i64 0] 59)) [(w.heap.size+1,#[.int .i64 k0,.string ⟨#[]⟩,.slice none 0 0,.int .i64 0,.int .i64 0,.int .i64 0,.int .i64 0,.string ⟨#[]⟩,.slice none 0 0,.slice none 0 0,.slice none 0 0,.slice none 0 0,.slice none 0 0,.int .i64 0],59),(w.heap.size,#[.int .i64 k0,.string ⟨#[]⟩,.slice none 0 0,.int .i64 0,.int .i64 0,.int .i64 0,.int .i64 0,.string ⟨#[]⟩,.slice xa 0 xc,.slice ca 0 cc,.slice ga 0 gc,.slice aa 0 ac,.slice oa 0 oc,.int .i64 0],59)]):=by
  have:=St.alloc (St.alloc (St.start w) (cs:=#[.int .i64 k0,.string ⟨#[]⟩,.slice none 0 0,.int .i64 0,.int .i64 0,.int .i64 0,.int .i64 0,.string ⟨#[]⟩,.slice xa 0 xc,.slice ca 0 cc,.slice ga 0 gc,.slice aa 0 ac,.slice oa 0 oc,.int .i64 0]) (t:=59)) (cs:=#[.int .i64 k0,.string ⟨#[]⟩,.slice none 0 0,.int .i64 0,.int .i64 0,.int .i64 0,.int .i64 0,.string ⟨#[]⟩,.slice none 0 0,.slice none 0 0,.slice none 0 0,.slice none 0 0,.slice none 0 0,.int .i64 0]) (t:=59);simp only[World.size_alloc]at this;exact this
 go_enter func98,ntmps98;go_upto_region 2 with fail;refine St.gen S0.out ?_;intro w1 S1;clear S0;have F1:=S1.out.facts;simp only[St.Facts,cellFacts,apartFacts,and_true]at F1;go_wp2_with fail;refine Calls.mono (Ye 0 0 V.null xa none xc 0 _) ?_;rintro e w2 ⟨rfl,hb2⟩;have S2:=Lib.hid (S1.out.kept hb2);clear hb2 F1 S1;have F2:=S2.out.facts;simp only[St.Facts,cellFacts,apartFacts,and_true]at F2;go_wp2_with fail;refine Calls.mono (Yl ca none cc 0 _ _) ?_;rintro e w3 ⟨rfl,hb3⟩;have S3:=Lib.hid (S2.out.kept hb3);clear hb3 F2 S2;have F3:=S3.out.facts;simp only[St.Facts,cellFacts,apartFacts,and_true]at F3;go_wp2_with fail;refine Calls.mono (cu ga none gc 0 _) ?_;rintro e w4 ⟨rfl,hb4⟩;have S4:=Lib.hid (S3.out.kept hb4);clear hb4 F3 S3;have F4:=S4.out.facts;simp only[St.Facts,cellFacts,apartFacts,and_true]at F4;go_wp2_with fail;refine Calls.mono (bu aa none ac 0 _ _) ?_;rintro e w5 ⟨rfl,hb5⟩;have S5:=Lib.hid (S4.out.kept hb5);clear hb5 F4 S4;have F5:=S5.out.facts;simp only[St.Facts,cellFacts,apartFacts,and_true]at F5;go_wp2_with fail;refine Calls.mono (ct oa none oc 0 _) ?_;rintro e w6 ⟨rfl,hb6⟩;have S6:=Lib.hid (S5.out.kept hb6);clear hb6 F5 S5;have F6:=S6.out.facts;simp only[St.Facts,cellFacts,apartFacts,and_true]at F6;go_wp2_with fail;refine Calls.mono (bp none none 0 0 _ _) ?_;rintro e w7 ⟨rfl,hb7⟩;have S7:=Lib.hid (S6.out.kept hb7);clear hb7 F6 S6;go_wp2_with fail;go_returns;exact⟨rfl,S7.out.below⟩
theorem Uj (a:Option Addr) (c:Nat) (w:World):Calls prog 97 #[.agg #[.int .i64 0,.int .i64 0,.int .i64 0,.int .i64 0,.string ⟨#[]⟩,.slice a 0 c]] w (Says (.bool true) w):=by
 go_enter func97,ntmps97;go_wp2_with fail;refine Calls.mono (Ye 0 0 V.null a none c 0 _) ?_;rintro e w1 ⟨rfl,hb1⟩;go_wp2_with fail;go_returns;exact⟨rfl,((Below.refl _ _).alloc (Nat.le_refl _) _).step hb1⟩
theorem Xp.isZero_eq {x:Xp} (h:x.isZero=true):x=Xp.zero:=by
 obtain⟨op,n,v,args⟩:=x;simp only[Xp.isZero,Bool.and_eq_true]at h;obtain⟨⟨⟨h1,h2⟩,h3⟩,h4⟩:=h;have e1:op=0:=of_decide_eq_true h1;have e2:n=0:=of_decide_eq_true h2;have e3:v=V.null:=of_decide_eq_true h3;have e4:args.length=0:=of_decide_eq_true h4;rw[e1,e2,e3,List.eq_nil_of_length_eq_zero e4];rfl
theorem N9 (Q:Nat->Prop) (p:Ag) (cs:List Value) (w:World) (hin:agE.In Q w p cs) (hp:(decide (p.fn≠1)||p.arg.isZero)=true):Calls prog 96 #[agE.val cs] w (Says (.bool false) w):=by
 obtain⟨fn,⟨xop,xn,xv,xargs⟩⟩:=p;obtain⟨c0,rfl,hin⟩:=hin;obtain⟨v0,rfl,hs⟩:=Ai.1 hin;obtain⟨a,c,rfl⟩:=hs.slice;by_cases h1:fn=1
 ·have hz:(Xp.mk xop xn xv xargs).isZero=true:=by simpa[h1]using hp
  have hz:=Xp.isZero_eq hz;simp only[Xp.zero,Xp.mk.injEq]at hz;obtain⟨rfl,rfl,rfl,rfl⟩:=hz;subst h1;show Calls prog 96 #[.agg #[.int .i64 1,.int .i64 0,.int .i64 0,.int .i64 0,.int .i64 0,.string ⟨#[]⟩,.slice a 0 c]] w _;clear hin hs hp;go_enter func96,ntmps96;go_wp2_with fail;refine Calls.mono (Uj a c _) ?_;rintro e w1 ⟨rfl,hb1⟩;go_wp2_with fail;go_returns;exact⟨rfl,((Below.refl _ _).alloc (Nat.le_refl _) _).step hb1⟩
 ·show Calls prog 96 #[.agg #[.int .i64 fn,.int .i64 xop,.int .i64 xn,.int .i64 xv.k,.int .i64 xv.n,.string xv.s,.slice a xargs.length c]] w _;have h2:(fn==1)=false:=by simpa using h1
  clear hin hs hp;go_enter func96,ntmps96;go_wp2_with fail;go_returns;exact⟨rfl,((Below.refl _ _).alloc (Nat.le_refl _) _)⟩
theorem Vv:En 96:=enters_of func96 (by kernel_rfl) rfl
theorem Vu:En 101:=enters_of func101 (by kernel_rfl) rfl
theorem Ps {α:Type} (l:List α):(l.any fun _=>false)=false:=by induction l<;>simp_all
theorem K5 (Q:Nat->Prop) (q:Qy) (cs:List Value) (w:World) (hin:qyE.In Q w q cs) (HF:Hid (∀W,QyIn Q W q cs->Calls prog 50 #[.agg cs.toArray] W (Says (.bool true) W))):Calls prog 101 #[qyE.val cs] w (Says (.bool false) w):=by
 have C1:Hid (Calls prog 50 #[.agg cs.toArray] (w.alloc (.cells cs.toArray 59)) (Says (.bool true) (w.alloc (.cells cs.toArray 59)))):=HF.out _ (Ax (fun b hl k=>⟨k,Below.heap_alloc _ _ _ hl⟩) _ _ hin);obtain⟨k0,tab,subs,⟨xop,xn,xv,xargs⟩,cols,group,aggs,order,n0⟩:=q;obtain⟨sa,sc,xa,xc,ca,cc,ga,gc,aa,ac,oa,oc,rfl,_⟩:=Bl hin;show Calls prog 101 #[.agg #[.int .i64 k0,.string ⟨tab.toArray⟩,.slice sa subs.length sc,.int .i64 xop,.int .i64 xn,.int .i64 xv.k,.int .i64 xv.n,.string xv.s,.slice xa xargs.length xc,.slice ca cols.length cc,.slice ga group.length gc,.slice aa aggs.length ac,.slice oa order.length oc,.int .i64 n0]] w _;clear hin HF;go_enter func101,ntmps101;go_wp2_with fail;refine Calls.mono C1.out ?_;rintro e w1 ⟨rfl,hb1⟩;go_wp2_with fail;go_returns;exact⟨rfl,((Below.refl _ _).alloc (Nat.le_refl _) _).step hb1⟩
theorem St.setsL {w0:World} {i b:Nat} {t:TypeId}:∀(vs:List Value) (o:Nat) (cs:Array Value) (w:World) (L:List Blk),St w0 w L->L[i]?=some (b,cs,t)->St w0 (w.setCells b o vs) (L.set i (b,setArr cs o vs,t))
 | [],o,cs,w,L,h,hi=>by
  have:L.set i (b,cs,t)=L:=by
   apply List.ext_getElem?;intro q;rw[List.getElem?_set];split
   ·rename_i e;subst e;split
    ·exact hi.symm
    ·rename_i hq;simp at hq;simp[List.getElem?_eq_none hq]
   ·rfl
  unfold setArr;rw[this];exact h
 | v::vs,o,cs,w,L,h,hi=>by
  have h1:=St.set i (o:=o) (v:=v) h hi;have hlt:=(List.getElem?_eq_some_iff.1 hi).1;have h2:=St.setsL (i:=i) (b:=b) (t:=t) vs (o+1) (cs.setIfInBounds o v) _ _ h1 (by rw[List.getElem?_set];simp[hlt]);rw[List.set_set]at h2;exact h2
theorem Ut (tab:Bytes) (sa xa ca ga aa oa:Option Addr) (sc xc cc gc ac oc:Nat) (w:World)
 (HA:Hid (∀W,Below w.heap.size w W->Calls prog 99 #[.slice aa 0 ac,.func (.func 96) #[] #[]] W (Says (.bool false) W))) (HS:Hid (∀W,Below w.heap.size w W->Calls prog 100 #[.slice sa 0 sc,.func (.func 101) #[] #[]] W (Says (.bool false) W))):
 Calls prog 50 #[.agg #[.int .i64 1,.string ⟨tab.toArray⟩,.slice sa 0 sc,.int .i64 0,.int .i64 0,.int .i64 0,.int .i64 0,.string ⟨#[]⟩,.slice xa 0 xc,.slice ca 0 cc,.slice ga 0 gc,.slice aa 0 ac,.slice oa 0 oc,.int .i64 0]] w (Says (.bool true) w):=by
 go_enter func50,ntmps50
 go_upto_region 4 with fail
 refine St.gen (St.alloc (St.alloc (St.start _))) ?_
 intro w1 S1
 try(simp only[List.set_cons_zero,List.set_cons_succ,List.setIfInBounds_toArray,World.size_alloc]at S1)
 have F1:=S1.out.facts
 simp only[St.Facts,cellFacts,apartFacts,and_true]at F1
 go_wp2_with fail
 refine Calls.mono (Bo 1 xa ca ga aa oa xc cc gc ac oc _) ?_
 rintro e w2 ⟨rfl,hb2⟩
 have S2:=Lib.hid ((St.set 0 (S1.out) rfl).kept hb2)
 try(simp only[List.set_cons_zero,List.set_cons_succ,List.setIfInBounds_toArray,World.size_alloc]at S2)
 clear hb2 F1 S1
 have F2:=S2.out.facts
 simp only[St.Facts,cellFacts,apartFacts,and_true]at F2
 go_wp2_with fail
 refine Calls.mono (HA.out _ S2.out.below) ?_
 rintro e w3 ⟨rfl,hb3⟩
 have S3:=Lib.hid (S2.out.kept hb3)
 clear hb3 F2 S2
 have F3:=S3.out.facts
 simp only[St.Facts,cellFacts,apartFacts,and_true]at F3
 go_wp2_with fail
 refine Calls.mono (HS.out _ S3.out.below) ?_
 rintro e w4 ⟨rfl,hb4⟩
 have HB:=Lib.hid (S3.out.kept hb4).below
 clear hb4 F3 S3
 go_wp2_with fail
 go_returns
 exact⟨rfl,HB.out⟩
theorem Ur (m:Nat) (sa xa ca ga aa oa:Option Addr) (sc xc cc gc ac oc:Nat) (w:World)
 (HA:Hid (∀W,Below w.heap.size w W->Calls prog 99 #[.slice aa 0 ac,.func (.func 96) #[] #[]] W (Says (.bool false) W))) (HS:Hid (∀W,Below w.heap.size w W->Calls prog 100 #[.slice sa 1 sc,.func (.func 101) #[] #[]] W (Says (.bool false) W))):
 Calls prog 50 #[.agg #[.int .i64 3,.string ⟨#[]⟩,.slice sa 1 sc,.int .i64 0,.int .i64 0,.int .i64 0,.int .i64 0,.string ⟨#[]⟩,.slice xa 0 xc,.slice ca m cc,.slice ga 0 gc,.slice aa 0 ac,.slice oa 0 oc,.int .i64 0]] w (Says (.bool true) w):=by
 go_enter func50,ntmps50
 go_upto_region 4 with fail
 refine St.gen (St.alloc (St.alloc (St.start _))) ?_
 intro w1 S1
 try(simp only[List.set_cons_zero,List.set_cons_succ,List.setIfInBounds_toArray,World.size_alloc]at S1)
 have F1:=S1.out.facts
 simp only[St.Facts,cellFacts,apartFacts,and_true]at F1
 go_wp2_with fail
 refine Calls.mono (Bo 3 xa none ga aa oa xc 0 gc ac oc _) ?_
 rintro e w2 ⟨rfl,hb2⟩
 have S2:=Lib.hid ((St.set 0 (S1.out) rfl).kept hb2)
 try(simp only[List.set_cons_zero,List.set_cons_succ,List.setIfInBounds_toArray,World.size_alloc]at S2)
 clear hb2 F1 S1
 have F2:=S2.out.facts
 simp only[St.Facts,cellFacts,apartFacts,and_true]at F2
 go_wp2_with fail
 refine Calls.mono (HA.out _ S2.out.below) ?_
 rintro e w3 ⟨rfl,hb3⟩
 have S3:=Lib.hid (S2.out.kept hb3)
 clear hb3 F2 S2
 have F3:=S3.out.facts
 simp only[St.Facts,cellFacts,apartFacts,and_true]at F3
 go_wp2_with fail
 refine Calls.mono (HS.out _ S3.out.below) ?_
 rintro e w4 ⟨rfl,hb4⟩
 have HB:=Lib.hid (S3.out.kept hb4).below
 clear hb4 F3 S3
 go_wp2_with fail
 go_returns
 exact⟨rfl,HB.out⟩
theorem Up (m m2:Nat) (sa xa ca ga aa oa:Option Addr) (sc xc cc gc ac oc:Nat) (w:World)
 (HA:Hid (∀W,Below w.heap.size w W->Calls prog 99 #[.slice aa m2 ac,.func (.func 96) #[] #[]] W (Says (.bool false) W))) (HS:Hid (∀W,Below w.heap.size w W->Calls prog 100 #[.slice sa 1 sc,.func (.func 101) #[] #[]] W (Says (.bool false) W))):
 Calls prog 50 #[.agg #[.int .i64 5,.string ⟨#[]⟩,.slice sa 1 sc,.int .i64 0,.int .i64 0,.int .i64 0,.int .i64 0,.string ⟨#[]⟩,.slice xa 0 xc,.slice ca 0 cc,.slice ga m gc,.slice aa m2 ac,.slice oa 0 oc,.int .i64 0]] w (Says (.bool true) w):=by
 go_enter func50,ntmps50
 go_upto_region 4 with fail
 refine St.gen (St.alloc (St.alloc (St.start _))) ?_
 intro w1 S1
 try(simp only[List.set_cons_zero,List.set_cons_succ,List.setIfInBounds_toArray,World.size_alloc]at S1)
 have F1:=S1.out.facts
 simp only[St.Facts,cellFacts,apartFacts,and_true]at F1
 go_wp2_with fail
 refine Calls.mono (Bo 5 xa ca none none oa xc cc 0 0 oc _) ?_
 rintro e w2 ⟨rfl,hb2⟩
 have S2:=Lib.hid ((St.set 0 (St.set 0 (S1.out) rfl) rfl).kept hb2)
 try(simp only[List.set_cons_zero,List.set_cons_succ,List.setIfInBounds_toArray,World.size_alloc]at S2)
 clear hb2 F1 S1
 have F2:=S2.out.facts
 simp only[St.Facts,cellFacts,apartFacts,and_true]at F2
 go_wp2_with fail
 refine Calls.mono (HA.out _ S2.out.below) ?_
 rintro e w3 ⟨rfl,hb3⟩
 have S3:=Lib.hid (S2.out.kept hb3)
 clear hb3 F2 S2
 have F3:=S3.out.facts
 simp only[St.Facts,cellFacts,apartFacts,and_true]at F3
 go_wp2_with fail
 refine Calls.mono (HS.out _ S3.out.below) ?_
 rintro e w4 ⟨rfl,hb4⟩
 have HB:=Lib.hid (S3.out.kept hb4).below
 clear hb4 F3 S3
 go_wp2_with fail
 go_returns
 exact⟨rfl,HB.out⟩
theorem Uo (m:Nat) (sa xa ca ga aa oa:Option Addr) (sc xc cc gc ac oc:Nat) (w:World)
 (HA:Hid (∀W,Below w.heap.size w W->Calls prog 99 #[.slice aa 0 ac,.func (.func 96) #[] #[]] W (Says (.bool false) W))) (HS:Hid (∀W,Below w.heap.size w W->Calls prog 100 #[.slice sa 1 sc,.func (.func 101) #[] #[]] W (Says (.bool false) W))):
 Calls prog 50 #[.agg #[.int .i64 6,.string ⟨#[]⟩,.slice sa 1 sc,.int .i64 0,.int .i64 0,.int .i64 0,.int .i64 0,.string ⟨#[]⟩,.slice xa 0 xc,.slice ca 0 cc,.slice ga 0 gc,.slice aa 0 ac,.slice oa m oc,.int .i64 0]] w (Says (.bool true) w):=by
 go_enter func50,ntmps50
 go_upto_region 4 with fail
 refine St.gen (St.alloc (St.alloc (St.start _))) ?_
 intro w1 S1
 try(simp only[List.set_cons_zero,List.set_cons_succ,List.setIfInBounds_toArray,World.size_alloc]at S1)
 have F1:=S1.out.facts
 simp only[St.Facts,cellFacts,apartFacts,and_true]at F1
 go_wp2_with fail
 refine Calls.mono (Bo 6 xa ca ga aa none xc cc gc ac 0 _) ?_
 rintro e w2 ⟨rfl,hb2⟩
 have S2:=Lib.hid ((St.set 0 (S1.out) rfl).kept hb2)
 try(simp only[List.set_cons_zero,List.set_cons_succ,List.setIfInBounds_toArray,World.size_alloc]at S2)
 clear hb2 F1 S1
 have F2:=S2.out.facts
 simp only[St.Facts,cellFacts,apartFacts,and_true]at F2
 go_wp2_with fail
 refine Calls.mono (HA.out _ S2.out.below) ?_
 rintro e w3 ⟨rfl,hb3⟩
 have S3:=Lib.hid (S2.out.kept hb3)
 clear hb3 F2 S2
 have F3:=S3.out.facts
 simp only[St.Facts,cellFacts,apartFacts,and_true]at F3
 go_wp2_with fail
 refine Calls.mono (HS.out _ S3.out.below) ?_
 rintro e w4 ⟨rfl,hb4⟩
 have HB:=Lib.hid (S3.out.kept hb4).below
 clear hb4 F3 S3
 go_wp2_with fail
 go_returns
 exact⟨rfl,HB.out⟩
theorem Un (n0:Int) (sa xa ca ga aa oa:Option Addr) (sc xc cc gc ac oc:Nat) (w:World)
 (HA:Hid (∀W,Below w.heap.size w W->Calls prog 99 #[.slice aa 0 ac,.func (.func 96) #[] #[]] W (Says (.bool false) W))) (HS:Hid (∀W,Below w.heap.size w W->Calls prog 100 #[.slice sa 1 sc,.func (.func 101) #[] #[]] W (Says (.bool false) W))):
 Calls prog 50 #[.agg #[.int .i64 7,.string ⟨#[]⟩,.slice sa 1 sc,.int .i64 0,.int .i64 0,.int .i64 0,.int .i64 0,.string ⟨#[]⟩,.slice xa 0 xc,.slice ca 0 cc,.slice ga 0 gc,.slice aa 0 ac,.slice oa 0 oc,.int .i64 n0]] w (Says (.bool true) w):=by
 go_enter func50,ntmps50
 go_upto_region 4 with fail
 refine St.gen (St.alloc (St.alloc (St.start _))) ?_
 intro w1 S1
 try(simp only[List.set_cons_zero,List.set_cons_succ,List.setIfInBounds_toArray,World.size_alloc]at S1)
 have F1:=S1.out.facts
 simp only[St.Facts,cellFacts,apartFacts,and_true]at F1
 go_wp2_with fail
 refine Calls.mono (Bo 7 xa ca ga aa oa xc cc gc ac oc _) ?_
 rintro e w2 ⟨rfl,hb2⟩
 have S2:=Lib.hid ((St.set 0 (S1.out) rfl).kept hb2)
 try(simp only[List.set_cons_zero,List.set_cons_succ,List.setIfInBounds_toArray,World.size_alloc]at S2)
 clear hb2 F1 S1
 have F2:=S2.out.facts
 simp only[St.Facts,cellFacts,apartFacts,and_true]at F2
 go_wp2_with fail
 refine Calls.mono (HA.out _ S2.out.below) ?_
 rintro e w3 ⟨rfl,hb3⟩
 have S3:=Lib.hid (S2.out.kept hb3)
 clear hb3 F2 S2
 have F3:=S3.out.facts
 simp only[St.Facts,cellFacts,apartFacts,and_true]at F3
 go_wp2_with fail
 refine Calls.mono (HS.out _ S3.out.below) ?_
 rintro e w4 ⟨rfl,hb4⟩
 have HB:=Lib.hid (S3.out.kept hb4).below
 clear hb4 F3 S3
 go_wp2_with fail
 go_returns
 exact⟨rfl,HB.out⟩
attribute [local go_sem] Oper.semAt_some
theorem Qg {m k:Nat} {P:Program} {l:Nat} {f:FuncId} {tmps:Array Value} {assign body:Code} {w:World} {R:Ending->World->Prop} (h:RoundIn Fence.wide m P l f tmps assign body w R):RoundIn Fence.wide k P l f tmps assign body w R:=
 ⟨h.1,fun c cs _=>h.2 c cs (fun d h=>by cases h)⟩
theorem Jb {m:Nat} (k:Nat) {P:Program} {l:Nat} {args:Array Value} {W:World} {R:Ending->World->Prop} (h:YieldAt Fence.wide m P l args W R):YieldAt Fence.wide k P l args W R:=by
 obtain⟨fn,tmps,assign,body,hy,hR⟩:=h;exact⟨fn,tmps,assign,body,hy,Qg hR⟩
theorem Wq (n:Nat):Fence.wide.depth.isSome=true->1<=n:=fun h=>by simp[Fence.wide]at h
structure RgI (w:World) (D:Nat) (lp:Loop) (L:List Blk) (W:World):Prop where
 st:St w W L
 lt:∀x∈L,x.1<D
 ge:w.heap.size<=D
 loop:W.heap[D+1]?=some (.loop lp)
 dfr:W.heap[D]?=some (.deferred (some []))
theorem RgI.start {w W0:World} {L:List Blk} (h:St w W0 L) (lp:Loop):RgI w W0.heap.size lp L ((W0.alloc (.deferred (some []))).alloc (.loop lp)):=by
 have hb:Below W0.heap.size W0 ((W0.alloc (.deferred (some []))).alloc (.loop lp)):=((Below.refl _ _).alloc (Nat.le_refl _) _).alloc (by simp) _;refine⟨h.kept hb,fun x hx=>?_,h.below.size,?_,?_⟩
 ·obtain⟨j,hj⟩:=List.mem_iff_getElem?.1 hx;obtain⟨b,cs,t⟩:=x;exact(Array.getElem?_eq_some_iff.1 (h.blk j hj)).1
 ·have:=World.alloc_heap_new (W0.alloc (.deferred (some []))) (.loop lp);rwa [World.size_alloc]at this
 ·exact(Below.heap_alloc _ _ _ (by simp)).trans (World.alloc_heap_new W0 _)
theorem RgI.kept {w W W':World} {D:Nat} {lp:Loop} {L:List Blk} (h:RgI w D lp L W) (hb:Below W.heap.size W W'):RgI w D lp L W':=
 ⟨h.st.kept hb,h.lt,h.ge,(hb.block _ (Array.getElem?_eq_some_iff.1 h.loop).1).trans h.loop,(hb.block _ (Array.getElem?_eq_some_iff.1 h.dfr).1).trans h.dfr⟩
theorem RgI.put {w W:World} {D:Nat} {lp:Loop} {L:List Blk} (h:RgI w D lp L W) (lp':Loop):RgI w D lp' L (W.putObj (D+1) (.loop lp')):=
 ⟨h.st.turned (Turn.putObj W (D+1) _) (fun i hi=>by subst hi;have:=h.ge;omega) (fun x hx e=>by have:=h.lt x hx;have e':x.1=D+1:=e;omega),h.lt,h.ge,
  World.putObj_heap_same (Array.getElem?_eq_some_iff.1 h.loop).1,(World.putObj_heap_other (by omega)).trans h.dfr⟩
theorem RgI.set {w W:World} {D:Nat} {lp:Loop} {L:List Blk} (i:Nat) {b o:Nat} {cs:Array Value} {t:TypeId} {v:Value} (h:RgI w D lp L W) (hi:L[i]?=some (b,cs,t)):RgI w D lp (L.set i (b,cs.setIfInBounds o v,t)) (W.setCell ⟨b,o,none⟩ v):=by
 have hlt:=h.lt _ (List.mem_of_getElem? hi);have ht:Turn (·=b) W (W.setCell ⟨b,o,none⟩ v):=(Turn.refl _ W).setCell (.inl rfl);refine⟨St.set i h.st hi,fun x hx=>?_,h.ge,(ht.block _ (Array.getElem?_eq_some_iff.1 h.loop).1 (fun e=>by have e':D+1=b:=e;simp only at hlt;omega)).trans h.loop,(ht.block _ (Array.getElem?_eq_some_iff.1 h.dfr).1 (fun e=>by have e':D=b:=e;simp only at hlt;omega)).trans h.dfr⟩;rcases List.mem_or_eq_of_mem_set hx with hx|rfl
 ·exact h.lt x hx
 ·exact hlt
theorem RgI.facts {w W:World} {D:Nat} {lp:Loop} {L:List Blk} (h:RgI w D lp L W):St.Facts W L:=h.st.facts
theorem RgI.fin {w W:World} {D:Nat} {lp:Loop} {L:List Blk} (h:RgI w D lp L W):St w (W.putObj D (.deferred none)) L:=
 h.st.turned (Turn.putObj W D _) (fun i hi=>by subst hi;have:=h.ge;omega) (fun x hx e=>by have:=h.lt x hx;have e':x.1=D:=e;omega)
def xcs (op xn:Int) (v:V) (a:Option Addr) (c:Nat):Array Value:=#[.int .i64 op,.int .i64 xn,.int .i64 v.k,.int .i64 v.n,.string v.s,.slice a 0 c]
theorem Ly (op xn:Int) (v:V) (a:Option Addr) (m c:Nat) (w:World):Calls prog 210 #[.agg #[.int .i64 op,.int .i64 xn,.int .i64 v.k,.int .i64 v.n,.string v.s,.slice a m c]] w
 fun e w'=>e=.returned (.func (.func 229) #[] #[.pointer (some ⟨w.heap.size,0,none⟩)])/\w'=w.alloc (.cells #[.int .i64 op,.int .i64 xn,.int .i64 v.k,.int .i64 v.n,.string v.s,.slice a m c] 49):=by
 have hmf:∀(fn:Fn) (first cap:Array Value) (w:World),(Instr.makeFunc fn first cap).run prog w=.ok (.func fn first cap) w:=fun _ _ _ _=>rfl
 go_enter func210,ntmps210
 go_wp2_with fail
 go_returns
 exact⟨rfl,rfl⟩
attribute [local go_sem] Oper.semAt_some
theorem Tr (Q M:Nat->Prop) (C:Nat) (hM:∀b,M b->b<C) (hQM:∀b,Q b->¬M b) (l T:Nat) (J:Nat->World->Prop) (hJ:∀k W W',J k W->Below W.heap.size W W'->J k W')
 (P:Xp->Prop) (hP:∀op n v args,P (.mk op n v args)->∀a∈args,P a)
 (HY:∀(k:Nat) (x:Xp) (xcs:List Value) (W:World) (m:Nat),k<T->P x->XpIn Q W x xcs->C<=W.heap.size->J k W ->
  YieldAt Fence.wide m prog l #[.agg xcs.toArray] W fun e W'=>e=.returned (.bool true)/\J (k+1) W'/\Turn M W W'):
 ∀e:Xp,e.short->P e->∀(cs:List Value) (W:World) (k n:Nat),k+sizeX e<=T->XpIn Q W e cs->C<=W.heap.size->J k W ->
  CallsIn Fence.wide n prog 230 #[.agg cs.toArray,.func (.yield l) #[] #[]] W fun e' W'=>e'=.returned (.bool true)/\J (k+sizeX e) W'/\Turn M W W':=by
 refine Xp.ind fun op xn v args ih=>?_
 intro hsh hp cs W k n hkT hin hC hj
 unfold sizeX at hkT
 obtain⟨a,rfl,hsl⟩:=Ai.1 hin
 obtain⟨ad,ac,rfl⟩:=hsl.slice
 have hal:args.length<=1000000:=hsh.1
 have HS:=Lib.hid hsl
 have hb01:Below W.heap.size W (W.alloc (.cells #[.int .i64 op,.int .i64 xn,.int .i64 v.k,.int .i64 v.n,.string v.s,.slice ad args.length ac] 49)):=(Below.refl _ _).alloc (Nat.le_refl _) _
 have HY1:=HY k _ _ (W.alloc (.cells #[.int .i64 op,.int .i64 xn,.int .i64 v.k,.int .i64 v.n,.string v.s,.slice ad args.length ac] 49)) (n - 1) (by omega) hp (Au (fun b hb hq=>⟨hq,hb01.block b hb⟩) _ _ hin) (by rw[World.size_alloc];omega) (hJ _ _ _ hj hb01)
 have IH:=Lib.hid (fun(x:Xp) (hm:x∈args)=>ih x hm (Gl hsh.2 x hm) (hP _ _ _ _ hp x hm))
 clear ih hsh hsl hin HY
 obtain⟨fn,tmps,assign,body,hy,hR⟩:=HY1
 refine callsIn_of_wp func230 rfl trivial ?_ rfl
 simp only[ntmps230,List.size_toArray,List.length_cons,List.length_nil,Nat.reduceAdd,Nat.reduceSub,Array.replicate_succ,Array.replicate_zero,List.push_toArray,List.append_toArray,List.nil_append,List.cons_append]
 gi_wp2
 refine⟨Wq _,hR.mono ?_⟩
 clear hy hR
 rintro e w2 ⟨rfl,hj2,ht2⟩
 have hb2:w2.heap[W.heap.size]?=some (.cells #[.int .i64 op,.int .i64 xn,.int .i64 v.k,.int .i64 v.n,.string v.s,.slice ad args.length ac] 49 (0,0)):=(ht2.block _ (by rw[World.size_alloc];omega) (fun h=>by have:=hM _ h;omega)).trans (World.alloc_heap_new _ _)
 have y0:w2.cell? ⟨W.heap.size,5,none⟩=some (.slice ad args.length ac):=by simp only[World.cell?,hb2];rfl
 have HJ2:=Lib.hid hj2
 have HT2:Hid (Turn M W w2):=(Turn.of_below hb01).trans ht2 (fun _ _ h=>h)
 clear hb2 hj2 ht2 hb01 hj
 gi_wp2
 clear y0
 gi_loopw [14] (fun kv wr=>∃j:Nat,kv=.int .i64 j/\j<=args.length/\Hid (J (k+1+sizeXs (args.take j)) wr)/\Hid (Turn M W wr)) (fun kv _=>args.length - (intOf kv).toNat)
 case atStart=>exact⟨0,rfl,by omega,by show J _ _;simpa[sizeXs]using HJ2.out,HT2.out⟩
 case round=>
  clear HJ2 HT2;obtain⟨j,rfl,hjl,HJ,HT⟩:=hrel;by_cases hlt:j<args.length
  ·obtain⟨x,hx⟩:∃x,args[j]?=some x:=⟨args[j],by simp[hlt]⟩
   have hsl':RSl xpE Q wr (.slice ad args.length ac) args:=Ad (by decide) (fun b hb hq=>⟨hq,HT.out.block b hb (hQM b hq)⟩) HS.out
   obtain⟨b,o,cap,xcs,hbo,hxin,hat⟩:=hsl'.at hx
   injection hbo with e1 _ e2
   subst e1
   subst e2
   have HX:Hid (XpIn Q wr x xcs):=hxin
   have IH1:=Lib.hid (IH.out x (List.mem_of_getElem? hx) xcs)
   have hle:k+1+sizeXs (args.take j)+sizeX x<=T:=by have h1:=Uc args (j+1);have h2:=Hv hx;omega
   have htk:Hid (sizeXs (args.take (j+1))=sizeXs (args.take j)+sizeX x):=Hv hx
   obtain⟨op2,n2,v2,args2⟩:=x
   obtain⟨s1,rfl,hr1⟩:=Ai.1 HX.out
   obtain⟨s1,d1,rfl⟩:=hr1.slice
   have x0:=hat 0 _ rfl
   have x1:=hat 1 _ rfl
   have x2:=hat 2 _ rfl
   have x3:=hat 3 _ rfl
   have x4:=hat 4 _ rfl
   have x5:=hat 5 _ rfl
   simp only[show xpE.k=6 from rfl,Nat.add_zero]at x0 x1 x2 x3 x4 x5
   have hji:(j:Int)<(args.length:Int):=by omega
   have hwC:C<=wr.heap.size:=Nat.le_trans hC HT.out.size
   clear hsl' hxin hat hr1 hx
   gi_wp2
   clear x0 x1 x2 x3 x4 x5
   have hb3:Below wr.heap.size wr (wr.alloc (.cells #[.int .i64 op2,.int .i64 n2,.int .i64 v2.k,.int .i64 v2.n,.string v2.s,.slice s1 args2.length d1] 49)):=(Below.refl _ _).alloc (Nat.le_refl _) _
   refine⟨trivial,Wq _,?_⟩
   refine CallsIn.mono (IH1.out _ _ _ hle (Au (fun b hb hq=>⟨hq,hb3.block b hb⟩) _ _ HX.out) (by rw[World.size_alloc];omega) (hJ _ _ _ HJ.out hb3)) ?_
   rintro e w4 ⟨rfl,hj4,ht4⟩
   have HJ4:Hid (J (k+1+sizeXs (args.take (j+1))) w4):=by show J _ _;rw[htk.out,<- Nat.add_assoc];exact hj4
   have HT4:Hid (Turn M W w4):=(HT.out.step hb3).trans ht4 (fun _ _ h=>h)
   clear hj4 ht4 hb3 HJ HT HX
   gi_wp2
   go_roundw
   case rel=>exact⟨j+1,by go_num,by omega,HJ4.out,HT4.out⟩
   case measure=>simp[intOf];omega
  ·obtain rfl:j=args.length:=by omega
   gi_wp2
   refine bodyPost_ret (results_tmp rfl _ _ _) rfl ?_
   exact⟨rfl,by have:=HJ.out;rw[List.take_length]at this;unfold sizeX;rw[<- Nat.add_assoc];exact this,HT.out⟩
attribute [local go_sem] Oper.semAt_some
theorem J7 (Q M:Nat->Prop) (C:Nat) (hM:∀b,M b->b<C) (hQM:∀b,Q b->¬M b) (l T:Nat) (J:Nat->World->Prop) (hJ:∀k W W',J k W->Below W.heap.size W W'->J k W')
 (P:Xp->Prop) (hP:∀op n v args,P (.mk op n v args)->∀a∈args,P a)
 (HY:∀(k:Nat) (x:Xp) (xcs:List Value) (W:World) (m:Nat),k<T->P x->XpIn Q W x xcs->C<=W.heap.size->J k W ->
  YieldAt Fence.wide m prog l #[.agg xcs.toArray] W fun e W'=>e=.returned (.bool true)/\J (k+1) W'/\Turn M W W')
 (e:Xp) (hsh:e.short) (hp:P e) (hT:sizeX e<=T) (cs:List Value) (bs n:Nat) (W:World) (hin:XpIn Q W e cs) (hb:W.heap[bs]?=some (.cells cs.toArray 49 (0,0))) (hC:C<=W.heap.size) (hj:J 0 W):
 CallsIn Fence.wide n prog 229 #[.func (.yield l) #[] #[],.pointer (some ⟨bs,0,none⟩)] W fun e' W'=>(∃v,e'=.returned v)/\J (sizeX e) W'/\Turn M W W':=by
 have CV:Hid (∀m,CallsIn Fence.wide m prog 230 #[.agg cs.toArray,.func (.yield l) #[] #[]] W fun e' W'=>e'=.returned (.bool true)/\J (sizeX e) W'/\Turn M W W'):=fun m=>by
  have:=Tr Q M C hM hQM l T J hJ P hP HY e hsh hp cs W 0 m (by omega) hin hC hj
  rwa [Nat.zero_add]at this
 obtain⟨op,xn,v,args⟩:=e
 obtain⟨a,rfl,hsl⟩:=Ai.1 hin
 obtain⟨ad,ac,rfl⟩:=hsl.slice
 have y0:W.cell? ⟨bs,0,none⟩=some (.int .i64 op):=by simp only[World.cell?,hb];rfl
 have y1:W.cell? ⟨bs,1,none⟩=some (.int .i64 xn):=by simp only[World.cell?,hb];rfl
 have y2:W.cell? ⟨bs,2,none⟩=some (.int .i64 v.k):=by simp only[World.cell?,hb];rfl
 have y3:W.cell? ⟨bs,3,none⟩=some (.int .i64 v.n):=by simp only[World.cell?,hb];rfl
 have y4:W.cell? ⟨bs,4,none⟩=some (.string v.s):=by simp only[World.cell?,hb];rfl
 have y5:W.cell? ⟨bs,5,none⟩=some (.slice ad args.length ac):=by simp only[World.cell?,hb];rfl
 clear hb HY hin hsl hsh hp hT hj hJ
 refine callsIn_of_wp func229 rfl trivial ?_ rfl
 simp only[ntmps229,List.size_toArray,List.length_cons,List.length_nil,Nat.reduceAdd,Nat.reduceSub,Array.replicate_succ,Array.replicate_zero,List.push_toArray,List.append_toArray,List.nil_append,List.cons_append]
 gi_wp2
 refine⟨trivial,Wq _,?_⟩
 refine CallsIn.mono (CV.out _) ?_
 rintro e w1 ⟨rfl,hj,ht⟩
 have HJ:=Lib.hid hj
 have HT:=Lib.hid ht
 clear hj ht CV y0 y1 y2 y3 y4 y5
 gi_wp2
 go_end0
 exact⟨⟨_,rfl⟩,HJ.out,HT.out⟩
theorem Mg (Q0:Nat->Prop) (e:Xp) (hsh:e.short) (hT:sizeX e<=1000000) (cs:List Value) (w:World) (hin:XpIn Q0 w e cs):CallsIn Fence.wide 5 prog 209 #[.agg cs.toArray] w (Says (.int .i64 (sizeX e)) w):=by
 have hin1:XpIn (·<w.heap.size) w e cs:=Au (fun b hb _=>⟨hb,rfl⟩) _ _ hin
 have HIN:=Lib.hid hin1
 have HSH:=Lib.hid hsh
 obtain⟨op,xn,v,args⟩:=e
 obtain⟨a,rfl,hsl⟩:=Ai.1 hin
 obtain⟨ad,ac,rfl⟩:=hsl.slice
 generalize htot:sizeX (.mk op xn v args)=tot at *
 have HTOT:=Lib.hid htot
 clear hin hin1 hsl hsh htot
 refine callsIn_of_wp_marks func209 rfl trivial ?_ rfl
 simp only[ntmps209,List.size_toArray,List.length_cons,List.length_nil,Nat.reduceAdd,Nat.reduceSub,Array.replicate_succ,Array.replicate_zero,List.push_toArray,List.append_toArray,List.nil_append,List.cons_append]
 gi_wp2
 refine⟨trivial,?_⟩
 refine CallsIn.mono (callsIn_wide.2 (Ly op xn v ad args.length ac _)) ?_
 rintro e w1 ⟨rfl,rfl⟩
 gi_wp2
 refine St.genIn (St.alloc (St.alloc (St.alloc (St.start w)))) ?_
 intro W0 S0
 simp only[World.size_alloc,Nat.add_assoc,Nat.reduceAdd]at S0 ⊢
 have hW0:=S0.out.below.size
 have hW3:w.heap.size+2<W0.heap.size:=(Array.getElem?_eq_some_iff.1 (S0.out.blk 0 rfl)).1
 refine Ew (by decide) (gf:=229) (lb:=#[.pointer (some ⟨w.heap.size+2,0,none⟩)]) rfl (enters_of func229 (by kernel_rfl) rfl)
  (fun rc W=>∃lp,RgI w W0.heap.size lp [(w.heap.size+2,#[.int .i64 op,.int .i64 xn,.int .i64 v.k,.int .i64 v.n,.string v.s,.slice ad args.length ac],49),(w.heap.size+1,#[.int .i64 tot],3),(w.heap.size,#[.int .i64 op,.int .i64 xn,.int .i64 v.k,.int .i64 v.n,.string v.s,.slice ad args.length ac],49)] W) (fun _ _=>False) ?_ ?_ ?_
 ·intro rc hround;have HR:=Lib.hid hround;clear hround;have R0:=RgI.start S0.out (rc .ready none);refine CallsIn.mono (J7 (·<w.heap.size) (fun b=>b=w.heap.size+1\/b=W0.heap.size+1) (W0.heap.size+2) (fun b h=>by rcases h with rfl|rfl<;>omega) (fun b h hm=>by rcases hm with rfl|rfl<;>omega) (W0.heap.size+1) tot
   (fun k W=>RgI w W0.heap.size (rc .ready none) [(w.heap.size+2,#[.int .i64 op,.int .i64 xn,.int .i64 v.k,.int .i64 v.n,.string v.s,.slice ad args.length ac],49),(w.heap.size+1,#[.int .i64 k],3),(w.heap.size,#[.int .i64 op,.int .i64 xn,.int .i64 v.k,.int .i64 v.n,.string v.s,.slice ad args.length ac],49)] W)
   (fun k W W' h hb=>h.kept hb) (fun _=>True) (fun _ _ _ _ _ _ _=>trivial) ?_ (.mk op xn v args) HSH.out trivial (Nat.le_of_eq HTOT.out) _ (w.heap.size+2) 4 _ (Au (fun b hb hq=>⟨hq,R0.st.below.block b hb⟩) _ _ HIN.out) (R0.st.blk 0 rfl) (by simp) R0) ?_
  ·intro k x xcs W1 m hk _ _ hC1 hj1
   have R1:=Lib.hid hj1
   clear hj1 R0
   refine Jb m (HR.out W1 _ _ R1.out.loop rfl ?_)
   clear HR
   gi_wp2
   refine⟨R1.out.loop,?_⟩
   have R2:=Lib.hid (R1.out.put (rc .busy none))
   have ht1:Turn (fun b=>b=w.heap.size+1\/b=W0.heap.size+1) W1 (W1.putObj (W0.heap.size+1) (.loop (rc .busy none))):=(Turn.putObj _ _ _).mono (fun i _ h=>.inr h)
   generalize W1.putObj (W0.heap.size+1) (.loop (rc .busy none))=Wb at *
   clear R1
   have F:=R2.out.facts
   simp only[St.Facts,cellFacts,apartFacts,and_true]at F
   gi_wp2
   have R3:=R2.out.set 1 (o:=0) (v:=.int .i64 ((k+1:Nat):Int)) rfl
   have hk1:((k+1:Nat):Int)=(k:Int)+1:=by omega
   rw[hk1]at R3
   refine⟨R3.loop,rfl,?_,?_⟩
   ·rw[hk1];exact R3.put _
   ·exact(ht1.setCell (.inl (.inl rfl))).trans (Turn.putObj _ _ _) (fun i _ h=>.inr h)
  ·rintro e W2 ⟨hv,h,_⟩;rw[HTOT.out]at h;exact⟨hv,.inl ⟨⟨_,h⟩,h.loop⟩⟩
 ·rintro rc W o ⟨lp,h⟩ hl
  have R1:=Lib.hid (h.put o)
  clear h hl
  generalize W.putObj (W0.heap.size+1) (.loop o)=W1 at *
  have F:=R1.out.facts
  simp only[St.Facts,cellFacts,apartFacts,and_true]at F
  gi_wp2
  refine⟨by simp,.inl ⟨_,_,rfl,run_takeDeferred R1.out.dfr,?_⟩⟩
  exact⟨_,results_tmp rfl _ _ _,rfl,R1.out.fin.below⟩
 ·rintro rc W o h hl;exact h.elim
theorem xsize_any (Q:Nat->Prop) (e:Xp) (hsh:e.short) (hT:sizeX e<=1000000) (cs:List Value) (w:World) (hin:XpIn Q w e cs):Calls prog 209 #[.agg cs.toArray] w (Says (.int .i64 (sizeX e)) w):=callsIn_wide.1 (Mg Q e hsh hT cs w hin)
theorem Wm (op:Int) (w:World):Calls prog 231 #[.int .i64 op] w (Says (.int .i64 (arityX op)) w):=by
 by_cases h1:op=1
 ·subst h1;go_enter func231,ntmps231;go_wp2_with fail;go_returns;exact⟨rfl,Below.refl _ _⟩
 by_cases h2:op=2
 ·subst h2;go_enter func231,ntmps231;go_wp2_with fail;go_returns;exact⟨rfl,Below.refl _ _⟩
 by_cases h14:op=14
 ·subst h14;go_enter func231,ntmps231;go_wp2_with fail;go_returns;exact⟨rfl,Below.refl _ _⟩
 by_cases h15:op=15
 ·subst h15;go_enter func231,ntmps231;go_wp2_with fail;go_returns;exact⟨rfl,Below.refl _ _⟩
 have b1:(op==(1:Int))=false:=by simpa using h1
 have b2:(op==(2:Int))=false:=by simpa using h2
 have b14:(op==(14:Int))=false:=by simpa using h14
 have b15:(op==(15:Int))=false:=by simpa using h15
 by_cases h3:2<op
 ·by_cases h4:op<14
  ·obtain⟨r,hr⟩:∃r,arityX op=r:=⟨_,rfl⟩;have HR:Hid (r=2):=by show _=_;rw[<- hr];unfold arityX;rw[if_neg (by omega),if_neg (by omega),if_pos ⟨h3,h4⟩]
   rw[hr];clear hr;go_enter func231,ntmps231;go_wp2_with fail;go_returns;exact⟨by rw[HR.out];rfl,Below.refl _ _⟩
  ·obtain⟨r,hr⟩:∃r,arityX op=r:=⟨_,rfl⟩;have HR:Hid (r= -1):=by show _=_;rw[<- hr];unfold arityX;rw[if_neg (by omega),if_neg (by omega),if_neg (by omega)]
   rw[hr];clear hr;go_enter func231,ntmps231;go_wp2_with fail;go_returns;exact⟨by rw[HR.out];rfl,Below.refl _ _⟩
 ·obtain⟨r,hr⟩:∃r,arityX op=r:=⟨_,rfl⟩;have HR:Hid (r= -1):=by show _=_;rw[<- hr];unfold arityX;rw[if_neg (by omega),if_neg (by omega),if_neg (by omega)]
  rw[hr];clear hr;go_enter func231,ntmps231;go_wp2_with fail;go_returns;exact⟨by rw[HR.out];rfl,Below.refl _ _⟩
theorem Jq {P:Prop} (h:P:=by
 go_enter func211,ntmps211;go_upto_region 1 with fail;refine St.gen (St.alloc (St.start w)) ?_;intro w1 S1;have F1:=S1.factsG;simp only[St.FactsG,cellFactsG,and_true]at F1;refine Ab 29 [(0,false),(1,false),(2,false),(3,false),(4,false),(5,false),(6,false),(7,false),(8,false),(9,false),(10,false),(11,false),(12,false),(13,false),(14,false),(15,false),(16,false),(17,false),(18,false),(19,false),(20,false),(21,false),(22,false),(23,false),(24,false),(25,false),(26,false),(27,false),(28,false)] (by kernel_rfl) (by kernel_rfl) ?_;repeat(refine An rfl (fun K hK=>?_);go_simp;first|(refine hK _ ?_;clear hK K)|(apply Exists.intro;refine⟨fun _=>?_,hK _ ?_⟩;(exact C.out _ _ _);clear hK K))
 refine A3 ?_;intro w2 hb2 _;have HB2:=Lib.hid (St.kept S1 hb2).below;clear hb2 C F1 S1;go_wp2_with fail;go_returns;exact⟨rfl,HB2.out⟩):P:=h
theorem Nd (op n:Int) (v:V) (args:List Xp) (ad:Option Addr) (ac:Nat) (w:World) (h:(Xp.mk op n v args).formed=true):
 Calls prog 211 #[.agg #[.int .i64 op,.int .i64 n,.int .i64 v.k,.int .i64 v.n,.string v.s,.slice ad args.length ac]] w (Says (.bool true) w):=by
 unfold Xp.formed at h
 simp only[Bool.and_eq_true,Bool.or_eq_true,decide_eq_true_eq]at h
 obtain⟨⟨⟨hl,hn⟩,hv⟩,_⟩:=h
 have C:Hid (∀(W:World) (d:Nat) (os:Array Obj),Calls prog 231 #[.int .i64 op] (grow (redrawn W d) os) fun e w'=>e=.returned (.int .i64 (arityX op))/\Laid (grow (redrawn W d) os) w'):=fun W d os=>Wm op _
 rw[<- hl]at C
 have hm:args.length<=2:=by
  unfold arityX at hl;split at hl
  ·omega
  ·split at hl
   ·omega
   ·split at hl<;>omega
 clear hl
 by_cases h1:op=1
 ·subst h1;obtain rfl:v=V.null:=by rcases hv with h|h;exact h;exact absurd h (by decide)
  simp only[V.null];by_cases h0:n=0
  ·subst h0;exact Jq
  ·have h0b:(n==0)=false:=by simpa using h0
   exact Jq
 ·obtain rfl:n=0:=by rcases hn with h|h;exact h;exact absurd h h1
  by_cases h2:op=2
  ·subst h2;obtain⟨k,m,s⟩:=v;by_cases hk:k=0
   ·subst hk;by_cases hn0:m=0
    ·subst hn0;by_cases hs:s=⟨#[]⟩
     ·subst hs;exact Jq
     ·have hsb:¬s.toList=[]:=fun h=>hs ((Eg s).2 h);clear hs;exact Jq
    ·have hnb:(m==0)=false:=by simpa using hn0
     exact Jq
   ·have hkb:(k==0)=false:=by simpa using hk
    exact Jq
  ·obtain rfl:v=V.null:=by rcases hv with h|h;exact h;exact absurd h h2
   simp only[V.null];have h1b:(op==1)=false:=by simpa using h1
   have h2b:(op==2)=false:=by simpa using h2
   exact Jq
theorem Rc:OnEls intE 252 (fun p l=>.int .i64 (idxFrom p 0 l)):=by
 have F:=func252;have N:=ntmps252;have EK:intE.k=1:=rfl;have EV:∀a:Value,intE.val [a]=a:=fun _=>rfl;have ONE:=trivial;exact Hl
theorem It:OnEls intE 233 (fun p l=>.bool (l.any p)):=by
 have F:=func233;have N:=ntmps233;have RS:=results233;have HI:=Rc;have ONE:=trivial;exact Hm
theorem b7 (k want:Int) (qb:Nat) (w:World) (h:w.cell? ⟨qb,0,none⟩=some (.int .i64 want)):Calls prog 234 #[.int .i64 k,.pointer (some ⟨qb,0,none⟩)] w (Says (.bool (decide (k≠want)&&decide (k≠0))) w):=by
 have l1:=block_lt_of_cell h;have e:(decide (k≠want)&&decide (k≠0))=(k != want&&k != 0):=by rw[Bool.eq_iff_iff];simp
 rw[e];clear e;generalize hz:(k != want&&k != 0)=z;go_enter func234,ntmps234;go_wp2_with fail;all_goals(exact bodyPost_ret (v:=.bool z) (by first|(simp[results,results234,go_sem];done)|(simp[results,results234,go_sem];rw[<- hz];simp[*])) rfl ⟨rfl,Below.refl _ _⟩)
theorem Vs:En 234:=enters_of func234 (by kernel_rfl) rfl
theorem Vt:En 232:=enters_of func232 (by kernel_rfl) rfl
theorem cf (Q:Nat->Prop) (want:Int) (tb:Nat) (v:Value) (l:List Int) (w:World) (h:w.cell? ⟨tb,0,none⟩=some v) (hv:RSl intE Q w v l) (hl:l.length<=4611686018427387904):Calls prog 232 #[.int .i64 want,.pointer (some ⟨tb,0,none⟩)] w (Says (.bool (allK want l)) w):=by
 have hb1:Below w.heap.size w (w.alloc (.cells #[.int .i64 want] 3)):=(Below.refl _ _).alloc (Nat.le_refl _) _;have hq:(w.alloc (.cells #[.int .i64 want] 3)).heap[w.heap.size]?=some (.cells #[.int .i64 want] 3 (0,0)):=World.alloc_heap_new _ _;have hc:(w.alloc (.cells #[.int .i64 want] 3)).cell? ⟨w.heap.size,0,none⟩=some (.int .i64 want):=by simp only[World.cell?,hq];rfl
 have C:Hid (Calls prog 233 #[v,.func (.func 234) #[] #[.pointer (some ⟨w.heap.size,0,none⟩)]] (w.alloc (.cells #[.int .i64 want] 3)) (Says (.bool (l.any fun k=>decide (k≠want)&&decide (k≠0))) (w.alloc (.cells #[.int .i64 want] 3)))):=
  It 234 w.heap.size Q _ l v _ Vs (hv.kept (by decide) hb1) hl (fun W a cs hW ha hin=>by
   have e:cs=[.int .i64 a]:=hin;subst e;exact b7 a want w.heap.size W (hW.cell_kept hc))
 have HY:Hid (allK want l=!(l.any fun k=>decide (k≠want)&&decide (k≠0))):=rfl;obtain⟨y,hy⟩:∃y,allK want l=y:=⟨_,rfl⟩;rw[hy]at HY ⊢;generalize (l.any fun k=>decide (k≠want)&&decide (k≠0))=z at *;obtain⟨a,c,rfl⟩:=hv.slice;have hmf:∀(fn:Fn) (first cap:Array Value) (w:World),(Instr.makeFunc fn first cap).run prog w=.ok (.func fn first cap) w:=fun _ _ _ _=>rfl;have l1:=block_lt_of_cell h;clear hq hc hv hy;go_enter func232,ntmps232;go_wp2_with fail;refine Calls.mono C.out ?_;rintro e w2 ⟨rfl,hb2⟩;have HB:=Lib.hid (hb1.step hb2);clear hb1 hb2 C h;go_wp2_with fail;exact bodyPost_ret (v:=.bool (!z)) (by simp[results,results232,go_sem]) rfl ⟨by rw[HY.out],HB.out⟩
theorem G4 {P:Prop} (h:P:=by
 go_enter F,N;go_wp2_with fail;go_returns;exact⟨by rw[HY.out];rfl,Below.refl _ _⟩):P:=h
theorem Wn (op:Int) (w:World):Calls prog 235 #[.int .i64 op] w (Says (.bool (decide (3<=op)&&decide (op<=5))) w):=by
 have F:=func235;have N:=ntmps235;obtain⟨y,hy⟩:∃y,(decide (3<=op)&&decide (op<=5))=y:=⟨_,rfl⟩;rw[hy];by_cases h1:3<=op
 ·by_cases h2:op<=5
  ·have HY:Hid (y=true):=by show _=_;rw[<- hy];simp[h1,h2]
   clear hy;exact G4
  ·have HY:Hid (y=false):=by show _=_;rw[<- hy];simp[h2]
   clear hy;exact G4
 ·have HY:Hid (y=false):=by show _=_;rw[<- hy];simp[h1]
  clear hy;exact G4
theorem Rx (op:Int) (w:World):Calls prog 236 #[.int .i64 op] w (Says (.bool (decide (6<=op)&&decide (op<=11))) w):=by
 have F:=func236;have N:=ntmps236;obtain⟨y,hy⟩:∃y,(decide (6<=op)&&decide (op<=11))=y:=⟨_,rfl⟩;rw[hy];by_cases h1:6<=op
 ·by_cases h2:op<=11
  ·have HY:Hid (y=true):=by show _=_;rw[<- hy];simp[h1,h2]
   clear hy;exact G4
  ·have HY:Hid (y=false):=by show _=_;rw[<- hy];simp[h2]
   clear hy;exact G4
 ·have HY:Hid (y=false):=by show _=_;rw[<- hy];simp[h1]
  clear hy;exact G4
def intVals (l:List Int):List Value:=l.map fun n=>.int .i64 n
theorem B0 {Q:Nat->Prop} {w:World}:∀l:List Int,LIn intE Q w l (intVals l)
 | []=>rfl
 | n::l=>⟨[.int .i64 n],intVals l,rfl,rfl,B0 l⟩
theorem Fe {Q:Nat->Prop} {w:World}:∀{l:List Int} {acs:List Value},LIn intE Q w l acs->acs=intVals l
 | [],acs,h=>h
 | n::l,acs,h=>by
  obtain⟨c1,c2,rfl,h1,h2⟩:=h;have e:c1=[.int .i64 n]:=h1;rw[e,Fe h2];rfl
theorem Bq {W:World} {cs:Array Value} {t:TypeId} {n cap:Nat} (hc:n<=cap):SlAt (W.alloc (.cells cs t)) (.slice (some ⟨W.heap.size,0,none⟩) n cap) n cs.toList:=by
 refine⟨_,cap,rfl,hc,fun _=>⟨W.heap.size,0,rfl,fun j u hu=>?_⟩⟩;simp only[World.cell?,World.alloc_heap_new,Nat.zero_add];simpa using hu
theorem B8:(prog.info? 3).map (fun i=>(i.zero,i.size,i.bytes))=some (some (.int .i64 0),1,8):=by kernel_rfl
def exTbl:Tbl:=⟨[116],[⟨[97],1,false⟩,⟨[98],1,false⟩],[],[]⟩
structure TblAt (w:World) (tb tq:Nat) (cb co cc:Nat) (ia:Option Addr) (ic:Nat) (ka:Option Addr) (kc:Nat):Prop where
 t0:w.cell? ⟨tb,tq,none⟩=some (.string ⟨[116].toArray⟩)
 t1:w.cell? ⟨tb,tq+1,none⟩=some (.slice (some ⟨cb,co,none⟩) 2 cc)
 t2:w.cell? ⟨tb,tq+2,none⟩=some (.slice ia 0 ic)
 t3:w.cell? ⟨tb,tq+3,none⟩=some (.slice ka 0 kc)
 a0:w.cell? ⟨cb,co,none⟩=some (.string ⟨[97].toArray⟩)
 a1:w.cell? ⟨cb,co+1,none⟩=some (.int .i64 1)
 a2:w.cell? ⟨cb,co+2,none⟩=some (.bool false)
 b0:w.cell? ⟨cb,co+3,none⟩=some (.string ⟨[98].toArray⟩)
 b1:w.cell? ⟨cb,co+3+1,none⟩=some (.int .i64 1)
 b2:w.cell? ⟨cb,co+3+2,none⟩=some (.bool false)
theorem TblAt.kept {w w':World} {tb tq cb co cc:Nat} {ia:Option Addr} {ic:Nat} {ka:Option Addr} {kc:Nat} (h:TblAt w tb tq cb co cc ia ic ka kc) (hb:Below w.heap.size w w'):TblAt w' tb tq cb co cc ia ic ka kc:=
 ⟨hb.cell_kept h.t0,hb.cell_kept h.t1,hb.cell_kept h.t2,hb.cell_kept h.t3,hb.cell_kept h.a0,hb.cell_kept h.a1,hb.cell_kept h.a2,hb.cell_kept h.b0,hb.cell_kept h.b1,hb.cell_kept h.b2⟩
theorem Dw {P:Program} {fn:Func} {R:Ending->World->Prop} {x:Exit} {a:Act} {w:World} (R2:World->Prop) (h:R2 w) (k:∀W,R2 W->bodyPost P fn R x a W):bodyPost P fn R x a w:=k w h
theorem St.put {w0 w:World} {L:List Blk} {mb:Nat} {o:Obj} (h:St w0 w L) (hm:w0.heap.size<=mb) (ha:∀x∈L,x.1≠mb):St w0 (w.putObj mb o) L:=by
 have hk:∀k,k≠mb->(w.putObj mb o).heap[k]?=w.heap[k]?:=fun k hk=>by
  show(w.heap.setIfInBounds mb o)[k]?=_;rw[Array.getElem?_setIfInBounds_ne (fun e=>hk e.symm)]
 refine⟨⟨h.below.os,h.below.tape,h.below.output,?_,fun k hlt=>(hk k (by omega)).trans (h.below.block k hlt)⟩,fun x hx=>?_,h.apart⟩
 ·show _<=(w.heap.setIfInBounds mb o).size;rw[Array.size_setIfInBounds];exact h.below.size
 ·exact⟨(h.own x hx).1,by rw[hk _ (ha x hx)];exact(h.own x hx).2⟩
theorem Bt {α:Type} {E:ElRep α} {Q R:Nat->Prop} {w:World} {v:Value} {l:List α} (h:RSl E Q w v l) (hk:0<E.k) (hq:∀b,Q b->R b):RSl E R w v l:=Ad hk (fun b _ hb=>⟨hq b hb,rfl⟩) h
end Go.Proofs.YtjmmbebkbkgefaaGreatDoor
namespace Go.Proofs.YtjmmbebkbkgefaaGreatDoor
open Go.RowKit Go.Sort Go.Proofs.Tryz
structure QV where
 k:Int:=0
 tb:Bytes:=[]
 s:SlP:=sl0
 xo:Int:=0
 xn:Int:=0
 xv:V:=V.null
 xa:SlP:=sl0
 c:SlP:=sl0
 g:SlP:=sl0
 a:SlP:=sl0
 o:SlP:=sl0
 n:Int:=0
def QV.arr (q:QV):Array Value:=#[.int .i64 q.k,.string ⟨q.tb.toArray⟩,sl q.s,.int .i64 q.xo,.int .i64 q.xn,.int .i64 q.xv.k,.int .i64 q.xv.n,.string q.xv.s,sl q.xa,sl q.c,sl q.g,sl q.a,sl q.o,.int .i64 q.n]
theorem Ae (q:QV):(prog.info? 59).map (·.size)=some q.arr.size:=by
 have:(prog.info? 59).map (·.size)=some 14:=by kernel_rfl
 rw[this];rfl
theorem Ba (q:QV):q.arr.all (·.oneCell')=true:=by unfold QV.arr sl;simp[Value.oneCell']
theorem Zo (k:Int) (b:Nat):prog.built 59 [(0,.int .i64 k),(2,.slice (some ⟨b,0,none⟩) 1 1)]=some (QV.arr {k:=k,s:=(some ⟨b,0,none⟩,1,1)}):=by kernel_rfl
theorem Zn (x:Bytes):prog.built 59 [(0,.int .i64 1),(1,.string ⟨x.toArray⟩)]=some (QV.arr {k:=1,tb:=x}):=by kernel_rfl
theorem Ss:prog.built 59 []=some (QV.arr {}):=by kernel_rfl
theorem Zj (q:QV) (w:World):(Instr.buildSlice 54 1 #[(0,.agg q.arr)]).run prog w=.ok (.slice (some ⟨w.heap.size,0,none⟩) 1 1) (w.alloc (.cells q.arr 59)):=by kernel_rfl
section
variable {ops:Array Oper} {rest:List Oper} {o:Oper} {a:Act} {w:World} {Q:Exit->Act->World->Prop}
theorem Pw (hg:o.guard=none) (x:Operand) (ho:o.op=.buildSlice 54 1 #[(0,x)]) (q:QV) (hx:a.eval x=.agg q.arr)
 (h:wpList prog ops Q rest (a.put o.dst (.slice (some ⟨w.heap.size,0,none⟩) 1 1)) (w.alloc (.cells q.arr 59))):wpList prog ops Q (o::rest) a w:=by
 refine wpList_plain hg fun K hK=>?_
 unfold Oper.wp execOp
 simp only[ho,List.map_toArray,List.map_cons,List.map_nil,hx,Sem.run_bind,Zj,Result.andThen_ok,Sem.run_pure]
 exact hK _ _ h
end
theorem St.since {w0 w w':World} {L:List Blk} {g:Nat} {cur:Array Value} {e:TypeId} (h:St w0 w L) (hbl:Below w.heap.size w w') (hge:w.heap.size<=g) (hb:w'.heap[g]?=some (.cells cur e (0,0))):St w0 w' ((g,cur,e)::L):=by
 have hk:=h.kept hbl;refine⟨hk.below,fun x hx=>?_,?_⟩
 ·rcases List.mem_cons.1 hx with rfl|hx
  ·exact⟨Nat.le_trans h.below.size hge,hb⟩
  ·exact hk.own x hx
 ·simp only[List.map_cons,List.nodup_cons];refine⟨fun hm=>?_,h.apart⟩;obtain⟨x,hx,e⟩:=List.mem_map.1 hm;have:=(Array.getElem?_eq_some_iff.1 (h.own x hx).2).1;omega
theorem Di (k:Int) (q:QV) (w:World):Calls prog 43 #[.int .i64 k,.agg q.arr] w (fun e w'=>∃nb,e=.returned (.agg (QV.arr {k:=k,s:=(some ⟨nb,0,none⟩,1,1)}))/\w.heap.size<=nb/\w'.heap[nb]?=some (.cells q.arr 59 (0,0))/\Below w.heap.size w w'):=by
 go_enter func43,ntmps43;go_upto_region 1 with fail;refine St.gen (St.alloc (St.alloc (St.start w) (cs:=q.arr) (t:=59)) (cs:=QV.arr {}) (t:=59)) ?_;intro w1 S1;simp only[World.size_alloc]at S1;go_wp2_with(first|(refine wpList_load_row rfl 59 (.tmp 3) rfl w.heap.size rfl 59 q.arr (0,0) _ (S1.out.blk 1 rfl) underlying59 rfl (Ae _) ?_)|(refine Pw rfl (.tmp 6) rfl q rfl ?_)|(refine A5 rfl 59 _ rfl (QV.arr {k:=k,s:=(some ⟨w1.heap.size,0,none⟩,1,1)}) (Zo k _) ?_)|(refine wpList_store_row rfl 59 (.tmp 4) (.tmp 8) rfl (w.heap.size+1) (QV.arr {k:=k,s:=(some ⟨w1.heap.size,0,none⟩,1,1)}) rfl rfl 59 (QV.arr {}) ((St.alloc S1.out).blk 1 rfl) (Ae _) rfl (Ba _) ?_));have SE:=St.row 1 (QV.arr {k:=k,s:=(some ⟨w1.heap.size,0,none⟩,1,1)}) (St.alloc S1.out (cs:=q.arr) (t:=59)) rfl;simp only[List.set_cons_zero,List.set_cons_succ]at SE;refine bodyPost_ret (v:=.agg (QV.arr {k:=k,s:=(some ⟨w1.heap.size,0,none⟩,1,1)})) (results_cell_row rfl _ _ (w.heap.size+1) 59 (QV.arr {k:=k,s:=(some ⟨w1.heap.size,0,none⟩,1,1)}) (0,0) _ rfl (SE.blk 1 rfl) underlying59 rfl (Ae _)) rfl ?_;exact⟨w1.heap.size,rfl,S1.out.below.size,SE.blk 0 rfl,SE.below⟩
end Go.Proofs.YtjmmbebkbkgefaaGreatDoor
namespace Go.Proofs.YtjmmbebkbkgefaaGreatDoor
open Go.RowKit Go.Sort Go.Proofs.Tryz
theorem St.sub {w0 w:World} {L L':List Blk} (h:St w0 w L) (hs:L'.Sublist L):St w0 w L':=
 ⟨h.below,fun x hx=>h.own x (hs.subset hx),h.apart.sublist (hs.map _)⟩
theorem Aa {w:World} {b o:Nat} {cs:Array Value} {t:TypeId} {v:Value} (h:w.heap[b]?=some (.cells cs t (0,0))) (hv:cs[o]?=some v):w.cell? ⟨b,o,none⟩=some v/\w.frozen? ⟨b,o,none⟩=false/\b<w.heap.size:=
 ⟨by simp only[World.cell?,h];exact hv,by simp[World.frozen?,h],(Array.getElem?_eq_some_iff.1 h).1⟩
theorem Rb:(prog.info? 160).map (fun i=>(i.zero,i.size,i.bytes))=some (some (.agg #[.int .i64 0,.bool false]),2,16):=by kernel_rfl
end Go.Proofs.YtjmmbebkbkgefaaGreatDoor
