/- Part 11; the last part says what is proved. No condition. -/
import Derived.Test.YtjmmbebkbkgefaaGreatDoorB09
import Derived.Test.YtjmmbebkbkgefaaGreatDoorB10
set_option linter.unusedVariables false
set_option linter.unusedSimpArgs false
set_option maxHeartbeats 4000000
set_option maxRecDepth 100000
namespace Go.Proofs.YtjmmbebkbkgefaaGreatDoor
open Go.RowKit Go.Sort Tryz
theorem Eg (s:ByteArray):s=⟨#[]⟩↔s.toList=[]:=by
 rw[<- P9];have:(⟨#[]⟩:ByteArray).toList=[]:=by rw[ByteArray.toList_eq]
 rw[this]
theorem El (Q:Nat->Prop) (e:Ex) (cs:List Value) (w:World) (h:ExIn Q w e cs):Calls prog 42 #[.agg cs.toArray] w (Says (.bool e.isZero) w):=by
 obtain⟨op,t,n,v,args⟩:=e;obtain⟨ad0,acs,rfl,⟨ad,ac,rfl,_⟩,_⟩:=h;show Calls prog 42 #[.agg #[.int .i64 op,.string ⟨t.toArray⟩,.string ⟨n.toArray⟩,.int .i64 v.k,.int .i64 v.n,.string v.s,.slice ad args.length ac]] w _;go_enter func42,ntmps42;go_wp2_with fail;all_goals go_returns
 all_goals refine⟨Dh ?_,by go_grown⟩
 all_goals(simp[Ex.isZero,V.null,V.ext_iff,Eg, *]<;>(cases args<;>simp<;>omega))
theorem Hq {Q:Nat->Prop} {w:World}:∀{l:List Ex} {acs:List Value},ExsIn Q w l acs->LIn exE Q w l acs
 | [],acs,h=>h
 | e::l,acs,h=>by
  obtain⟨c1,c2,rfl,h1,h2⟩:=h;exact⟨c1,c2,rfl,h1,Hq h2⟩
theorem Az {Q:Nat->Prop} {w:World} {v:Value} {l:List Ex} (h:ExSl Q w v l):RSl exE Q w v l:=by
 obtain⟨acs,h1,h2⟩:=h;exact⟨acs,h1,Hq h2⟩
theorem W6 (Q:Nat->Prop) (e:Ex):∀(cs:List Value) (most:Int) (w:World),ExIn Q w e cs->e.Wf->0<=most->most<=1000000->Calls prog 86 #[.agg cs.toArray,.int .i64 most] w (Says (.int .i64 (sizeE e most)) w):=by
 refine Ex.ind (P:=fun e=>∀(cs:List Value) (most:Int) (w:World),ExIn Q w e cs->e.Wf->0<=most->most<=1000000->Calls prog 86 #[.agg cs.toArray,.int .i64 most] w (Says (.int .i64 (sizeE e most)) w)) ?_ e;intro op t n v args ih cs most w h hwf hm0 hm1;have hargs:∀a∈args,a.Wf:=L7 hwf.2.2;obtain⟨v0,rfl,hsl⟩:=A6 h;obtain⟨acs,hsl1,hsl2⟩:=hsl;have HV:Hid (RSl exE Q w v0 args):=⟨acs,hsl1,Hq hsl2⟩;obtain⟨ad,ac,rfl⟩:=HV.out.slice;have IH:=Lib.hid ih;have HA:=Lib.hid hargs;clear hwf h hsl1 hsl2 ih hargs;show Calls prog 86 #[.agg #[.int .i64 op,.string ⟨t.toArray⟩,.string ⟨n.toArray⟩,.int .i64 v.k,.int .i64 v.n,.string v.s,.slice ad args.length ac],.int .i64 most] w _;have HB0:Hid (Below w.heap.size w (w.alloc (.cells #[.int .i64 op,.string ⟨t.toArray⟩,.string ⟨n.toArray⟩,.int .i64 v.k,.int .i64 v.n,.string v.s,.slice ad args.length ac] 27))):=(Below.refl _ _).alloc (Nat.le_refl _) _;go_enter func86,ntmps86;go_wp2_with fail;go_loopw [5,11] (fun nv i wr=>∃(k:Nat) (m:Int),k<=args.length/\i=.int .i64 k/\nv=.int .i64 m/\(k:Int)+1<=m/\m<=most+1/\Hid (sizeL args most 1=sizeL (args.drop k) most m)/\Hid (Below w.heap.size w wr)) (fun _ i _=>args.length - (intOf i).toNat)
 case atStart=>exact⟨0,1,by omega,rfl,rfl,by omega,by omega,rfl,HB0.out⟩
 case round=>
  obtain⟨k,m,hk,rfl,rfl,hn1,hn2,HK,HB⟩:=hrel;by_cases hlt:k<args.length
  ·obtain⟨a,hx⟩:∃x,args[k]?=some x:=⟨args[k],by simp[hlt]⟩;obtain⟨b,o,cap,cs,hbo,hin,hat⟩:=(HV.out.kept (by decide) HB.out).at hx;injection hbo with e1 _ e2;subst e1;subst e2;have hma:=List.mem_of_getElem? hx;have hst:sizeL (args.drop k) most m=if most<m then m else sizeL (args.drop (k+1)) most (m+sizeE a (most - m)):=by
    obtain⟨h1,rfl⟩:=List.getElem?_eq_some_iff.1 hx;rw[List.drop_eq_getElem_cons h1,sizeL]
   have HST:Hid (sizeL args most 1=_):=HK.out.trans hst;by_cases hmn:most<m
   ·have HR:Hid (sizeL args most 1=m):=by show _=_;rw[HST.out,if_pos hmn]
    have hin0:=hin;obtain⟨op',t',n',v',args'⟩:=a;obtain⟨ad0,acs',rfl,⟨ad',ac',rfl,_⟩,_⟩:=hin;have x0:=hat 0 _ rfl;have x1:=hat 1 _ rfl;have x2:=hat 2 _ rfl;have x3:=hat 3 _ rfl;have x4:=hat 4 _ rfl;have x5:=hat 5 _ rfl;have x6:=hat 6 _ rfl;simp only[show exE.k=7 from rfl,Nat.add_zero]at x0 x1 x2 x3 x4 x5 x6;clear hst HK hx hat HST hin0 hma;go_wp2_with fail;go_returns;refine⟨Sl ?_,?_⟩
    ·rw[sizeE];exact HR.out.symm
    ·exact HB.out.alloc (by have:=HB.out.size;omega) _
   ·have HR:Hid (sizeL args most 1=sizeL (args.drop (k+1)) most (m+sizeE a (most - m))):=by show _=_;rw[HST.out,if_neg hmn]
    have hle:=W8 a (most - m) (by omega);have C1:=Lib.hid (fun W (hW:Below w.heap.size w W) (hin:ExIn Q W a cs)=>IH.out a hma cs (most - m) W hin (HA.out a hma) (by omega) (by omega));obtain⟨z,hz⟩:∃z,sizeE a (most - m)=z:=⟨_,rfl⟩;rw[hz]at HR C1 hle;have hin0:Hid (ExIn Q wr a cs):=hin;obtain⟨op',t',n',v',args'⟩:=a;obtain⟨ad0,acs',rfl,⟨ad',ac',rfl,_⟩,_⟩:=hin;have x0:=hat 0 _ rfl;have x1:=hat 1 _ rfl;have x2:=hat 2 _ rfl;have x3:=hat 3 _ rfl;have x4:=hat 4 _ rfl;have x5:=hat 5 _ rfl;have x6:=hat 6 _ rfl;simp only[show exE.k=7 from rfl,Nat.add_zero]at x0 x1 x2 x3 x4 x5 x6;have HB1:Hid (Below w.heap.size w (wr.alloc (.cells #[.int .i64 op',.string ⟨t'.toArray⟩,.string ⟨n'.toArray⟩,.int .i64 v'.k,.int .i64 v'.n,.string v'.s,.slice ad' args'.length ac'] 27))):=HB.out.alloc (by have:=HB.out.size;omega) _;have HI1:Hid (ExIn Q (wr.alloc (.cells #[.int .i64 op',.string ⟨t'.toArray⟩,.string ⟨n'.toArray⟩,.int .i64 v'.k,.int .i64 v'.n,.string v'.s,.slice ad' args'.length ac'] 27)) _ _):=hin0.out.kept ((Below.refl _ _).alloc (Nat.le_refl _) _);have hw1:wrap64 (most - m)=most - m:=IntWalk.wrap64_in _ ⟨by omega,by omega⟩;have hw2:wrap64 (m+z)=m+z:=IntWalk.wrap64_in _ ⟨by omega,by omega⟩;clear hst HK hx hat HST hma hz HB;go_wp2_with fail;refine Calls.mono (C1.out _ HB1.out HI1.out) ?_;rintro e w1 ⟨rfl,hb1⟩;have HB2:=Lib.hid (HB1.out.step hb1);clear hb1 x0 x1 x2 x3 x4 x5 x6;go_wp2_with fail;go_roundw
    case rel=>exact⟨k+1,m+z,by omega,by go_num,rfl,by omega,by omega,HR.out,HB2.out⟩
    case measure=>simp[intOf];omega
  ·obtain rfl:k=args.length:=by omega
   have HR:Hid (sizeL args most 1=m):=by show _=_;rw[HK.out,List.drop_length];rfl
   clear HK;go_wp2_with fail;go_returns;refine⟨Sl ?_,HB.out⟩;rw[sizeE];exact HR.out.symm
theorem Ca (v:V) (hv:v.Wf) (w:World):Calls prog 32 #[v.val] w (Says (.bool v.right) w):=by
 have C1:=Lib.hid (fun W=>Fp v hv W);unfold V.val at *;go_enter func32,ntmps32;go_wp2_with fail;refine Calls.mono (C1.out _) ?_;rintro e w1 ⟨rfl,hb1⟩;go_wp2_with fail;exact bodyPost_ret (v:=.bool v.right) (by simp[results,results32,go_sem]) rfl ⟨rfl,((Below.refl _ _).alloc (Nat.le_refl _) _).step hb1⟩
def arity (op:Int):Int:=if op=1\/op=2 then 0 else if op=14\/op=15 then 1 else 2
theorem Da (op:Int) (t n:Bytes) (v:V) (args:List Ex):(Ex.mk op t n v args).formed=
 if op<1\/15<op\/(args.length:Int)≠arity op\/v.right=false then false else
 if op≠2/\v≠V.null then false else
 if op=1 then(if isName n=false\/(t≠[]/\isName t=false)then false else args.all Ex.formed)else(if n++t=[]then args.all Ex.formed else false):=by
 rw[Ex.formed,O7,nodeOk]
 show(decide (1<=op)&&decide (op<=15)&&decide ((args.length:Int)=arity op)&&v.right&&(decide (op=2)||decide (v=V.null))&&_&&_)=_
 generalize args.all Ex.formed=b
 generalize v.right=r
 generalize isName n=i1
 generalize isName t=i2
 by_cases h1:1<=op
 ·by_cases h2:op<=15
  ·by_cases h3:(args.length:Int)=arity op
   ·have e:¬(op<1):=by omega
    have e2:¬(15<op):=by omega
    cases r
    ·simp
    ·by_cases h4:op=2
     ·subst h4;by_cases h5:n++t=[]
      ·simp_all
      ·simp only[h5];simp_all
     ·by_cases h6:v=V.null
      ·by_cases h7:op=1
       ·subst h7;by_cases h8:t=[]
        ·cases i1<;>simp_all
        ·cases i1<;>cases i2<;>simp_all
       ·by_cases h5:n++t=[]
        ·simp_all
        ·simp only[h5];simp_all
      ·simp_all
   ·simp[h3]
  ·have e2:15<op:=by omega
   simp[h2,e2]
 ·have e2:op<1:=by omega
  simp[h1,e2]
theorem notFormed_any (Q:Nat->Prop) (a:Ex) (cs:List Value) (w:World) (h:ExIn Q w a cs) (IH:Hid (∀(cs:List Value) (W:World),ExIn Q W a cs->Calls prog 87 #[.agg cs.toArray] W (Says (.bool a.formed) W))):
 Calls prog 160 #[.agg cs.toArray] w (Says (.bool (!a.formed)) w):=by
 generalize a.formed=b at *
 have HI:=Lib.hid h
 have hin:=h
 obtain⟨op,t,n,v,args⟩:=a
 obtain⟨ad0,acs,rfl,⟨ad,ac,rfl,_⟩,_⟩:=hin
 have HX:=Lib.hid (IH.out _ _ (HI.out.kept ((Below.refl _ w).alloc (Nat.le_refl _) (.cells #[.int .i64 op,.string ⟨t.toArray⟩,.string ⟨n.toArray⟩,.int .i64 v.k,.int .i64 v.n,.string v.s,.slice ad args.length ac] 27))))
 clear h IH HI
 show Calls prog 160 #[.agg #[.int .i64 op,.string ⟨t.toArray⟩,.string ⟨n.toArray⟩,.int .i64 v.k,.int .i64 v.n,.string v.s,.slice ad args.length ac]] w _
 go_enter func160,ntmps160
 go_wp2_with fail
 refine Calls.mono HX.out ?_
 rintro e w1 ⟨rfl,hb1⟩
 go_wp2_with fail
 exact bodyPost_ret (v:=.bool (!b)) (by simp[results,results160,go_sem]) rfl ⟨rfl,((Below.refl _ _).alloc (Nat.le_refl _) _).step hb1⟩
theorem V1:En 160:=enters_of func160 (by kernel_rfl) rfl
theorem Rl {w:World} {t n:Bytes} {v:V} {args:List Ex} {ad:Option Addr} {ac:Nat} {op:Int} (ho:op<1\/15<op) (hw:v.Wf) (hnt:n.length+t.length<=4611686018427387904)
 (HC0:Hid (args.length<=1000000->∀W,Below w.heap.size w W->Calls prog 84 #[.slice ad args.length ac,.func (.func 160) #[] #[]] W (Says (.bool (args.any fun a=>!a.formed)) W))):
 Calls prog 87 #[.agg #[.int .i64 op,.string ⟨t.toArray⟩,.string ⟨n.toArray⟩,.int .i64 v.k,.int .i64 v.n,.string v.s,.slice ad args.length ac]] w (Says (.bool (Ex.mk op t n v args).formed) w):=by
 have HE:=Lib.hid (Da op t n v args)
 have HN:=Lib.hid (Ev Ex.formed args)
 have C1:=Lib.hid (fun W=>Ca v hw W)
 have C2:=Lib.hid (fun W=>Av n W)
 have C3:=Lib.hid (fun W=>Av t W)
 have HZ:Hid (¬9223372036854775807<n.length+t.length):=by show ¬_;have:=hnt;omega
 clear hw hnt
 obtain⟨y,hy⟩:∃y,(Ex.mk op t n v args).formed=y:=⟨_,rfl⟩
 rw[hy]at HE ⊢
 clear hy
 have S0:Hid (St w (w.alloc (.cells #[.int .i64 op,.string ⟨t.toArray⟩,.string ⟨n.toArray⟩,.int .i64 v.k,.int .i64 v.n,.string v.s,.slice ad args.length ac] 27)) [(w.heap.size,#[.int .i64 op,.string ⟨t.toArray⟩,.string ⟨n.toArray⟩,.int .i64 v.k,.int .i64 v.n,.string v.s,.slice ad args.length ac],27)]):=St.alloc (St.start w)
 have HR:Hid (y=false):=by show _=_;rw[HE.out,if_pos (by rcases ho with h|h;exact .inl h;exact .inr (.inl h))]
 clear HE HN HC0 C1 C2 C3 HZ
 have k1:(op==1)=false:=by simp;omega
 rcases ho with ho|ho
 all_goals
  go_enter func87,ntmps87
  go_wp2_with fail
  have y0:∀(d:Nat) (os:Array Obj),(grow (redrawn (w.alloc (.cells #[.int .i64 op,.string ⟨t.toArray⟩,.string ⟨n.toArray⟩,.int .i64 v.k,.int .i64 v.n,.string v.s,.slice ad args.length ac] 27)) d) os).cell? ⟨w.heap.size,0,none⟩=some (.int .i64 op):=fun d os=>(below_regrown _ d os).cell_kept (by simp only[World.cell?,World.alloc_heap_new];rfl)
  refine Ab 5 [(0,false),(1,false),(2,false),(3,false),(4,false)] (by kernel_rfl) (by kernel_rfl) ?_
  repeat(refine An rfl (fun K hK=>?_);go_simp;first|(refine hK _ ?_;clear hK K)|(apply Exists.intro;refine⟨fun _=>?_,hK _ ?_⟩;(fail);clear hK K))
  refine A3 ?_
  intro w1 hb1 _
  have S1:=Lib.hid (S0.out.kept hb1)
  clear y0 hb1 S0
  have F1:=S1.out.facts
  simp only[St.Facts,cellFacts,apartFacts,and_true]at F1
  go_wp2_with fail
  all_goals go_returns
  all_goals exact⟨by rw[HR.out];rfl,S1.out.below⟩
theorem X9 {w:World} {t n:Bytes} {v:V} {args:List Ex} {ad:Option Addr} {ac:Nat} (hw:v.Wf) (hnt:n.length+t.length<=4611686018427387904)
 (HC0:Hid (args.length<=1000000->∀W,Below w.heap.size w W->Calls prog 84 #[.slice ad args.length ac,.func (.func 160) #[] #[]] W (Says (.bool (args.any fun a=>!a.formed)) W))):
 Calls prog 87 #[.agg #[.int .i64 1,.string ⟨t.toArray⟩,.string ⟨n.toArray⟩,.int .i64 v.k,.int .i64 v.n,.string v.s,.slice ad args.length ac]] w (Says (.bool (Ex.mk 1 t n v args).formed) w):=by
 have HE:=Lib.hid (Da 1 t n v args)
 have HN:=Lib.hid (Ev Ex.formed args)
 have C1:=Lib.hid (fun W=>Ca v hw W)
 have C2:=Lib.hid (fun W=>Av n W)
 have C3:=Lib.hid (fun W=>Av t W)
 obtain⟨y,hy⟩:∃y,(Ex.mk 1 t n v args).formed=y:=⟨_,rfl⟩
 rw[hy]at HE ⊢
 have HZ:Hid (¬9223372036854775807<n.length+t.length):=by show ¬_;omega
 clear hy hw hnt
 have S0:Hid (St w (w.alloc (.cells #[.int .i64 1,.string ⟨t.toArray⟩,.string ⟨n.toArray⟩,.int .i64 v.k,.int .i64 v.n,.string v.s,.slice ad args.length ac] 27)) [(w.heap.size,#[.int .i64 1,.string ⟨t.toArray⟩,.string ⟨n.toArray⟩,.int .i64 v.k,.int .i64 v.n,.string v.s,.slice ad args.length ac],27)]):=St.alloc (St.start w)
 have har:arity 1=0:=by unfold arity;simp
 rw[har]at HE
 by_cases hl:args.length=0
 ·have kl:((args.length:Int) != 0)=false:=by simp[hl]
  have HC:=Lib.hid (HC0.out (by omega));clear HC0;have kl2:((args.length:Int))=0:=by simp[hl]
  have HE2:Hid (y=if v.right=false then false else if(1:Int)≠2/\v≠V.null then false else if(1:Int)=1 then(if isName n=false\/(t≠[]/\isName t=false)then false else args.all Ex.formed)else(if n++t=[]then args.all Ex.formed else false)):=by
   show _=_;rw[HE.out];by_cases hr:v.right=false
   ·rw[if_pos (.inr (.inr (.inr hr))),if_pos hr]
   ·rw[if_neg (by rintro(h|h|h|h)<;>first|omega|exact hr h),if_neg hr];try rfl
  clear HE har kl2 hl;go_enter func87,ntmps87;go_wp2_with fail;have y0:∀(d:Nat) (os:Array Obj),(grow (redrawn (w.alloc (.cells #[.int .i64 1,.string ⟨t.toArray⟩,.string ⟨n.toArray⟩,.int .i64 v.k,.int .i64 v.n,.string v.s,.slice ad args.length ac] 27)) d) os).cell? ⟨w.heap.size,0,none⟩=some (.int .i64 1):=fun d os=>(below_regrown _ d os).cell_kept (by simp only[World.cell?,World.alloc_heap_new];rfl);refine Ab 5 [(0,false),(1,false),(2,false),(3,false),(4,false)] (by kernel_rfl) (by kernel_rfl) ?_;repeat(refine An rfl (fun K hK=>?_);go_simp;first|(refine hK _ ?_;clear hK K)|(apply Exists.intro;refine⟨fun _=>?_,hK _ ?_⟩;(fail);clear hK K))
  refine A3 ?_;intro w1 hb1 _;have S1:=Lib.hid (S0.out.kept hb1);clear y0 hb1 S0;have F1:=S1.out.facts;simp only[St.Facts,cellFacts,apartFacts,and_true]at F1;go_wp2_with fail;refine Calls.mono (C1.out _) ?_;rintro e w2 ⟨rfl,hb2⟩;have S2:=Lib.hid (S1.out.kept hb2);clear hb2 S1 F1;have F2:=S2.out.facts;simp only[St.Facts,cellFacts,apartFacts,and_true]at F2
  cases hr:v.right with
  | false=>
   have HR:Hid (y=false):=by show _=_;rw[HE2.out,if_pos hr]
   clear HE2 C1 C2 C3 HC HN;go_wp2_with fail;go_returns;exact⟨by rw[HR.out];rfl,S2.out.below⟩
  | true=>
   have HE3:Hid (y=if(1:Int)≠2/\v≠V.null then false else if(1:Int)=1 then(if isName n=false\/(t≠[]/\isName t=false)then false else args.all Ex.formed)else(if n++t=[]then args.all Ex.formed else false)):=by show _=_;rw[HE2.out,if_neg (show ¬v.right=false by rw[hr];exact Bool.noConfusion)];try simp
   clear HE2 hr C1;by_cases hv:v=V.null
   ·have HE4:Hid (y=if isName n=false\/(t≠[]/\isName t=false)then false else args.all Ex.formed):=by show _=_;rw[HE3.out,if_neg (fun h=>h.2 hv),if_pos rfl]
    subst hv;simp only[V.null]at F2;clear HE3;go_wp2_with fail;refine Calls.mono (C2.out _) ?_;rintro e w3 ⟨rfl,hb3⟩;have S3:=Lib.hid (S2.out.kept hb3);clear hb3 S2 F2;have F3:=S3.out.facts;simp only[St.Facts,cellFacts,apartFacts,and_true]at F3
    cases hi:isName n with
    | false=>
     have HR:Hid (y=false):=by show _=_;rw[HE4.out,if_pos (.inl hi)]
     clear HE4 C2 C3 HC HN;go_wp2_with fail;go_returns;exact⟨by rw[HR.out];rfl,S3.out.below⟩
    | true=>
     by_cases ht0:t=[]
     ·have HR:Hid (y=args.all Ex.formed):=by show _=_;rw[HE4.out,if_neg (by simp[hi,ht0])]
      subst ht0;clear HE4 hi C2 C3;go_wp2_with fail;refine Calls.mono (HC.out _ S3.out.below) ?_;rintro e w4 ⟨rfl,hb4⟩;have S4:=Lib.hid (S3.out.kept hb4);clear hb4 S3 F3;generalize (args.any fun a=>!a.formed)=b at *;go_wp2_with fail;exact bodyPost_ret (v:=.bool (!b)) (by simp[results,results87,go_sem]) rfl ⟨by rw[show y=!b from(by rw[HR.out,<- HN.out])],S4.out.below⟩
     ·have kt:(!t.isEmpty)=true:=by cases t with|nil=>exact absurd rfl ht0|cons a l=>rfl
      go_wp2_with fail;refine Calls.mono (C3.out _) ?_;rintro e w4 ⟨rfl,hb4⟩;have S4:=Lib.hid (S3.out.kept hb4);clear hb4 S3 F3;have F4:=S4.out.facts;simp only[St.Facts,cellFacts,apartFacts,and_true]at F4
      cases hj:isName t with
      | false=>
       have HR:Hid (y=false):=by show _=_;rw[HE4.out,if_pos (.inr ⟨ht0,hj⟩)]
       clear HE4 C2 C3 HC HN;go_wp2_with fail;go_returns;exact⟨by rw[HR.out];rfl,S4.out.below⟩
      | true=>
       have HR:Hid (y=args.all Ex.formed):=by show _=_;rw[HE4.out,if_neg (by simp[hi,hj])]
       clear HE4 hi hj C2 C3;go_wp2_with fail;refine Calls.mono (HC.out _ S4.out.below) ?_;rintro e w5 ⟨rfl,hb5⟩;have S5:=Lib.hid (S4.out.kept hb5);clear hb5 S4 F4;generalize (args.any fun a=>!a.formed)=b at *;go_wp2_with fail;exact bodyPost_ret (v:=.bool (!b)) (by simp[results,results87,go_sem]) rfl ⟨by rw[show y=!b from(by rw[HR.out,<- HN.out])],S5.out.below⟩
   ·have HR:Hid (y=false):=by show _=_;rw[HE3.out,if_pos ⟨by omega,hv⟩]
    have hv':¬(v.k=0/\v.n=0/\v.s.toList=[]):=by rw[<- Eg];intro h;exact hv ((V.ext_iff _ _).2 h)
    clear HE3 C2 C3 HC HN;go_wp2_with fail;all_goals first|(exfalso;exact hv' ⟨by assumption,by assumption,by assumption⟩)|skip
    all_goals go_returns
    all_goals exact⟨by rw[HR.out];rfl,S2.out.below⟩
 ·have hne:(args.length:Int)≠0:=by omega
  have kl:((args.length:Int) != 0)=true:=bne_iff_ne.2 hne;have HR:Hid (y=false):=by show _=_;rw[HE.out,if_pos (.inr (.inr (.inl hne)))]
  clear HE HN HC0 C1 C2 C3 har hne hl HZ;go_enter func87,ntmps87;go_wp2_with fail;have y0:∀(d:Nat) (os:Array Obj),(grow (redrawn (w.alloc (.cells #[.int .i64 1,.string ⟨t.toArray⟩,.string ⟨n.toArray⟩,.int .i64 v.k,.int .i64 v.n,.string v.s,.slice ad args.length ac] 27)) d) os).cell? ⟨w.heap.size,0,none⟩=some (.int .i64 1):=fun d os=>(below_regrown _ d os).cell_kept (by simp only[World.cell?,World.alloc_heap_new];rfl);refine Ab 5 [(0,false),(1,false),(2,false),(3,false),(4,false)] (by kernel_rfl) (by kernel_rfl) ?_;repeat(refine An rfl (fun K hK=>?_);go_simp;first|(refine hK _ ?_;clear hK K)|(apply Exists.intro;refine⟨fun _=>?_,hK _ ?_⟩;(fail);clear hK K))
  refine A3 ?_;intro w1 hb1 _;have S1:=Lib.hid (S0.out.kept hb1);clear y0 hb1 S0;have F1:=S1.out.facts;simp only[St.Facts,cellFacts,apartFacts,and_true]at F1;go_wp2_with fail;all_goals go_returns
  all_goals exact⟨by rw[HR.out];rfl,S1.out.below⟩
theorem X8 {w:World} {t n:Bytes} {v:V} {args:List Ex} {ad:Option Addr} {ac:Nat} (hw:v.Wf) (hnt:n.length+t.length<=4611686018427387904)
 (HC0:Hid (args.length<=1000000->∀W,Below w.heap.size w W->Calls prog 84 #[.slice ad args.length ac,.func (.func 160) #[] #[]] W (Says (.bool (args.any fun a=>!a.formed)) W))):
 Calls prog 87 #[.agg #[.int .i64 2,.string ⟨t.toArray⟩,.string ⟨n.toArray⟩,.int .i64 v.k,.int .i64 v.n,.string v.s,.slice ad args.length ac]] w (Says (.bool (Ex.mk 2 t n v args).formed) w):=by
 have HE:=Lib.hid (Da 2 t n v args)
 have HN:=Lib.hid (Ev Ex.formed args)
 have C1:=Lib.hid (fun W=>Ca v hw W)
 have C2:=Lib.hid (fun W=>Av n W)
 have C3:=Lib.hid (fun W=>Av t W)
 obtain⟨y,hy⟩:∃y,(Ex.mk 2 t n v args).formed=y:=⟨_,rfl⟩
 rw[hy]at HE ⊢
 have HZ:Hid (¬9223372036854775807<n.length+t.length):=by show ¬_;omega
 clear hy hw hnt
 have S0:Hid (St w (w.alloc (.cells #[.int .i64 2,.string ⟨t.toArray⟩,.string ⟨n.toArray⟩,.int .i64 v.k,.int .i64 v.n,.string v.s,.slice ad args.length ac] 27)) [(w.heap.size,#[.int .i64 2,.string ⟨t.toArray⟩,.string ⟨n.toArray⟩,.int .i64 v.k,.int .i64 v.n,.string v.s,.slice ad args.length ac],27)]):=St.alloc (St.start w)
 have har:arity 2=0:=by unfold arity;simp
 rw[har]at HE
 by_cases hl:args.length=0
 ·have kl:((args.length:Int) != 0)=false:=by simp[hl]
  have HC:=Lib.hid (HC0.out (by omega));clear HC0;have kl2:((args.length:Int))=0:=by simp[hl]
  have HE2:Hid (y=if v.right=false then false else if(2:Int)≠2/\v≠V.null then false else if(2:Int)=1 then(if isName n=false\/(t≠[]/\isName t=false)then false else args.all Ex.formed)else(if n++t=[]then args.all Ex.formed else false)):=by
   show _=_;rw[HE.out];by_cases hr:v.right=false
   ·rw[if_pos (.inr (.inr (.inr hr))),if_pos hr]
   ·rw[if_neg (by rintro(h|h|h|h)<;>first|omega|exact hr h),if_neg hr];try rfl
  clear HE har kl2 hl;go_enter func87,ntmps87;go_wp2_with fail;have y0:∀(d:Nat) (os:Array Obj),(grow (redrawn (w.alloc (.cells #[.int .i64 2,.string ⟨t.toArray⟩,.string ⟨n.toArray⟩,.int .i64 v.k,.int .i64 v.n,.string v.s,.slice ad args.length ac] 27)) d) os).cell? ⟨w.heap.size,0,none⟩=some (.int .i64 2):=fun d os=>(below_regrown _ d os).cell_kept (by simp only[World.cell?,World.alloc_heap_new];rfl);refine Ab 5 [(0,false),(1,false),(2,false),(3,false),(4,false)] (by kernel_rfl) (by kernel_rfl) ?_;repeat(refine An rfl (fun K hK=>?_);go_simp;first|(refine hK _ ?_;clear hK K)|(apply Exists.intro;refine⟨fun _=>?_,hK _ ?_⟩;(fail);clear hK K))
  refine A3 ?_;intro w1 hb1 _;have S1:=Lib.hid (S0.out.kept hb1);clear y0 hb1 S0;have F1:=S1.out.facts;simp only[St.Facts,cellFacts,apartFacts,and_true]at F1;go_wp2_with fail;refine Calls.mono (C1.out _) ?_;rintro e w2 ⟨rfl,hb2⟩;have S2:=Lib.hid (S1.out.kept hb2);clear hb2 S1 F1;have F2:=S2.out.facts;simp only[St.Facts,cellFacts,apartFacts,and_true]at F2
  cases hr:v.right with
  | false=>
   have HR:Hid (y=false):=by show _=_;rw[HE2.out,if_pos hr]
   clear HE2 C1 C2 C3 HC HN;go_wp2_with fail;go_returns;exact⟨by rw[HR.out];rfl,S2.out.below⟩
  | true=>
   have HE3:Hid (y=if(2:Int)≠2/\v≠V.null then false else if(2:Int)=1 then(if isName n=false\/(t≠[]/\isName t=false)then false else args.all Ex.formed)else(if n++t=[]then args.all Ex.formed else false)):=by show _=_;rw[HE2.out,if_neg (show ¬v.right=false by rw[hr];exact Bool.noConfusion)];try simp
   clear HE2 hr C1;have HE4:Hid (y=if n++t=[]then args.all Ex.formed else false):=by show _=_;rw[HE3.out,if_neg (fun h=>h.1 rfl),if_neg (show ¬(2:Int)=1 by decide)]
   clear HE3;by_cases hnt:n++t=[]
   ·have HR:Hid (y=args.all Ex.formed):=by show _=_;rw[HE4.out,if_pos hnt]
    obtain⟨rfl,rfl⟩:=List.append_eq_nil_iff.1 hnt;have ec:(⟨#[]⟩:ByteArray)++⟨#[]⟩=⟨#[]⟩:=by rw[ByteArray.mk_append_mk [] []];rfl
    clear HE4 hnt C2 C3 HZ;go_wp2_with fail;refine Calls.mono (HC.out _ S2.out.below) ?_;rintro e w3 ⟨rfl,hb3⟩;have S3:=Lib.hid (S2.out.kept hb3);clear hb3 S2 F2;generalize (args.any fun a=>!a.formed)=b at *;go_wp2_with fail;exact bodyPost_ret (v:=.bool (!b)) (by simp[results,results87,go_sem]) rfl ⟨by rw[show y=!b from(by rw[HR.out,<- HN.out])],S3.out.below⟩
   ·have HR:Hid (y=false):=by show _=_;rw[HE4.out,if_neg hnt]
    have e1:=ByteArray.mk_append_mk n t;have kz:=HZ.out;have k1:(!(n++t).isEmpty)=true:=by cases hc:n++t with|nil=>exact absurd hc hnt|cons a l=>rfl
    clear HE4 C2 C3 HC HN HZ;go_wp2_with fail;all_goals go_returns
    all_goals exact⟨by rw[HR.out];rfl,S2.out.below⟩
 ·have hne:(args.length:Int)≠0:=by omega
  have kl:((args.length:Int) != 0)=true:=bne_iff_ne.2 hne;have HR:Hid (y=false):=by show _=_;rw[HE.out,if_pos (.inr (.inr (.inl hne)))]
  clear HE HN HC0 C1 C2 C3 har hne hl HZ;go_enter func87,ntmps87;go_wp2_with fail;have y0:∀(d:Nat) (os:Array Obj),(grow (redrawn (w.alloc (.cells #[.int .i64 2,.string ⟨t.toArray⟩,.string ⟨n.toArray⟩,.int .i64 v.k,.int .i64 v.n,.string v.s,.slice ad args.length ac] 27)) d) os).cell? ⟨w.heap.size,0,none⟩=some (.int .i64 2):=fun d os=>(below_regrown _ d os).cell_kept (by simp only[World.cell?,World.alloc_heap_new];rfl);refine Ab 5 [(0,false),(1,false),(2,false),(3,false),(4,false)] (by kernel_rfl) (by kernel_rfl) ?_;repeat(refine An rfl (fun K hK=>?_);go_simp;first|(refine hK _ ?_;clear hK K)|(apply Exists.intro;refine⟨fun _=>?_,hK _ ?_⟩;(fail);clear hK K))
  refine A3 ?_;intro w1 hb1 _;have S1:=Lib.hid (S0.out.kept hb1);clear y0 hb1 S0;have F1:=S1.out.facts;simp only[St.Facts,cellFacts,apartFacts,and_true]at F1;go_wp2_with fail;all_goals go_returns
  all_goals exact⟨by rw[HR.out];rfl,S1.out.below⟩
theorem Vj {w:World} {t n:Bytes} {v:V} {args:List Ex} {ad:Option Addr} {ac:Nat} (hw:v.Wf) (hnt:n.length+t.length<=4611686018427387904)
 (HC0:Hid (args.length<=1000000->∀W,Below w.heap.size w W->Calls prog 84 #[.slice ad args.length ac,.func (.func 160) #[] #[]] W (Says (.bool (args.any fun a=>!a.formed)) W))):
 Calls prog 87 #[.agg #[.int .i64 14,.string ⟨t.toArray⟩,.string ⟨n.toArray⟩,.int .i64 v.k,.int .i64 v.n,.string v.s,.slice ad args.length ac]] w (Says (.bool (Ex.mk 14 t n v args).formed) w):=by
 have HE:=Lib.hid (Da 14 t n v args)
 have HN:=Lib.hid (Ev Ex.formed args)
 have C1:=Lib.hid (fun W=>Ca v hw W)
 have C2:=Lib.hid (fun W=>Av n W)
 have C3:=Lib.hid (fun W=>Av t W)
 obtain⟨y,hy⟩:∃y,(Ex.mk 14 t n v args).formed=y:=⟨_,rfl⟩
 rw[hy]at HE ⊢
 have HZ:Hid (¬9223372036854775807<n.length+t.length):=by show ¬_;omega
 clear hy hw hnt
 have S0:Hid (St w (w.alloc (.cells #[.int .i64 14,.string ⟨t.toArray⟩,.string ⟨n.toArray⟩,.int .i64 v.k,.int .i64 v.n,.string v.s,.slice ad args.length ac] 27)) [(w.heap.size,#[.int .i64 14,.string ⟨t.toArray⟩,.string ⟨n.toArray⟩,.int .i64 v.k,.int .i64 v.n,.string v.s,.slice ad args.length ac],27)]):=St.alloc (St.start w)
 have har:arity 14=1:=by unfold arity;simp
 rw[har]at HE
 by_cases hl:args.length=1
 ·have kl:((args.length:Int) != 1)=false:=by simp[hl]
  have HC:=Lib.hid (HC0.out (by omega));clear HC0;have kl2:((args.length:Int))=1:=by simp[hl]
  have HE2:Hid (y=if v.right=false then false else if(14:Int)≠2/\v≠V.null then false else if(14:Int)=1 then(if isName n=false\/(t≠[]/\isName t=false)then false else args.all Ex.formed)else(if n++t=[]then args.all Ex.formed else false)):=by
   show _=_;rw[HE.out];by_cases hr:v.right=false
   ·rw[if_pos (.inr (.inr (.inr hr))),if_pos hr]
   ·rw[if_neg (by rintro(h|h|h|h)<;>first|omega|exact hr h),if_neg hr];try rfl
  clear HE har kl2 hl;go_enter func87,ntmps87;go_wp2_with fail;have y0:∀(d:Nat) (os:Array Obj),(grow (redrawn (w.alloc (.cells #[.int .i64 14,.string ⟨t.toArray⟩,.string ⟨n.toArray⟩,.int .i64 v.k,.int .i64 v.n,.string v.s,.slice ad args.length ac] 27)) d) os).cell? ⟨w.heap.size,0,none⟩=some (.int .i64 14):=fun d os=>(below_regrown _ d os).cell_kept (by simp only[World.cell?,World.alloc_heap_new];rfl);refine Ab 5 [(0,false),(1,false),(2,false),(3,false),(4,false)] (by kernel_rfl) (by kernel_rfl) ?_;repeat(refine An rfl (fun K hK=>?_);go_simp;first|(refine hK _ ?_;clear hK K)|(apply Exists.intro;refine⟨fun _=>?_,hK _ ?_⟩;(fail);clear hK K))
  refine A3 ?_;intro w1 hb1 _;have S1:=Lib.hid (S0.out.kept hb1);clear y0 hb1 S0;have F1:=S1.out.facts;simp only[St.Facts,cellFacts,apartFacts,and_true]at F1;go_wp2_with fail;refine Calls.mono (C1.out _) ?_;rintro e w2 ⟨rfl,hb2⟩;have S2:=Lib.hid (S1.out.kept hb2);clear hb2 S1 F1;have F2:=S2.out.facts;simp only[St.Facts,cellFacts,apartFacts,and_true]at F2
  cases hr:v.right with
  | false=>
   have HR:Hid (y=false):=by show _=_;rw[HE2.out,if_pos hr]
   clear HE2 C1 C2 C3 HC HN;go_wp2_with fail;go_returns;exact⟨by rw[HR.out];rfl,S2.out.below⟩
  | true=>
   have HE3:Hid (y=if(14:Int)≠2/\v≠V.null then false else if(14:Int)=1 then(if isName n=false\/(t≠[]/\isName t=false)then false else args.all Ex.formed)else(if n++t=[]then args.all Ex.formed else false)):=by show _=_;rw[HE2.out,if_neg (show ¬v.right=false by rw[hr];exact Bool.noConfusion)];try simp
   clear HE2 hr C1;by_cases hv:v=V.null
   ·have HE4:Hid (y=if n++t=[]then args.all Ex.formed else false):=by show _=_;rw[HE3.out,if_neg (fun h=>h.2 hv),if_neg (by omega)]
    subst hv;simp only[V.null]at F2;clear HE3;by_cases hnt:n++t=[]
    ·have HR:Hid (y=args.all Ex.formed):=by show _=_;rw[HE4.out,if_pos hnt]
     obtain⟨rfl,rfl⟩:=List.append_eq_nil_iff.1 hnt;have ec:(⟨#[]⟩:ByteArray)++⟨#[]⟩=⟨#[]⟩:=by rw[ByteArray.mk_append_mk [] []];rfl
     clear HE4 hnt C2 C3 HZ;go_wp2_with fail;refine Calls.mono (HC.out _ S2.out.below) ?_;rintro e w3 ⟨rfl,hb3⟩;have S3:=Lib.hid (S2.out.kept hb3);clear hb3 S2 F2;generalize (args.any fun a=>!a.formed)=b at *;go_wp2_with fail;exact bodyPost_ret (v:=.bool (!b)) (by simp[results,results87,go_sem]) rfl ⟨by rw[show y=!b from(by rw[HR.out,<- HN.out])],S3.out.below⟩
    ·have HR:Hid (y=false):=by show _=_;rw[HE4.out,if_neg hnt]
     have e1:=ByteArray.mk_append_mk n t;have kz:=HZ.out;have k1:(!(n++t).isEmpty)=true:=by cases hc:n++t with|nil=>exact absurd hc hnt|cons a l=>rfl
     clear HE4 C2 C3 HC HN HZ;go_wp2_with fail;all_goals go_returns
     all_goals exact⟨by rw[HR.out];rfl,S2.out.below⟩
   ·have HR:Hid (y=false):=by show _=_;rw[HE3.out,if_pos ⟨by omega,hv⟩]
    have hv':¬(v.k=0/\v.n=0/\v.s.toList=[]):=by rw[<- Eg];intro h;exact hv ((V.ext_iff _ _).2 h)
    clear HE3 C2 C3 HC HN;go_wp2_with fail;all_goals first|(exfalso;exact hv' ⟨by assumption,by assumption,by assumption⟩)|skip
    all_goals go_returns
    all_goals exact⟨by rw[HR.out];rfl,S2.out.below⟩
 ·have hne:(args.length:Int)≠1:=by omega
  have kl:((args.length:Int) != 1)=true:=bne_iff_ne.2 hne;have HR:Hid (y=false):=by show _=_;rw[HE.out,if_pos (.inr (.inr (.inl hne)))]
  clear HE HN HC0 C1 C2 C3 har hne hl HZ;go_enter func87,ntmps87;go_wp2_with fail;have y0:∀(d:Nat) (os:Array Obj),(grow (redrawn (w.alloc (.cells #[.int .i64 14,.string ⟨t.toArray⟩,.string ⟨n.toArray⟩,.int .i64 v.k,.int .i64 v.n,.string v.s,.slice ad args.length ac] 27)) d) os).cell? ⟨w.heap.size,0,none⟩=some (.int .i64 14):=fun d os=>(below_regrown _ d os).cell_kept (by simp only[World.cell?,World.alloc_heap_new];rfl);refine Ab 5 [(0,false),(1,false),(2,false),(3,false),(4,false)] (by kernel_rfl) (by kernel_rfl) ?_;repeat(refine An rfl (fun K hK=>?_);go_simp;first|(refine hK _ ?_;clear hK K)|(apply Exists.intro;refine⟨fun _=>?_,hK _ ?_⟩;(fail);clear hK K))
  refine A3 ?_;intro w1 hb1 _;have S1:=Lib.hid (S0.out.kept hb1);clear y0 hb1 S0;have F1:=S1.out.facts;simp only[St.Facts,cellFacts,apartFacts,and_true]at F1;go_wp2_with fail;all_goals go_returns
  all_goals exact⟨by rw[HR.out];rfl,S1.out.below⟩
theorem Vi {w:World} {t n:Bytes} {v:V} {args:List Ex} {ad:Option Addr} {ac:Nat} (hw:v.Wf) (hnt:n.length+t.length<=4611686018427387904)
 (HC0:Hid (args.length<=1000000->∀W,Below w.heap.size w W->Calls prog 84 #[.slice ad args.length ac,.func (.func 160) #[] #[]] W (Says (.bool (args.any fun a=>!a.formed)) W))):
 Calls prog 87 #[.agg #[.int .i64 15,.string ⟨t.toArray⟩,.string ⟨n.toArray⟩,.int .i64 v.k,.int .i64 v.n,.string v.s,.slice ad args.length ac]] w (Says (.bool (Ex.mk 15 t n v args).formed) w):=by
 have HE:=Lib.hid (Da 15 t n v args)
 have HN:=Lib.hid (Ev Ex.formed args)
 have C1:=Lib.hid (fun W=>Ca v hw W)
 have C2:=Lib.hid (fun W=>Av n W)
 have C3:=Lib.hid (fun W=>Av t W)
 obtain⟨y,hy⟩:∃y,(Ex.mk 15 t n v args).formed=y:=⟨_,rfl⟩
 rw[hy]at HE ⊢
 have HZ:Hid (¬9223372036854775807<n.length+t.length):=by show ¬_;omega
 clear hy hw hnt
 have S0:Hid (St w (w.alloc (.cells #[.int .i64 15,.string ⟨t.toArray⟩,.string ⟨n.toArray⟩,.int .i64 v.k,.int .i64 v.n,.string v.s,.slice ad args.length ac] 27)) [(w.heap.size,#[.int .i64 15,.string ⟨t.toArray⟩,.string ⟨n.toArray⟩,.int .i64 v.k,.int .i64 v.n,.string v.s,.slice ad args.length ac],27)]):=St.alloc (St.start w)
 have har:arity 15=1:=by unfold arity;simp
 rw[har]at HE
 by_cases hl:args.length=1
 ·have kl:((args.length:Int) != 1)=false:=by simp[hl]
  have HC:=Lib.hid (HC0.out (by omega));clear HC0;have kl2:((args.length:Int))=1:=by simp[hl]
  have HE2:Hid (y=if v.right=false then false else if(15:Int)≠2/\v≠V.null then false else if(15:Int)=1 then(if isName n=false\/(t≠[]/\isName t=false)then false else args.all Ex.formed)else(if n++t=[]then args.all Ex.formed else false)):=by
   show _=_;rw[HE.out];by_cases hr:v.right=false
   ·rw[if_pos (.inr (.inr (.inr hr))),if_pos hr]
   ·rw[if_neg (by rintro(h|h|h|h)<;>first|omega|exact hr h),if_neg hr];try rfl
  clear HE har kl2 hl;go_enter func87,ntmps87;go_wp2_with fail;have y0:∀(d:Nat) (os:Array Obj),(grow (redrawn (w.alloc (.cells #[.int .i64 15,.string ⟨t.toArray⟩,.string ⟨n.toArray⟩,.int .i64 v.k,.int .i64 v.n,.string v.s,.slice ad args.length ac] 27)) d) os).cell? ⟨w.heap.size,0,none⟩=some (.int .i64 15):=fun d os=>(below_regrown _ d os).cell_kept (by simp only[World.cell?,World.alloc_heap_new];rfl);refine Ab 5 [(0,false),(1,false),(2,false),(3,false),(4,false)] (by kernel_rfl) (by kernel_rfl) ?_;repeat(refine An rfl (fun K hK=>?_);go_simp;first|(refine hK _ ?_;clear hK K)|(apply Exists.intro;refine⟨fun _=>?_,hK _ ?_⟩;(fail);clear hK K))
  refine A3 ?_;intro w1 hb1 _;have S1:=Lib.hid (S0.out.kept hb1);clear y0 hb1 S0;have F1:=S1.out.facts;simp only[St.Facts,cellFacts,apartFacts,and_true]at F1;go_wp2_with fail;refine Calls.mono (C1.out _) ?_;rintro e w2 ⟨rfl,hb2⟩;have S2:=Lib.hid (S1.out.kept hb2);clear hb2 S1 F1;have F2:=S2.out.facts;simp only[St.Facts,cellFacts,apartFacts,and_true]at F2
  cases hr:v.right with
  | false=>
   have HR:Hid (y=false):=by show _=_;rw[HE2.out,if_pos hr]
   clear HE2 C1 C2 C3 HC HN;go_wp2_with fail;go_returns;exact⟨by rw[HR.out];rfl,S2.out.below⟩
  | true=>
   have HE3:Hid (y=if(15:Int)≠2/\v≠V.null then false else if(15:Int)=1 then(if isName n=false\/(t≠[]/\isName t=false)then false else args.all Ex.formed)else(if n++t=[]then args.all Ex.formed else false)):=by show _=_;rw[HE2.out,if_neg (show ¬v.right=false by rw[hr];exact Bool.noConfusion)];try simp
   clear HE2 hr C1;by_cases hv:v=V.null
   ·have HE4:Hid (y=if n++t=[]then args.all Ex.formed else false):=by show _=_;rw[HE3.out,if_neg (fun h=>h.2 hv),if_neg (by omega)]
    subst hv;simp only[V.null]at F2;clear HE3;by_cases hnt:n++t=[]
    ·have HR:Hid (y=args.all Ex.formed):=by show _=_;rw[HE4.out,if_pos hnt]
     obtain⟨rfl,rfl⟩:=List.append_eq_nil_iff.1 hnt;have ec:(⟨#[]⟩:ByteArray)++⟨#[]⟩=⟨#[]⟩:=by rw[ByteArray.mk_append_mk [] []];rfl
     clear HE4 hnt C2 C3 HZ;go_wp2_with fail;refine Calls.mono (HC.out _ S2.out.below) ?_;rintro e w3 ⟨rfl,hb3⟩;have S3:=Lib.hid (S2.out.kept hb3);clear hb3 S2 F2;generalize (args.any fun a=>!a.formed)=b at *;go_wp2_with fail;exact bodyPost_ret (v:=.bool (!b)) (by simp[results,results87,go_sem]) rfl ⟨by rw[show y=!b from(by rw[HR.out,<- HN.out])],S3.out.below⟩
    ·have HR:Hid (y=false):=by show _=_;rw[HE4.out,if_neg hnt]
     have e1:=ByteArray.mk_append_mk n t;have kz:=HZ.out;have k1:(!(n++t).isEmpty)=true:=by cases hc:n++t with|nil=>exact absurd hc hnt|cons a l=>rfl
     clear HE4 C2 C3 HC HN HZ;go_wp2_with fail;all_goals go_returns
     all_goals exact⟨by rw[HR.out];rfl,S2.out.below⟩
   ·have HR:Hid (y=false):=by show _=_;rw[HE3.out,if_pos ⟨by omega,hv⟩]
    have hv':¬(v.k=0/\v.n=0/\v.s.toList=[]):=by rw[<- Eg];intro h;exact hv ((V.ext_iff _ _).2 h)
    clear HE3 C2 C3 HC HN;go_wp2_with fail;all_goals first|(exfalso;exact hv' ⟨by assumption,by assumption,by assumption⟩)|skip
    all_goals go_returns
    all_goals exact⟨by rw[HR.out];rfl,S2.out.below⟩
 ·have hne:(args.length:Int)≠1:=by omega
  have kl:((args.length:Int) != 1)=true:=bne_iff_ne.2 hne;have HR:Hid (y=false):=by show _=_;rw[HE.out,if_pos (.inr (.inr (.inl hne)))]
  clear HE HN HC0 C1 C2 C3 har hne hl HZ;go_enter func87,ntmps87;go_wp2_with fail;have y0:∀(d:Nat) (os:Array Obj),(grow (redrawn (w.alloc (.cells #[.int .i64 15,.string ⟨t.toArray⟩,.string ⟨n.toArray⟩,.int .i64 v.k,.int .i64 v.n,.string v.s,.slice ad args.length ac] 27)) d) os).cell? ⟨w.heap.size,0,none⟩=some (.int .i64 15):=fun d os=>(below_regrown _ d os).cell_kept (by simp only[World.cell?,World.alloc_heap_new];rfl);refine Ab 5 [(0,false),(1,false),(2,false),(3,false),(4,false)] (by kernel_rfl) (by kernel_rfl) ?_;repeat(refine An rfl (fun K hK=>?_);go_simp;first|(refine hK _ ?_;clear hK K)|(apply Exists.intro;refine⟨fun _=>?_,hK _ ?_⟩;(fail);clear hK K))
  refine A3 ?_;intro w1 hb1 _;have S1:=Lib.hid (S0.out.kept hb1);clear y0 hb1 S0;have F1:=S1.out.facts;simp only[St.Facts,cellFacts,apartFacts,and_true]at F1;go_wp2_with fail;all_goals go_returns
  all_goals exact⟨by rw[HR.out];rfl,S1.out.below⟩
theorem Vh {w:World} {t n:Bytes} {v:V} {args:List Ex} {ad:Option Addr} {ac:Nat} {op:Int} (h3:3<=op) (h13:op<=13) (hw:v.Wf) (hnt:n.length+t.length<=4611686018427387904)
 (HC0:Hid (args.length<=1000000->∀W,Below w.heap.size w W->Calls prog 84 #[.slice ad args.length ac,.func (.func 160) #[] #[]] W (Says (.bool (args.any fun a=>!a.formed)) W))):
 Calls prog 87 #[.agg #[.int .i64 op,.string ⟨t.toArray⟩,.string ⟨n.toArray⟩,.int .i64 v.k,.int .i64 v.n,.string v.s,.slice ad args.length ac]] w (Says (.bool (Ex.mk op t n v args).formed) w):=by
 have HE:=Lib.hid (Da op t n v args)
 have HN:=Lib.hid (Ev Ex.formed args)
 have C1:=Lib.hid (fun W=>Ca v hw W)
 have C2:=Lib.hid (fun W=>Av n W)
 have C3:=Lib.hid (fun W=>Av t W)
 have HZ:Hid (¬9223372036854775807<n.length+t.length):=by show ¬_;have:=hnt;omega
 clear hw hnt
 obtain⟨y,hy⟩:∃y,(Ex.mk op t n v args).formed=y:=⟨_,rfl⟩
 rw[hy]at HE ⊢
 clear hy
 have S0:Hid (St w (w.alloc (.cells #[.int .i64 op,.string ⟨t.toArray⟩,.string ⟨n.toArray⟩,.int .i64 v.k,.int .i64 v.n,.string v.s,.slice ad args.length ac] 27)) [(w.heap.size,#[.int .i64 op,.string ⟨t.toArray⟩,.string ⟨n.toArray⟩,.int .i64 v.k,.int .i64 v.n,.string v.s,.slice ad args.length ac],27)]):=St.alloc (St.start w)
 have har:arity op=2:=by unfold arity;rw[if_neg (by omega),if_neg (by omega)]
 rw[har]at HE
 have k1:(op==1)=false:=by simp;omega
 have k2:(op==2)=false:=by simp;omega
 have k14:(op==14)=false:=by simp;omega
 have k15:(op==15)=false:=by simp;omega
 have k2n:(op != 2)=true:=by simp;omega
 by_cases hl:args.length=2
 ·have kl:((args.length:Int) != 2)=false:=by simp[hl]
  have HC:=Lib.hid (HC0.out (by omega));clear HC0;have kl2:((args.length:Int))=2:=by simp[hl]
  have HE2:Hid (y=if v.right=false then false else if(op:Int)≠2/\v≠V.null then false else if(op:Int)=1 then(if isName n=false\/(t≠[]/\isName t=false)then false else args.all Ex.formed)else(if n++t=[]then args.all Ex.formed else false)):=by
   show _=_;rw[HE.out];by_cases hr:v.right=false
   ·rw[if_pos (.inr (.inr (.inr hr))),if_pos hr]
   ·rw[if_neg (by rintro(h|h|h|h)<;>first|omega|exact hr h),if_neg hr];try rfl
  clear HE har kl2 hl;go_enter func87,ntmps87;go_wp2_with fail;have y0:∀(d:Nat) (os:Array Obj),(grow (redrawn (w.alloc (.cells #[.int .i64 op,.string ⟨t.toArray⟩,.string ⟨n.toArray⟩,.int .i64 v.k,.int .i64 v.n,.string v.s,.slice ad args.length ac] 27)) d) os).cell? ⟨w.heap.size,0,none⟩=some (.int .i64 op):=fun d os=>(below_regrown _ d os).cell_kept (by simp only[World.cell?,World.alloc_heap_new];rfl);refine Ab 5 [(0,false),(1,false),(2,false),(3,false),(4,false)] (by kernel_rfl) (by kernel_rfl) ?_;repeat(refine An rfl (fun K hK=>?_);go_simp;first|(refine hK _ ?_;clear hK K)|(apply Exists.intro;refine⟨fun _=>?_,hK _ ?_⟩;(fail);clear hK K))
  refine A3 ?_;intro w1 hb1 _;have S1:=Lib.hid (S0.out.kept hb1);clear y0 hb1 S0;have F1:=S1.out.facts;simp only[St.Facts,cellFacts,apartFacts,and_true]at F1;go_wp2_with fail;refine Calls.mono (C1.out _) ?_;rintro e w2 ⟨rfl,hb2⟩;have S2:=Lib.hid (S1.out.kept hb2);clear hb2 S1 F1;have F2:=S2.out.facts;simp only[St.Facts,cellFacts,apartFacts,and_true]at F2
  cases hr:v.right with
  | false=>
   have HR:Hid (y=false):=by show _=_;rw[HE2.out,if_pos hr]
   clear HE2 C1 C2 C3 HC HN;go_wp2_with fail;go_returns;exact⟨by rw[HR.out];rfl,S2.out.below⟩
  | true=>
   have HE3:Hid (y=if(op:Int)≠2/\v≠V.null then false else if(op:Int)=1 then(if isName n=false\/(t≠[]/\isName t=false)then false else args.all Ex.formed)else(if n++t=[]then args.all Ex.formed else false)):=by show _=_;rw[HE2.out,if_neg (show ¬v.right=false by rw[hr];exact Bool.noConfusion)];try simp
   clear HE2 hr C1;by_cases hv:v=V.null
   ·have HE4:Hid (y=if n++t=[]then args.all Ex.formed else false):=by show _=_;rw[HE3.out,if_neg (fun h=>h.2 hv),if_neg (by omega)]
    subst hv;simp only[V.null]at F2;clear HE3;by_cases hnt:n++t=[]
    ·have HR:Hid (y=args.all Ex.formed):=by show _=_;rw[HE4.out,if_pos hnt]
     obtain⟨rfl,rfl⟩:=List.append_eq_nil_iff.1 hnt;have ec:(⟨#[]⟩:ByteArray)++⟨#[]⟩=⟨#[]⟩:=by rw[ByteArray.mk_append_mk [] []];rfl
     clear HE4 hnt C2 C3 HZ;go_wp2_with fail;refine Calls.mono (HC.out _ S2.out.below) ?_;rintro e w3 ⟨rfl,hb3⟩;have S3:=Lib.hid (S2.out.kept hb3);clear hb3 S2 F2;generalize (args.any fun a=>!a.formed)=b at *;go_wp2_with fail;exact bodyPost_ret (v:=.bool (!b)) (by simp[results,results87,go_sem]) rfl ⟨by rw[show y=!b from(by rw[HR.out,<- HN.out])],S3.out.below⟩
    ·have HR:Hid (y=false):=by show _=_;rw[HE4.out,if_neg hnt]
     have e1:=ByteArray.mk_append_mk n t;have kz:=HZ.out;have k1:(!(n++t).isEmpty)=true:=by cases hc:n++t with|nil=>exact absurd hc hnt|cons a l=>rfl
     clear HE4 C2 C3 HC HN HZ;go_wp2_with fail;all_goals go_returns
     all_goals exact⟨by rw[HR.out];rfl,S2.out.below⟩
   ·have HR:Hid (y=false):=by show _=_;rw[HE3.out,if_pos ⟨by omega,hv⟩]
    have hv':¬(v.k=0/\v.n=0/\v.s.toList=[]):=by rw[<- Eg];intro h;exact hv ((V.ext_iff _ _).2 h)
    clear HE3 C2 C3 HC HN;go_wp2_with fail;all_goals first|(exfalso;exact hv' ⟨by assumption,by assumption,by assumption⟩)|skip
    all_goals go_returns
    all_goals exact⟨by rw[HR.out];rfl,S2.out.below⟩
 ·have hne:(args.length:Int)≠2:=by omega
  have kl:((args.length:Int) != 2)=true:=bne_iff_ne.2 hne;have HR:Hid (y=false):=by show _=_;rw[HE.out,if_pos (.inr (.inr (.inl hne)))]
  clear HE HN HC0 C1 C2 C3 har hne hl HZ;go_enter func87,ntmps87;go_wp2_with fail;have y0:∀(d:Nat) (os:Array Obj),(grow (redrawn (w.alloc (.cells #[.int .i64 op,.string ⟨t.toArray⟩,.string ⟨n.toArray⟩,.int .i64 v.k,.int .i64 v.n,.string v.s,.slice ad args.length ac] 27)) d) os).cell? ⟨w.heap.size,0,none⟩=some (.int .i64 op):=fun d os=>(below_regrown _ d os).cell_kept (by simp only[World.cell?,World.alloc_heap_new];rfl);refine Ab 5 [(0,false),(1,false),(2,false),(3,false),(4,false)] (by kernel_rfl) (by kernel_rfl) ?_;repeat(refine An rfl (fun K hK=>?_);go_simp;first|(refine hK _ ?_;clear hK K)|(apply Exists.intro;refine⟨fun _=>?_,hK _ ?_⟩;(fail);clear hK K))
  refine A3 ?_;intro w1 hb1 _;have S1:=Lib.hid (S0.out.kept hb1);clear y0 hb1 S0;have F1:=S1.out.facts;simp only[St.Facts,cellFacts,apartFacts,and_true]at F1;go_wp2_with fail;all_goals go_returns
  all_goals exact⟨by rw[HR.out];rfl,S1.out.below⟩
end Go.Proofs.YtjmmbebkbkgefaaGreatDoor
