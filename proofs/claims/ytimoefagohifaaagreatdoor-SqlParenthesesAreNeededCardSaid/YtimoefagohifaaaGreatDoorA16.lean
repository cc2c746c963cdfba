/- Laws that the last part needs. No condition. -/
import Derived.Test.YtimoefagohifaaaGreatDoorA14
import Derived.Test.YtimoefagohifaaaGreatDoorA15
set_option maxHeartbeats 4000000
set_option maxRecDepth 100000
namespace Go.Proofs.YtimoefagohifaaaGreatDoor
open Go.RowKit Go.Sort Tryz
theorem Nf (s:ByteArray):s=⟨#[]⟩↔s.toList=[]:=by
 rw[<- Dy];have:(⟨#[]⟩:ByteArray).toList=[]:=by rw[ByteArray.toList_eq]
 rw[this]
theorem Fm (Q:Nat->Prop) (e:Ex) (cs:List Value) (w:World) (h:ExIn Q w e cs):Calls prog 66 #[.agg cs.toArray] w (Says (.bool e.isZero) w):=by
 obtain⟨op,t,n,v,args⟩:=e;obtain⟨ad0,acs,rfl,⟨ad,ac,rfl,_⟩,_⟩:=h;show Calls prog 66 #[.agg #[.int .i64 op,.string ⟨t.toArray⟩,.string ⟨n.toArray⟩,.int .i64 v.k,.int .i64 v.n,.string v.s,.slice ad args.length ac]] w _;go_enter func66,ntmps66;go_wp2_with fail;all_goals go_returns
 all_goals refine⟨Gf ?_,by go_grown⟩
 all_goals(simp[Ex.isZero,V.null,V.ext_iff,Nf, *]<;>(cases args<;>simp<;>omega))
theorem Iz {Q:Nat->Prop} {w:World}:∀{l:List Ex} {acs:List Value},ExsIn Q w l acs->LIn exE Q w l acs
 | [],acs,h=>h
 | e::l,acs,h=>by
  obtain⟨c1,c2,rfl,h1,h2⟩:=h;exact⟨c1,c2,rfl,h1,Iz h2⟩
theorem Cv {Q:Nat->Prop} {w:World} {v:Value} {l:List Ex} (h:ExSl Q w v l):RSl exE Q w v l:=by
 obtain⟨acs,h1,h2⟩:=h;exact⟨acs,h1,Iz h2⟩
theorem ae (Q:Nat->Prop) (e:Ex):∀(cs:List Value) (most:Int) (w:World),ExIn Q w e cs->e.Wf->0<=most->most<=1000000->Calls prog 115 #[.agg cs.toArray,.int .i64 most] w (Says (U (sizeE e most)) w):=by
 refine Ex.ind (P:=fun e=>∀(cs:List Value) (most:Int) (w:World),ExIn Q w e cs->e.Wf->0<=most->most<=1000000->Calls prog 115 #[.agg cs.toArray,.int .i64 most] w (Says (U (sizeE e most)) w)) ?_ e;intro op t n v args ih cs most w h hwf hm hm;have hargs:∀a∈args,a.Wf:=M0 hwf.2.2;obtain⟨v0,rfl,hsl⟩:=Ds h;obtain⟨acs,hsl1,hsl2⟩:=hsl;have HV:Hid (RSl exE Q w v0 args):=⟨acs,hsl1,Iz hsl2⟩;obtain⟨ad,ac,rfl⟩:=HV.out.slice;have IH:=tm ih;have HA:=tm hargs;clear hwf h hsl1 hsl2 ih hargs;show Calls prog 115 #[.agg #[.int .i64 op,.string ⟨t.toArray⟩,.string ⟨n.toArray⟩,.int .i64 v.k,.int .i64 v.n,.string v.s,.slice ad args.length ac],.int .i64 most] w _;have HB0:Hid (Below w.heap.size w (w.alloc (.cells #[U op,.string (Y t),.string (Y n),U v.k,U v.n,.string v.s,.slice ad args.length ac] 44))):=(uj _ _).alloc (tu _) _;go_enter func115,ntmps115;go_wp2_with fail;go_loopw [5,11] (fun nv i wr=>∃(k:Nat) (m:Int),k<=args.length/\i=U k/\nv=U m/\(k:Int)+1<=m/\m<=most+1/\Hid (sizeL args most 1=sizeL (args.drop k) most m)/\Hid (Below w.heap.size w wr)) (fun _ i _=>args.length - (intOf i).toNat)
 case atStart=>exact⟨0,1,by omega,rfl,rfl,by omega,by omega,rfl,HB0.out⟩
 case round=>
  obtain⟨k,m,hk,rfl,rfl,hn,hn,HK,HB⟩:=hrel;by_cases hlt:k<args.length
  ·obtain⟨a,hx⟩:∃x,args[k]?=some x:=⟨args[k],by simp[hlt]⟩;obtain⟨b,o,cap,cs,hbo,hin,hat⟩:=(HV.out.kept acy HB.out).at hx;injection hbo with e1 _ e2;subst e1;subst e2;have hma:=uq hx;have hst:sizeL (args.drop k) most m=if most<m then m else sizeL (args.drop (k+1)) most (m+sizeE a (most - m)):=by
    obtain⟨h1,rfl⟩:=uu.1 hx;rw[ww h1,sizeL]
   have HST:Hid (sizeL args most 1=_):=HK.out.trans hst;by_cases hmn:most<m
   ·have HR:Hid (sizeL args most 1=m):=by show _=_;rw[HST.out,if_pos hmn]
    have hin0:=hin;obtain⟨op',t',n',v',args'⟩:=a;obtain⟨ad0,acs',rfl,⟨ad',ac',rfl,_⟩,_⟩:=hin;refine fu ?_;intro x0 x1 x2 x3 x4 x5 x6;simp only[show exE.k=7 from rfl,u0]at x0 x1 x2 x3 x4 x5 x6;clear hst HK hx hat HST hin0 hma;go_wp2_with fail;go_returns;refine⟨Vc ?_,?_⟩
    ·rw[sizeE];exact HR.out.symm
    ·exact HB.out.alloc (by have:=HB.out.size;omega) _
   ·have HR:Hid (sizeL args most 1=sizeL (args.drop (k+1)) most (m+sizeE a (most - m))):=by show _=_;rw[HST.out,if_neg hmn]
    have hle:=O0 a (most - m) acw;have C:=tm (fun W (hW:Below w.heap.size w W) (hin:ExIn Q W a cs)=>IH.out a hma cs (most - m) W hin (HA.out a hma) acw acw);obtain⟨z,hz⟩:∃z,sizeE a (most - m)=z:=⟨_,rfl⟩;rw[hz]at HR C hle;have hin0:Hid (ExIn Q wr a cs):=hin;obtain⟨op',t',n',v',args'⟩:=a;obtain⟨ad0,acs',rfl,⟨ad',ac',rfl,_⟩,_⟩:=hin;refine fu ?_;intro x0 x1 x2 x3 x4 x5 x6;simp only[show exE.k=7 from rfl,u0]at x0 x1 x2 x3 x4 x5 x6;have HB1:Hid (Below w.heap.size w (wr.alloc (.cells #[U op',.string (Y t'),.string (Y n'),U v'.k,U v'.n,.string v'.s,.slice ad' args'.length ac'] 44))):=HB.out.alloc (by have:=HB.out.size;omega) _;have HI:Hid (ExIn Q (wr.alloc (.cells #[U op',.string (Y t'),.string (Y n'),U v'.k,U v'.n,.string v'.s,.slice ad' args'.length ac'] 44)) _ _):=hin0.out.kept ((uj _ _).alloc (tu _) _);have hw:wrap64 (most - m)=most - m:=IntWalk.wrap64_in _ ⟨by omega,by omega⟩;have hw:wrap64 (m+z)=m+z:=IntWalk.wrap64_in _ ⟨by omega,by omega⟩;clear hst HK hx hat HST hma hz HB;go_wp2_with fail;refine tp (C.out _ HB1.out HI.out) ?_;rintro e w1 ⟨rfl,hb⟩;have HB2:=tm (HB1.out.step hb);clear hb x0 x1 x2 x3 x4 x5 x6;go_wp2_with fail;go_roundw
    case rel=>exact⟨k+1,m+z,by omega,by go_num,rfl,by omega,by omega,HR.out,HB2.out⟩
    case measure=>simp[intOf];omega
  ·obtain rfl:k=args.length:=acw;have HR:Hid (sizeL args most 1=m):=by show _=_;rw[HK.out,aaj];rfl
   clear HK;go_wp2_with fail;go_returns;refine⟨Vc ?_,HB.out⟩;rw[sizeE];exact HR.out.symm
theorem Bw (v:V) (hv:v.Wf) (w:World):Calls prog 48 #[v.val] w (Says (.bool v.right) w):=by
 have C:=tm (fun W=>Iw v hv W);unfold V.val at *;go_enter func48,ntmps48;go_wp2_with fail;refine tp (C.out _) ?_;rintro e w1 ⟨rfl,hb⟩;go_wp2_with fail;exact ue (v:=.bool v.right) (by simp[results,results48,go_sem]) rfl ⟨rfl,((uj _ _).alloc (tu _) _).step hb⟩
def arity (op:Int):Int:=if op=1\/op=2 then 0 else if op=14\/op=15 then 1 else 2
theorem Dv (op:Int) (t n:Bytes) (v:V) (args:List Ex):(Ex.mk op t n v args).formed=if op<1\/15<op\/(args.length:Int)≠arity op\/v.right=false then false else if op≠2/\v≠V.null then false else if op=1 then(if isName n=false\/(t≠[]/\isName t=false)then false else args.all Ex.formed)else(if n++t=[]then args.all Ex.formed else false):=by
 rw[Ex.formed,Jj,nodeOk];show(decide (1<=op)&&decide (op<=15)&&decide ((args.length:Int)=arity op)&&v.right&&(decide (op=2)||decide (v=V.null))&&_&&_)=_;generalize args.all Ex.formed=b;generalize v.right=r;generalize isName n=i;generalize isName t=i2;by_cases h:1<=op
 ·by_cases h:op<=15
  ·by_cases h:(args.length:Int)=arity op
   ·have e:¬(op<1):=acw;have e2:¬(15<op):=acw
    cases r
    ·simp
    ·by_cases h:op=2
     ·subst h;by_cases h:n++t=[]
      ·simp_all
      ·simp only[h]
       simp_all
     ·by_cases h:v=V.null
      ·by_cases h:op=1
       ·subst h;by_cases h:t=[]
        ·cases i<;>simp_all
        ·cases i<;>cases i2<;>simp_all
       ·by_cases h:n++t=[]
        ·simp_all
        ·simp only[h]
         simp_all
      ·simp_all
   ·simp[h]
  ·have e2:15<op:=acw;simp[h,e2]
 ·have e2:op<1:=acw;simp[h,e2]
theorem notFormed_any (Q:Nat->Prop) (a:Ex) (cs:List Value) (w:World) (h:ExIn Q w a cs) (IH:Hid (∀(cs:List Value) (W:World),ExIn Q W a cs->Calls prog 116 #[.agg cs.toArray] W (Says (.bool a.formed) W))):Calls prog 179 #[.agg cs.toArray] w (Says (.bool (!a.formed)) w):=by
 generalize a.formed=b at *;have HI:=tm h;have hin:=h;obtain⟨op,t,n,v,args⟩:=a;obtain⟨ad0,acs,rfl,⟨ad,ac,rfl,_⟩,_⟩:=hin;have HX:=tm (IH.out _ _ (HI.out.kept ((uj _ w).alloc (tu _) (.cells #[U op,.string (Y t),.string (Y n),U v.k,U v.n,.string v.s,.slice ad args.length ac] 44))));clear h IH HI;show Calls prog 179 #[.agg #[.int .i64 op,.string ⟨t.toArray⟩,.string ⟨n.toArray⟩,.int .i64 v.k,.int .i64 v.n,.string v.s,.slice ad args.length ac]] w _;go_enter func179,ntmps179;go_wp2_with fail;refine tp HX.out ?_;rintro e w1 ⟨rfl,hb⟩;go_wp2_with fail;exact ue (v:=.bool (!b)) (by simp[results,results179,go_sem]) rfl ⟨rfl,((uj _ _).alloc (tu _) _).step hb⟩
theorem Yg:En 179:=enters_of func179 acz rfl
theorem T4 {w:World} {t n:Bytes} {v:V} {args:List Ex} {ad:Option Addr} {ac:Nat} {op:Int} (ho:op<1\/15<op) (hw:v.Wf) (hnt:n.length+t.length<=4611686018427387904) (_HC0:Hid (args.length<=1000000->∀W,Below w.heap.size w W->Calls prog 113 #[.slice ad args.length ac,.func (.func 179) #[] #[]] W (Says (.bool (args.any fun a=>!a.formed)) W))):Calls prog 116 #[.agg #[.int .i64 op,.string ⟨t.toArray⟩,.string ⟨n.toArray⟩,.int .i64 v.k,.int .i64 v.n,.string v.s,.slice ad args.length ac]] w (Says (.bool (Ex.mk op t n v args).formed) w):=by
 have HE:=tm (Dv op t n v args);have HN:=tm (Fv Ex.formed args);have C:=tm (fun W=>Bw v hw W);replace C:=tm (fun W=>Ah n W);replace C:=tm (fun W=>Ah t W);clear hw;refine z86 ?_;clear hnt HE;intro HZ y HE S;have HR:Hid (y=false):=by show _=_;rw[HE.out,if_pos (by rcases ho with h|h;exact .inl h;exact .inr (.inl h))]
 clear HE HN _HC0 C HZ;have k1:(op==1)=false:=by simp;omega
 rcases ho with ho|ho
 all_goals
  go_enter func116,ntmps116
  go_wp2_with fail
  have y0:∀(d:Nat) (os:Array Obj),(grow (redrawn (w.alloc (.cells #[U op,.string (Y t),.string (Y n),U v.k,U v.n,.string v.s,.slice ad args.length ac] 44)) d) os).cell? ⟨w.heap.size,0,none⟩=some (U op):=fun d os=>(vt _ d os).cell_kept ai
  refine wp_region_mixed 5 [(0,false),(1,false),(2,false),(3,false),(4,false)] acz acz ?_
  repeat(refine wpM_mild rfl (fun K hK=>?_);go_simp;first|(refine hK _ ?_;clear hK K)|(apply Exists.intro;refine⟨fun _=>?_,hK _ ?_⟩;(fail);clear hK K))
  refine Ba ?_
  intro w1 hb _
  replace S:=tm (S.out.kept hb)
  clear y0 hb
  have F:=fx_ S.out.facts
  go_wp2_with fail
  all_goals go_returns
  all_goals exact⟨by rw[HR.out];rfl,S.out.below⟩
theorem di {w:World} {t n:Bytes} {v:V} {args:List Ex} {ad:Option Addr} {ac:Nat} (hw:v.Wf) (hnt:n.length+t.length<=4611686018427387904) (HC0:Hid (args.length<=1000000->∀W,Below w.heap.size w W->Calls prog 113 #[.slice ad args.length ac,.func (.func 179) #[] #[]] W (Says (.bool (args.any fun a=>!a.formed)) W))):Calls prog 116 #[.agg #[.int .i64 1,.string ⟨t.toArray⟩,.string ⟨n.toArray⟩,.int .i64 v.k,.int .i64 v.n,.string v.s,.slice ad args.length ac]] w (Says (.bool (Ex.mk 1 t n v args).formed) w):=by
 have HE:=tm (Dv 1 t n v args);refine z68 ?_;intro HN C C2 C3;obtain⟨y,hy⟩:∃y,(Ex.mk 1 t n v args).formed=y:=⟨_,rfl⟩;rw[hy]at HE ⊢;have HZ:Hid (¬9223372036854775807<n.length+t.length):=by show ¬_;omega
 clear hy hw hnt;have S:Hid (St w (w.alloc (.cells #[U 1,.string (Y t),.string (Y n),U v.k,U v.n,.string v.s,.slice ad args.length ac] 44)) [(w.heap.size,#[U 1,.string (Y t),.string (Y n),U v.k,U v.n,.string v.s,.slice ad args.length ac],44)]):=St.alloc (St.start w);have har:arity 1=0:=by unfold arity;simp
 rw[har]at HE;by_cases hl:args.length=0
 ·have kl:((args.length:Int) != 0)=false:=by simp[hl]
  have HC:=tm (HC0.out acw);clear HC0;have kl2:((args.length:Int))=0:=by simp[hl]
  have HE2:Hid (y=if v.right=false then false else if(1:Int)≠2/\v≠V.null then false else if(1:Int)=1 then(if isName n=false\/(t≠[]/\isName t=false)then false else args.all Ex.formed)else(if n++t=[]then args.all Ex.formed else false)):=z24;clear HE har kl2 hl;go_enter func116,ntmps116;go_wp2_with fail;have y0:∀(d:Nat) (os:Array Obj),(grow (redrawn (w.alloc (.cells #[U 1,.string (Y t),.string (Y n),U v.k,U v.n,.string v.s,.slice ad args.length ac] 44)) d) os).cell? ⟨w.heap.size,0,none⟩=some (U 1):=fun d os=>(vt _ d os).cell_kept ai;refine wp_region_mixed 5 [(0,false),(1,false),(2,false),(3,false),(4,false)] acz acz ?_;repeat(refine wpM_mild rfl (fun K hK=>?_);go_simp;first|(refine hK _ ?_;clear hK K)|(apply Exists.intro;refine⟨fun _=>?_,hK _ ?_⟩;(fail);clear hK K))
  refine Ba ?_;intro w1 hb _;replace S:=tm (S.out.kept hb);clear y0 hb;have F:=fx_ S.out.facts;go_wp2_with fail;refine tp (C.out _) ?_;rintro e w2 ⟨rfl,hb⟩;replace S:=tm (S.out.kept hb);clear hb F;have F:=fx_ S.out.facts
  cases hr:v.right with
  | false=>exact rq
  | true=>
   have HE3:Hid (y=if(1:Int)≠2/\v≠V.null then false else if(1:Int)=1 then(if isName n=false\/(t≠[]/\isName t=false)then false else args.all Ex.formed)else(if n++t=[]then args.all Ex.formed else false)):=by show _=_;rw[HE2.out,if_neg (show ¬v.right=false by rw[hr];exact Bool.noConfusion)];try simp
   clear HE2 hr C;by_cases hv:v=V.null
   ·have HE4:Hid (y=if isName n=false\/(t≠[]/\isName t=false)then false else args.all Ex.formed):=by show _=_;rw[HE3.out,if_neg (fun h=>h.2 hv),if_pos rfl]
    subst hv;simp only[V.null]at F;clear HE3;go_wp2_with fail;refine tp (C2.out _) ?_;rintro e w3 ⟨rfl,hb⟩;replace S:=tm (S.out.kept hb);clear hb F;have F:=fx_ S.out.facts
    cases hi:isName n with
    | false=>
     have HR:Hid (y=false):=by show _=_;rw[HE4.out,if_pos (.inl hi)]
     clear HE4 C2 C3 HC HN;exact z23
    | true=>
     by_cases ht0:t=[]
     ·have HR:Hid (y=args.all Ex.formed):=by show _=_;rw[HE4.out,if_neg (by simp[hi,ht0])]
      subst ht0;clear HE4 hi C2 C3;go_wp2_with fail;refine tp (HC.out _ S.out.below) ?_;rintro e w4 ⟨rfl,hb⟩;exact z83
     ·have kt:(!t.isEmpty)=true:=by cases t with|nil=>exact absurd rfl ht0|cons a l=>rfl
      go_wp2_with fail;refine tp (C3.out _) ?_;rintro e w4 ⟨rfl,hb⟩;replace S:=tm (S.out.kept hb);clear hb F;have F:=fx_ S.out.facts
      cases hj:isName t with
      | false=>
       have HR:Hid (y=false):=by show _=_;rw[HE4.out,if_pos (.inr ⟨ht0,hj⟩)]
       clear HE4 C2 C3 HC HN;exact z23
      | true=>
       have HR:Hid (y=args.all Ex.formed):=by show _=_;rw[HE4.out,if_neg (by simp[hi,hj])]
       clear HE4 hi hj C2 C3;go_wp2_with fail;refine tp (HC.out _ S.out.below) ?_;rintro e w5 ⟨rfl,hb⟩;exact z83
   ·exact z90
 ·have hne:(args.length:Int)≠0:=acw;have kl:((args.length:Int) != 0)=true:=ab3.2 hne;have HR:Hid (y=false):=by show _=_;rw[HE.out,if_pos (.inr (.inr (.inl hne)))]
  clear HE HN HC0 C C2 C3 har hne hl HZ;go_enter func116,ntmps116;go_wp2_with fail;have y0:∀(d:Nat) (os:Array Obj),(grow (redrawn (w.alloc (.cells #[U 1,.string (Y t),.string (Y n),U v.k,U v.n,.string v.s,.slice ad args.length ac] 44)) d) os).cell? ⟨w.heap.size,0,none⟩=some (U 1):=fun d os=>(vt _ d os).cell_kept ai;exact Dp
theorem dh {w:World} {t n:Bytes} {v:V} {args:List Ex} {ad:Option Addr} {ac:Nat} (hw:v.Wf) (hnt:n.length+t.length<=4611686018427387904) (HC0:Hid (args.length<=1000000->∀W,Below w.heap.size w W->Calls prog 113 #[.slice ad args.length ac,.func (.func 179) #[] #[]] W (Says (.bool (args.any fun a=>!a.formed)) W))):Calls prog 116 #[.agg #[.int .i64 2,.string ⟨t.toArray⟩,.string ⟨n.toArray⟩,.int .i64 v.k,.int .i64 v.n,.string v.s,.slice ad args.length ac]] w (Says (.bool (Ex.mk 2 t n v args).formed) w):=by
 have HE:=tm (Dv 2 t n v args);refine z68 ?_;intro HN C C2 C3;obtain⟨y,hy⟩:∃y,(Ex.mk 2 t n v args).formed=y:=⟨_,rfl⟩;rw[hy]at HE ⊢;have HZ:Hid (¬9223372036854775807<n.length+t.length):=by show ¬_;omega
 clear hy hw hnt;have S:Hid (St w (w.alloc (.cells #[U 2,.string (Y t),.string (Y n),U v.k,U v.n,.string v.s,.slice ad args.length ac] 44)) [(w.heap.size,#[U 2,.string (Y t),.string (Y n),U v.k,U v.n,.string v.s,.slice ad args.length ac],44)]):=St.alloc (St.start w);have har:arity 2=0:=by unfold arity;simp
 rw[har]at HE;by_cases hl:args.length=0
 ·have kl:((args.length:Int) != 0)=false:=by simp[hl]
  have HC:=tm (HC0.out acw);clear HC0;have kl2:((args.length:Int))=0:=by simp[hl]
  have HE2:Hid (y=if v.right=false then false else if(2:Int)≠2/\v≠V.null then false else if(2:Int)=1 then(if isName n=false\/(t≠[]/\isName t=false)then false else args.all Ex.formed)else(if n++t=[]then args.all Ex.formed else false)):=z24;clear HE har kl2 hl;go_enter func116,ntmps116;go_wp2_with fail;have y0:∀(d:Nat) (os:Array Obj),(grow (redrawn (w.alloc (.cells #[U 2,.string (Y t),.string (Y n),U v.k,U v.n,.string v.s,.slice ad args.length ac] 44)) d) os).cell? ⟨w.heap.size,0,none⟩=some (U 2):=fun d os=>(vt _ d os).cell_kept ai;refine wp_region_mixed 5 [(0,false),(1,false),(2,false),(3,false),(4,false)] acz acz ?_;repeat(refine wpM_mild rfl (fun K hK=>?_);go_simp;first|(refine hK _ ?_;clear hK K)|(apply Exists.intro;refine⟨fun _=>?_,hK _ ?_⟩;(fail);clear hK K))
  refine Ba ?_;intro w1 hb _;replace S:=tm (S.out.kept hb);clear y0 hb;have F:=fx_ S.out.facts;go_wp2_with fail;refine tp (C.out _) ?_;rintro e w2 ⟨rfl,hb⟩;replace S:=tm (S.out.kept hb);clear hb F;have F:=fx_ S.out.facts
  cases hr:v.right with
  | false=>exact rq
  | true=>
   have HE3:Hid (y=if(2:Int)≠2/\v≠V.null then false else if(2:Int)=1 then(if isName n=false\/(t≠[]/\isName t=false)then false else args.all Ex.formed)else(if n++t=[]then args.all Ex.formed else false)):=by show _=_;rw[HE2.out,if_neg (show ¬v.right=false by rw[hr];exact Bool.noConfusion)];try simp
   clear HE2 hr C;have HE4:Hid (y=if n++t=[]then args.all Ex.formed else false):=by show _=_;rw[HE3.out,if_neg (fun h=>h.1 rfl),if_neg (show ¬(2:Int)=1 by decide)]
   exact z36
 ·have hne:(args.length:Int)≠0:=acw;have kl:((args.length:Int) != 0)=true:=ab3.2 hne;have HR:Hid (y=false):=by show _=_;rw[HE.out,if_pos (.inr (.inr (.inl hne)))]
  clear HE HN HC0 C C2 C3 har hne hl HZ;go_enter func116,ntmps116;go_wp2_with fail;have y0:∀(d:Nat) (os:Array Obj),(grow (redrawn (w.alloc (.cells #[U 2,.string (Y t),.string (Y n),U v.k,U v.n,.string v.s,.slice ad args.length ac] 44)) d) os).cell? ⟨w.heap.size,0,none⟩=some (U 2):=fun d os=>(vt _ d os).cell_kept ai;exact Dp
theorem X0 {w:World} {t n:Bytes} {v:V} {args:List Ex} {ad:Option Addr} {ac:Nat} (hw:v.Wf) (hnt:n.length+t.length<=4611686018427387904) (HC0:Hid (args.length<=1000000->∀W,Below w.heap.size w W->Calls prog 113 #[.slice ad args.length ac,.func (.func 179) #[] #[]] W (Says (.bool (args.any fun a=>!a.formed)) W))):Calls prog 116 #[.agg #[.int .i64 14,.string ⟨t.toArray⟩,.string ⟨n.toArray⟩,.int .i64 v.k,.int .i64 v.n,.string v.s,.slice ad args.length ac]] w (Says (.bool (Ex.mk 14 t n v args).formed) w):=by
 have HE:=tm (Dv 14 t n v args);refine z68 ?_;intro HN C C2 C3;obtain⟨y,hy⟩:∃y,(Ex.mk 14 t n v args).formed=y:=⟨_,rfl⟩;rw[hy]at HE ⊢;have HZ:Hid (¬9223372036854775807<n.length+t.length):=by show ¬_;omega
 clear hy hw hnt;have S:Hid (St w (w.alloc (.cells #[U 14,.string (Y t),.string (Y n),U v.k,U v.n,.string v.s,.slice ad args.length ac] 44)) [(w.heap.size,#[U 14,.string (Y t),.string (Y n),U v.k,U v.n,.string v.s,.slice ad args.length ac],44)]):=St.alloc (St.start w);have har:arity 14=1:=by unfold arity;simp
 rw[har]at HE;by_cases hl:args.length=1
 ·have kl:((args.length:Int) != 1)=false:=by simp[hl]
  have HC:=tm (HC0.out acw);clear HC0;have kl2:((args.length:Int))=1:=by simp[hl]
  have HE2:Hid (y=if v.right=false then false else if(14:Int)≠2/\v≠V.null then false else if(14:Int)=1 then(if isName n=false\/(t≠[]/\isName t=false)then false else args.all Ex.formed)else(if n++t=[]then args.all Ex.formed else false)):=z24;clear HE har kl2 hl;go_enter func116,ntmps116;go_wp2_with fail;have y0:∀(d:Nat) (os:Array Obj),(grow (redrawn (w.alloc (.cells #[U 14,.string (Y t),.string (Y n),U v.k,U v.n,.string v.s,.slice ad args.length ac] 44)) d) os).cell? ⟨w.heap.size,0,none⟩=some (U 14):=fun d os=>(vt _ d os).cell_kept ai;refine wp_region_mixed 5 [(0,false),(1,false),(2,false),(3,false),(4,false)] acz acz ?_;repeat(refine wpM_mild rfl (fun K hK=>?_);go_simp;first|(refine hK _ ?_;clear hK K)|(apply Exists.intro;refine⟨fun _=>?_,hK _ ?_⟩;(fail);clear hK K))
  refine Ba ?_;intro w1 hb _;replace S:=tm (S.out.kept hb);clear y0 hb;have F:=fx_ S.out.facts;go_wp2_with fail;refine tp (C.out _) ?_;rintro e w2 ⟨rfl,hb⟩;replace S:=tm (S.out.kept hb);clear hb F;have F:=fx_ S.out.facts
  cases hr:v.right with
  | false=>exact rq
  | true=>
   have HE3:Hid (y=if(14:Int)≠2/\v≠V.null then false else if(14:Int)=1 then(if isName n=false\/(t≠[]/\isName t=false)then false else args.all Ex.formed)else(if n++t=[]then args.all Ex.formed else false)):=by show _=_;rw[HE2.out,if_neg (show ¬v.right=false by rw[hr];exact Bool.noConfusion)];try simp
   exact Zt
 ·have hne:(args.length:Int)≠1:=acw;have kl:((args.length:Int) != 1)=true:=ab3.2 hne;have HR:Hid (y=false):=by show _=_;rw[HE.out,if_pos (.inr (.inr (.inl hne)))]
  clear HE HN HC0 C C2 C3 har hne hl HZ;go_enter func116,ntmps116;go_wp2_with fail;have y0:∀(d:Nat) (os:Array Obj),(grow (redrawn (w.alloc (.cells #[U 14,.string (Y t),.string (Y n),U v.k,U v.n,.string v.s,.slice ad args.length ac] 44)) d) os).cell? ⟨w.heap.size,0,none⟩=some (U 14):=fun d os=>(vt _ d os).cell_kept ai;exact Dp
theorem Xz {w:World} {t n:Bytes} {v:V} {args:List Ex} {ad:Option Addr} {ac:Nat} (hw:v.Wf) (hnt:n.length+t.length<=4611686018427387904) (HC0:Hid (args.length<=1000000->∀W,Below w.heap.size w W->Calls prog 113 #[.slice ad args.length ac,.func (.func 179) #[] #[]] W (Says (.bool (args.any fun a=>!a.formed)) W))):Calls prog 116 #[.agg #[.int .i64 15,.string ⟨t.toArray⟩,.string ⟨n.toArray⟩,.int .i64 v.k,.int .i64 v.n,.string v.s,.slice ad args.length ac]] w (Says (.bool (Ex.mk 15 t n v args).formed) w):=by
 have HE:=tm (Dv 15 t n v args);refine z68 ?_;intro HN C C2 C3;obtain⟨y,hy⟩:∃y,(Ex.mk 15 t n v args).formed=y:=⟨_,rfl⟩;rw[hy]at HE ⊢;have HZ:Hid (¬9223372036854775807<n.length+t.length):=by show ¬_;omega
 clear hy hw hnt;have S:Hid (St w (w.alloc (.cells #[U 15,.string (Y t),.string (Y n),U v.k,U v.n,.string v.s,.slice ad args.length ac] 44)) [(w.heap.size,#[U 15,.string (Y t),.string (Y n),U v.k,U v.n,.string v.s,.slice ad args.length ac],44)]):=St.alloc (St.start w);have har:arity 15=1:=by unfold arity;simp
 rw[har]at HE;by_cases hl:args.length=1
 ·have kl:((args.length:Int) != 1)=false:=by simp[hl]
  have HC:=tm (HC0.out acw);clear HC0;have kl2:((args.length:Int))=1:=by simp[hl]
  have HE2:Hid (y=if v.right=false then false else if(15:Int)≠2/\v≠V.null then false else if(15:Int)=1 then(if isName n=false\/(t≠[]/\isName t=false)then false else args.all Ex.formed)else(if n++t=[]then args.all Ex.formed else false)):=z24;clear HE har kl2 hl;go_enter func116,ntmps116;go_wp2_with fail;have y0:∀(d:Nat) (os:Array Obj),(grow (redrawn (w.alloc (.cells #[U 15,.string (Y t),.string (Y n),U v.k,U v.n,.string v.s,.slice ad args.length ac] 44)) d) os).cell? ⟨w.heap.size,0,none⟩=some (U 15):=fun d os=>(vt _ d os).cell_kept ai;refine wp_region_mixed 5 [(0,false),(1,false),(2,false),(3,false),(4,false)] acz acz ?_;repeat(refine wpM_mild rfl (fun K hK=>?_);go_simp;first|(refine hK _ ?_;clear hK K)|(apply Exists.intro;refine⟨fun _=>?_,hK _ ?_⟩;(fail);clear hK K))
  refine Ba ?_;intro w1 hb _;replace S:=tm (S.out.kept hb);clear y0 hb;have F:=fx_ S.out.facts;go_wp2_with fail;refine tp (C.out _) ?_;rintro e w2 ⟨rfl,hb⟩;replace S:=tm (S.out.kept hb);clear hb F;have F:=fx_ S.out.facts
  cases hr:v.right with
  | false=>exact rq
  | true=>
   have HE3:Hid (y=if(15:Int)≠2/\v≠V.null then false else if(15:Int)=1 then(if isName n=false\/(t≠[]/\isName t=false)then false else args.all Ex.formed)else(if n++t=[]then args.all Ex.formed else false)):=by show _=_;rw[HE2.out,if_neg (show ¬v.right=false by rw[hr];exact Bool.noConfusion)];try simp
   exact Zt
 ·have hne:(args.length:Int)≠1:=acw;have kl:((args.length:Int) != 1)=true:=ab3.2 hne;have HR:Hid (y=false):=by show _=_;rw[HE.out,if_pos (.inr (.inr (.inl hne)))]
  clear HE HN HC0 C C2 C3 har hne hl HZ;go_enter func116,ntmps116;go_wp2_with fail;have y0:∀(d:Nat) (os:Array Obj),(grow (redrawn (w.alloc (.cells #[U 15,.string (Y t),.string (Y n),U v.k,U v.n,.string v.s,.slice ad args.length ac] 44)) d) os).cell? ⟨w.heap.size,0,none⟩=some (U 15):=fun d os=>(vt _ d os).cell_kept ai;exact Dp
theorem Xy {w:World} {t n:Bytes} {v:V} {args:List Ex} {ad:Option Addr} {ac:Nat} {op:Int} (h3:3<=op) (h13:op<=13) (hw:v.Wf) (hnt:n.length+t.length<=4611686018427387904) (HC0:Hid (args.length<=1000000->∀W,Below w.heap.size w W->Calls prog 113 #[.slice ad args.length ac,.func (.func 179) #[] #[]] W (Says (.bool (args.any fun a=>!a.formed)) W))):Calls prog 116 #[.agg #[.int .i64 op,.string ⟨t.toArray⟩,.string ⟨n.toArray⟩,.int .i64 v.k,.int .i64 v.n,.string v.s,.slice ad args.length ac]] w (Says (.bool (Ex.mk op t n v args).formed) w):=by
 have HE:=tm (Dv op t n v args);have HN:=tm (Fv Ex.formed args);have C:=tm (fun W=>Bw v hw W);have C2:=tm (fun W=>Ah n W);have C3:=tm (fun W=>Ah t W);clear hw;refine z86 ?_;clear hnt HE;intro HZ y HE S;have har:arity op=2:=by unfold arity;rw[if_neg acw,if_neg acw]
 rw[har]at HE;have k1:(op==1)=false:=by simp;omega
 have k2:(op==2)=false:=by simp;omega
 have k3:(op==14)=false:=by simp;omega
 have k3:(op==15)=false:=by simp;omega
 have kn:(op != 2)=true:=by simp;omega
 by_cases hl:args.length=2
 ·have kl:((args.length:Int) != 2)=false:=by simp[hl]
  have HC:=tm (HC0.out acw);clear HC0;have kl2:((args.length:Int))=2:=by simp[hl]
  have HE2:Hid (y=if v.right=false then false else if(op:Int)≠2/\v≠V.null then false else if(op:Int)=1 then(if isName n=false\/(t≠[]/\isName t=false)then false else args.all Ex.formed)else(if n++t=[]then args.all Ex.formed else false)):=z24;clear HE har kl2 hl;go_enter func116,ntmps116;go_wp2_with fail;have y0:∀(d:Nat) (os:Array Obj),(grow (redrawn (w.alloc (.cells #[U op,.string (Y t),.string (Y n),U v.k,U v.n,.string v.s,.slice ad args.length ac] 44)) d) os).cell? ⟨w.heap.size,0,none⟩=some (U op):=fun d os=>(vt _ d os).cell_kept ai;refine wp_region_mixed 5 [(0,false),(1,false),(2,false),(3,false),(4,false)] acz acz ?_;repeat(refine wpM_mild rfl (fun K hK=>?_);go_simp;first|(refine hK _ ?_;clear hK K)|(apply Exists.intro;refine⟨fun _=>?_,hK _ ?_⟩;(fail);clear hK K))
  refine Ba ?_;intro w1 hb _;replace S:=tm (S.out.kept hb);clear y0 hb;have F:=fx_ S.out.facts;go_wp2_with fail;refine tp (C.out _) ?_;rintro e w2 ⟨rfl,hb⟩;replace S:=tm (S.out.kept hb);clear hb F;have F:=fx_ S.out.facts
  cases hr:v.right with
  | false=>exact rq
  | true=>
   have HE3:Hid (y=if(op:Int)≠2/\v≠V.null then false else if(op:Int)=1 then(if isName n=false\/(t≠[]/\isName t=false)then false else args.all Ex.formed)else(if n++t=[]then args.all Ex.formed else false)):=by show _=_;rw[HE2.out,if_neg (show ¬v.right=false by rw[hr];exact Bool.noConfusion)];try simp
   exact Zt
 ·have hne:(args.length:Int)≠2:=acw;have kl:((args.length:Int) != 2)=true:=ab3.2 hne;have HR:Hid (y=false):=by show _=_;rw[HE.out,if_pos (.inr (.inr (.inl hne)))]
  clear HE HN HC0 C C2 C3 har hne hl HZ;go_enter func116,ntmps116;go_wp2_with fail;have y0:∀(d:Nat) (os:Array Obj),(grow (redrawn (w.alloc (.cells #[U op,.string (Y t),.string (Y n),U v.k,U v.n,.string v.s,.slice ad args.length ac] 44)) d) os).cell? ⟨w.heap.size,0,none⟩=some (U op):=fun d os=>(vt _ d os).cell_kept ai;exact Dp
end Go.Proofs.YtimoefagohifaaaGreatDoor
