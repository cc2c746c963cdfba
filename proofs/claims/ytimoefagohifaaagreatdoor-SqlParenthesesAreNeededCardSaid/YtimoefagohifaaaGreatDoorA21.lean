/- Laws that the last part needs. No condition. -/
import Derived.Test.YtimoefagohifaaaGreatDoorA14
import Derived.Test.YtimoefagohifaaaGreatDoorA17
set_option maxHeartbeats 8000000
set_option maxRecDepth 100000
namespace Go.Proofs.YtimoefagohifaaaGreatDoor
open Go.RowKit Go.Sort Tryz
section
set_option maxRecDepth 100000
set_option maxHeartbeats 4000000
theorem agq (a b:Option Addr) (c d:Nat) (f:Value) (w:World):Calls prog 234 #[.slice a 0 c,.slice b 0 d,f] w (Says (.bool true) w):=by
 go_enter func234,ntmps234;exact z89
theorem aho (a b:Option Addr) (c d:Nat) (f:Value) (w:World):Calls prog 236 #[.slice a 0 c,.slice b 0 d,f] w (Says (.bool true) w):=by
 go_enter func236,ntmps236;exact z89
theorem ahn (a b:Option Addr) (c d:Nat) (f:Value) (w:World):Calls prog 238 #[.slice a 0 c,.slice b 0 d,f] w (Says (.bool true) w):=by
 go_enter func238,ntmps238;exact z89
theorem aia (a b:Option Addr) (c d:Nat) (w:World):Calls prog 235 #[.slice a 0 c,.slice b 0 d] w (Says (.bool true) w):=by
 go_enter func235,ntmps235;exact z89
theorem ah9 (a b:Option Addr) (c d:Nat) (w:World):Calls prog 237 #[.slice a 0 c,.slice b 0 d] w (Says (.bool true) w):=by
 go_enter func237,ntmps237;exact z89
theorem exprEq (op n:Int) (v:V) (a b:Option Addr) (c d:Nat) (w:World):Calls prog 232 #[.agg #[.int .i64 op,.int .i64 n,.int .i64 v.k,.int .i64 v.n,.string v.s,.slice a 0 c],.agg #[.int .i64 op,.int .i64 n,.int .i64 v.k,.int .i64 v.n,.string v.s,.slice b 0 d]] w (Says (.bool true) w):=by
 go_enter func232,ntmps232;go_wp2_with fail;refine tp (agq a b c d _ _) ?_;rintro e w1 ⟨rfl,hb⟩;go_wp2_with fail;go_returns;exact⟨rfl,(((uj _ _).alloc (tu _) _).alloc acx _).trans (hb.mono (by simp only[ug];omega))⟩
end
mutual
def XpIn (Q:Nat->Prop) (w:World):Xp->List Value->Prop
 | .mk op n v args,cs=>∃a acs,cs=[U op,U n,U v.k,U v.n,.string v.s,a]/\SlIn Q w a args.length acs/\XpsIn Q w args acs
def XpsIn (Q:Nat->Prop) (w:World):List Xp->List Value->Prop
 | [],acs=>acs=[]
 | e::l,acs=>∃c1 c2,acs=c1++c2/\XpIn Q w e c1/\XpsIn Q w l c2
end
theorem XpIn.len {Q:Nat->Prop} {w:World} {e:Xp} {cs:List Value} (h:XpIn Q w e cs):cs.length=6:=by
 obtain⟨op,n,v,args⟩:=e;obtain⟨a,acs,rfl,_⟩:=h;rfl
theorem XpsIn.len {Q:Nat->Prop} {w:World}:∀{l:List Xp} {acs:List Value},XpsIn Q w l acs->acs.length=l.length * 6
 | [],acs,h=>by simp only[XpsIn]at h;subst h;rfl
 | e::l,acs,h=>by
  obtain⟨c1,c2,rfl,h1,h2⟩:=h;have:=h1.len;have:=XpsIn.len h2;exact ahj
theorem XpIn.ones {Q:Nat->Prop} {w:World} {e:Xp} {cs:List Value} (h:XpIn Q w e cs):∀u∈cs,u.oneCell'=true:=by
 obtain⟨op,n,v,args⟩:=e;obtain⟨a,acs,rfl,h1,_⟩:=h;intro u hu;simp only[uw,vl,xp]at hu;rcases hu with rfl|rfl|rfl|rfl|rfl|rfl
 all_goals first|rfl|exact Kn h1
theorem Md {Q R:Nat->Prop} {w w':World} (hq:∀b,b<w.heap.size->Q b->R b/\w'.heap[b]?=w.heap[b]?) {v:Value} {n:Nat} {cs:List Value} (h0:0<n->cs≠[]) (h:SlIn Q w v n cs):SlIn R w' v n cs:=by
 obtain⟨ad,cap,e,hc,h⟩:=h;refine⟨ad,cap,e,hc,fun hn=>?_⟩;obtain⟨b,o,e2,k,k2⟩:=h hn;have:=hq b (k2.lt (h0 hn)) k;exact⟨b,o,e2,this.1,k2.same this.2⟩
theorem Ml {n k:Nat} {cs:List Value} (hl:cs.length=n * k) (hk:0<k):0<n->cs≠[]:=fun hn e=>by
 have:0<n * k:=Nat.mul_pos hn hk;rw[e]at hl;simp at hl;omega
theorem Iq {Q R:Nat->Prop} {w w':World} (hq:∀b,b<w.heap.size->Q b->R b/\w'.heap[b]?=w.heap[b]?):∀e:Xp,∀cs,XpIn Q w e cs->XpIn R w' e cs:=by
 refine Xp.ind fun op n v args ih=>?_;rintro cs ⟨a,acs,rfl,h1,h2⟩;have key:∀(l:List Xp) (acs:List Value),(∀e∈l,∀cs,XpIn Q w e cs->XpIn R w' e cs)->XpsIn Q w l acs->XpsIn R w' l acs:=by
  intro l
  induction l with
  | nil=>intro acs _ h;exact h
  | cons e l ihl=>exact p7
 exact⟨a,acs,rfl,Md hq (Ml (XpsIn.len h2) acy) h1,key args acs ih h2⟩
def xpE:ElRep Xp where
 k:=6
 In:=XpIn
 val cs:=.agg cs.toArray
 len h:=h.len
 ones h:=h.ones
 move hq h:=Iq hq _ _ h
theorem Gz {Q:Nat->Prop} {w:World}:∀{l:List Xp} {acs:List Value},XpsIn Q w l acs↔LIn xpE Q w l acs
 | [],acs=>by simp only[XpsIn,LIn]
 | e::l,acs=>by
  simp only[XpsIn,LIn];exact⟨fun⟨c1,c2,h1,h2,h3⟩=>⟨c1,c2,h1,h2,Gz.1 h3⟩,fun⟨c1,c2,h1,h2,h3⟩=>⟨c1,c2,h1,h2,Gz.2 h3⟩⟩
theorem Co {Q:Nat->Prop} {w:World} {op n:Int} {v:V} {args:List Xp} {cs:List Value}:XpIn Q w (.mk op n v args) cs↔∃a,cs=[U op,U n,U v.k,U v.n,.string v.s,a]/\RSl xpE Q w a args:=
 ⟨fun⟨a,acs,h1,h2,h3⟩=>⟨a,h1,acs,h2,Gz.1 h3⟩,fun⟨a,h1,acs,h2,h3⟩=>⟨a,acs,h1,h2,Gz.2 h3⟩⟩
def intE:ElRep Int where
 k:=1
 In _ _ n cs:=cs=[U n]
 val cs:=cs.headD undef
 len h:=by subst h;rfl
 ones h u hu:=by subst h;simp only[vh]at hu;subst hu;rfl
 move _ h:=h
def odE:ElRep Od where
 k:=2
 In _ _ s cs:=cs=[U s.col,.bool s.down]
 val cs:=.agg cs.toArray
 len h:=by subst h;rfl
 ones h u hu:=by subst h;simp only[uw,vl,xp]at hu;rcases hu with rfl|rfl<;>rfl
 move _ h:=h
def agE:ElRep Ag where
 k:=7
 In Q w p cs:=∃c,cs=U p.fn::c/\XpIn Q w p.arg c
 val cs:=.agg cs.toArray
 len h:=by obtain⟨c,rfl,h⟩:=h;simp[h.len]
 ones h u hu:=ah2
 move hq h:=by obtain⟨c,rfl,h⟩:=h;exact⟨c,rfl,Iq hq _ _ h⟩
def tblE:ElRep Tbl where
 k:=4
 In Q w t cs:=∃ca cc ia ic ka kc,cs=[.string (Y t.name),.slice ca t.cols.length cc,.slice ia t.indexes.length ic,.slice ka t.checks.length kc]/\RSl colE Q w (.slice ca t.cols.length cc) t.cols
 val cs:=.agg cs.toArray
 len h:=by obtain⟨ca,cc,ia,ic,ka,kc,rfl,_⟩:=h;rfl
 ones h u hu:=by
  obtain⟨ca,cc,ia,ic,ka,kc,rfl,_⟩:=h;simp only[uw,vl,xp]at hu;rcases hu with rfl|rfl|rfl|rfl<;>rfl
 move hq h:=by obtain⟨ca,cc,ia,ic,ka,kc,rfl,h⟩:=h;exact⟨ca,cc,ia,ic,ka,kc,rfl,rSl_move acy hq h⟩
mutual
def QyIn (Q:Nat->Prop) (w:World):Qy->List Value->Prop
 | .mk k tab subs cond cols group aggs order n,cs=>∃sa sacs xcs ca ga aa oa,cs=U k::.string (Y tab)::sa::(xcs++[ca,ga,aa,oa,U n])/\SlIn Q w sa subs.length sacs/\QysIn Q w subs sacs/\
  XpIn Q w cond xcs/\RSl xpE Q w ca cols/\RSl intE Q w ga group/\RSl agE Q w aa aggs/\RSl odE Q w oa order
def QysIn (Q:Nat->Prop) (w:World):List Qy->List Value->Prop
 | [],acs=>acs=[]
 | e::l,acs=>∃c1 c2,acs=c1++c2/\QyIn Q w e c1/\QysIn Q w l c2
end
theorem QyIn.len {Q:Nat->Prop} {w:World} {e:Qy} {cs:List Value} (h:QyIn Q w e cs):cs.length=14:=by
 obtain⟨k,tab,subs,cond,cols,group,aggs,order,n⟩:=e;obtain⟨sa,sacs,xcs,ca,ga,aa,oa,rfl,_,_,h,_⟩:=h;simp[h.len]
theorem QysIn.len {Q:Nat->Prop} {w:World}:∀{l:List Qy} {acs:List Value},QysIn Q w l acs->acs.length=l.length * 14
 | [],acs,h=>by simp only[QysIn]at h;subst h;rfl
 | e::l,acs,h=>by
  obtain⟨c1,c2,rfl,h1,h2⟩:=h;have:=h1.len;have:=QysIn.len h2;exact ahj
theorem iq {α:Type} {E:ElRep α} {Q:Nat->Prop} {w:World} {v:Value} {l:List α} (h:RSl E Q w v l):v.oneCell'=true:=by
 obtain⟨_,⟨a,cap,rfl,_⟩,_⟩:=h;rfl
theorem QyIn.ones {Q:Nat->Prop} {w:World} {e:Qy} {cs:List Value} (h:QyIn Q w e cs):∀u∈cs,u.oneCell'=true:=by
 obtain⟨k,tab,subs,cond,cols,group,aggs,order,n⟩:=e;obtain⟨sa,sacs,xcs,ca,ga,aa,oa,rfl,h1,h2,h3,h4,h5,h6,h7⟩:=h;intro u hu;simp only[uw,wi,vl,xp]at hu;rcases hu with rfl|rfl|rfl|hu|rfl|rfl|rfl|rfl|rfl
 all_goals first|rfl|exact Kn h1|exact iq (by assumption)|exact h3.ones u hu
theorem C8 {Q R:Nat->Prop} {w w':World} (hq:∀b,b<w.heap.size->Q b->R b/\w'.heap[b]?=w.heap[b]?):∀e:Qy,∀cs,QyIn Q w e cs->QyIn R w' e cs:=by
 refine Qy.ind fun k tab subs cond cols group aggs order n ih=>?_;rintro cs ⟨sa,sacs,xcs,ca,ga,aa,oa,rfl,h1,h2,h3,h4,h5,h6,h7⟩;have key:∀(l:List Qy) (acs:List Value),(∀e∈l,∀cs,QyIn Q w e cs->QyIn R w' e cs)->QysIn Q w l acs->QysIn R w' l acs:=by
  intro l
  induction l with
  | nil=>intro acs _ h;exact h
  | cons e l ihl=>
   rintro acs hl ⟨c,c2,rfl,k1,k2⟩;exact⟨c,c2,rfl,hl e acx _ k1,ihl _ (fun d hd=>hl d (by simp[hd])) k2⟩
 exact⟨sa,sacs,xcs,ca,ga,aa,oa,rfl,Md hq (Ml (QysIn.len h2) acy) h1,key subs sacs ih h2,Iq hq _ _ h3,rSl_move acy hq h4,rSl_move acy hq h5,rSl_move acy hq h6,rSl_move acy hq h7⟩
def qyE:ElRep Qy where
 k:=14
 In:=QyIn
 val cs:=.agg cs.toArray
 len h:=h.len
 ones h:=h.ones
 move hq h:=C8 hq _ _ h
theorem G7 {Q:Nat->Prop} {w:World}:∀{l:List Qy} {acs:List Value},QysIn Q w l acs↔LIn qyE Q w l acs
 | [],acs=>by simp only[QysIn,LIn]
 | e::l,acs=>by
  simp only[QysIn,LIn];exact⟨fun⟨c1,c2,h1,h2,h3⟩=>⟨c1,c2,h1,h2,G7.1 h3⟩,fun⟨c1,c2,h1,h2,h3⟩=>⟨c1,c2,h1,h2,G7.2 h3⟩⟩
theorem B1 {Q:Nat->Prop} {w:World} {k:Int} {tab:Bytes} {subs:List Qy} {op xn:Int} {v:V} {args cols:List Xp} {group:List Int} {aggs:List Ag} {order:List Od} {n:Int} {cs:List Value}
 (h:QyIn Q w (.mk k tab subs (.mk op xn v args) cols group aggs order n) cs):∃sa sc xa xc ca cc ga gc aa ac oa oc,
  cs=[U k,.string (Y tab),.slice sa subs.length sc,U op,U xn,U v.k,U v.n,.string v.s,.slice xa args.length xc,.slice ca cols.length cc,.slice ga group.length gc,.slice aa aggs.length ac,.slice oa order.length oc,U n]/\
  RSl qyE Q w (.slice sa subs.length sc) subs/\RSl xpE Q w (.slice xa args.length xc) args/\RSl xpE Q w (.slice ca cols.length cc) cols/\RSl intE Q w (.slice ga group.length gc) group/\RSl agE Q w (.slice aa aggs.length ac) aggs/\RSl odE Q w (.slice oa order.length oc) order:=by
 obtain⟨sa,sacs,xcs,ca,ga,aa,oa,rfl,h1,h2,h3,h4,h5,h6,h7⟩:=h
 obtain⟨xa,rfl,hx⟩:=Co.1 h3
 clear h3
 have h3:=hx
 have h8:RSl qyE Q w sa subs:=⟨sacs,h1,G7.1 h2⟩
 obtain⟨sa,sc,rfl⟩:=h8.slice
 obtain⟨xa,xc,rfl⟩:=h3.slice
 obtain⟨ca,cc,rfl⟩:=h4.slice
 obtain⟨ga,gc,rfl⟩:=h5.slice
 obtain⟨aa,ac,rfl⟩:=h6.slice
 obtain⟨oa,oc,rfl⟩:=h7.slice
 exact⟨sa,sc,xa,xc,ca,cc,ga,gc,aa,ac,oa,oc,rfl,h8,h3,h4,h5,h6,h7⟩
theorem Ia {Q:Nat->Prop} {w:World} {k:Int} {tab:Bytes} {subs:List Qy} {op xn:Int} {v:V} {args cols:List Xp} {group:List Int} {aggs:List Ag} {order:List Od} {n:Int} {sa xa ca ga aa oa:Value} (h1:RSl qyE Q w sa subs) (h2:RSl xpE Q w xa args) (h3:RSl xpE Q w ca cols) (h4:RSl intE Q w ga group) (h5:RSl agE Q w aa aggs) (h6:RSl odE Q w oa order):QyIn Q w (.mk k tab subs (.mk op xn v args) cols group aggs order n) [U k,.string (Y tab),sa,U op,U xn,U v.k,U v.n,.string v.s,xa,ca,ga,aa,oa,U n]:=by
 obtain⟨sacs,k1,k2⟩:=h1;exact⟨sa,sacs,_,ca,ga,aa,oa,rfl,k1,G7.2 k2,Co.2 ⟨xa,rfl,h2⟩,h3,h4,h5,h6⟩
theorem idx62_any (g:Nat) (qb:Nat) (Q:Nat->Prop) (p:Tbl->Bool) (l:List Tbl) (v:Value) (w:World) (hfn:∀args w,(callFunc g args).run prog w=.ok (.enter g args) w) (hv:RSl tblE Q w v l) (hl:l.length<=4611686018427387904) (HG:Hid (∀W a cs,Below w.heap.size w W->a∈l->tblE.In Q W a cs->Calls prog g #[tblE.val cs,.pointer (O qb)] W (Says (.bool (p a)) W))):Calls prog 62 #[v,.func (.func g) #[] #[.pointer (some ⟨qb,0,none⟩)]] w (Says (U (idxFrom p 0 l)) w):=by
 obtain⟨a0,cap0,rfl⟩:=hv.slice;have HV:=tm hv;clear hv;go_enter func62,ntmps62;go_wp2_with fail;go_loopw [5,8] (fun _ i wr=>∃k:Nat,k<=l.length/\i=U k/\Hid (idxFrom p 0 l=idxFrom p k (l.drop k))/\Hid (Below w.heap.size w wr)) (fun _ i _=>l.length - (intOf i).toNat)
 case atStart=>exact⟨0,by omega,rfl,rfl,uj _ _⟩
 case round=>
  obtain⟨k,hk,rfl,HK,HB⟩:=hrel;by_cases hlt:k<l.length
  ·refine qh ?_;intro a hx;obtain⟨b,o,cap,cs,hbo,hin,hat⟩:=((HV.out.kept acy HB.out)).at hx;injection hbo with e1 _ e2;subst e1;subst e2;refine Hx ?_;intro C hst HST;have hin0:=hin;obtain⟨ca,cc,ia,ic,ka,kc,rfl,_⟩:=hin;have x0:=hat 0 _ rfl;have x1:=hat 1 _ rfl;have x2:=hat 2 _ rfl;have x3:=hat 3 _ rfl;simp only[show tblE.k=4 from rfl,u0]at x0 x1 x2 x3;change Hid (Calls prog g #[.agg #[.string (Y a.name),.slice ca a.cols.length cc,.slice ia a.indexes.length ic,.slice ka a.checks.length kc],.pointer (O qb)] wr (Says (.bool (p a)) wr))at C;clear hst HK hx hat;by_cases hn:p a=true
   ·have HR:Hid (idxFrom p 0 l=(k:Int)):=by show _=_;rw[HST.out,if_pos hn]
    rw[hn]at C;clear HST hn;go_wp2_with fail;refine tp C.out ?_;rintro e w1 ⟨rfl,hb⟩;have HB1:=tm (HB.out.step hb);clear hb x0 x1 x2 x3;exact z120
   ·have HR:Hid (idxFrom p 0 l=idxFrom p (k+1) (l.drop (k+1))):=by show _=_;rw[HST.out,if_neg hn]
    have hd:p a=false:=by simpa using hn
    rw[hd]at C;clear HST hn hd;go_wp2_with fail;refine tp C.out ?_;rintro e w1 ⟨rfl,hb⟩;have HB1:=tm (HB.out.step hb);clear hb x0 x1 x2 x3;exact z66
  ·exact z69
theorem idx239_any (g:Nat) (Q:Nat->Prop) (p:Ag->Bool) (l:List Ag) (v:Value) (w:World) (hfn:∀args w,(callFunc g args).run prog w=.ok (.enter g args) w) (hv:RSl agE Q w v l) (hl:l.length<=4611686018427387904) (HG:Hid (∀W a cs,Below w.heap.size w W->a∈l->agE.In Q W a cs->Calls prog g #[agE.val cs] W (Says (.bool (p a)) W))):Calls prog 239 #[v,.func (.func g) #[] #[]] w (Says (U (idxFrom p 0 l)) w):=by
 obtain⟨a0,cap0,rfl⟩:=hv.slice;have HV:=tm hv;clear hv;go_enter func239,ntmps239;go_wp2_with fail;go_loopw [5,8] (fun _ i wr=>∃k:Nat,k<=l.length/\i=U k/\Hid (idxFrom p 0 l=idxFrom p k (l.drop k))/\Hid (Below w.heap.size w wr)) (fun _ i _=>l.length - (intOf i).toNat)
 case atStart=>exact⟨0,by omega,rfl,rfl,uj _ _⟩
 case round=>
  obtain⟨k,hk,rfl,HK,HB⟩:=hrel;by_cases hlt:k<l.length
  ·refine qh ?_;intro a hx;obtain⟨b,o,cap,cs,hbo,hin,hat⟩:=((HV.out.kept acy HB.out)).at hx;injection hbo with e1 _ e2;subst e1;subst e2;refine Hx ?_;intro C hst HST;have hin0:=hin;obtain⟨fn,⟨xop,xn,xv,xargs⟩⟩:=a;obtain⟨c,rfl,hin1⟩:=hin;obtain⟨v0,rfl,hs⟩:=Co.1 hin1;obtain⟨ad,ac,rfl⟩:=hs.slice;refine fu ?_;intro x0 x1 x2 x3 x4 x5 x6;simp only[show agE.k=7 from rfl,u0]at x0 x1 x2 x3 x4 x5 x6;change Hid (Calls prog g #[.agg #[U fn,U xop,U xn,U xv.k,U xv.n,.string xv.s,.slice ad xargs.length ac]] wr (Says (.bool (p (Ag.mk fn (.mk xop xn xv xargs)))) wr))at C;clear hst HK hx hat;by_cases hn:p (Ag.mk fn (.mk xop xn xv xargs))=true
   ·have HR:Hid (idxFrom p 0 l=(k:Int)):=by show _=_;rw[HST.out,if_pos hn]
    rw[hn]at C;clear HST hn;go_wp2_with fail;refine tp C.out ?_;rintro e w1 ⟨rfl,hb⟩;have HB1:=tm (HB.out.step hb);clear hb x0 x1 x2 x3 x4 x5 x6;exact z120
   ·have HR:Hid (idxFrom p 0 l=idxFrom p (k+1) (l.drop (k+1))):=by show _=_;rw[HST.out,if_neg hn]
    have hd:p (Ag.mk fn (.mk xop xn xv xargs))=false:=by simpa using hn
    rw[hd]at C;clear HST hn hd;go_wp2_with fail;refine tp C.out ?_;rintro e w1 ⟨rfl,hb⟩;have HB1:=tm (HB.out.step hb);clear hb x0 x1 x2 x3 x4 x5 x6;exact z66
  ·exact z69
theorem contains198_any (g:Nat) (Q:Nat->Prop) (p:Ag->Bool) (l:List Ag) (v:Value) (w:World) (hfn:∀args w,(callFunc g args).run prog w=.ok (.enter g args) w) (hv:RSl agE Q w v l) (hl:l.length<=4611686018427387904) (HG:Hid (∀W a cs,Below w.heap.size w W->a∈l->agE.In Q W a cs->Calls prog g #[agE.val cs] W (Says (.bool (p a)) W))):Calls prog 198 #[v,.func (.func g) #[] #[]] w (Says (.bool (l.any p)) w):=by
 have HC:=tm (idx239_any g Q p l v w hfn hv hl HG);have HD:=tm (Dl p l 0);clear HG hv;go_enter func198,ntmps198;go_wp2_with fail;refine tp HC.out ?_;rintro e w1 ⟨rfl,hb⟩;go_wp2_with fail;exact ue (v:=.bool (l.any p)) (by simp[results,results198,go_sem,<- HD.out]) rfl ⟨rfl,hb⟩
theorem Tq (g:Nat) (Q:Nat->Prop) (p:Qy->Bool) (l:List Qy) (v:Value) (w:World) (hfn:∀args w,(callFunc g args).run prog w=.ok (.enter g args) w) (hv:RSl qyE Q w v l) (hl:l.length<=4611686018427387904) (HG:Hid (∀W a cs,Below w.heap.size w W->a∈l->qyE.In Q W a cs->Calls prog g #[qyE.val cs] W (Says (.bool (p a)) W))):Calls prog 240 #[v,.func (.func g) #[] #[]] w (Says (U (idxFrom p 0 l)) w):=by
 obtain⟨a0,cap0,rfl⟩:=hv.slice;have HV:=tm hv;clear hv;go_enter func240,ntmps240;go_wp2_with fail;go_loopw [5,8] (fun _ i wr=>∃k:Nat,k<=l.length/\i=U k/\Hid (idxFrom p 0 l=idxFrom p k (l.drop k))/\Hid (Below w.heap.size w wr)) (fun _ i _=>l.length - (intOf i).toNat)
 case atStart=>exact⟨0,by omega,rfl,rfl,uj _ _⟩
 case round=>
  obtain⟨k,hk,rfl,HK,HB⟩:=hrel;by_cases hlt:k<l.length
  ·refine qh ?_;intro a hx;obtain⟨b,o,cap,cs,hbo,hin,hat⟩:=((HV.out.kept acy HB.out)).at hx;injection hbo with e1 _ e2;subst e1;subst e2;refine Hx ?_;intro C hst HST;have hin0:=hin;obtain⟨k0,tab,subs,⟨xop,xn,xv,xargs⟩,cols,group,aggs,order,n0⟩:=a;obtain⟨sa,sc,xa,xc,ca,cc,ga,gc,aa,ac,oa,oc,rfl,_⟩:=B1 hin;refine fu ?_;intro x0 x1 x2 x3 x4 x5 x6;have x7:=hat 7 _ rfl;have x8:=hat 8 _ rfl;have x9:=hat 9 _ rfl;have x10:=hat 10 _ rfl;have x11:=hat 11 _ rfl;have x12:=hat 12 _ rfl;have x13:=hat 13 _ rfl;simp only[show qyE.k=14 from rfl,u0]at x0 x1 x2 x3 x4 x5 x6 x7 x8 x9 x10 x11 x12 x13;change Hid (Calls prog g #[.agg #[U k0,.string (Y tab),.slice sa subs.length sc,U xop,U xn,U xv.k,U xv.n,.string xv.s,.slice xa xargs.length xc,.slice ca cols.length cc,.slice ga group.length gc,.slice aa aggs.length ac,.slice oa order.length oc,U n0]] wr (Says (.bool (p (.mk k0 tab subs (.mk xop xn xv xargs) cols group aggs order n0))) wr))at C;clear hst HK hx hat;by_cases hn:p (.mk k0 tab subs (.mk xop xn xv xargs) cols group aggs order n0)=true
   ·have HR:Hid (idxFrom p 0 l=(k:Int)):=by show _=_;rw[HST.out,if_pos hn]
    rw[hn]at C;clear HST hn;go_wp2_with fail;refine tp C.out ?_;rintro e w1 ⟨rfl,hb⟩;have HB1:=tm (HB.out.step hb);clear hb x0 x1 x2 x3 x4 x5 x6 x7 x8 x9 x10 x11 x12 x13;exact z120
   ·have HR:Hid (idxFrom p 0 l=idxFrom p (k+1) (l.drop (k+1))):=by show _=_;rw[HST.out,if_neg hn]
    have hd:p (.mk k0 tab subs (.mk xop xn xv xargs) cols group aggs order n0)=false:=by simpa using hn
    rw[hd]at C;clear HST hn hd;go_wp2_with fail;refine tp C.out ?_;rintro e w1 ⟨rfl,hb⟩;have HB1:=tm (HB.out.step hb);clear hb x0 x1 x2 x3 x4 x5 x6 x7 x8 x9 x10 x11 x12 x13;exact z66
  ·exact z69
theorem contains199_any (g:Nat) (Q:Nat->Prop) (p:Qy->Bool) (l:List Qy) (v:Value) (w:World) (hfn:∀args w,(callFunc g args).run prog w=.ok (.enter g args) w) (hv:RSl qyE Q w v l) (hl:l.length<=4611686018427387904) (HG:Hid (∀W a cs,Below w.heap.size w W->a∈l->qyE.In Q W a cs->Calls prog g #[qyE.val cs] W (Says (.bool (p a)) W))):Calls prog 199 #[v,.func (.func g) #[] #[]] w (Says (.bool (l.any p)) w):=by
 have HC:=tm (Tq g Q p l v w hfn hv hl HG);have HD:=tm (Dl p l 0);clear HG hv;go_enter func199,ntmps199;go_wp2_with fail;refine tp HC.out ?_;rintro e w1 ⟨rfl,hb⟩;go_wp2_with fail;exact ue (v:=.bool (l.any p)) (by simp[results,results199,go_sem,<- HD.out]) rfl ⟨rfl,hb⟩
theorem Tp (g:Nat) (qb:Nat) (Q:Nat->Prop) (p:Od->Bool) (l:List Od) (v:Value) (w:World) (hfn:∀args w,(callFunc g args).run prog w=.ok (.enter g args) w) (hv:RSl odE Q w v l) (hl:l.length<=4611686018427387904) (HG:Hid (∀W a cs,Below w.heap.size w W->a∈l->odE.In Q W a cs->Calls prog g #[odE.val cs,.pointer (O qb)] W (Says (.bool (p a)) W))):Calls prog 242 #[v,.func (.func g) #[] #[.pointer (some ⟨qb,0,none⟩)]] w (Says (U (idxFrom p 0 l)) w):=by
 obtain⟨a0,cap0,rfl⟩:=hv.slice;have HV:=tm hv;clear hv;go_enter func242,ntmps242;go_wp2_with fail;go_loopw [5,8] (fun _ i wr=>∃k:Nat,k<=l.length/\i=U k/\Hid (idxFrom p 0 l=idxFrom p k (l.drop k))/\Hid (Below w.heap.size w wr)) (fun _ i _=>l.length - (intOf i).toNat)
 case atStart=>exact⟨0,by omega,rfl,rfl,uj _ _⟩
 case round=>
  obtain⟨k,hk,rfl,HK,HB⟩:=hrel;by_cases hlt:k<l.length
  ·refine qh ?_;intro a hx;obtain⟨b,o,cap,cs,hbo,hin,hat⟩:=((HV.out.kept acy HB.out)).at hx;injection hbo with e1 _ e2;subst e1;subst e2;refine Hx ?_;intro C hst HST;have h:cs=[U a.col,.bool a.down]:=hin;subst h;have x0:=hat 0 _ rfl;have x1:=hat 1 _ rfl;simp only[show odE.k=2 from rfl,u0]at x0 x1;change Hid (Calls prog g #[.agg #[U a.col,.bool a.down],.pointer (O qb)] wr (Says (.bool (p a)) wr))at C;clear hst HK hx hat;by_cases hn:p a=true
   ·have HR:Hid (idxFrom p 0 l=(k:Int)):=by show _=_;rw[HST.out,if_pos hn]
    rw[hn]at C;clear HST hn;go_wp2_with fail;refine tp C.out ?_;rintro e w1 ⟨rfl,hb⟩;have HB1:=tm (HB.out.step hb);clear hb x0 x1;exact z120
   ·have HR:Hid (idxFrom p 0 l=idxFrom p (k+1) (l.drop (k+1))):=by show _=_;rw[HST.out,if_neg hn]
    have hd:p a=false:=by simpa using hn
    rw[hd]at C;clear HST hn hd;go_wp2_with fail;refine tp C.out ?_;rintro e w1 ⟨rfl,hb⟩;have HB1:=tm (HB.out.step hb);clear hb x0 x1;exact z66
  ·exact z69
theorem contains206_any (g:Nat) (qb:Nat) (Q:Nat->Prop) (p:Od->Bool) (l:List Od) (v:Value) (w:World) (hfn:∀args w,(callFunc g args).run prog w=.ok (.enter g args) w) (hv:RSl odE Q w v l) (hl:l.length<=4611686018427387904) (HG:Hid (∀W a cs,Below w.heap.size w W->a∈l->odE.In Q W a cs->Calls prog g #[odE.val cs,.pointer (O qb)] W (Says (.bool (p a)) W))):Calls prog 206 #[v,.func (.func g) #[] #[.pointer (some ⟨qb,0,none⟩)]] w (Says (.bool (l.any p)) w):=by
 have HC:=tm (Tp g qb Q p l v w hfn hv hl HG);have HD:=tm (Dl p l 0);clear HG hv;go_enter func206,ntmps206;go_wp2_with fail;refine tp HC.out ?_;rintro e w1 ⟨rfl,hb⟩;go_wp2_with fail;exact ue (v:=.bool (l.any p)) (by simp[results,results206,go_sem,<- HD.out]) rfl ⟨rfl,hb⟩
theorem Nr {l:List Qy} {k:Nat} {a:Qy} (h:l[k]?=some a):nodesQs (l.take (k+1))=nodesQs (l.take k)+nodesQ a:=by
 induction l generalizing k with
 | nil=>simp at h
 | cons b l ih=>
  cases k with
  | zero=>simp only[xx,uz]at h;subst h;simp[nodesQs]
  | succ k=>simp only[xq]at h;simp only[zn,nodesQs,ih h];omega
theorem Th (l:List Qy) (k:Nat):nodesQs (l.take k)<=nodesQs l:=by
 induction l generalizing k with
 | nil=>simp
 | cons b l ih=>
  cases k with
  | zero=>simp[nodesQs]
  | succ k=>have:=ih k;simp only[zn,nodesQs];omega
theorem Ti (q:Qy):1<=nodesQ q:=by obtain⟨_,_,_,_,_,_,_,_,_⟩:=q;simp only[nodesQ];omega
theorem Pv (l:List Qy):l.length<=nodesQs l:=by
 induction l with
 | nil=>simp
 | cons b l ih=>have:=Ti b;simp only[nodesQs,tw];omega
theorem Ww (Q:Nat->Prop) (q:Qy):∀(cs:List Value) (w:World),QyIn Q w q cs->nodesQ q<=1000000000->Calls prog 145 #[.agg cs.toArray] w (Says (U (nodesQ q)) w):=by
 refine Qy.ind (P:=fun q=>∀(cs:List Value) (w:World),QyIn Q w q cs->nodesQ q<=1000000000->Calls prog 145 #[.agg cs.toArray] w (Says (U (nodesQ q)) w)) ?_ q;intro k0 tab subs cond cols group aggs order n0 ih cs w hin hn;obtain⟨xop,xn,xv,xargs⟩:=cond;obtain⟨sa,sc,xa,xc,ca,cc,ga,gc,aa,ac,oa,oc,rfl,hs,_⟩:=B1 hin;have IH:=tm ih;have HS:=tm hs;have hnq:nodesQ (.mk k0 tab subs (.mk xop xn xv xargs) cols group aggs order n0)=1+nodesQs subs:=rfl;rw[hnq]at hn ⊢;have hsl:=Pv subs;clear ih hin hs hnq;show Calls prog 145 #[.agg #[.int .i64 k0,.string ⟨tab.toArray⟩,.slice sa subs.length sc,.int .i64 xop,.int .i64 xn,.int .i64 xv.k,.int .i64 xv.n,.string xv.s,.slice xa xargs.length xc,.slice ca cols.length cc,.slice ga group.length gc,.slice aa aggs.length ac,.slice oa order.length oc,.int .i64 n0]] w _;have HB0:Hid (Below w.heap.size w (w.alloc (.cells #[U k0,.string (Y tab),.slice sa subs.length sc,U xop,U xn,U xv.k,U xv.n,.string xv.s,.slice xa xargs.length xc,.slice ca cols.length cc,.slice ga group.length gc,.slice aa aggs.length ac,.slice oa order.length oc,U n0] 73))):=(uj _ _).alloc (tu _) _;go_enter func145,ntmps145;go_wp2_with fail;go_loopw [3,9] (fun nv i wr=>∃k:Nat,k<=subs.length/\i=U k/\nv=U (1+nodesQs (subs.take k):Nat)/\Hid (Below w.heap.size w wr)) (fun _ i _=>subs.length - (intOf i).toNat)
 case atStart=>exact⟨0,by omega,rfl,by simp[nodesQs],HB0.out⟩
 case round=>
  obtain⟨k,hk,rfl,rfl,HB⟩:=hrel;by_cases hlt:k<subs.length
  ·obtain⟨a,hx⟩:∃x,subs[k]?=some x:=⟨subs[k],by simp[hlt]⟩;obtain⟨b,o,cap,cs,hbo,hin,hat⟩:=(HS.out.kept acy HB.out).at hx;injection hbo with e1 _ e2;subst e1;subst e2;have hma:=uq hx;have hst:=Nr hx;have hle:=Th subs (k+1);have C:=tm (fun W (hin:QyIn Q W a cs)=>IH.out a hma cs W hin acw);obtain⟨z,hz⟩:∃z,nodesQ a=z:=⟨_,rfl⟩;rw[hz]at C hst;have hin0:Hid (QyIn Q wr a cs):=hin;replace hin:QyIn Q wr a cs:=hin;obtain⟨k1,tab1,subs1,⟨xop1,xn1,xv1,xargs1⟩,cols1,group1,aggs1,order1,n1⟩:=a;obtain⟨sa1,sc1,xa1,xc1,ca1,cc1,ga1,gc1,aa1,ac1,oa1,oc1,rfl,_⟩:=B1 hin;refine fu ?_;intro x0 x1 x2 x3 x4 x5 x6;have x7:=hat 7 _ rfl;have x8:=hat 8 _ rfl;have x9:=hat 9 _ rfl;have x10:=hat 10 _ rfl;have x11:=hat 11 _ rfl;have x12:=hat 12 _ rfl;have x13:=hat 13 _ rfl;simp only[show qyE.k=14 from rfl,u0]at x0 x1 x2 x3 x4 x5 x6 x7 x8 x9 x10 x11 x12 x13;have HB1:Hid (Below w.heap.size w (wr.alloc (.cells #[U k1,.string (Y tab1),.slice sa1 subs1.length sc1,U xop1,U xn1,U xv1.k,U xv1.n,.string xv1.s,.slice xa1 xargs1.length xc1,.slice ca1 cols1.length cc1,.slice ga1 group1.length gc1,.slice aa1 aggs1.length ac1,.slice oa1 order1.length oc1,U n1] 73))):=HB.out.alloc (by have:=HB.out.size;omega) _
   have HI:Hid (QyIn Q (wr.alloc (.cells #[U k1,.string (Y tab1),.slice sa1 subs1.length sc1,U xop1,U xn1,U xv1.k,U xv1.n,.string xv1.s,.slice xa1 xargs1.length xc1,.slice ca1 cols1.length cc1,.slice ga1 group1.length gc1,.slice aa1 aggs1.length ac1,.slice oa1 order1.length oc1,U n1] 73)) _ _):=C8 (fun b hl k=>⟨k,xe _ _ _ hl⟩) _ _ hin0.out;rw[hst]at hle;generalize nodesQs (subs.take k)=m at *;have hw:wrap64 (((1+m:Nat):Int)+(z:Int))=((1+m:Nat):Int)+(z:Int):=IntWalk.wrap64_in _ ⟨by omega,by omega⟩;clear hx hat hma hz HB hin0 hin;go_wp2_with fail;refine tp (C.out _ HI.out) ?_;rintro e w1 ⟨rfl,hb⟩;have HB2:=tm (HB1.out.step hb);clear hb x0 x1 x2 x3 x4 x5 x6 x7 x8 x9 x10 x11 x12 x13;go_wp2_with fail;go_roundw
   case rel=>exact⟨k+1,by omega,by go_num,by rw[hst];congr 1;omega,HB2.out⟩
   case measure=>simp[intOf];omega
  ·obtain rfl:k=subs.length:=acw;rw[xu];exact z63
theorem qequal_bare (k0:Int) (xa ca ga aa oa:Option Addr) (xc cc gc ac oc:Nat) (w:World):Calls prog 197 #[.agg #[.int .i64 k0,.string ⟨#[]⟩,.slice none 0 0,.int .i64 0,.int .i64 0,.int .i64 0,.int .i64 0,.string ⟨#[]⟩,.slice xa 0 xc,.slice ca 0 cc,.slice ga 0 gc,.slice aa 0 ac,.slice oa 0 oc,.int .i64 0],.agg #[.int .i64 k0,.string ⟨#[]⟩,.slice none 0 0,.int .i64 0,.int .i64 0,.int .i64 0,.int .i64 0,.string ⟨#[]⟩,.slice none 0 0,.slice none 0 0,.slice none 0 0,.slice none 0 0,.slice none 0 0,.int .i64 0]] w (Says (.bool true) w):=by
 have S:Hid (St w ((w.alloc (.cells #[U k0,eS,eL,U 0,U 0,U 0,U 0,eS,.slice xa 0 xc,.slice ca 0 cc,.slice ga 0 gc,.slice aa 0 ac,.slice oa 0 oc,U 0] 73)).alloc (.cells #[U k0,eS,eL,U 0,U 0,U 0,U 0,eS,eL,eL,eL,eL,eL,U 0] 73)) [(w.heap.size+1,#[U k0,eS,eL,U 0,U 0,U 0,U 0,eS,eL,eL,eL,eL,eL,U 0],73),(w.heap.size,#[U k0,eS,eL,U 0,U 0,U 0,U 0,eS,.slice xa 0 xc,.slice ca 0 cc,.slice ga 0 gc,.slice aa 0 ac,.slice oa 0 oc,U 0],73)]):=by
  have:=St.alloc (St.alloc (St.start w) (cs:=#[U k0,eS,eL,U 0,U 0,U 0,U 0,eS,.slice xa 0 xc,.slice ca 0 cc,.slice ga 0 gc,.slice aa 0 ac,.slice oa 0 oc,U 0]) (t:=73)) (cs:=#[U k0,eS,eL,U 0,U 0,U 0,U 0,eS,eL,eL,eL,eL,eL,U 0]) (t:=73);simp only[ug]at this;exact this
 go_enter func197,ntmps197;go_upto_region 2 with fail;refine St.gen S.out ?_;clear S;intro w1 S;have F:=fx_ S.out.facts;go_wp2_with fail;refine tp (exprEq 0 0 V.null xa none xc 0 _) ?_;rintro e w2 ⟨rfl,hb⟩;replace S:=tm (S.out.kept hb);clear hb F;have F:=fx_ S.out.facts;go_wp2_with fail;refine tp (agq ca none cc 0 _ _) ?_;rintro e w3 ⟨rfl,hb⟩;replace S:=tm (S.out.kept hb);clear hb F;have F:=fx_ S.out.facts;go_wp2_with fail;refine tp (aia ga none gc 0 _) ?_;rintro e w4 ⟨rfl,hb⟩;replace S:=tm (S.out.kept hb);clear hb F;have F:=fx_ S.out.facts;go_wp2_with fail;refine tp (aho aa none ac 0 _ _) ?_;rintro e w5 ⟨rfl,hb⟩;replace S:=tm (S.out.kept hb);clear hb F;have F:=fx_ S.out.facts;go_wp2_with fail;refine tp (ah9 oa none oc 0 _) ?_;rintro e w6 ⟨rfl,hb⟩;replace S:=tm (S.out.kept hb);clear hb F;have F:=fx_ S.out.facts;go_wp2_with fail;refine tp (ahn none none 0 0 _ _) ?_;rintro e w7 ⟨rfl,hb⟩;replace S:=tm (S.out.kept hb);clear hb F;go_wp2_with fail;go_returns;exact⟨rfl,S.out.below⟩
theorem Wt (a:Option Addr) (c:Nat) (w:World):Calls prog 196 #[.agg #[.int .i64 0,.int .i64 0,.int .i64 0,.int .i64 0,.string ⟨#[]⟩,.slice a 0 c]] w (Says (.bool true) w):=by
 go_enter func196,ntmps196;go_wp2_with fail;refine tp (exprEq 0 0 V.null a none c 0 _) ?_;exact Oa
theorem Xp.isZero_eq {x:Xp} (h:x.isZero=true):x=Xp.zero:=by
 obtain⟨op,n,v,args⟩:=x;simp only[Xp.isZero,tr]at h;obtain⟨⟨⟨h1,h2⟩,h3⟩,h4⟩:=h;have e:op=0:=zw h1;have e2:n=0:=zw h2;have e3:v=V.null:=zw h3;have e4:args.length=0:=zw h4;rw[e,e2,e3,ut e4];rfl
theorem Pg (Q:Nat->Prop) (p:Ag) (cs:List Value) (w:World) (hin:agE.In Q w p cs) (hp:(decide (p.fn≠1)||p.arg.isZero)=true):Calls prog 195 #[agE.val cs] w (Says (.bool false) w):=by
 obtain⟨fn,⟨xop,xn,xv,xargs⟩⟩:=p;obtain⟨c0,rfl,hin⟩:=hin;obtain⟨v,rfl,hs⟩:=Co.1 hin;obtain⟨a,c,rfl⟩:=hs.slice;by_cases h:fn=1
 ·have hz:(Xp.mk xop xn xv xargs).isZero=true:=by simpa[h]using hp
  have hz:=Xp.isZero_eq hz;simp only[Xp.zero,Xp.mk.injEq]at hz;obtain⟨rfl,rfl,rfl,rfl⟩:=hz;subst h;show Calls prog 195 #[.agg #[.int .i64 1,.int .i64 0,.int .i64 0,.int .i64 0,.int .i64 0,.string ⟨#[]⟩,.slice a 0 c]] w _;clear hin hs hp;go_enter func195,ntmps195;go_wp2_with fail;refine tp (Wt a c _) ?_;exact Oa
 ·show Calls prog 195 #[.agg #[.int .i64 fn,.int .i64 xop,.int .i64 xn,.int .i64 xv.k,.int .i64 xv.n,.string xv.s,.slice a xargs.length c]] w _;have h2:(fn==1)=false:=by simpa using h
  clear hin hs hp;go_enter func195,ntmps195;go_wp2_with fail;go_returns;exact⟨rfl,((uj _ _).alloc (tu _) _)⟩
theorem Ya:En 195:=enters_of func195 acz rfl
theorem X9:En 200:=enters_of func200 acz rfl
theorem Rd {α:Type} (l:List α):(l.any fun _=>false)=false:=by induction l<;>simp_all
theorem Lv (Q:Nat->Prop) (q:Qy) (cs:List Value) (w:World) (hin:qyE.In Q w q cs) (HF:Hid (∀W,QyIn Q W q cs->Calls prog 146 #[.agg cs.toArray] W (Says (.bool true) W))):Calls prog 200 #[qyE.val cs] w (Says (.bool false) w):=by
 have C:Hid (Calls prog 146 #[.agg cs.toArray] (w.alloc (.cells cs.toArray 73)) (Says (.bool true) (w.alloc (.cells cs.toArray 73)))):=HF.out _ (C8 (fun b hl k=>⟨k,xe _ _ _ hl⟩) _ _ hin);obtain⟨k0,tab,subs,⟨xop,xn,xv,xargs⟩,cols,group,aggs,order,n0⟩:=q;obtain⟨sa,sc,xa,xc,ca,cc,ga,gc,aa,ac,oa,oc,rfl,_⟩:=B1 hin;show Calls prog 200 #[.agg #[.int .i64 k0,.string ⟨tab.toArray⟩,.slice sa subs.length sc,.int .i64 xop,.int .i64 xn,.int .i64 xv.k,.int .i64 xv.n,.string xv.s,.slice xa xargs.length xc,.slice ca cols.length cc,.slice ga group.length gc,.slice aa aggs.length ac,.slice oa order.length oc,.int .i64 n0]] w _;clear hin HF;go_enter func200,ntmps200;go_wp2_with fail;refine tp C.out ?_;exact Oa
theorem St.setsL {w0:World} {i b:Nat} {t:TypeId}:∀(vs:List Value) (o:Nat) (cs:Array Value) (w:World) (L:List Blk),St w0 w L->L[i]?=some (b,cs,t)->St w0 (w.setCells b o vs) (L.set i (b,setArr cs o vs,t))
 | [],o,cs,w,L,h,hi=>by
  have:L.set i (b,cs,t)=L:=z95;unfold setArr;rw[this];exact h
 | v::vs,o,cs,w,L,h,hi=>by
  have h1:=St.set i (o:=o) (v:=v) h hi;have hlt:=(uu.1 hi).1;have h2:=St.setsL (i:=i) (b:=b) (t:=t) vs (o+1) (cs.setIfInBounds o v) _ _ h1 (by rw[xj];simp[hlt]);rw[ab8]at h2;exact h2
theorem Wy (tab:Bytes) (sa xa ca ga aa oa:Option Addr) (sc xc cc gc ac oc:Nat) (w:World) (HA:Hid (∀W,Below w.heap.size w W->Calls prog 198 #[.slice aa 0 ac,.func (.func 195) #[] #[]] W (Says (.bool false) W))) (HS:Hid (∀W,Below w.heap.size w W->Calls prog 199 #[.slice sa 0 sc,.func (.func 200) #[] #[]] W (Says (.bool false) W))):Calls prog 146 #[.agg #[.int .i64 1,.string ⟨tab.toArray⟩,.slice sa 0 sc,.int .i64 0,.int .i64 0,.int .i64 0,.int .i64 0,.string ⟨#[]⟩,.slice xa 0 xc,.slice ca 0 cc,.slice ga 0 gc,.slice aa 0 ac,.slice oa 0 oc,.int .i64 0]] w (Says (.bool true) w):=by
 go_enter func146,ntmps146;refine z57k4 ?_;intro _ _ _ _ w1 S;have F:=fx_ S.out.facts;go_wp2_with fail;refine tp (qequal_bare 1 xa ca ga aa oa xc cc gc ac oc _) ?_;rintro e w2 ⟨rfl,hb⟩;replace S:=tm ((St.set 0 (S.out) rfl).kept hb);try(simp only[ub,ui,um]at S)
 clear hb F;have F:=fx_ S.out.facts;go_wp2_with fail;refine tp (HA.out _ S.out.below) ?_;rintro e w3 ⟨rfl,hb⟩;replace S:=tm (S.out.kept hb);clear hb F;have F:=fx_ S.out.facts;go_wp2_with fail;refine tp (HS.out _ S.out.below) ?_;rintro e w4 ⟨rfl,hb⟩;have HB:=tm (S.out.kept hb).below;clear hb F S;go_wp2_with fail;go_returns;exact⟨rfl,HB.out⟩
theorem qformed_3 (m:Nat) (sa xa ca ga aa oa:Option Addr) (sc xc cc gc ac oc:Nat) (w:World) (HA:Hid (∀W,Below w.heap.size w W->Calls prog 198 #[.slice aa 0 ac,.func (.func 195) #[] #[]] W (Says (.bool false) W))) (HS:Hid (∀W,Below w.heap.size w W->Calls prog 199 #[.slice sa 1 sc,.func (.func 200) #[] #[]] W (Says (.bool false) W))):Calls prog 146 #[.agg #[.int .i64 3,.string ⟨#[]⟩,.slice sa 1 sc,.int .i64 0,.int .i64 0,.int .i64 0,.int .i64 0,.string ⟨#[]⟩,.slice xa 0 xc,.slice ca m cc,.slice ga 0 gc,.slice aa 0 ac,.slice oa 0 oc,.int .i64 0]] w (Says (.bool true) w):=by
 go_enter func146,ntmps146;refine z57k4 ?_;intro _ _ _ _ w1 S;have F:=fx_ S.out.facts;go_wp2_with fail;refine tp (qequal_bare 3 xa none ga aa oa xc 0 gc ac oc _) ?_;rintro e w2 ⟨rfl,hb⟩;replace S:=tm ((St.set 0 (S.out) rfl).kept hb);try(simp only[ub,ui,um]at S)
 clear hb F;have F:=fx_ S.out.facts;go_wp2_with fail;refine tp (HA.out _ S.out.below) ?_;rintro e w3 ⟨rfl,hb⟩;replace S:=tm (S.out.kept hb);clear hb F;have F:=fx_ S.out.facts;go_wp2_with fail;refine tp (HS.out _ S.out.below) ?_;rintro e w4 ⟨rfl,hb⟩;have HB:=tm (S.out.kept hb).below;clear hb F S;go_wp2_with fail;go_returns;exact⟨rfl,HB.out⟩
theorem qformed_5 (m m2:Nat) (sa xa ca ga aa oa:Option Addr) (sc xc cc gc ac oc:Nat) (w:World) (HA:Hid (∀W,Below w.heap.size w W->Calls prog 198 #[.slice aa m2 ac,.func (.func 195) #[] #[]] W (Says (.bool false) W))) (HS:Hid (∀W,Below w.heap.size w W->Calls prog 199 #[.slice sa 1 sc,.func (.func 200) #[] #[]] W (Says (.bool false) W))):Calls prog 146 #[.agg #[.int .i64 5,.string ⟨#[]⟩,.slice sa 1 sc,.int .i64 0,.int .i64 0,.int .i64 0,.int .i64 0,.string ⟨#[]⟩,.slice xa 0 xc,.slice ca 0 cc,.slice ga m gc,.slice aa m2 ac,.slice oa 0 oc,.int .i64 0]] w (Says (.bool true) w):=by
 go_enter func146,ntmps146;refine z57k4 ?_;intro _ _ _ _ w1 S;have F:=fx_ S.out.facts;go_wp2_with fail;refine tp (qequal_bare 5 xa ca none none oa xc cc 0 0 oc _) ?_;rintro e w2 ⟨rfl,hb⟩;replace S:=tm ((St.set 0 (St.set 0 (S.out) rfl) rfl).kept hb);try(simp only[ub,ui,um]at S)
 clear hb F;have F:=fx_ S.out.facts;go_wp2_with fail;refine tp (HA.out _ S.out.below) ?_;rintro e w3 ⟨rfl,hb⟩;replace S:=tm (S.out.kept hb);clear hb F;have F:=fx_ S.out.facts;go_wp2_with fail;refine tp (HS.out _ S.out.below) ?_;rintro e w4 ⟨rfl,hb⟩;have HB:=tm (S.out.kept hb).below;clear hb F S;go_wp2_with fail;go_returns;exact⟨rfl,HB.out⟩
theorem Wx (m:Nat) (sa xa ca ga aa oa:Option Addr) (sc xc cc gc ac oc:Nat) (w:World) (HA:Hid (∀W,Below w.heap.size w W->Calls prog 198 #[.slice aa 0 ac,.func (.func 195) #[] #[]] W (Says (.bool false) W))) (HS:Hid (∀W,Below w.heap.size w W->Calls prog 199 #[.slice sa 1 sc,.func (.func 200) #[] #[]] W (Says (.bool false) W))):Calls prog 146 #[.agg #[.int .i64 6,.string ⟨#[]⟩,.slice sa 1 sc,.int .i64 0,.int .i64 0,.int .i64 0,.int .i64 0,.string ⟨#[]⟩,.slice xa 0 xc,.slice ca 0 cc,.slice ga 0 gc,.slice aa 0 ac,.slice oa m oc,.int .i64 0]] w (Says (.bool true) w):=by
 go_enter func146,ntmps146;refine z57k4 ?_;intro _ _ _ _ w1 S;have F:=fx_ S.out.facts;go_wp2_with fail;refine tp (qequal_bare 6 xa ca ga aa none xc cc gc ac 0 _) ?_;rintro e w2 ⟨rfl,hb⟩;replace S:=tm ((St.set 0 (S.out) rfl).kept hb);try(simp only[ub,ui,um]at S)
 clear hb F;have F:=fx_ S.out.facts;go_wp2_with fail;refine tp (HA.out _ S.out.below) ?_;rintro e w3 ⟨rfl,hb⟩;replace S:=tm (S.out.kept hb);clear hb F;have F:=fx_ S.out.facts;go_wp2_with fail;refine tp (HS.out _ S.out.below) ?_;rintro e w4 ⟨rfl,hb⟩;have HB:=tm (S.out.kept hb).below;clear hb F S;go_wp2_with fail;go_returns;exact⟨rfl,HB.out⟩
theorem qformed_7 (n0:Int) (sa xa ca ga aa oa:Option Addr) (sc xc cc gc ac oc:Nat) (w:World) (HA:Hid (∀W,Below w.heap.size w W->Calls prog 198 #[.slice aa 0 ac,.func (.func 195) #[] #[]] W (Says (.bool false) W))) (HS:Hid (∀W,Below w.heap.size w W->Calls prog 199 #[.slice sa 1 sc,.func (.func 200) #[] #[]] W (Says (.bool false) W))):Calls prog 146 #[.agg #[.int .i64 7,.string ⟨#[]⟩,.slice sa 1 sc,.int .i64 0,.int .i64 0,.int .i64 0,.int .i64 0,.string ⟨#[]⟩,.slice xa 0 xc,.slice ca 0 cc,.slice ga 0 gc,.slice aa 0 ac,.slice oa 0 oc,.int .i64 n0]] w (Says (.bool true) w):=by
 go_enter func146,ntmps146;refine z57k4 ?_;intro _ _ _ _ w1 S;have F:=fx_ S.out.facts;go_wp2_with fail;refine tp (qequal_bare 7 xa ca ga aa oa xc cc gc ac oc _) ?_;rintro e w2 ⟨rfl,hb⟩;replace S:=tm ((St.set 0 (S.out) rfl).kept hb);try(simp only[ub,ui,um]at S)
 clear hb F;have F:=fx_ S.out.facts;go_wp2_with fail;refine tp (HA.out _ S.out.below) ?_;rintro e w3 ⟨rfl,hb⟩;replace S:=tm (S.out.kept hb);clear hb F;have F:=fx_ S.out.facts;go_wp2_with fail;refine tp (HS.out _ S.out.below) ?_;rintro e w4 ⟨rfl,hb⟩;have HB:=tm (S.out.kept hb).below;clear hb F S;go_wp2_with fail;go_returns;exact⟨rfl,HB.out⟩
mutual
def Qy.lin:Qy->Bool
 | .mk k _ subs _ _ _ _ _ _=>(decide (k=1)||decide (k=3)||decide (k=5)||decide (k=6)||decide (k=7))&&linQs subs
def linQs:List Qy->Bool
 | []=>true
 | a::l=>a.lin&&linQs l
end
theorem Xq {l:List Qy} (h:linQs l=true):∀a∈l,a.lin=true:=by
 induction l with
 | nil=>intro a ha;cases ha
 | cons b l ih=>
  intro a ha;simp only[linQs,tr]at h;rcases uw.1 ha with rfl|ha
  ·exact h.1
  ·exact ih h.2 a ha
theorem Pf (Q:Nat->Prop) (q:Qy):∀(cs:List Value) (w:World),QyIn Q w q cs->q.formed=true->q.lin=true->Calls prog 146 #[.agg cs.toArray] w (Says (.bool true) w):=by
 refine Qy.ind (P:=fun q=>∀(cs:List Value) (w:World),QyIn Q w q cs->q.formed=true->q.lin=true->Calls prog 146 #[.agg cs.toArray] w (Says (.bool true) w)) ?_ q;intro k tab subs cond cols group aggs order n ih cs w hin hf hl;obtain⟨xop,xn,xv,xargs⟩:=cond;obtain⟨sa,sc,xa,xc,ca,cc,ga,gc,aa,ac,oa,oc,rfl,h1,h2,h3,h4,h5,h6⟩:=B1 hin;simp only[Qy.formed,N0,nodeQ,tr,vy,uk,vg]at hf;simp only[Qy.lin,tr,vy,uk]at hl;obtain⟨⟨⟨⟨⟨⟨⟨⟨⟨⟨⟨f,f⟩,f3⟩,f4⟩,f5⟩,f6⟩,f7⟩,f8⟩,f9⟩,f⟩,f11⟩,f12⟩:=hf;have hlm:=Xq hl.2;have HA:Hid (∀W,Below w.heap.size w W->Calls prog 198 #[.slice aa aggs.length ac,.func (.func 195) #[] #[]] W (Says (.bool false) W)):=fun W hW=>by
  have:=contains198_any 195 Q (fun _=>false) aggs _ W Ya (h5.kept acy hW) acw (fun W2 a cs hW2 ha hin2=>Pg Q a cs W2 hin2 (by simpa using f11 a ha))
  rwa [Rd]at this
 have HS:Hid (∀W,Below w.heap.size w W->Calls prog 199 #[.slice sa subs.length sc,.func (.func 200) #[] #[]] W (Says (.bool false) W)):=fun W hW=>by
  have:=contains199_any 200 Q (fun _=>false) subs _ W X9 (h1.kept acy hW) (by split at f9;omega;split at f9<;>omega) (fun W2 a cs hW2 ha hin2=>Lv Q a cs W2 hin2 (fun W3 hin3=>ih a ha cs W3 hin3 (f12 a ha) (hlm a ha)))
  rwa [Rd]at this
 have hz:k≠2->k≠4->xop=0/\xn=0/\xv=V.null/\xargs=[]:=fun k2 k4=>by
  have:(Xp.mk xop xn xv xargs).isZero=true:=by rcases f4 with(h|h)|h;exact absurd h k2;exact absurd h k4;exact h
  have:=Xp.isZero_eq this;simpa[Xp.zero]using this
 clear hin ih h1 h2 h3 h4 h5 h6 f11 f12 hlm;rcases hl.1 with(((rfl|rfl)|rfl)|rfl)|rfl
 all_goals
  obtain⟨rfl,rfl,rfl,rfl⟩:=hz acy acy
  try(rcases f3 with h|rfl;exact absurd h acy)
  try(rcases f5 with h|h5;exact absurd h acy)
  try(rcases f6 with h|h6;exact absurd h acy)
  try(rcases f7 with h|h7;exact absurd h acy)
  try(rcases f8 with h|rfl;exact absurd h acy)
 ·rw[h5,h6.1];rw[h6.2]at HA ⊢;rw[h7];have e:subs.length=0:=by simpa using f9
  rw[e]at HS ⊢;exact Wy tab sa xa ca ga aa oa sc xc cc gc ac oc w HA HS
 ·rw[h6.1];rw[h6.2]at HA ⊢;rw[h7];have e:subs.length=1:=by simp at f9;omega
  rw[e]at HS ⊢;exact qformed_3 cols.length sa xa ca ga aa oa sc xc cc gc ac oc w HA HS
 ·rw[h5,h7];have e:subs.length=1:=by simp at f9;omega
  rw[e]at HS ⊢;exact qformed_5 group.length aggs.length sa xa ca ga aa oa sc xc cc gc ac oc w HA HS
 ·rw[h5,h6.1];rw[h6.2]at HA ⊢;have e:subs.length=1:=by simp at f9;omega
  rw[e]at HS ⊢;exact Wx order.length sa xa ca ga aa oa sc xc cc gc ac oc w HA HS
 ·rw[h5,h6.1];rw[h6.2]at HA ⊢;rw[h7];have e:subs.length=1:=by simp at f9;omega
  rw[e]at HS ⊢;exact qformed_7 n sa xa ca ga aa oa sc xc cc gc ac oc w HA HS
end Go.Proofs.YtimoefagohifaaaGreatDoor
