/- Part 20; the last part says what is proved. No condition. -/
import Derived.Laws.AppendOwnNone
import Derived.Test.YtjmmbebkbkgefaaGreatDoorB19
set_option linter.unusedVariables false
set_option linter.unusedSimpArgs false
set_option maxHeartbeats 32000000
set_option maxRecDepth 100000
namespace Go.Proofs.YtjmmbebkbkgefaaGreatDoor
open Go.RowKit Go.Sort Go.Proofs.Tryz
theorem N6 (Q:Nat->Prop) (q:Qy):∀(cs:List Value) (w:World),QyIn Q w q cs->q.formed=true->Calls prog 50 #[.agg cs.toArray] w (Says (.bool true) w):=by
 refine Qy.ind (P:=fun q=>∀(cs:List Value) (w:World),QyIn Q w q cs->q.formed=true->Calls prog 50 #[.agg cs.toArray] w (Says (.bool true) w)) ?_ q;intro k tab subs cond cols group aggs order n ih cs w hin hf;obtain⟨xop,xn,xv,xargs⟩:=cond;obtain⟨sa,sc,xa,xc,ca,cc,ga,gc,aa,ac,oa,oc,rfl,h1,h2,h3,h4,h5,h6⟩:=Bl hin;simp only[Qy.formed,Ha,nodeQ,Bool.and_eq_true,Bool.or_eq_true,decide_eq_true_eq,List.all_eq_true]at hf;obtain⟨⟨⟨⟨⟨⟨⟨⟨⟨⟨⟨f1,f2⟩,f3⟩,f4⟩,f5⟩,f6⟩,f7⟩,f8⟩,f9⟩,f10⟩,f11⟩,f12⟩:=hf;have HA:Hid (∀W,Below w.heap.size w W->Calls prog 99 #[.slice aa aggs.length ac,.func (.func 96) #[] #[]] W (Says (.bool false) W)):=fun W hW=>by
  have:=Iw 96 Q (fun _=>false) aggs _ W Vv (h5.kept (by decide) hW) (by omega) (fun W2 a cs hW2 ha hin2=>N9 Q a cs W2 hin2 (by simpa using f11 a ha))
  rwa [Ps]at this
 have HS:Hid (∀W,Below w.heap.size w W->Calls prog 100 #[.slice sa subs.length sc,.func (.func 101) #[] #[]] W (Says (.bool false) W)):=fun W hW=>by
  have:=Iv 101 Q (fun _=>false) subs _ W Vu (h1.kept (by decide) hW) (by split at f9;omega;split at f9<;>omega) (fun W2 a cs hW2 ha hin2=>K5 Q a cs W2 hin2 (fun W3 hin3=>ih a ha cs W3 hin3 (f12 a ha)))
  rwa [Ps]at this
 have hz:k≠2->k≠4->xop=0/\xn=0/\xv=V.null/\xargs=[]:=fun k2 k4=>by
  have:(Xp.mk xop xn xv xargs).isZero=true:=by rcases f4 with(h|h)|h;exact absurd h k2;exact absurd h k4;exact h
  have:=Xp.isZero_eq this;simpa[Xp.zero]using this
 clear hin ih h1 h2 h3 h4 h5 h6 f11 f12;have hcase:(k=1\/k=3\/k=5\/k=6\/k=7\/k=8)\/k=2\/k=4:=by omega
 rcases hcase with hcase|rfl|rfl
 ·rcases hcase with rfl|rfl|rfl|rfl|rfl|rfl
  all_goals
   obtain⟨rfl,rfl,rfl,rfl⟩:=hz (by decide) (by decide)
   try(rcases f3 with h|rfl;exact absurd h (by decide))
   try(rcases f5 with h|h5;exact absurd h (by decide))
   try(rcases f6 with h|h6;exact absurd h (by decide))
   try(rcases f7 with h|h7;exact absurd h (by decide))
   try(rcases f8 with h|rfl;exact absurd h (by decide))
  ·rw[h5,h6.1];rw[h6.2]at HA ⊢;rw[h7];have e:subs.length=0:=by simpa using f9
   rw[e]at HS ⊢;exact Ut tab sa xa ca ga aa oa sc xc cc gc ac oc w HA HS
  ·rw[h6.1];rw[h6.2]at HA ⊢;rw[h7];have e:subs.length=1:=by simp at f9;omega
   rw[e]at HS ⊢;exact Ur cols.length sa xa ca ga aa oa sc xc cc gc ac oc w HA HS
  ·rw[h5,h7];have e:subs.length=1:=by simp at f9;omega
   rw[e]at HS ⊢;exact Up group.length aggs.length sa xa ca ga aa oa sc xc cc gc ac oc w HA HS
  ·rw[h5,h6.1];rw[h6.2]at HA ⊢;have e:subs.length=1:=by simp at f9;omega
   rw[e]at HS ⊢;exact Uo order.length sa xa ca ga aa oa sc xc cc gc ac oc w HA HS
  ·rw[h5,h6.1];rw[h6.2]at HA ⊢;rw[h7];have e:subs.length=1:=by simp at f9;omega
   rw[e]at HS ⊢;exact Un n sa xa ca ga aa oa sc xc cc gc ac oc w HA HS
  ·rw[h5,h6.1];rw[h6.2]at HA ⊢;rw[h7];have e:subs.length=1:=by simp at f9;omega
   rw[e]at HS ⊢;exact Um sa xa ca ga aa oa sc xc cc gc ac oc w HA HS
 ·rcases f3 with h|rfl
  exact absurd h (by decide);rcases f5 with h|h5
  exact absurd h (by decide);rcases f6 with h|h6
  exact absurd h (by decide);rcases f7 with h|h7
  exact absurd h (by decide);rcases f8 with h|rfl
  exact absurd h (by decide);rw[h5,h6.1];rw[h6.2]at HA ⊢;rw[h7];have e:subs.length=1:=by simp at f9;omega
  rw[e]at HS ⊢;exact Us xop xn xv xargs.length sa xa ca ga aa oa sc xc cc gc ac oc w HA HS
 ·rcases f3 with h|rfl
  exact absurd h (by decide);rcases f5 with h|h5
  exact absurd h (by decide);rcases f6 with h|h6
  exact absurd h (by decide);rcases f7 with h|h7
  exact absurd h (by decide);rcases f8 with h|rfl
  exact absurd h (by decide);rw[h5,h6.1];rw[h6.2]at HA ⊢;rw[h7];have e:subs.length=2:=by simp at f9;omega
  rw[e]at HS ⊢;exact Uq xop xn xv xargs.length sa xa ca ga aa oa sc xc cc gc ac oc w HA HS
end Go.Proofs.YtjmmbebkbkgefaaGreatDoor
namespace Go
open Go.Sort Go.RowKit Go.Proofs.YtjmmbebkbkgefaaGreatDoor
theorem G0 {P:Program} {ops:Array Oper} {rest:List Oper} {o:Oper} {a:Act} {Q:Exit->Act->World->Prop} {W:World} (hgd:o.guard=none) (s x:Operand) (t:TypeId)
 (ho:o.op=.call {callee:=.builtin .append,args:=#[s,x],argTypes:=#[t,t]})
 (e:TypeId) (z:Value) (size bytes:Nat) (ht:P.underlying t=some (.slice e)) (hinfo:(P.info? e).map (fun i=>(i.zero,i.size,i.bytes))=some (some z,size,bytes)) (hzs:z.cells.size=size) (hsz:0<size)
 (base:Nat) (v:Value) (n:Nat) (xs:List Value) (hs:a.eval s=v) (hown:W.ownsRow base e size v n xs)
 (xv:Value) (m:Nat) (news:List Value) (hx:a.eval x=xv) (hnm:NormS xv) (hsl:SlAt W xv m news) (hl:news.length=m * size) (h1:∀u∈news,u.oneCell'=true)
 (hbytes:(n+m) * bytes<=140737488355328) (h63:n+m<=maxLen) (hbase:base<=W.heap.size)
 (h:∀v' w',w'.ownsRow base e size v' (n+m) (xs++news)->W.grownBy w' v.ownBlock->wpList P ops Q rest (a.put o.dst v') w'):wpList P ops Q (o::rest) a W:=by
 obtain⟨i0,hi,hz0,hz1,hz2⟩:=info_parts hinfo
 obtain⟨ad,cap,rfl,hcap,hcells⟩:=hsl
 rcases hnm with⟨ad',n',cap',e1⟩|e1
 ·simp only[Value.slice.injEq]at e1;obtain⟨rfl,rfl,rfl⟩:=e1;refine wpList_append_own _ hgd s x t ho base e i0 z size bytes ht hi hz0 hz1 hz2 hzs hsz v n xs hs hown ad' m cap news hx hl (fun j u hu=>?_) h1 h63 hbytes hbase (fun v' w' h2 h3 _=>h v' w' h2 h3);have hm:0<m:=by
   rcases Nat.eq_zero_or_pos m with h0|h0
   ·subst h0;have:news=[]:=List.eq_nil_of_length_eq_zero (by simpa using hl);rw[this]at hu;cases hu
   ·exact h0
  obtain⟨b,o',e2,hat⟩:=hcells hm;simp only[Option.some.injEq]at e2;subst e2;rw[Pu];exact hat j u hu
 ·simp only[Value.slice.injEq]at e1;obtain⟨rfl,rfl,rfl⟩:=e1;have hn0:news=[]:=List.eq_nil_of_length_eq_zero (by simpa using hl);subst hn0;refine wpList_append_own_none hgd s x t ho base e i0 size ht hi v n xs hs hown hx ?_;have:=h v W (by simpa using hown) ⟨rfl,rfl,rfl,Nat.le_refl _,fun _ _ _=>rfl⟩;exact this
end Go
namespace Go.Proofs.YtjmmbebkbkgefaaGreatDoor
open Go.RowKit Go.Sort Go.Proofs.Tryz
theorem ch (Q:Nat->Prop) (qb:Nat) (tab:Bytes) (t:Tbl) (cs:List Value) (w:World) (h1:w.cell? ⟨qb,1,none⟩=some (.string ⟨tab.toArray⟩)) (hin:tblE.In Q w t cs):
 Calls prog 103 #[tblE.val cs,.pointer (some ⟨qb,0,none⟩)] w (Says (.bool (t.name==tab)) w):=by
 obtain⟨ca,cc,ia,ic,ka,kc,rfl,_⟩:=hin
 show Calls prog 103 #[.agg #[.string ⟨t.name.toArray⟩,.slice ca t.cols.length cc,.slice ia t.indexes.length ic,.slice ka t.checks.length kc],.pointer (some ⟨qb,0,none⟩)] w _
 have l1:=block_lt_of_cell h1
 go_enter func103,ntmps103
 go_wp2_with fail
 go_returns
 exact⟨rfl,(Below.refl _ _).alloc (Nat.le_refl _) _⟩
theorem ci (c:Int) (ib:Nat) (ga:Option Addr) (n cap:Nat) (w:World) (h:w.cell? ⟨ib,0,none⟩=some (.slice ga n cap)):
 Calls prog 102 #[.int .i64 c,.pointer (some ⟨ib,0,none⟩)] w (Says (.bool (decide (0<=c)&&decide (c<(n:Int)))) w):=by
 have l1:=block_lt_of_cell h
 obtain⟨y,hy⟩:∃y,(decide (0<=c)&&decide (c<(n:Int)))=y:=⟨_,rfl⟩
 rw[hy]
 have F:=func102
 have N:=ntmps102
 by_cases h0:0<=c
 ·by_cases h2:c<(n:Int)
  ·have HY:Hid (y=true):=by show _=_;rw[<- hy];simp[h0,h2]
   clear hy;exact G4
  ·have HY:Hid (y=false):=by show _=_;rw[<- hy];simp[h2]
   clear hy;exact G4
 ·have HY:Hid (y=false):=by show _=_;rw[<- hy];simp[h0]
  clear hy;exact G4
theorem V8:En 102:=enters_of func102 (by kernel_rfl) rfl
theorem Rq:∀args w,(callFunc 103 args).run prog w=.ok (.enter 103 args) w:=enters_of func103 (by kernel_rfl) rfl
theorem V6:En 108:=enters_of func108 (by kernel_rfl) rfl
theorem cg (o:Od) (tb ib:Nat) (ga:Option Addr) (n cap:Nat) (cs:List Value) (w:World) (h1:w.cell? ⟨tb,0,none⟩=some (.func (.func 102) #[] #[.pointer (some ⟨ib,0,none⟩)])) (h2:w.cell? ⟨ib,0,none⟩=some (.slice ga n cap)) (hin:cs=[.int .i64 o.col,.bool o.down]):
 Calls prog 108 #[odE.val cs,.pointer (some ⟨tb,0,none⟩)] w (Says (.bool (!(decide (0<=o.col)&&decide (o.col<(n:Int))))) w):=by
 subst hin
 show Calls prog 108 #[.agg #[.int .i64 o.col,.bool o.down],.pointer (some ⟨tb,0,none⟩)] w _
 have hb:Below w.heap.size w (w.alloc (.cells #[.int .i64 o.col,.bool o.down] 160)):=(Below.refl _ _).alloc (Nat.le_refl _) _
 have C:=Lib.hid (ci o.col ib ga n cap _ (hb.cell_kept h2))
 have he:=V8
 generalize (decide (0<=o.col)&&decide (o.col<(n:Int)))=y at *
 have l1:=block_lt_of_cell h1
 clear h2
 go_enter func108,ntmps108
 go_wp2_with fail
 refine Calls.mono C.out ?_
 rintro e w2 ⟨rfl,hb2⟩
 have HB:=Lib.hid (hb.step hb2)
 clear hb hb2 C h1
 go_wp2_with fail
 exact bodyPost_ret (v:=.bool (!y)) (by simp[results,results108,go_sem]) rfl ⟨rfl,HB.out⟩
theorem Em {α:Type} (p:α->Bool):∀(l:List α) (k:Nat),(idxFrom p k l= -1/\l.find? p=none)\/∃(j:Nat) (t:α),idxFrom p k l=((k+j:Nat):Int)/\l[j]?=some t/\l.find? p=some t
 | [],k=>.inl ⟨rfl,rfl⟩
 | a::l,k=>by
  by_cases h:p a=true
  ·refine .inr ⟨0,a,?_,rfl,by rw[List.find?_cons_of_pos h]⟩;unfold idxFrom;rw[if_pos h];rfl
  ·have e:idxFrom p k (a::l)=idxFrom p (k+1) l:=by
    conv=>lhs;unfold idxFrom
    rw[if_neg h]
   rw[e,List.find?_cons_of_neg h];rcases Em p l (k+1)with⟨h1,h2⟩|⟨j,t,h1,h2,h3⟩
   ·exact .inl ⟨h1,h2⟩
   ·exact .inr ⟨j+1,t,by rw[h1];congr 1;omega,by simpa using h2,h3⟩
structure ScEnd (w W:World) (q:Array Value) (oa:Option Addr) (oc:Nat) (ins:List Int):Prop where
 st:St w W [(w.heap.size+1,#[.slice oa ins.length oc],55),(w.heap.size,q,59)]
 row:W.ownsRow (w.heap.size+2) 3 1 (.slice oa ins.length oc) ins.length (intVals ins)
theorem ScEnd.kept {w W W':World} {q:Array Value} {oa:Option Addr} {oc:Nat} {ins:List Int} (h:ScEnd w W q oa oc ins) (hb:Below W.heap.size W W'):ScEnd w W' q oa oc ins:=⟨h.st.kept hb,h.row.later hb⟩
theorem ScEnd.rsl {w W:World} {q:Array Value} {oa:Option Addr} {oc:Nat} {ins:List Int} (h:ScEnd w W q oa oc ins):RSl intE (w.heap.size≤·) W (.slice oa ins.length oc) ins:=
 Bt (LRow.done (by decide) (⟨intVals ins,h.row,B0 ins⟩:LRow intE 3 (w.heap.size+2) W ins _)) (by decide) (fun b hb=>by have h:w.heap.size+2<=b:=hb;show w.heap.size<=b;omega)
theorem ScEnd.norm {w W:World} {q:Array Value} {oa:Option Addr} {oc:Nat} {ins:List Int} (h:ScEnd w W q oa oc ins):NormS (.slice oa ins.length oc):=I3 h.row
theorem O1 (l:List Int):∀u∈intVals l,u.oneCell'=true:=by
 intro u hu;obtain⟨n,_,rfl⟩:=List.mem_map.1 hu;rfl
end Go.Proofs.YtjmmbebkbkgefaaGreatDoor
namespace Go.Proofs.YtjmmbebkbkgefaaGreatDoor
open Go.RowKit Go.Sort Go.Proofs.Tryz
theorem Qf (Q R:Nat->Prop) (db:List Tbl) (hdb:db.length<=1000000) (hdc:∀t∈db,t.cols.length<=1000000):∀qq:Qy,QyFine db qq->∀(dv:Value) (qcs:List Value) (w:World),RSl tblE Q w dv db->QyIn R w qq qcs ->
 Calls prog 51 #[dv,.agg qcs.toArray] w (RetKs w (schemaY db qq)):=by
 refine Qy.ind fun k tab subs cond cols group aggs order n ih=>?_
 intro hfine dv qcs w hd hin
 obtain⟨xop,xn,xv,xargs⟩:=cond
 obtain⟨sa,sc,xa,xc,ca,cc,ga,gc,aa,ac,oa,oc,rfl,h1,h2,h3,h4,h5,h6⟩:=Bl hin
 obtain⟨hnode,hcond,hcols,haggs,hsum,hsubs⟩:=hfine
 obtain⟨da,dc,rfl⟩:=hd.slice
 have HD:=Lib.hid hd
 have HS:=Lib.hid h1
 have HX:=Lib.hid h2
 have HC:=Lib.hid h3
 have HGR:=Lib.hid h4
 have HAG:=Lib.hid h5
 have HOD:=Lib.hid h6
 have HN:=Lib.hid hnode
 have HCF:=Lib.hid hcond
 have HLF:=Lib.hid hcols
 have HAF:=Lib.hid haggs
 have IH:=Lib.hid (fun(x:Qy) (hm:x∈subs) (xcs:List Value) (W:World) (hb:Below w.heap.size w W) (hx:QyIn R W x xcs)=>ih x hm (E9 hsubs x hm) _ xcs W (hd.kept (by decide) hb) hx)
 obtain⟨tot,htot⟩:∃tot,schemaY db (.mk k tab subs (.mk xop xn xv xargs) cols group aggs order n)=tot:=⟨_,rfl⟩
 rw[htot]
 have HM0:Hid (tot=schJ db k tab (.mk xop xn xv xargs) cols group aggs order n (schemaYs db (subs.drop 0) [])):=by show _=_;rw[<- htot,Dg];rfl
 have hsl:subs.length<=2:=by
  have h:=hnode;unfold nodeQ at h;simp only[Bool.and_eq_true,decide_eq_true_eq]at h;have h9:=h.1.1.2;split at h9
  ·omega
  ·split at h9<;>omega
 clear ih hnode hcond hcols haggs hsubs hd hin h1 h2 h3 h4 h5 h6 htot
 show Calls prog 51 #[_,.agg #[.int .i64 k,.string ⟨tab.toArray⟩,.slice sa subs.length sc,.int .i64 xop,.int .i64 xn,.int .i64 xv.k,.int .i64 xv.n,.string xv.s,.slice xa xargs.length xc,.slice ca cols.length cc,.slice ga group.length gc,.slice aa aggs.length ac,.slice oa order.length oc,.int .i64 n]] w _
 go_enter func51,ntmps51
 go_upto_region 3 with fail
 refine St.gen (St.alloc (St.alloc (St.start _))) ?_
 intro w1 S1
 try(simp only[List.set_cons_zero,List.set_cons_succ,List.setIfInBounds_toArray,World.size_alloc]at S1)
 go_loopw [9,10,11,20] (fun _ _ _ iv wr=>∃(j:Nat) (acc:List Int) (fa:Option Addr) (fc:Nat),iv=.int .i64 j/\j<=subs.length/\Hid (acc.length=sumLen db (subs.take j))/\Hid (tot=schJ db k tab (.mk xop xn xv xargs) cols group aggs order n (schemaYs db (subs.drop j) acc))/\Hid (ScEnd w wr #[.int .i64 k,.string ⟨tab.toArray⟩,.slice sa subs.length sc,.int .i64 xop,.int .i64 xn,.int .i64 xv.k,.int .i64 xv.n,.string xv.s,.slice xa xargs.length xc,.slice ca cols.length cc,.slice ga group.length gc,.slice aa aggs.length ac,.slice oa order.length oc,.int .i64 n] fa fc acc)) (fun _ _ _ iv _=>subs.length - (intOf iv).toNat)
 case atStart=>exact⟨0,[],none,0,rfl,by omega,rfl,HM0.out,⟨S1.out,World.ownsRow_nil _ _ _ _⟩⟩
 case round=>
  clear HM0 S1;obtain⟨j,acc,fa,fc,rfl,hj,HL,HM,S2⟩:=hrel;have hacc:acc.length<=1000000:=by have h1:=HL.out;have h2:=Lj db subs j;omega
  by_cases hlt:j<subs.length
  ·obtain⟨x,hx⟩:∃x,subs[j]?=some x:=⟨subs[j],by simp[hlt]⟩;obtain⟨b,o,cap,cs,hbo,hin,hat⟩:=(HS.out.kept (by decide) S2.out.st.below).at hx;injection hbo with e1 _ e2;subst e1;subst e2;have hdr:subs.drop j=x::subs.drop (j+1):=by
    obtain⟨h1,rfl⟩:=List.getElem?_eq_some_iff.1 hx;exact List.drop_eq_getElem_cons h1
   have hm0:=HM.out;rw[hdr]at hm0;have HI:Hid (∀W,Below wr.heap.size wr W->Calls prog 51 #[.slice da db.length dc,.agg cs.toArray] W (RetKs W (schemaY db x))):=fun W hb=>IH.out x (List.mem_of_getElem? hx) cs W (S2.out.st.below.step hb) (qyE.move (fun b hl k=>⟨k,hb.block b hl⟩) hin);have HME:Hid ((schemaY db x).2≠0->tot=([],(schemaY db x).2)):=fun h=>by rw[hm0,Cx h];rfl
   have HMO:Hid ((schemaY db x).2=0->tot=schJ db k tab (.mk xop xn xv xargs) cols group aggs order n (schemaYs db (subs.drop (j+1)) (acc++(schemaY db x).1))):=fun h=>by rw[hm0,Dq h]
   have HTK:Hid (sumLen db (subs.take (j+1))=sumLen db (subs.take j)+(schemaY db x).1.length):=Nu hx;have hacc2:acc.length+(schemaY db x).1.length<=1000000:=by have h1:=HL.out;have h2:=Lj db subs (j+1);have h3:=HTK.out;omega
   generalize schemaY db x=rs at *;obtain⟨rk,re⟩:=rs;obtain⟨k1,tab1,subs1,⟨op1,xn1,v1,args1⟩,cols1,group1,aggs1,order1,n1⟩:=x;obtain⟨s2,sc2,x2,xc2,c2,cc2,g2,gc2,a2,ac2,o2,oc2,rfl,_⟩:=Bl (show QyIn R wr _ cs from hin);have y0:=hat 0 _ rfl;have y1:=hat 1 _ rfl;have y2:=hat 2 _ rfl;have y3:=hat 3 _ rfl;have y4:=hat 4 _ rfl;have y5:=hat 5 _ rfl;have y6:=hat 6 _ rfl;have y7:=hat 7 _ rfl;have y8:=hat 8 _ rfl;have y9:=hat 9 _ rfl;have y10:=hat 10 _ rfl;have y11:=hat 11 _ rfl;have y12:=hat 12 _ rfl;have y13:=hat 13 _ rfl;simp only[show qyE.k=14 from rfl,Nat.add_zero]at y0 y1 y2 y3 y4 y5 y6 y7 y8 y9 y10 y11 y12 y13;have hji:(j:Int)<(subs.length:Int):=by omega
   have hb3:Below wr.heap.size wr (wr.alloc (.cells #[.int .i64 k1,.string ⟨tab1.toArray⟩,.slice s2 subs1.length sc2,.int .i64 op1,.int .i64 xn1,.int .i64 v1.k,.int .i64 v1.n,.string v1.s,.slice x2 args1.length xc2,.slice c2 cols1.length cc2,.slice g2 group1.length gc2,.slice a2 aggs1.length ac2,.slice o2 order1.length oc2,.int .i64 n1] 59)):=(Below.refl _ _).alloc (Nat.le_refl _) _;clear hin hat hx hdr hm0 HM;go_wp2_with fail;refine Calls.mono (HI.out _ hb3) ?_;clear y0 y1 y2 y3 y4 y5 y6 y7 y8 y9 y10 y11 y12 y13 HI;rintro e w4 (⟨h0,v,rfl,hv,hnv,hb4⟩|⟨hre,rfl,hb4⟩)
   ·obtain rfl:re=0:=h0;have HT:=Lib.hid (HMO.out rfl);have S4:=Lib.hid (S2.out.kept (hb3.step hb4));obtain⟨va,vc,rfl⟩:=hv.slice;have HV:Hid (SlAt w4 (.slice va rk.length vc) rk.length (intVals rk)):=by
     obtain⟨acs,h1,h2⟩:=hv;have:=Fe h2;subst this;exact h1.slAt
    have HNV:=Lib.hid hnv;have hs4:=S4.out.st.below.size;have hsz4:w.heap.size+2<=w4.heap.size:=by have:=(Array.getElem?_eq_some_iff.1 (S4.out.st.blk 0 rfl)).1;omega
    have F4:=S4.out.st.facts;simp only[St.Facts,cellFacts,apartFacts,and_true]at F4;clear HME HMO hv hnv hb3 hb4 S2;go_wp2_with(at_builtin;go_must (refine G0 rfl (.tmp 33) (.tmp 34) 55 rfl 3 (.int .i64 0) 1 8 underlying55 B8 rfl (by decide) (w.heap.size+2) (.slice fa acc.length fc) acc.length (intVals acc) rfl S4.out.row (.slice va rk.length vc) rk.length (intVals rk) rfl HNV.out HV.out (by simp[intVals]) (O1 rk) (by omega) (by unfold maxLen;omega) hsz4 ?_));intro v' w7 hown hgr;have S7:Hid (St w w7 [(w.heap.size+1,#[.slice fa acc.length fc],55),(w.heap.size,#[.int .i64 k,.string ⟨tab.toArray⟩,.slice (some ⟨b,o,none⟩) subs.length sc,.int .i64 xop,.int .i64 xn,.int .i64 xv.k,.int .i64 xv.n,.string xv.s,.slice xa xargs.length xc,.slice ca cols.length cc,.slice ga group.length gc,.slice aa aggs.length ac,.slice oa order.length oc,.int .i64 n],59)]):=S4.out.st.turned (Turn.of_grown hgr) (fun i h=>by have:=(World.ownsRow.lt S4.out.row i h).1;omega) (fun x hx h=>by
     have h1:=(World.ownsRow.lt S4.out.row _ h).1;simp only[List.mem_cons,List.not_mem_nil,or_false]at hx;rcases hx with rfl|rfl
     all_goals(simp only at h1;omega))
    have HO7:Hid (w7.ownsRow (w.heap.size+2) 3 1 v' (acc++rk).length (intVals (acc++rk))):=by
     rw[List.length_append];unfold intVals at hown ⊢;rw[List.map_append];exact hown
    obtain⟨ga7,gc7,rfl⟩:∃a c,v'=.slice a (acc++rk).length c:=by
     obtain⟨a,c,e,_⟩:=HO7.out.slAt;exact⟨a,c,e⟩
    clear hown hgr S4 F4 HV HNV;have F7:=S7.out.facts;simp only[St.Facts,cellFacts,apartFacts,and_true]at F7;go_wp2_with fail;go_roundw
    case rel=>exact⟨j+1,acc++rk,ga7,gc7,by go_num,by omega,by show _=_;rw[List.length_append,HL.out,HTK.out],HT.out,⟨by show St _ _ _;rw[List.length_append];exact St.set 0 S7.out rfl,World.ownsRow.same HO7.out (fun g hg=>Below.heap_setCell _ _ _ _ (by have:=(World.ownsRow.lt HO7.out g hg).1;show g≠w.heap.size+1;omega))⟩⟩
    case measure=>simp[intOf];omega
   ·have hre2:re≠0:=hre;have S4:=Lib.hid (S2.out.st.kept (hb3.step hb4));have hb0:(re != (0:Int))=true:=by simpa using hre2
    obtain rfl:=HME.out hre;clear HME HMO hb3 hb4 S2;go_wp2_with fail;go_returns;exact .inr ⟨hre,rfl,S4.out.below⟩
  ·obtain rfl:j=subs.length:=by omega
   have hm0:=HM.out;rw[List.drop_length]at hm0;unfold schemaYs at hm0;have HT:Hid (tot=schN db k tab (.mk xop xn xv xargs) cols group aggs order n acc):=hm0;clear hm0 HM;have hmf:∀(fn:Fn) (first cap:Array Value) (w:World),(Instr.makeFunc fn first cap).run prog w=.ok (.func fn first cap) w:=fun _ _ _ _=>rfl;have hnode:=HN.out;unfold nodeQ at hnode;simp only[Bool.and_eq_true,Bool.or_eq_true,decide_eq_true_eq,List.all_eq_true]at hnode;obtain⟨⟨⟨⟨⟨⟨⟨⟨⟨⟨f1,f2⟩,f3⟩,f4⟩,f5⟩,f6⟩,f7⟩,f8⟩,f9⟩,f10⟩,f11⟩:=hnode;have hcl:cols.length<=1000000:=by omega
   have hgl:group.length<=1000000:=by omega
   have hal:aggs.length<=1000000:=by omega
   have hol:order.length<=1000000:=by omega
   clear f3 f4 f5 f6 f7 f8 f10 f11 HN IH;have F2:=S2.out.st.facts;simp only[St.Facts,cellFacts,apartFacts,and_true]at F2;go_upto_region 13 with fail;refine Af (fun W=>ScEnd w W #[.int .i64 k,.string ⟨tab.toArray⟩,.slice sa subs.length sc,.int .i64 xop,.int .i64 xn,.int .i64 xv.k,.int .i64 xv.n,.string xv.s,.slice xa xargs.length xc,.slice ca cols.length cc,.slice ga group.length gc,.slice aa aggs.length ac,.slice oa order.length oc,.int .i64 n] fa fc acc/\W.heap[wr.heap.size]?=some (.cells #[.func (.func 102) #[] #[.pointer (some ⟨w.heap.size+1,0,none⟩)]] 167 (0,0))) ⟨S2.out.kept ((Below.refl _ _).alloc (Nat.le_refl _) _),World.alloc_heap_new _ _⟩ ?_;clear S2 F2;rintro w3 ⟨S3',hcb⟩;have S3:=Lib.hid S3';have HCB:=Lib.hid hcb;clear S3' hcb;generalize wr.heap.size=cb at *;have F3:=S3.out.st.facts;simp only[St.Facts,cellFacts,apartFacts,and_true]at F3;have hcase:k=1\/k=2\/k=3\/k=4\/k=5\/k=6\/k=7\/k=8:=by omega
   rcases hcase with rfl|rfl|rfl|rfl|rfl|rfl|rfl|rfl
   ·have hs0:subs=[]:=List.eq_nil_of_length_eq_zero (by simpa using f9);subst hs0;obtain rfl:acc=[]:=List.eq_nil_of_length_eq_zero (by have:=HL.out;simpa[sumLen]using this);have HP:Hid (tot=match db.find? (fun t=>t.name==tab)with|none=>([],5)|some t=>([]++t.cols.map (·.kind),0)):=HT.out;have hq1:w3.cell? ⟨w.heap.size,1,none⟩=some (.string ⟨tab.toArray⟩):=(Aa (o:=1) (S3.out.st.blk 1 rfl) rfl).1;have CT:=Lib.hid (L6 103 w.heap.size Q (fun t=>t.name==tab) db _ w3 Rq (HD.out.kept (by decide) S3.out.st.below) (by omega) (fun W a cs hW ha hin2=>ch Q w.heap.size tab a cs W (hW.cell_kept hq1) hin2));clear HT hq1;rcases Em (fun t:Tbl=>t.name==tab) db 0 with⟨hi,hf⟩|⟨j,t,hi,hj,hf⟩
    ·rw[hi]at CT;obtain rfl:tot=([],5):=by rw[HP.out,hf]
     have hre:(5:Int)≠0:=by decide
     clear HP hi hf;go_wp2_with fail;refine Calls.mono CT.out ?_;rintro e w5 ⟨rfl,hb5⟩;have S5:=Lib.hid (S3.out.kept hb5);clear hb5 CT S3 F3;go_wp2_with fail;go_returns;exact .inr ⟨hre,rfl,S5.out.st.below⟩
    ·rw[hi,Nat.zero_add]at CT;have HP2:Hid (tot=([]++(t.cols.drop 0).map (·.kind),0)):=by show _=_;rw[HP.out,hf];rfl
     have hjl:j<db.length:=(List.getElem?_eq_some_iff.1 hj).1;have hji:(j:Int)<(db.length:Int):=by omega
     have htl:t.cols.length<=1000000:=hdc t (List.mem_of_getElem? hj);have HJ:=Lib.hid hj;clear HP hi hf hj;go_wp2_with fail;refine Calls.mono CT.out ?_;rintro e w5 ⟨rfl,hb5⟩;have S5:=Lib.hid (S3.out.kept hb5);clear hb5 CT S3 F3;obtain⟨b,o,cap,cs,hbo,hin,hat⟩:=HD.out.at HJ.out;injection hbo with e1 _ e2;subst e1;subst e2;obtain⟨c1,cc1,ia,ic,ka,kc,rfl,hcols⟩:=hin;have x1:=S5.out.st.below.cell_kept (hat 1 _ rfl);simp only[show tblE.k=4 from rfl]at x1;have HCO:=Lib.hid hcols;clear hat hcols HJ;go_upto_region 19 with fail;clear x1;go_loopw [7,16,54] (fun ov _ iv wr=>∃(j2:Nat) (ac2:List Int) (fa2:Option Addr) (fc2:Nat),ov=.slice fa2 ac2.length fc2/\iv=.int .i64 j2/\j2<=t.cols.length/\Hid (ac2.length=j2)/\Hid (tot=(ac2++(t.cols.drop j2).map (·.kind),0))/\Hid (wr.ownsRow (w.heap.size+2) 3 1 (.slice fa2 ac2.length fc2) ac2.length (intVals ac2))/\Hid (Below w5.heap.size w5 w5/\w.heap.size+2<=wr.heap.size)/\Hid (St w wr [])) (fun _ _ iv _=>t.cols.length - (intOf iv).toNat)
     case atStart=>exact⟨0,[],fa,fc,rfl,rfl,by omega,rfl,HP2.out,S5.out.row,⟨Below.refl _ _,by have:=(Array.getElem?_eq_some_iff.1 (S5.out.st.blk 0 rfl)).1;omega⟩,St.sub S5.out.st (List.nil_sublist _)⟩
     case round=>
      clear HP2 S5;obtain⟨j2,ac2,fa2,fc2,rfl,rfl,hj2,HL2,HT,HO,hsw,S6⟩:=hrel;have hac2:ac2.length<=1000000:=by have:=HL2.out;omega
      by_cases hlt2:j2<t.cols.length
      ·obtain⟨c,hx⟩:∃x,t.cols[j2]?=some x:=⟨t.cols[j2],by simp[hlt2]⟩;obtain⟨b2,o2,cap2,cs2,hbo2,hin2,hat2⟩:=(HCO.out.kept (by decide) S6.out.below).at hx;injection hbo2 with e1 _ e2;subst e1;subst e2;have hin3:cs2=c.cells:=hin2;subst hin3;have y0:=hat2 0 _ rfl;have y1:=hat2 1 _ rfl;have y2:=hat2 2 _ rfl;simp only[show colE.k=3 from rfl,Nat.add_zero]at y0 y1 y2;have hdr2:t.cols.drop j2=c::t.cols.drop (j2+1):=by
        obtain⟨h1,rfl⟩:=List.getElem?_eq_some_iff.1 hx;exact List.drop_eq_getElem_cons h1
       have HT2:Hid (tot=((ac2++[c.kind])++(t.cols.drop (j2+1)).map (·.kind),0)):=by show _=_;rw[HT.out,hdr2];simp
       have hj2i:(j2:Int)<(t.cols.length:Int):=by omega
       have hs6:=S6.out.below.size;have hsw2:=hsw.out.2;have hb6:Below wr.heap.size wr (wr.alloc (.cells #[.string ⟨c.name.toArray⟩,.int .i64 c.kind,.bool c.null] 38)):=(Below.refl _ _).alloc (Nat.le_refl _) _;have hszw:w.heap.size+2<=((wr.alloc (.cells #[.string ⟨c.name.toArray⟩,.int .i64 c.kind,.bool c.null] 38)).alloc (.cells #[.int .i64 c.kind] 3)).heap.size:=by rw[World.size_alloc,World.size_alloc];omega
       have hfr:SlAt ((wr.alloc (.cells #[.string ⟨c.name.toArray⟩,.int .i64 c.kind,.bool c.null] 38)).alloc (.cells #[.int .i64 c.kind] 3)) (.slice (some ⟨wr.heap.size+1,0,none⟩) 1 1) 1 [.int .i64 c.kind]:=by
        have:=Bq (W:=wr.alloc (.cells #[.string ⟨c.name.toArray⟩,.int .i64 c.kind,.bool c.null] 38)) (cs:=#[.int .i64 c.kind]) (t:=3) (n:=1) (cap:=1) (by decide)
        rwa [World.size_alloc]at this
       have HFR:=Lib.hid hfr;clear hat2 hin2 hdr2 HT hfr;go_wp2_with(refine Ah rfl (.tmp 58) (.tmp 61) 55 rfl 3 (.int .i64 0) 1 8 underlying55 B8 rfl (by decide) (w.heap.size+2) _ ac2.length (intVals ac2) rfl ((HO.out.later hb6).later ((Below.refl _ _).alloc (Nat.le_refl _) _)) _ 1 [.int .i64 c.kind] rfl (by decide) HFR.out rfl (by simp[Value.oneCell']) (by omega) (by unfold maxLen;omega) hszw ?_;intro v' w7 hown hgr hblk hsl;obtain⟨g,cp,rfl⟩:=hsl);have S7:Hid (St w w7 []):=(St.laid (S6.out.kept hb6)).turned (Turn.of_grown hgr) (fun i h=>by have:=(World.ownsRow.lt HO.out i h).1;omega) (fun x hx h=>by simp at hx);have HO7:Hid (w7.ownsRow (w.heap.size+2) 3 1 (.slice (some ⟨g,0,none⟩) (ac2++[c.kind]).length cp) (ac2++[c.kind]).length (intVals (ac2++[c.kind]))):=by
        rw[List.length_append];unfold intVals at hown ⊢;rw[List.map_append];exact hown
       have hsw7:Hid (Below w5.heap.size w5 w5/\w.heap.size+2<=w7.heap.size):=⟨Below.refl _ _,by have:=(Turn.of_grown hgr).size;simp only[World.size_alloc]at this;omega⟩;clear hown hgr hblk hszw S6 HO hsw y0 y1 y2 hb6;go_wp2_with fail;go_roundw
       case rel=>exact⟨j2+1,ac2++[c.kind],some ⟨g,0,none⟩,cp,by simp,by go_num,by omega,by show _=_;rw[List.length_append,HL2.out];rfl,HT2.out,HO7.out,hsw7.out,S7.out⟩
       case measure=>simp[intOf];omega
      ·obtain rfl:j2=t.cols.length:=by omega
       have ht0:=HT.out;rw[List.drop_length]at ht0;simp only[List.map_nil,List.append_nil]at ht0;subst ht0;clear HT;go_wp2_with fail;go_returns;exact .inl ⟨rfl,_,rfl,Bt (LRow.done (by decide) (⟨intVals ac2,HO.out,B0 ac2⟩:LRow intE 3 (w.heap.size+2) wr ac2 _)) (by decide) (fun b hb=>by have h:w.heap.size+2<=b:=hb;show w.heap.size<=b;omega),I3 HO.out,S6.out.below⟩
   ·have HC2:Hid (tot=condN acc (.mk xop xn xv xargs)):=HT.out;have CT:=Lib.hid (J0 (w.heap.size≤·) R acc _ (.mk xop xn xv xargs) (HCF.out (.inl rfl)) [.int .i64 xop,.int .i64 xn,.int .i64 xv.k,.int .i64 xv.n,.string xv.s,.slice xa xargs.length xc] w3 S3.out.rsl hacc (Ai.2 ⟨_,rfl,HX.out.kept (by decide) S3.out.st.below⟩));unfold condN at HC2;generalize truthX acc (.mk xop xn xv xargs)=te at *;clear HT;go_wp2_with fail;refine Calls.mono CT.out ?_;rintro e w5 ⟨rfl,hb5⟩;have S5:=Lib.hid (S3.out.kept hb5);clear hb5 CT S3 F3;by_cases hre:te=0
    ·subst hre;obtain rfl:tot=(acc,0):=HC2.out;go_wp2_with fail;go_returns;exact .inl ⟨rfl,_,rfl,S5.out.rsl,S5.out.norm,S5.out.st.below⟩
    ·have hb0:(te != (0:Int))=true:=by simpa using hre
     obtain rfl:tot=([],te):=HC2.out.trans (if_pos hre);go_wp2_with fail;go_returns;exact .inr ⟨hre,rfl,S5.out.st.below⟩
   ·have HP:Hid (tot=projectsR checkX acc cols):=HT.out;have CT:=Lib.hid (Mv (w.heap.size≤·) R acc cols _ _ w3 S3.out.rsl (HC.out.kept (by decide) S3.out.st.below) hacc hcl HLF.out);rw[<- HP.out]at CT;clear HT HP;go_wp2_with fail;refine Calls.mono CT.out ?_;rintro e w5 (⟨h0,v,rfl,hv,hnv,hb5⟩|⟨hre,rfl,hb5⟩)
    ·obtain⟨tl,te⟩:=tot;obtain rfl:te=0:=h0;have S5:=Lib.hid (S3.out.kept hb5);have HV:=Lib.hid (Bt (R:=(w.heap.size≤·)) hv (by decide) (fun b hb=>Nat.le_trans S3.out.st.below.size hb));have HNV:=Lib.hid hnv;clear hv hnv hb5 CT S3 F3;go_wp2_with fail;go_returns;exact .inl ⟨rfl,_,rfl,HV.out,HNV.out,S5.out.st.below⟩
    ·obtain⟨tl,te⟩:=tot;have hre2:te≠0:=hre;have hb0:(te != (0:Int))=true:=by simpa using hre2
     have S5:=Lib.hid (S3.out.kept hb5);clear hb5 CT S3 F3;go_wp2_with fail;go_returns;exact .inr ⟨hre,rfl,S5.out.st.below⟩
   ·by_cases h32:acc.length<=32
    ·have HC2:Hid (tot=condN acc (.mk xop xn xv xargs)):=HT.out.trans (if_pos h32);have CT:=Lib.hid (J0 (w.heap.size≤·) R acc _ (.mk xop xn xv xargs) (HCF.out (.inr rfl)) [.int .i64 xop,.int .i64 xn,.int .i64 xv.k,.int .i64 xv.n,.string xv.s,.slice xa xargs.length xc] w3 S3.out.rsl hacc (Ai.2 ⟨_,rfl,HX.out.kept (by decide) S3.out.st.below⟩));unfold condN at HC2;generalize truthX acc (.mk xop xn xv xargs)=te at *;have h32i:(acc.length:Int)<=32:=by omega
     clear HT;go_wp2_with fail;refine Calls.mono CT.out ?_;rintro e w5 ⟨rfl,hb5⟩;have S5:=Lib.hid (S3.out.kept hb5);clear hb5 CT S3 F3;by_cases hre:te=0
     ·subst hre;obtain rfl:tot=(acc,0):=HC2.out;go_wp2_with fail;go_returns;exact .inl ⟨rfl,_,rfl,S5.out.rsl,S5.out.norm,S5.out.st.below⟩
     ·have hb0:(te != (0:Int))=true:=by simpa using hre
      obtain rfl:tot=([],te):=HC2.out.trans (if_pos hre);go_wp2_with fail;go_returns;exact .inr ⟨hre,rfl,S5.out.st.below⟩
    ·have h32i:¬(acc.length:Int)<=32:=by omega
     obtain rfl:tot=([],2):=HT.out.trans (if_neg h32);have hre:(2:Int)≠0:=by decide
     go_wp2_with fail;go_returns;exact .inr ⟨hre,rfl,S3.out.st.below⟩
   ·have HP:Hid (tot=groupsR checkX acc group aggs):=HT.out;have CT:=Lib.hid (Rk (w.heap.size≤·) R acc group aggs (.slice fa acc.length fc) 5 tab sa subs.length sc xop xn xv xa xargs.length xc ca cols.length cc ga gc aa ac oa order.length oc n w3 S3.out.rsl hacc (HGR.out.kept (by decide) S3.out.st.below) (HAG.out.kept (by decide) S3.out.st.below) hgl hal HAF.out);rw[<- HP.out]at CT;clear HT HP;go_wp2_with fail;refine Calls.mono CT.out ?_;rintro e w5 (⟨h0,v,rfl,hv,hnv,hb5⟩|⟨hre,rfl,hb5⟩)
    ·obtain⟨tl,te⟩:=tot;obtain rfl:te=0:=h0;have S5:=Lib.hid (S3.out.kept hb5);have HV:=Lib.hid (Bt (R:=(w.heap.size≤·)) hv (by decide) (fun b hb=>Nat.le_trans S3.out.st.below.size hb));have HNV:=Lib.hid hnv;clear hv hnv hb5 CT S3 F3;go_wp2_with fail;go_returns;exact .inl ⟨rfl,_,rfl,HV.out,HNV.out,S5.out.st.below⟩
    ·obtain⟨tl,te⟩:=tot;have hre2:te≠0:=hre;have hb0:(te != (0:Int))=true:=by simpa using hre2
     have S5:=Lib.hid (S3.out.kept hb5);clear hb5 CT S3 F3;go_wp2_with fail;go_returns;exact .inr ⟨hre,rfl,S5.out.st.below⟩
   ·have HP:Hid (tot=orderN acc order):=HT.out;clear HT;by_cases h0:order.length=0
    ·have h0i:((order.length:Int)==(0:Int))=true:=by rw[h0];rfl
     obtain rfl:tot=([],1):=HP.out.trans (if_pos (.inl h0));have hre:(1:Int)≠0:=by decide
     go_wp2_with fail;go_returns;exact .inr ⟨hre,rfl,S3.out.st.below⟩
    ·have h0i:((order.length:Int)==(0:Int))=false:=by rw[beq_eq_false_iff_ne];omega
     have hc0:w3.cell? ⟨cb,0,none⟩=some (.func (.func 102) #[] #[.pointer (some ⟨w.heap.size+1,0,none⟩)]):=by have:=HCB.out;simp only[World.cell?,this];rfl
     have hi0:w3.cell? ⟨w.heap.size+1,0,none⟩=some (.slice fa acc.length fc):=(Aa (o:=0) (S3.out.st.blk 0 rfl) rfl).1;have CT:=Lib.hid (Iu 108 cb R (fun o=>!(decide (0<=o.col)&&decide (o.col<(acc.length:Int)))) order _ w3 V6 (HOD.out.kept (by decide) S3.out.st.below) (by omega) (fun W a cs hW ha hin2=>cg a cb (w.heap.size+1) fa acc.length fc cs W (hW.cell_kept hc0) (hW.cell_kept hi0) hin2));clear hc0 hi0
     cases hany:(order.any fun o=>!(decide (0<=o.col)&&decide (o.col<(acc.length:Int))))with
     | true=>
      rw[hany]at CT;obtain rfl:tot=([],1):=HP.out.trans (if_pos (.inr hany));have hre:(1:Int)≠0:=by decide
      clear hany HP;go_wp2_with fail;refine Calls.mono CT.out ?_;rintro e w5 ⟨rfl,hb5⟩;have S5:=Lib.hid (S3.out.kept hb5);clear hb5 CT S3 F3;go_wp2_with fail;go_returns;exact .inr ⟨hre,rfl,S5.out.st.below⟩
     | false=>
      rw[hany]at CT;obtain rfl:tot=(acc,0):=HP.out.trans (if_neg (fun h=>by rcases h with h|h;exact h0 h;rw[hany]at h;cases h));clear hany HP;go_wp2_with fail;refine Calls.mono CT.out ?_;rintro e w5 ⟨rfl,hb5⟩;have S5:=Lib.hid (S3.out.kept hb5);clear hb5 CT S3 F3;go_wp2_with fail;go_returns;exact .inl ⟨rfl,_,rfl,S5.out.rsl,S5.out.norm,S5.out.st.below⟩
   ·by_cases hn:n<0
    ·obtain rfl:tot=([],1):=HT.out.trans (if_pos hn);have hre:(1:Int)≠0:=by decide
     go_wp2_with fail;go_returns;exact .inr ⟨hre,rfl,S3.out.st.below⟩
    ·obtain rfl:tot=(acc,0):=HT.out.trans (if_neg hn);go_wp2_with fail;go_returns;exact .inl ⟨rfl,_,rfl,S3.out.rsl,S3.out.norm,S3.out.st.below⟩
   ·obtain rfl:tot=(acc,0):=HT.out;go_wp2_with fail;go_returns;exact .inl ⟨rfl,_,rfl,S3.out.rsl,S3.out.norm,S3.out.st.below⟩
def schemaQ (db:List Tbl) (q:Qy):List Int×Int:=if 40<nodesQ q then([],2)else schemaY db q
theorem K4 (db:List Tbl):∀q:Qy,QyFine db q->q.formed=true:=by
 refine Qy.ind fun k tab subs cond cols group aggs order n ih=>?_;intro h;obtain⟨h1,_,_,_,_,h2⟩:=h;unfold Qy.formed;rw[Bool.and_eq_true,Ha,List.all_eq_true];exact⟨h1,fun a ha=>ih a ha (E9 h2 a ha)⟩
theorem Hx (Q R:Nat->Prop) (db:List Tbl) (hdb:db.length<=1000000) (hdc:∀t∈db,t.cols.length<=1000000) (qq:Qy) (hf:QyFine db qq) (hn:nodesQ qq<=1000000000) (dv:Value) (qcs:List Value) (w:World) (hd:RSl tblE Q w dv db) (hin:QyIn R w qq qcs):
 Calls prog 14 #[dv,.agg qcs.toArray] w (RetKs w (schemaQ db qq)):=by
 have C1:=Lib.hid (fun W (hb:Below w.heap.size w W)=>Ul R qq qcs W (Ax (fun b hl k=>⟨k,hb.block b hl⟩) _ _ hin) hn)
 have C2:=Lib.hid (fun W (hb:Below w.heap.size w W)=>N6 R qq qcs W (Ax (fun b hl k=>⟨k,hb.block b hl⟩) _ _ hin) (K4 db qq hf))
 have C3:=Lib.hid (fun W (hb:Below w.heap.size w W)=>Qf Q R db hdb hdc qq hf dv qcs W (hd.kept (by decide) hb) (Ax (fun b hl k=>⟨k,hb.block b hl⟩) _ _ hin))
 obtain⟨tot,htot⟩:∃tot,schemaQ db qq=tot:=⟨_,rfl⟩
 have HT:Hid (tot=if 40<nodesQ qq then([],2)else schemaY db qq):=by show _=_;rw[<- htot];rfl
 rw[htot]
 obtain⟨da,dc,rfl⟩:=hd.slice
 generalize schemaY db qq=rs at *
 generalize nodesQ qq=nq at *
 obtain⟨k1,tab1,subs1,⟨op1,xn1,v1,args1⟩,cols1,group1,aggs1,order1,n1⟩:=qq
 obtain⟨s2,sc2,x2,xc2,c2,cc2,g2,gc2,a2,ac2,o2,oc2,rfl,_⟩:=Bl hin
 clear hd hin hf htot
 go_enter func14,ntmps14
 go_upto_region 1 with fail
 refine St.gen (St.alloc (St.start _)) ?_
 intro w1 S1
 try(simp only[List.set_cons_zero,List.set_cons_succ,List.setIfInBounds_toArray,World.size_alloc]at S1)
 have F1:=S1.out.facts
 simp only[St.Facts,cellFacts,apartFacts,and_true]at F1
 go_wp2_with fail
 refine Calls.mono (C1.out _ S1.out.below) ?_
 rintro e w2 ⟨rfl,hb2⟩
 have S2:=Lib.hid (S1.out.kept hb2)
 clear hb2 F1 S1 C1
 have F2:=S2.out.facts
 simp only[St.Facts,cellFacts,apartFacts,and_true]at F2
 by_cases h40:40<nq
 ·have h40i:(40:Int)<(nq:Int):=by omega
  obtain rfl:tot=([],2):=HT.out.trans (if_pos h40);go_wp2_with fail;go_returns;exact .inr ⟨by decide,rfl,S2.out.below⟩
 ·have h40i:¬(40:Int)<(nq:Int):=by omega
  obtain rfl:tot=rs:=HT.out.trans (if_neg h40);go_wp2_with fail;refine Calls.mono (C2.out _ S2.out.below) ?_;rintro e w3 ⟨rfl,hb3⟩;have S3:=Lib.hid (S2.out.kept hb3);clear hb3 F2 S2 C2;have F3:=S3.out.facts;simp only[St.Facts,cellFacts,apartFacts,and_true]at F3;go_wp2_with fail;refine Calls.mono (C3.out _ S3.out.below) ?_;rintro e w4 (⟨h0,v,rfl,hv,hnv,hb4⟩|⟨hre,rfl,hb4⟩)
  ·have S4:=Lib.hid (S3.out.kept hb4);have HV:=Lib.hid (Bt (R:=(w.heap.size≤·)) hv (by decide) (fun b hb=>Nat.le_trans S3.out.below.size hb));have HNV:=Lib.hid hnv;have H0:=Lib.hid h0;clear hv hnv hb4 S3 F3 C3 h0;go_wp2_with fail;go_returns;exact .inl ⟨H0.out,_,rfl,HV.out,HNV.out,S4.out.below⟩
  ·have S4:=Lib.hid (S3.out.kept hb4);clear hb4 S3 F3 C3;go_wp2_with fail;go_returns;exact .inr ⟨hre,rfl,S4.out.below⟩
end Go.Proofs.YtjmmbebkbkgefaaGreatDoor
