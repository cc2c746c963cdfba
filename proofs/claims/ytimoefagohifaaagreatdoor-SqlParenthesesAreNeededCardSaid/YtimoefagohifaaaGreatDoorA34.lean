/- Laws that the last part needs. No condition. -/
import Derived.Test.YtimoefagohifaaaGreatDoorA28
import Derived.Test.YtimoefagohifaaaGreatDoorA33
set_option maxHeartbeats 8000000
set_option maxRecDepth 100000
namespace Go.Proofs.YtimoefagohifaaaGreatDoor
open Go.RowKit Go.Sort Tryz
section
variable {base wb:Nat} {w0 w w' w2:World} {L:List Blk} {xs ys zs:List Bytes}
theorem X1 {α:Type} (f:α->List Bytes) {l:List α} {k:Nat} {a:α} (h:l[k]?=some a):(l.take (k+1)).flatMap f=(l.take k).flatMap f++f a:=by
 obtain⟨hk,rfl⟩:=uu.1 h;rw[yd hk,abq];simp
theorem ju {α:Type} (f:α->List Bytes) (l:List α) (k:Nat):((l.take k).flatMap f).length<=(l.flatMap f).length:=ahz
theorem WFr.only (h:WFr base wb w0 w L xs) {x:Blk} (hx:x∈L):WFr base wb w0 w [x] xs:=
 ⟨h.wr,⟨h.st.turn,fun y hy=>by simp only[vh]at hy;subst hy;exact h.st.own y hx,by simp⟩,fun y hy=>by simp only[vh]at hy;subst hy;exact h.ge y hx,fun y hy=>by simp only[vh]at hy;subst hy;exact h.apart y hx⟩
theorem Nc {t:Tbl} (h:t.tabled=true):t.cols.length<=8/\(∀c∈t.cols,c.kinded=true)/\t.checks.length<=4/\∀x∈t.checks,0<=x.col/\x.col<(t.cols.length:Int)/\x.val.right=true:=by
 unfold Tbl.tabled allR at h;simp only[tr,uk,vg]at h;refine⟨by omega,h.1.2.2,by omega,fun x hx=>?_⟩;have:=h.2.2 x hx;simp only[Chk.okIn,tr,uk]at this;exact⟨this.1.1.1.1.1,this.1.1.1.1.2,this.1.2⟩
theorem Rt (t:Tbl) (v:Value) (ht:t.tabled=true) (w:World) (hv:RTblI (·<base) w t v) (h:Wrt base w wb xs) (he:Env base w) (hn:xs.length+(tblP t).length+10<=1000000000):Calls prog 23 #[.pointer (some ⟨wb,0,none⟩),v] w (Puts base wb w (xs++tblP t)):=by
 have hP:Hid (tblP t=[t.name,[40]]++eachP colP t.cols++t.checks.flatMap (chkP t.cols)++[[41]]):=rfl;rw[hP.out]at hn ⊢;simp only[ua,tw,tx]at hn;have hf:=Nc ht;obtain⟨ca,cc,ia,ic,ka,kc,rfl,hc,hk⟩:=hv;refine z277 ?_;intro H HE;have HC:=tm hc;have HK:=tm hk;have HF:=tm hf;have HN:=tm hn;have S:Hid (WFr base wb w (w.alloc (.cells #[.string (Y t.name),.slice ca t.cols.length cc,.slice ia t.indexes.length ic,.slice ka t.checks.length kc] 35)) [(w.heap.size,#[.string (Y t.name),.slice ca t.cols.length cc,.slice ia t.indexes.length ic,.slice ka t.checks.length kc],35)] xs):=WFr.alloc (WFr.start h);refine z125 ?_;intro hmf;clear h he hc hk hP hf ht;generalize t.name=tn at *;generalize t.indexes.length=n2 at *;generalize t.cols=cols at *;generalize t.checks=checks at *;go_enter func23,ntmps23;go_wp2_with fail;have Sc:Hid (WFr base wb w _ _ xs):=WFr.alloc S.out (cs:=#[.string (Y tn),.string ⟨#[40]⟩]) (t:=9);simp only[ug]at Sc;refine Sc.out.call (put_any [tn,[40]] _ _ Sc.out.wrt (Sc.out.env H.out HE.out).hi (slAt_parts (Sc.out.blk 0 rfl) rfl rfl acy) acx (by simp;omega)) ?_;clear S;intro w2 S;replace S:=tm S.out.tail;refine z1076 ?_;intro F;clear Sc;go_wp2_with fail;refine S.out.call (each88_any colP cols _ w2 (rSl_move acy (fun b hb hq=>⟨hq,(S.out.old H.out).block b hb acw⟩) HC.out) S.out.wrt (S.out.env H.out HE.out) (by have:=HF.out.1;omega) (by simp;omega) (fun W zs a cs ha hin hw hE hl=>by
  have e:cs=a.cells:=hin;subst e;exact Jm a (HF.out.2.1 a ha) W hw hE hl)) ?_
 clear S;intro w3 S;clear F;refine z1076 ?_;intro F;go_wp2_with fail;clear F;go_loopw [5,6,7,22] (fun _ _ _ i wr=>∃k:Nat,k<=checks.length/\i=U k/\Hid (WFr base wb w wr [(w.heap.size,#[.string (Y tn),.slice ca cols.length cc,.slice ia n2 ic,.slice ka checks.length kc],35)] (xs++[tn,[40]]++eachP colP cols++(checks.take k).flatMap (chkP cols)))) (fun _ _ _ i _=>checks.length - (intOf i).toNat)
 case atStart=>exact⟨0,by omega,rfl,by show WFr _ _ _ _ _ _;simpa using S.out⟩
 case round=>
  obtain⟨k,hk,rfl,S⟩:=hrel;have hck:=HF.out.2.2.1;refine z1076 ?_;intro F;by_cases hlt:k<checks.length
  ·obtain⟨a,hx⟩:∃x,checks[k]?=some x:=⟨checks[k],by simp[hlt]⟩;have hv1:RSl chkE (·<base) wr (.slice ka checks.length kc) checks:=rSl_move acy (fun b hb hq=>⟨hq,(S.out.old H.out).block b hb acw⟩) HK.out;have hc1:RSl colE (·<base) wr (.slice ca cols.length cc) cols:=rSl_move acy (fun b hb hq=>⟨hq,(S.out.old H.out).block b hb acw⟩) HC.out;obtain⟨b,o,cap,cs,hbo,hin,hat⟩:=hv1.at hx;injection hbo with e1 e3 e2;subst e1;subst e2;have hst:=X1 (chkP cols) hx;have hle:=ju (chkP cols) checks (k+1);rw[hst]at hle;simp only[ua]at hle;have HST:=tm hst;have hn2:=HN.out;have hok:=HF.out.2.2.2 a (uq hx);have e:cs=chkCells a:=hin;subst e;obtain⟨col,op,vv⟩:=a;simp only at hok;obtain⟨kc',rfl⟩:∃kc':Nat,col=(kc':Int):=⟨col.toNat,by omega⟩;have hkc:kc'<cols.length:=acw;obtain⟨cl,hcl⟩:∃c,cols[kc']?=some c:=⟨cols[kc'],by simp[hkc]⟩;have hnm:(cols.map (·.name)).getD (kc':Int).toNat []=cl.name:=by simp[List.getD,hcl]
   have hch:chkP cols ⟨(kc':Int),op,vv⟩=[[44],[99,104,101,99,107],[40],cl.name,signP op]++pVal vv++[[41]]:=by unfold chkP;rw[hnm]
   rw[hch]at HST hle;simp only[ua,tw,tx]at hle;have x0:=hat 0 _ rfl;have x1:=hat 1 _ rfl;have x2:=hat 2 _ rfl;have x3:=hat 3 _ rfl;have x4:=hat 4 _ rfl;simp only[show chkE.k=5 from rfl,u0]at x0 x1 x2 x3 x4;have hcols:∃b o cap,(Value.slice ca cols.length cc)=.slice (some ⟨b,o,none⟩) cols.length cap/\wr.cell? ⟨b,o+3 * kc',none⟩=some (.string (Y cl.name)):=by
    obtain⟨a',cap',e,hcap,hcells⟩:=Pa hc1;obtain⟨b',o',e2,hat'⟩:=hcells acw;exact⟨b',o',cap',by rw[e,e2],(Fs hat' hcl).1⟩
   obtain⟨b2,o2,cap2,ecol,z⟩:=hcols;injection ecol with e5 e6 e7;subst e5;subst e7;clear e3 e6;have hkm:kc' * 3=3 * kc':=acw;have HZ:=tm z;have HOK:=tm hok;clear hx hat hv1 hc1 hin hnm hch hcl hst hok z;generalize cl.name=cn at *;obtain⟨pv,hpv⟩:∃pv,pVal vv=pv:=⟨_,rfl⟩;have HPV:=tm hpv;have Sh:WFr base wb w (wr.alloc (.cells #[U (kc':Int),U op,U vv.k,U vv.n,.string vv.s] 151)) [(wr.heap.size,#[U (kc':Int),U op,U vv.k,U vv.n,.string vv.s],151),(w.heap.size,#[.string (Y tn),.slice (some ⟨b2,o2,none⟩) cols.length cc,.slice ia n2 ic,.slice (some ⟨b,o,none⟩) checks.length kc],35)] (xs++[tn,[40]]++eachP colP cols++(checks.take k).flatMap (chkP cols)):=WFr.alloc S.out;replace S:=tm Sh;clear Sh;rw[hpv]at HST hle;have hpl:pv.length<=2:=by
    rw[<- hpv];unfold pVal pNum;by_cases h1:vv.k=1
    ·rw[if_pos h1];by_cases h2:vv.n<0
     ·rw[if_pos h2];simp
     ·rw[if_neg h2];simp
    ·rw[if_neg h1];simp
   generalize hyk:xs++[tn,[40]]++eachP colP cols++(checks.take k).flatMap (chkP cols)=yk at *;have hyl:yk.length=xs.length+2+(eachP colP cols).length+((checks.take k).flatMap (chkP cols)).length:=by rw[<- hyk];simp only[ua,tw,tx]
   have CS:=tm (fun W (h:Env base W)=>Hm op W h);generalize hsg:signP op=sg at *;generalize levP op=lv at *;clear hpv;go_wp2_with fail;refine tp (CS.out _ (S.out.env H.out HE.out)) ?_;rintro e w6 ⟨rfl,hb6⟩;replace S:=tm (S.out.kept hb6);have z:w6.cell? ⟨b2,o2+3 * kc',none⟩=some (.string (Y cn)):=hb6.cell_kept (((uj _ _).alloc (tu _) _:Below wr.heap.size wr _).cell_kept HZ.out);clear hb6 CS F x0 x1 x2 x3 x4 HZ;refine z1076 ?_;intro F;go_wp2_with fail;refine(WFr.alloc S.out).call (put_any [[44],[99,104,101,99,107],[40],cn,sg] _ _ (WFr.alloc S.out).wrt ((WFr.alloc S.out).env H.out HE.out).hi (slAt_parts ((WFr.alloc S.out).blk 0 rfl) rfl rfl acy) acx (by simp only[tw,tx];omega)) ?_;clear S;intro w7 S;replace S:=tm S.out.tail;have F7:=fx_ S.out.facts;clear F z;go_wp2_with fail;have CV:=Iu vv HOK.out.2.2 w7 S.out.wrt (S.out.env H.out HE.out) (by simp only[ua,tw,tx];omega);rw[HPV.out]at CV;refine S.out.call CV ?_;clear S;intro w8 S;clear F7 CV;go_wp2_with fail;refine(WFr.alloc S.out).call (put_any [[41]] _ _ (WFr.alloc S.out).wrt ((WFr.alloc S.out).env H.out HE.out).hi (slAt_parts ((WFr.alloc S.out).blk 0 rfl) rfl rfl acy) acx (by simp only[ua,tw,tx];omega)) ?_;clear S;intro w9 S;go_wp2_with fail;go_roundw
   case rel=>
    refine⟨k+1,by omega,by go_num,?_⟩;show WFr _ _ _ _ _ _;rw[HST.out,<- uv,hyk,<- uv,<- uv];exact S.out.only acx
   case measure=>simp[intOf];omega
  ·obtain rfl:k=checks.length:=acw;go_wp2_with fail;refine(WFr.alloc S.out).call (put_any [[41]] _ _ (WFr.alloc S.out).wrt ((WFr.alloc S.out).env H.out HE.out).hi (slAt_parts ((WFr.alloc S.out).blk 0 rfl) rfl rfl acy) acx (by have:=HN.out;rw[xu];simp only[ua,tw,tx];omega)) ?_;intro w5 S;go_wp2_with fail;go_returns;have hd:=S.out.done;rw[xu]at hd;simp only[uv,tz,uc]at hd ⊢;exact hd
end
section
variable {base wb:Nat} {w0 w w' w2:World} {L:List Blk} {xs ys zs:List Bytes}
theorem K7:∀{ns:List Bytes} {es:List Ex} {k:Nat} {n:Bytes} {e:Ex},ns[k]?=some n->es[k]?=some e->joinsP (ns.take (k+1)) (es.take (k+1))=joinsP (ns.take k) (es.take k)++([[106,111,105,110],n,[111,110]]++exPr e 0)
 | [],_,_,_,_,h,_=>by simp at h
 | _::_,[],_,_,_,_,h=>by simp at h
 | a::ns,b::es,0,n,e,h1,h2=>by
  simp only[xx,uz]at h1 h2;subst h1 h2;simp[joinsP]
 | a::ns,b::es,k+1,n,e,h1,h2=>by
  simp only[xq]at h1 h2;have:=K7 h1 h2;simp only[zn,joinsP]at this ⊢;rw[this];simp only[uv]
theorem K8:∀(ns:List Bytes) (es:List Ex) (k:Nat),(joinsP (ns.take k) (es.take k)).length<=(joinsP ns es).length
 | [],es,k=>by simp[joinsP]
 | a::ns,[],k=>by cases k<;>simp[joinsP]
 | a::ns,b::es,0=>by simp[joinsP]
 | a::ns,b::es,k+1=>by
  have:=K8 ns es k;simp only[zn,joinsP,ua]at this ⊢;omega
structure ChosenF (x:Sel):Prop where
 items:x.items.length<=16/\∀p∈x.items,p.picked=true
 from_:1<=x.from_.length/\x.from_.length<=4
 on:x.on.length+1=x.from_.length/\∀e∈x.on,e.formed=true
 where_:x.where_.isZero=true\/x.where_.formed=true
 group:x.group.length<=16/\∀e∈x.group,e.formed=true
 sort:x.sort.length<=16/\∀s∈x.sort,s.okS=true
 limit:-1<=x.limit/\x.limit<=549755813887
theorem N6 {x:Sel} (h:x.chosen=true):ChosenF x:=by
 unfold Sel.chosen allR condR at h;simp only[tr,vy,uk,vg]at h;obtain⟨⟨⟨⟨⟨⟨⟨h1,h2⟩,h3⟩,h4⟩,h5⟩,h6⟩,h7⟩,h8⟩:=h;refine⟨⟨by omega,h1.2⟩,⟨by omega,by omega⟩,⟨by omega,fun e he=>?_⟩,?_,⟨by omega,fun e he=>?_⟩,⟨by omega,h6.2⟩,h7,h8⟩
 ·have:=h3.2 e he;simp only[Ex.good,tr]at this;exact this.2
 ·rcases h4 with h4|h4
  ·exact .inl h4
  ·simp only[Ex.good,tr]at h4;exact .inr h4.2
 ·have:=h5.2 e he;simp only[groupOk,Ex.good,tr]at this;exact this.2.2
theorem Q7 (x:Sel) (v:Value) (hx:x.chosen=true) (w:World) (hv:RSelQ (·<base) w x v) (h:Wrt base w wb xs) (he:Env base w) (hn:xs.length+(selP x).length+10<=1000000000):Calls prog 34 #[.pointer (some ⟨wb,0,none⟩),v] w (Puts base wb w (xs++selP x)):=by
 obtain⟨ia,ic,fa,fc,oa,oc,wa,wc,ga,gc,sa,sc,rfl,h1,h2,h3,h4,h5,h6⟩:=hv;have hP:Hid (selP x=[[115,101,108,101,99,116]]++whenP x.distinct [[100,105,115,116,105,110,99,116]]++whenP (decide (x.items.length=0)) [[42]]++eachP itemP x.items++[[102,114,111,109],x.from_.getD 0 []]++joinsP (x.from_.drop 1) x.on++whereP x.where_++
  whenP (decide (0<x.group.length)) [[103,114,111,117,112],[98,121]]++eachP (fun e=>exPr e 0) x.group++whenP (decide (0<x.sort.length)) [[111,114,100,101,114],[98,121]]++eachP srtP x.sort++whenP (decide (0<=x.limit)) ([108,105,109,105,116]::pNum x.limit)):=rfl
 rw[hP.out]at hn ⊢;simp only[ua,tw,tx]at hn;have HF:=tm (N6 hx);refine z277 ?_;intro H HE;have h7:ExIn (·<base) w x.where_ [U x.where_.op,.string (Y x.where_.table),.string (Y x.where_.name),U x.where_.val.k,U x.where_.val.n,.string x.where_.val.s,.slice wa x.where_.args.length wc]:=by
  generalize x.where_=e at *;obtain⟨op,t,n,v,args⟩:=e;exact Bc h4
 have HI:=tm h1;have HFR:=tm h2;have HO:=tm h3;have HW:=tm h7;have HGR:=tm h5;have HSO:=tm h6;refine z125 ?_;intro hmf;have S:Hid (WFr base wb w ((w.alloc (.cells #[.pointer (O wb)] 85)).alloc (.cells #[.bool x.distinct,.slice ia x.items.length ic,.slice fa x.from_.length fc,.slice oa x.on.length oc,U x.where_.op,.string (Y x.where_.table),.string (Y x.where_.name),U x.where_.val.k,U x.where_.val.n,.string x.where_.val.s,.slice wa x.where_.args.length wc,.slice ga x.group.length gc,.slice sa x.sort.length sc,U x.limit] 48)) [(w.heap.size+1,#[.bool x.distinct,.slice ia x.items.length ic,.slice fa x.from_.length fc,.slice oa x.on.length oc,U x.where_.op,.string (Y x.where_.table),.string (Y x.where_.name),U x.where_.val.k,U x.where_.val.n,.string x.where_.val.s,.slice wa x.where_.args.length wc,.slice ga x.group.length gc,.slice sa x.sort.length sc,U x.limit],48),(w.heap.size,#[.pointer (O wb)],85)] xs):=by
  have:=WFr.alloc (WFr.alloc (WFr.start h) (cs:=#[.pointer (O wb)]) (t:=85)) (cs:=#[.bool x.distinct,.slice ia x.items.length ic,.slice fa x.from_.length fc,.slice oa x.on.length oc,U x.where_.op,.string (Y x.where_.table),.string (Y x.where_.name),U x.where_.val.k,U x.where_.val.n,.string x.where_.val.s,.slice wa x.where_.args.length wc,.slice ga x.group.length gc,.slice sa x.sort.length sc,U x.limit]) (t:=48);exact re
 have CI:Hid (∀W zs,Turn (base≤·) w W->Wrt base W wb zs->Env base W->zs.length+(eachP itemP x.items).length+10<=1000000000->Calls prog 93 #[.pointer (some ⟨wb,0,none⟩),.slice ia x.items.length ic,.func (.func 94) #[.pointer (some ⟨wb,0,none⟩)] #[]] W (Puts base wb W (zs++eachP itemP x.items))):=fun W zs ht hw hE hl=>
  Ud itemP x.items _ W (rSl_move acy (fun b hb hq=>⟨hq,ht.block b hb acw⟩) HI.out) hw hE (by have:=HF.out.items.1;omega) hl (fun W2 zs2 a cs ha hin hw2 hE2 hl2=>Xv a cs (HF.out.items.2 a ha) W2 hin hw2 hE2 hl2)
 have CG:Hid (∀W zs,Turn (base≤·) w W->Wrt base W wb zs->Env base W->zs.length+(eachP (fun e=>exPr e 0) x.group).length+10<=1000000000->Calls prog 95 #[.pointer (some ⟨wb,0,none⟩),.slice ga x.group.length gc,.func (.func 32) #[.pointer (some ⟨wb,0,none⟩)] #[]] W (Puts base wb W (zs++eachP (fun e=>exPr e 0) x.group))):=fun W zs ht hw hE hl=>
  each95_any (fun e=>exPr e 0) x.group _ W (rSl_move acy (fun b hb hq=>⟨hq,ht.block b hb acw⟩) HGR.out) hw hE (by have:=HF.out.group.1;omega) hl (fun W2 zs2 a cs ha hin hw2 hE2 hl2=>anyW_any a cs W2 hin (HF.out.group.2 a ha) hw2 hE2 hl2)
 have CSO:Hid (∀W zs,Turn (base≤·) w W->Wrt base W wb zs->Env base W->QAt wb w.heap.size W->zs.length+(eachP srtP x.sort).length+10<=1000000000->Calls prog 96 #[.pointer (some ⟨wb,0,none⟩),.slice sa x.sort.length sc,.func (.func 97) #[] #[.pointer (some ⟨w.heap.size,0,none⟩)]] W (Puts base wb W (zs++eachP srtP x.sort))):=fun W zs ht hw hE hq hl=>
  each96_any w.heap.size srtP x.sort _ W (rSl_move acy (fun b hb hq=>⟨hq,ht.block b hb acw⟩) HSO.out) hw hE hq (by have:=HF.out.sort.1;omega) hl (fun W2 zs2 a cs ha hin hw2 hE2 hq2 hl2=>by
   have e:cs=[U a.place,.bool a.down]:=hin;subst e;exact Sv w.heap.size a (HF.out.sort.2 a ha) W2 hw2 hE2 hq2 hl2)
 have CW:Hid (∀W zs,Turn (base≤·) w W->Wrt base W wb zs->Env base W->zs.length+(whereP x.where_).length+10<=1000000000->Calls prog 33 #[.pointer (some ⟨wb,0,none⟩),.agg #[.int .i64 x.where_.op,.string ⟨x.where_.table.toArray⟩,.string ⟨x.where_.name.toArray⟩,.int .i64 x.where_.val.k,.int .i64 x.where_.val.n,.string x.where_.val.s,.slice wa x.where_.args.length wc]] W (Puts base wb W (zs++whereP x.where_))):=fun W zs ht hw hE hl=>
  whereW_any x.where_ _ W (HW.out.turned ht (fun b hb hk=>acw)) HF.out.where_ hw hE hl
 have HOn:Hid (∀W (k:Nat) (e:Ex) (cs:List Value) zs,e∈x.on->ExIn (·<base) W e cs->Wrt base W wb zs->Env base W->zs.length+(exPr e 0).length+10<=1000000000->Calls prog 32 #[.pointer (some ⟨wb,0,none⟩),.agg cs.toArray] W (Puts base wb W (zs++exPr e 0))):=fun W k e cs zs he hin hw hE hl=>anyW_any e cs W hin (HF.out.on.2 e he) hw hE hl;have hlim:=HF.out.limit;have hfr:=HF.out.from_;have hon:=HF.out.on.1;clear h he hP hx h1 h2 h3 h4 h7 h5 h6 HI HGR HSO HW HF;generalize eachP itemP x.items=pI at *;generalize eachP (fun e=>exPr e 0) x.group=pG at *;generalize eachP srtP x.sort=pS at *;generalize whereP x.where_=pW at *;generalize x.distinct=xd at *;generalize x.items.length=n1 at *;generalize x.where_.op=op at *;generalize x.where_.table=wt at *;generalize x.where_.name=wn at *;generalize x.where_.val=wv at *;generalize x.where_.args.length=n4 at *;generalize x.group.length=n5 at *;generalize x.sort.length=n6 at *;generalize x.limit=lim at *;generalize x.from_=fr at *;generalize x.on=on at *;obtain⟨b3,hb3⟩:∃b,decide (n1=0)=b:=⟨_,rfl⟩;have hb1:((n1:Int)==0)=b3:=by rw[<- hb3,yx,zp,aan];omega
 obtain⟨b8,hb8⟩:∃b,decide (0<n5)=b:=⟨_,rfl⟩;have hb1:decide ((0:Int)<(n5:Int))=b8:=by rw[<- hb8];simp
 obtain⟨b1,hb1⟩:∃b,decide (0<n6)=b:=⟨_,rfl⟩;have hb2:decide ((0:Int)<(n6:Int))=b1:=by rw[<- hb1];simp
 rw[hb3,hb8,hb1]at hn ⊢;obtain⟨f0,hf⟩:∃f,fr[0]?=some f:=⟨fr[0]'(by omega),by simp⟩;rw[show fr.getD 0 []=f0 by simp[List.getD,hf]]at ⊢;have HF0:=tm hf;clear hf;go_enter func34,ntmps34;go_wp2_with fail;have Sc:Hid (WFr base wb w _ _ xs):=WFr.alloc S.out (cs:=#[.string ⟨#[115,101,108,101,99,116]⟩]) (t:=9);simp only[ug]at Sc;refine Sc.out.call (put_any [[115,101,108,101,99,116]] _ _ Sc.out.wrt (Sc.out.env H.out HE.out).hi (slAt_parts (Sc.out.blk 0 rfl) rfl rfl acy) acx (by simp only[tw,tx];omega)) ?_;clear Sc;intro w1 Sp;replace S:=tm Sp.out.tail;refine z1076 ?_;intro F;clear Sp;go_wp2_with fail;refine(WFr.alloc S.out).call (when_any xd [[100,105,115,116,105,110,99,116]] _ _ (WFr.alloc S.out).wrt ((WFr.alloc S.out).env H.out HE.out).hi (slAt_parts ((WFr.alloc S.out).blk 0 rfl) rfl rfl acy) acx (by simp only[ua,tw,tx];omega)) ?_;intro w2 Sp;replace S:=tm Sp.out.tail;have F2:=fx_ S.out.facts;clear Sp F;go_wp2_with fail;refine(WFr.alloc S.out).call (when_any b3 [[42]] _ _ (WFr.alloc S.out).wrt ((WFr.alloc S.out).env H.out HE.out).hi (slAt_parts ((WFr.alloc S.out).blk 0 rfl) rfl rfl acy) acx (by simp only[ua,tw,tx];omega)) ?_;intro w3 Sp;replace S:=tm Sp.out.tail;refine z1076 ?_;intro F;clear Sp F2;go_wp2_with fail;refine S.out.call (CI.out _ _ (S.out.old H.out) S.out.wrt (S.out.env H.out HE.out) (by simp only[ua,tw,tx];omega)) ?_;intro w4 Sp;replace S:=tm Sp.out;have F4:=fx_ S.out.facts;clear Sp F;clear CI F4;go_wp2_with fail
 have hv5:RSl strE (·<base) w4 (.slice fa fr.length fc) fr:=rSl_move acy (fun b hb hq=>⟨hq,(S.out.old H.out).block b hb acw⟩) HFR.out;obtain⟨b,o,cap,cs,e,hin,hat⟩:=hv5.at HF0.out;injection e with e1 e3 e2;subst e1;subst e2;clear e3;have e:cs=[.string (Y f0)]:=hin;subst e;have z:=hat 0 _ rfl;simp only[yg,u0]at z;replace z:=ud z;have F:=S.out.st.factsG;simp only[St.FactsG,cellFactsG,uo]at F;clear hat hin hv5;have hfn:0<fr.length:=acw;have hfi:(0:Int)<(fr.length:Int):=acw;refine wp_region_mixed 6 [(0,false),(1,false),(2,false),(3,false),(4,false),(5,true)] acz acz ?_;refine z1053 ?_;refine B9 rfl ?_;intro w5 hb5 hb1;replace S:=tm (S.out.kept hb5);have HB:=tm hb1;clear hb5 hb1 F z;go_wp2_with fail;refine⟨HB.out.alloc HB.out.size _,wpM_tail ?_⟩;intro w6 hb6 _;refine z279 ?_;replace S:=tm ((WFr.alloc S.out).kept hb6);clear hb6 HB;go_wp2_with fail;refine S.out.call (put_any [[102,114,111,109],f0] _ _ S.out.wrt (S.out.env H.out HE.out).hi (slAt_parts (S.out.blk 0 rfl) rfl rfl acy) acx (by simp only[ua,tw,tx];omega)) ?_;intro w7 Sp;replace S:=tm Sp.out.tail;refine z1076 ?_;intro F;clear Sp;go_wp2_with fail;clear F;have hpl:(xs++[[115,101,108,101,99,116]]++whenP xd [[100,105,115,116,105,110,99,116]]++whenP b3 [[42]]++pI++[[102,114,111,109],f0]).length=xs.length+1+(whenP xd [[100,105,115,116,105,110,99,116]]).length+(whenP b3 [[42]]).length+pI.length+2:=by simp only[ua,tw,tx]
 generalize hpre:xs++[[115,101,108,101,99,116]]++whenP xd [[100,105,115,116,105,110,99,116]]++whenP b3 [[42]]++pI++[[102,114,111,109],f0]=pre at *;go_loopw [4,5,37] (fun _ _ i wr=>∃k:Nat,k<=on.length/\i=U k/\Hid (WFr base wb w wr [(w.heap.size+1,#[.bool xd,.slice ia n1 ic,.slice (some ⟨b,o,none⟩) fr.length fc,.slice oa on.length oc,U op,.string (Y wt),.string (Y wn),U wv.k,U wv.n,.string wv.s,.slice wa n4 wc,.slice ga n5 gc,.slice sa n6 sc,U lim],48),(w.heap.size,#[.pointer (O wb)],85)] (pre++joinsP ((fr.drop 1).take k) (on.take k)))) (fun _ _ i _=>on.length - (intOf i).toNat)
 case atStart=>exact⟨0,by omega,rfl,by show WFr _ _ _ _ _ _;simpa[joinsP]using S.out⟩
 case round=>
  obtain⟨k,hk,rfl,S⟩:=hrel;have hle:=K8 (fr.drop 1) on k;by_cases hlt:k<on.length
  ·obtain⟨a,hx⟩:∃x,on[k]?=some x:=⟨on[k],by simp[hlt]⟩;obtain⟨nm,hnm⟩:∃x,fr[k+1]?=some x:=⟨fr[k+1]'(by omega),by simp⟩;have hst:=K7 (show(fr.drop 1)[k]?=some nm by rw[abb,ab7];exact hnm) hx;have hle2:=K8 (fr.drop 1) on (k+1);rw[hst]at hle2;simp only[ua,tw,tx]at hle2;have HST:=tm hst;have hv1:RSl exE (·<base) wr (.slice oa on.length oc) on:=rSl_move acy (fun b hb hq=>⟨hq,(S.out.old H.out).block b hb acw⟩) HO.out;obtain⟨b1,o3,cap3,cs,hbo,hin,hat⟩:=hv1.at hx;injection hbo with e1 e3 e2;subst e1;subst e2;clear e3;have hin':ExIn (·<base) wr a cs:=hin;have HIN:Hid (exE.In (·<base) wr a _):=hin;have HT:=tm (S.out.old H.out);have HM:=tm (uq hx);obtain⟨ad,ac,rfl⟩:=Dn hin';refine fu ?_;intro x0 x1 x2 x3 x4 x5 x6;simp only[show exE.k=7 from rfl,u0]at x0 x1 x2 x3 x4 x5 x6;refine z1076 ?_;intro F;clear hat hin hin' hv1;go_wp2_with fail;have Sp:Hid (WFr base wb w _ _ _):=WFr.alloc S.out (cs:=#[U a.op,.string (Y a.table),.string (Y a.name),U a.val.k,U a.val.n,.string a.val.s,.slice ad a.args.length ac]) (t:=44);refine WFr.gen Sp.out ?_;intro w9 S;clear Sp x0 x1 x2 x3 x4 x5 x6 F;have hv2:RSl strE (·<base) w9 (.slice (some ⟨b,o,none⟩) fr.length fc) fr:=rSl_move acy (fun b hb hq=>⟨hq,(S.out.old H.out).block b hb acw⟩) HFR.out;obtain⟨b2,o2,cap2,cs2,e,hin2,hat2⟩:=hv2.at hnm;injection e with e1 e3 e2;injection e1 with e1;injection e1 with e1 e4 e5;subst e1 e2 e4;clear e3 e5;have e:cs2=[.string (Y nm)]:=hin2;subst e;have z:=hat2 0 _ rfl
   simp only[show strE.k=1 from rfl,aac,u0]at z;have z1:=ud z;have F:=S.out.st.factsG;simp only[St.FactsG,cellFactsG,uo]at F;have hk1:k+1<fr.length:=acw;have hki:(k:Int)+1<(fr.length:Int):=acw;have hgi:(0:Int)<=(k:Int)+1:=acw;have hng:¬((k:Int)+1<0):=acw;have htn:((k:Int)+1).toNat=k+1:=acw;have hwr:IntKind.i64.wrap ((k:Int)+1)=(k:Int)+1:=IntWalk.i64_in _ acw;clear hat2 hin2 hv2 z;refine wp_region_mixed 8 [(0,false),(1,false),(2,false),(3,false),(4,false),(5,false),(6,false),(7,true)] acz acz ?_;refine z1053 ?_;refine B9 rfl ?_;intro w8 hb1 hb2;replace S:=tm (S.out.kept hb1);have HB:=tm hb2;clear hb1 hb2 F z1;go_wp2_with fail;refine⟨HB.out.alloc HB.out.size _,wpM_tail ?_⟩;intro w8 hb1 _;replace S:=tm ((WFr.alloc S.out).kept hb1);clear hb1 HB;go_wp2_with fail;refine S.out.call (put_any [[106,111,105,110],nm,[111,110]] _ _ S.out.wrt (S.out.env H.out HE.out).hi (slAt_parts (S.out.blk 0 rfl) rfl rfl acy) acx (by simp only[ua,tw,tx];omega)) ?_;intro w8 Sp;replace S:=tm Sp.out.tail;have HIN1:Hid (exE.In (·<base) w8 a _):=exE.move (fun b hb hq=>⟨hq,by
    have hlt:b<w.heap.size:=vw hq HE.out.hi;rw[(S.out.old H.out).block b hlt acw,HT.out.block b hlt acw]⟩) HIN.out
   refine z1076 ?_;intro F;clear Sp;go_wp2_with fail;refine S.out.tail.call (HOn.out _ k a _ _ HM.out HIN1.out S.out.wrt (S.out.env H.out HE.out) (by simp only[ua,tw,tx];omega)) ?_;clear S;intro w8 S;clear F HIN1;go_wp2_with fail;go_roundw
   case rel=>exact⟨k+1,by omega,by go_num,by show WFr _ _ _ _ _ _;rw[HST.out,<- uv,<- uv];exact S.out⟩
   case measure=>simp[intOf];omega
  ·obtain rfl:k=on.length:=acw;have hjl:joinsP ((fr.drop 1).take on.length) (on.take on.length)=joinsP (fr.drop 1) on:=by
    rw[xu,wq (by rw[List.length_drop];omega)]
   rw[hjl]at S;refine z1076 ?_;intro F;clear HO HFR hle hjl;go_wp2_with fail;refine S.out.call (CW.out _ _ (S.out.old H.out) S.out.wrt (S.out.env H.out HE.out) (by simp only[ua];omega)) ?_;intro w9 Sp;replace S:=tm Sp.out;have F9:=fx_ S.out.facts;clear Sp F;go_wp2_with fail;refine(WFr.alloc S.out).call (when_any b8 [[103,114,111,117,112],[98,121]] _ _ (WFr.alloc S.out).wrt ((WFr.alloc S.out).env H.out HE.out).hi (slAt_parts ((WFr.alloc S.out).blk 0 rfl) rfl rfl acy) acx (by simp only[ua,tw,tx];omega)) ?_;intro w8 Sp;replace S:=tm Sp.out.tail;refine z1076 ?_;intro F;clear Sp F9;go_wp2_with fail;refine S.out.call (CG.out _ _ (S.out.old H.out) S.out.wrt (S.out.env H.out HE.out) (by simp only[ua];omega)) ?_;intro w8 Sp;replace S:=tm Sp.out;have F5:=fx_ S.out.facts;clear Sp F;go_wp2_with fail;refine(WFr.alloc S.out).call (when_any b1 [[111,114,100,101,114],[98,121]] _ _ (WFr.alloc S.out).wrt ((WFr.alloc S.out).env H.out HE.out).hi (slAt_parts ((WFr.alloc S.out).blk 0 rfl) rfl rfl acy) acx (by simp only[ua,tw,tx];omega)) ?_;intro w8 Sp;replace S:=tm Sp.out.tail;refine z1076 ?_;intro F;clear Sp F5;go_wp2_with fail;refine S.out.call (CSO.out _ _ (S.out.old H.out) S.out.wrt (S.out.env H.out HE.out) ⟨S.out.blk 1 rfl,S.out.off 1 rfl⟩ (by simp only[ua];omega)) ?_;intro w8 Sp;replace S:=tm Sp.out;have F5:=fx_ S.out.facts;clear Sp F;by_cases hl0:0<=lim
   ·have hl1:decide (0<=lim)=true:=by simp[hl0]
    have hwt:whenP (decide (0<=lim)) ([108,105,109,105,116]::pNum lim)=[108,105,109,105,116]::pNum lim:=by rw[hl1];rfl
    rw[hwt]at hn;simp only[tw]at hn;go_wp2_with fail;refine(WFr.alloc S.out).call (put_any [[108,105,109,105,116]] _ _ (WFr.alloc S.out).wrt ((WFr.alloc S.out).env H.out HE.out).hi (slAt_parts ((WFr.alloc S.out).blk 0 rfl) rfl rfl acy) acx (by simp only[ua,tw,tx];omega)) ?_;intro w8 Sp;replace S:=tm Sp.out.tail;refine z1076 ?_;intro F;clear Sp F5;go_wp2_with fail;refine S.out.call (number38_any lim acw acw _ S.out.wrt (S.out.env H.out HE.out) (by simp only[ua,tw,tx];omega)) ?_;clear S;intro w8 S;clear F;go_wp2_with fail;go_returns;have:=S.out.done;simpa only[<- hpre,hwt,uv,tz,uc]using this
   ·have hl1:decide (0<=lim)=false:=by simp[hl0]
    have hwt:whenP (decide (0<=lim)) ([108,105,109,105,116]::pNum lim)=[]:=by rw[hl1];rfl
    go_wp2_with fail;go_returns;have:=S.out.done;simpa only[<- hpre,hwt,uv,tz,uc,vr]using this
end
structure PrSt (w:World) (wb:Nat) (w0 W:World) (s:SV) (ys:List Bytes):Prop where
 h:Wrt (w.heap.size+1) w0 wb []
 x:w0.heap[w.heap.size]?=some (.cells s.arr 50 (0,0))
 lt:w.heap.size<w0.heap.size
 b:Below w.heap.size w w0
 e:Env (w.heap.size+1) w0
 f:WFr (w.heap.size+1) wb w0 W [(wb+1,#[.pointer (O wb)],85)] ys
theorem PrSt.at {w w0 W:World} {wb:Nat} {s:SV} {ys:List Bytes} (p:PrSt w wb w0 W s ys):W.heap[w.heap.size]?=some (.cells s.arr 50 (0,0)):=by
 rw[(p.f.old p.h).block _ p.lt acw];exact p.x
theorem PrSt.below {w w0 W:World} {wb:Nat} {s:SV} {ys:List Bytes} (p:PrSt w wb w0 W s ys):Below w.heap.size w W:=
 have t:=p.f.old p.h
 p.b.trans ⟨t.os,t.tape,t.output,t.size,fun k hk=>t.block k (by have:=p.lt;omega) acw⟩
theorem PrSt.went {w w0 W W':World} {wb:Nat} {L:List Blk} {s:SV} {ys zs:List Bytes} (p:PrSt w wb w0 W s ys) (f:WFr (w.heap.size+1) wb w0 W' L zs) (e:L=[(wb+1,#[Value.pointer (O wb)],85)]):PrSt w wb w0 W' s zs:=by
 subst e;exact⟨p.h,p.x,p.lt,p.b,p.e,f⟩
theorem PrSt.env {w w0 W:World} {wb:Nat} {s:SV} {ys:List Bytes} (p:PrSt w wb w0 W s ys):Env (w.heap.size+1) W:=p.f.env p.h p.e
theorem PrSt.start {w w1:World} {s:SV} (he:Env w.heap.size w) (hb:Below w1.heap.size w1 w1) (h1:w1.heap[w.heap.size]?=some (.cells s.arr 50 (0,0))) (hB:Below w.heap.size w w1):PrSt w w1.heap.size (w1.alloc (.cells #[eL] 87)) ((w1.alloc (.cells #[eL] 87)).alloc (.cells #[.pointer (O w1.heap.size)] 85)) s []:=by
 have hlt:w.heap.size<w1.heap.size:=(uh.1 h1).1;have hw:Wrt (w.heap.size+1) (w1.alloc (.cells #[eL] 87)) w1.heap.size []:=
  ⟨by omega,_,World.alloc_heap_new w1 _,aah _ _ _ _,by simp[Value.ownBlock]⟩
 have hk:Below w1.heap.size w1 (w1.alloc (.cells #[eL] 87)):=hb.alloc (tu _) _;have hW:Below w.heap.size w (w1.alloc (.cells #[eL] 87)):=hB.alloc acw _;refine⟨hw,?_,?_,hW,(he.same hW.size (fun k hk=>hW.block k hk)).up acw (by rw[ug];omega),?_⟩
 ·rw[hk.block _ hlt];exact h1
 ·rw[ug];omega
 ·have:=WFr.alloc (WFr.start hw) (cs:=#[.pointer (O w1.heap.size)]) (t:=85);rw[ug]at this;exact this
theorem Nu:∀ys:List Bytes,Lib.join ys [32]=joinSp ys
 | []=>rfl
 | [a]=>by simp[joinSp,Lib.join_one]
 | a::b::l=>by
  have:=Nu (b::l);simp only[Lib.join]at this ⊢;simp only[joinSp,<- this];simp[List.intercalate,List.intersperse]
theorem oq {base wb:Nat} {w:World} {ys:List Bytes} (h:Wrt base w wb ys) (hy:ys≠[]) (hN:ys.length<=140737488355328) (hl:(joinSp ys).length<=140737488355328):∃v,w.heap[wb]?=some (.cells #[v] 87 (0,0))/\Calls prog 35 #[v,.string ⟨#[32]⟩] w (Says (.string ⟨(joinSp ys).toArray⟩) w):=by
 obtain⟨v,h1,h2,_⟩:=h.blk;have hx:=h2;have hlt:=vx h2;have hc:=fun g hg=>abn h2 (g:=g) hg;obtain⟨_,⟨_,e⟩|⟨g,cap,cur,rfl,hg,hb,hn,_,_,_⟩⟩:=h2
 ·exact absurd (aca.1 e) hy
 ·refine⟨_,h1,?_⟩;have e:(ys.map (fun s=>(⟨s.toArray⟩:ByteArray))).map (·.data.toList)=ys:=by
   rw[List.map_map,show((fun x:ByteArray=>x.data.toList) ∘ fun s:Bytes=>(⟨s.toArray⟩:ByteArray))=id from funext (fun s=>acx),List.map_id]
  have:=Tryz.strings_Join g 0 cap (ys.map (fun s=>(⟨s.toArray⟩:ByteArray))) ⟨#[32]⟩ w (fun j x hj=>by
   have:=hc g rfl j (.string x) (by
    rw[aai]at hj;obtain⟨s,hs,rfl⟩:=aaa.1 hj;simp[strVals,strV,hs])
   rw[show(⟨g,0,none⟩:Addr).add j=⟨g,0+j,none⟩ by cases j<;>simp[Addr.add]]at this;exact this) (hlt g rfl).2 (by simpa using hN) (by simpa using hn) (by rw[e];rw[show(⟨#[32]⟩:ByteArray).data.toList=[32]from rfl,Nu];exact hl)
  rw[e,show(⟨#[32]⟩:ByteArray).data.toList=[32]from rfl,Nu,zr]at this;exact this
def PrK (k:Int):Prop:=∀(x:Stm) (s:SV) (w:World),StmIn (·<w.heap.size) w s x->Env w.heap.size w->x.Wf->x.kind=k->x.lists<=4611686018427387904->x.txt<=4611686018427387904->x.formed=true->(stmP x).length+10<=1000000000->(joinSp (stmP x)).length<=140737488355328->Calls prog 13 #[.agg s.arr] w (fun e w'=>e=.returned (.tuple #[.string ⟨(printS x).1.toArray⟩,U (printS x).2])/\Below w.heap.size w w')
end Go.Proofs.YtimoefagohifaaaGreatDoor
