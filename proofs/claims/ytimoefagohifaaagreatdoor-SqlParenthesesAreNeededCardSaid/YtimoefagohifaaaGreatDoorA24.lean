/- Laws that the last part needs. No condition. -/
import Derived.Test.YtimoefagohifaaaGreatDoorA16
import Derived.Test.YtimoefagohifaaaGreatDoorA23
set_option maxHeartbeats 16000000
set_option maxRecDepth 100000
namespace Go.Proofs.YtimoefagohifaaaGreatDoor
open Go.RowKit Go.Sort Tryz
theorem St.sub {w0 w:World} {L L':List Blk} (h:St w0 w L) (hs:L'.Sublist L):St w0 w L':=
 ⟨h.below,fun x hx=>h.own x (hs.subset hx),h.apart.sublist (hs.map _)⟩
theorem Aa {w:World} {b o:Nat} {cs:Array Value} {t:TypeId} {v:Value} (h:w.heap[b]?=some (.cells cs t (0,0))) (hv:cs[o]?=some v):w.cell? ⟨b,o,none⟩=some v/\w.frozen? ⟨b,o,none⟩=false/\b<w.heap.size:=
 ⟨by simp only[World.cell?,h];exact hv,by simp[World.frozen?,h],(uh.1 h).1⟩
theorem ot:(prog.info? 205).map (fun i=>(i.zero,i.size,i.bytes))=some (some (.agg #[U 0,.bool false]),2,16):=acz
theorem ah (Q:Nat->Prop) (bb:Nat) (sv:Value) (q:QV) (xa:Array Value) (so:Option Addr) (sc:Nat) (ia:Option Addr) (ic:Nat) (w:World) (_hb:w.heap[bb]?=some (.cells #[sv,U 0] 125 (0,0))) (h0:xa[0]?=some (.bool false)) (h12:xa[12]?=some (.slice so 1 sc)) (h13:xa[13]?=some (U 3))
 (hs:RSl srtE Q w (.slice so 1 sc) [⟨2,true⟩]):
 Calls prog 71 #[.pointer (some ⟨bb,0,none⟩),.agg q.arr,.agg xa,.slice ia 2 ic] w (fun e w'=>∃n1 n2 n3 g cap zs,e=.returned (.agg (QV.arr {k:=7,s:=(some ⟨n3,0,none⟩,1,1),n:=3}))/\1<=cap/\
  St w w' [(n3,QV.arr {k:=6,s:=(some ⟨n2,0,none⟩,1,1),o:=(some ⟨g,0,none⟩,1,cap)},73),(g,(U 1::.bool true::zs).toArray,205),(n2,QV.arr {k:=3,s:=(some ⟨n1,0,none⟩,1,1),c:=(ia,2,ic)},73),(n1,q.arr,73)]):=by
 have HS:=tm hs
 clear hs
 go_enter func71,ntmps71
 go_upto_region 1 with fail
 refine St.gen (St.alloc (St.alloc (St.alloc (St.start w) (cs:=q.arr) (t:=73)) (cs:=xa) (t:=48)) (cs:=QV.arr {}) (t:=73)) ?_
 intro w1 S
 simp only[ug]at S
 go_upto_region 3 with fail
 go_wp2_with(refine ux rfl 73 (.tmp 5) rfl w.heap.size rfl 73 q.arr (0,0) _ (S.out.blk 2 rfl) underlying73 rfl (Bd _) ?_)
 refine tp (Ic 3 q w1) ?_
 rintro e w2 ⟨n1,rfl,hge,hbk,hbl⟩
 replace S:=tm (St.since S.out hbl hge hbk)
 clear hge hbk hbl
 go_upto_region 4 with(refine ur rfl 73 (.tmp 5) (.tmp 19) rfl w.heap.size (QV.arr {k:=3,s:=(some ⟨n1,0,none⟩,1,1)}) rfl rfl 73 q.arr (S.out.blk 3 rfl) (Bd _) rfl (Eo _) ?_)
 refine St.gen (St.row 3 (QV.arr {k:=3,s:=(some ⟨n1,0,none⟩,1,1)}) S.out rfl) ?_
 clear S
 intro w3 S
 simp only[ub,ui]at S
 obtain⟨c9,f,l⟩:=Aa (o:=9) (S.out.blk 3 rfl) rfl
 go_upto_region 10 with fail
 refine St.gen (St.set 3 (o:=9) (v:=.slice ia 2 ic) S.out rfl) ?_
 clear S
 intro w4 S
 replace S:Hid (St w w4 [(n1,q.arr,73),(w.heap.size+1+1,QV.arr {},73),(w.heap.size+1,xa,48),(w.heap.size,QV.arr {k:=3,s:=(some ⟨n1,0,none⟩,1,1),c:=(ia,2,ic)},73)]):=S.out
 clear c9 f l
 obtain⟨x,_,lx⟩:=Aa (o:=0) (S.out.blk 2 rfl) h0
 obtain⟨x1,_,_⟩:=Aa (o:=12) (S.out.blk 2 rfl) h12
 go_upto_region 13 with fail
 clear x x1 lx
 go_wp2_with(refine ux rfl 73 (.tmp 5) rfl w.heap.size rfl 73 (QV.arr {k:=3,s:=(some ⟨n1,0,none⟩,1,1),c:=(ia,2,ic)}) (0,0) _ (S.out.blk 3 rfl) underlying73 rfl (Bd _) ?_)
 refine tp (Ic 6 {k:=3,s:=(some ⟨n1,0,none⟩,1,1),c:=(ia,2,ic)} w4) ?_
 rintro e w5 ⟨n2,rfl,hge,hbk,hbl⟩
 replace S:=tm (St.since S.out hbl hge hbk)
 clear hge hbk hbl
 go_upto_region 14 with(refine ur rfl 73 (.tmp 5) (.tmp 46) rfl w.heap.size (QV.arr {k:=6,s:=(some ⟨n2,0,none⟩,1,1)}) rfl rfl 73 (QV.arr {k:=3,s:=(some ⟨n1,0,none⟩,1,1),c:=(ia,2,ic)}) (S.out.blk 4 rfl) (Bd _) rfl (Eo _) ?_)
 refine St.gen (St.row 4 (QV.arr {k:=6,s:=(some ⟨n2,0,none⟩,1,1)}) S.out rfl) ?_
 clear S
 intro w6 S
 simp only[ub,ui]at S
 obtain⟨x,_,lx⟩:=Aa (o:=12) (S.out.blk 3 rfl) h12
 obtain⟨b,o,cp,cs,hbo,hin,hat⟩:=(HS.out.kept acy S.out.below).at (k:=0) rfl
 injection hbo with e1 e3 e2
 subst e1 e2
 clear e3
 have e:cs=[U 2,.bool true]:=hin
 subst e
 have y:=hat 0 _ rfl
 have y1:=hat 1 _ rfl
 simp only[yg,u0]at y y1
 have ly:=vp y
 clear hat hin
 go_upto_region 15 with fail
 refine wm 2 ?_
 rw[vq]
 go_upto_region 17 with fail
 clear y y1 ly x lx
 refine St.gen (St.alloc S.out (cs:=#[U 2,.bool true]) (t:=162)) ?_
 clear S
 intro w7 S
 generalize w6.heap.size=eb at S ⊢
 obtain⟨z,_,lz⟩:=Aa (o:=0) (S.out.blk 0 rfl) rfl
 obtain⟨z1,_,_⟩:=Aa (o:=1) (S.out.blk 0 rfl) rfl
 obtain⟨c1,f,l⟩:=Aa (o:=12) (S.out.blk 5 rfl) rfl
 simp only[sl0]at c1
 go_upto_region 19 with fail
 go_wp2_with(refine wpList_append_nil rfl (.tmp 66) (.tmp 73) 71 rfl 205 (.agg #[U 0,.bool false]) 2 16 underlying71 ot rfl acy (St.laid S.out) rfl _ 1 [U 1,.bool true] rfl acy (Bk acy) rfl (by simp[Value.oneCell']) acy (by unfold maxLen;decide) ?_;intro g cap zs w8 S8 hc1 hc2 hc3;simp only[tz,uc]at S8;obtain⟨d12,k12,j12⟩:=Aa (o:=12) (S8.out.blk 6 rfl) rfl)
 clear S z z1 lz c1 f l d12 k12 j12
 have S:=St.set 6 (o:=12) (v:=.slice (O g) 1 cap) S8.out rfl
 clear S8
 rw[vq]
 go_upto_region 21 with fail
 refine St.gen S ?_
 intro w9 S
 replace S:Hid (St w w9 [(g,(U 1::.bool true::zs).toArray,205),(eb,#[U 2,.bool true],162),(n2,QV.arr {k:=3,s:=(some ⟨n1,0,none⟩,1,1),c:=(ia,2,ic)},73),(n1,q.arr,73),(w.heap.size+1+1,QV.arr {},73),(w.heap.size+1,xa,48),(w.heap.size,QV.arr {k:=6,s:=(some ⟨n2,0,none⟩,1,1),o:=(some ⟨g,0,none⟩,1,cap)},73)]):=S.out
 obtain⟨x,_,lx⟩:=Aa (o:=13) (S.out.blk 5 rfl) h13
 go_upto_region 22 with fail
 go_wp2_with(refine ux rfl 73 (.tmp 5) rfl w.heap.size rfl 73 (QV.arr {k:=6,s:=(some ⟨n2,0,none⟩,1,1),o:=(some ⟨g,0,none⟩,1,cap)}) (0,0) _ (S.out.blk 6 rfl) underlying73 rfl (Bd _) ?_)
 refine tp (Ic 7 {k:=6,s:=(some ⟨n2,0,none⟩,1,1),o:=(some ⟨g,0,none⟩,1,cap)} w9) ?_
 rintro e w10 ⟨n3,rfl,hge,hbk,hbl⟩
 replace S:=tm (St.since S.out hbl hge hbk)
 clear hge hbk hbl x lx
 go_upto_region 23 with(refine ur rfl 73 (.tmp 5) (.tmp 81) rfl w.heap.size (QV.arr {k:=7,s:=(some ⟨n3,0,none⟩,1,1)}) rfl rfl 73 (QV.arr {k:=6,s:=(some ⟨n2,0,none⟩,1,1),o:=(some ⟨g,0,none⟩,1,cap)}) (S.out.blk 7 rfl) (Bd _) rfl (Eo _) ?_)
 refine St.gen (St.row 7 (QV.arr {k:=7,s:=(some ⟨n3,0,none⟩,1,1)}) S.out rfl) ?_
 clear S
 intro w11 S
 simp only[ub,ui]at S
 obtain⟨x,_,lx⟩:=Aa (o:=13) (S.out.blk 6 rfl) h13
 obtain⟨c1,f,l⟩:=Aa (o:=13) (S.out.blk 7 rfl) rfl
 go_upto_region 24 with fail
 refine St.gen (St.set 7 (o:=13) (v:=U 3) S.out rfl) ?_
 clear S
 intro w12 S
 replace S:Hid (St w w12 [(n3,QV.arr {k:=6,s:=(some ⟨n2,0,none⟩,1,1),o:=(some ⟨g,0,none⟩,1,cap)},73),(g,(U 1::.bool true::zs).toArray,205),(eb,#[U 2,.bool true],162),(n2,QV.arr {k:=3,s:=(some ⟨n1,0,none⟩,1,1),c:=(ia,2,ic)},73),(n1,q.arr,73),(w.heap.size+1+1,QV.arr {},73),(w.heap.size+1,xa,48),(w.heap.size,QV.arr {k:=7,s:=(some ⟨n3,0,none⟩,1,1),n:=3},73)]):=S.out
 clear x lx c1 f l
 go_wp2_with(first|(refine ux rfl 73 (.tmp 5) rfl w.heap.size rfl 73 (QV.arr {k:=7,s:=(some ⟨n3,0,none⟩,1,1),n:=3}) (0,0) _ (S.out.blk 7 rfl) underlying73 rfl (Bd _) ?_)|(refine ur rfl 73 (.tmp 8) (.tmp 85) rfl (w.heap.size+1+1) (QV.arr {k:=7,s:=(some ⟨n3,0,none⟩,1,1),n:=3}) rfl rfl 73 (QV.arr {}) (S.out.blk 5 rfl) (Bd _) rfl (Eo _) ?_))
 have SE:=St.row 5 (QV.arr {k:=7,s:=(some ⟨n3,0,none⟩,1,1),n:=3}) S.out rfl
 simp only[ub,ui]at SE
 refine ue (v:=.agg (QV.arr {k:=7,s:=(some ⟨n3,0,none⟩,1,1),n:=3})) (wg rfl _ _ (w.heap.size+1+1) 73 (QV.arr {k:=7,s:=(some ⟨n3,0,none⟩,1,1),n:=3}) (0,0) _ rfl (SE.blk 5 rfl) underlying73 rfl (Bd _)) rfl ?_
 exact⟨n1,n2,n3,g,cap,zs,rfl,hc1,St.sub SE (by repeat(first|exact List.Sublist.slnil|apply List.Sublist.cons_cons|apply List.Sublist.cons))⟩
def exSel:Sel:=⟨false,[⟨0,colEx [] [97]⟩,⟨2,colEx [] [98]⟩],[[116]],[],Ex.zero,[colEx [] [97]],[⟨2,true⟩],3⟩
theorem Oy {w:World} {b n cap:Nat} {cs:Array Value} {t:TypeId} (h:w.heap[b]?=some (.cells cs t (0,0))) (hc:n<=cap):SlAt w (.slice (O b) n cap) n cs.toList:=by
 refine⟨_,cap,rfl,hc,fun _=>⟨b,0,rfl,fun j u hu=>?_⟩⟩;exact ahh
theorem Df {α:Type} {E:ElRep α} {Q:Nat->Prop} {W:World} {l:List α} {acs zs:List Value} {g cap:Nat} {t:TypeId} (h:W.heap[g]?=some (.cells (acs++zs).toArray t (0,0))) (hl:LIn E Q W l acs) (hc:l.length<=cap) (hq:Q g):RSl E Q W (.slice (O g) l.length cap) l:=by
 refine⟨acs,⟨_,_,rfl,hc,fun _=>⟨g,0,rfl,hq,fun j u hu=>?_⟩⟩,hl⟩;simp only[World.cell?,h,xr];have hj:=(uu.1 hu).1;simp only[List.getElem?_toArray];rw[ab0 hj];exact hu
theorem Z3 {Q:Nat->Prop} {w:World} {tb tq tc cb co cc:Nat} {ia:Option Addr} {ic:Nat} {ka:Option Addr} {kc:Nat} (hd:RSl tblE Q w (.slice (some ⟨tb,tq,none⟩) 1 tc) [exTbl]) (H:TblAt w tb tq cb co cc ia ic ka kc):LIn tblE Q w [exTbl] [.string (Y [116]),.slice (some ⟨cb,co,none⟩) 2 cc,.slice ia 0 ic,.slice ka 0 kc]:=by
 obtain⟨b,o,cp,cs,hb,hi,hat⟩:=hd.at (k:=0) rfl;injection hb with e1 e3 e2;injection e1 with e1;injection e1 with e1 e4;subst e1 e2 e4;obtain⟨ca',cc',ia',ic',ka',kc',rfl,hc⟩:=hi;have t:=hat 1 _ rfl;have t2:=hat 2 _ rfl;have t3:=hat 3 _ rfl;simp only[yg,u0]at t t2 t3;have e1:=t.symm.trans H.t1;have e2:=t2.symm.trans H.t2;have e3:=t3.symm.trans H.t3;simp only[uz,Value.slice.injEq]at e1 e2 e3;obtain⟨rfl,_,rfl⟩:=e1;obtain⟨rfl,_,rfl⟩:=e2;obtain⟨rfl,_,rfl⟩:=e3;exact⟨_,[],rfl,⟨_,_,_,_,_,_,rfl,hc⟩,rfl⟩
theorem St.join {w0 w w':World} {L L':List Blk} (h:St w0 w L) (k:St w w' L'):St w0 w' (L'++L):=by
 have hk:=h.kept k.below;refine⟨hk.below,fun x hx=>?_,?_⟩
 ·rcases wi.1 hx with hx|hx
  ·exact⟨vj h.below.size (k.own x hx).1,(k.own x hx).2⟩
  ·exact hk.own x hx
 ·rw[abk];refine zv.2 ⟨k.apart,h.apart,fun a ha b hb=>?_⟩;obtain⟨x,hx,rfl⟩:=zd.1 ha;obtain⟨y,hy,rfl⟩:=zd.1 hb;have h1:=(k.own x hx).1;have h2:=(uh.1 (h.own y hy).2).1;omega
theorem Em {b:Nat} {cs:Array Value} {t:TypeId}:∀(vs:List Value) (o:Nat) (w:World),w.heap[b]?=some (.cells cs t (0,0))->(∀j v,vs[j]?=some v->cs[o+j]?=some v)->w.setCells b o vs=w
 | [],o,w,_,_=>rfl
 | v::vs,o,w,h,hv=>by
  have e:=O3 (o:=o) h (hv 0 v rfl);show(w.setCell ⟨b,o,none⟩ v).setCells b (o+1) vs=w;rw[e];exact Em vs (o+1) w h (fun j u hu=>by have:=hv (j+1) u hu;rw[show o+1+j=o+(j+1) by omega];exact this)
theorem H8 {P:Program} {fn:Func} {p q:Tmp} {ty:TypeId} (h:fn.results=#[.cell p ty,.tmp q]) (tmps:Array Value) (w:World) (g:Nat) (x y:Value) (hp:tmps.getD p undef=.pointer (O g)) (hq:tmps.getD q undef=y) (h1:(loadVar ty ⟨g,0,none⟩).run P w=.ok x w):(results fn tmps).run P w=.ok (.tuple #[x,y]) w:=by
 have hp':tmps[p]?.getD undef=.pointer (O g):=by simpa using hp
 have hq':tmps[q]?.getD undef=y:=by simpa using hq
 simp[results,h,hp',hq',asAddr,h1]
section
variable {W:World} {T:Nat->Prop} (hT:∀b,T b)
include hT
theorem H9 {q:QV} {y:Qy} {b:Nat} (h:W.heap[b]?=some (.cells q.arr 73 (0,0))) (hq:QyIn T W y q.arr.toList):RSl qyE T W (.slice (O b) 1 1) [y]:=by
 have:=Df (E:=qyE) (Q:=T) (W:=W) (l:=[y]) (acs:=q.arr.toList) (zs:=[]) (g:=b) (cap:=1) (t:=73) (by rw[h];simp) ⟨_,[],(vr _).symm,hq,rfl⟩ (tu 1) (hT b);exact this
omit hT in
theorem ir:QyIn T W exScan (QV.arr {k:=1,tb:=[116]}).toList:=Ia A1 A1 A1 A1 A1 A1
theorem bi {n0 gg gcap ag acap:Nat} {gzs azs:List Value} (h0:W.heap[n0]?=some (.cells (QV.arr {k:=1,tb:=[116]}) 73 (0,0))) (hg:W.heap[gg]?=some (.cells (U 0::gzs).toArray 3 (0,0))) (hgc:1<=gcap)
 (ha:W.heap[ag]?=some (.cells (U 2::U 1::U 1::U 0::U 0::eS::eL::azs).toArray 134 (0,0))) (hac:1<=acap):
 QyIn T W exGroup (QV.arr {k:=5,s:=(some ⟨n0,0,none⟩,1,1),g:=(some ⟨gg,0,none⟩,1,gcap),a:=(some ⟨ag,0,none⟩,1,acap)}).toList:=
 Ia (H9 hT h0 ir) A1 A1
  (Df (E:=intE) (l:=[0]) (acs:=[U 0]) (zs:=gzs) hg ⟨[U 0],[],rfl,rfl,rfl⟩ hgc (hT gg))
  (Df (E:=agE) (l:=[⟨2,Xp.col 1⟩]) (acs:=[U 2,U 1,U 1,U 0,U 0,eS,eL]) (zs:=azs) ha ⟨_,[],(vr _).symm,⟨_,rfl,Co.2 ⟨eL,rfl,A1⟩⟩,rfl⟩ hac (hT ag)) A1
theorem R7 {q:QV} {m1 jg jcap:Nat} {jzs:List Value} (h1:W.heap[m1]?=some (.cells q.arr 73 (0,0))) (hq:QyIn T W exGroup q.arr.toList)
 (hj:W.heap[jg]?=some (.cells (U 1::U 0::U 0::U 0::eS::eL::U 1::U 1::U 0::U 0::eS::eL::jzs).toArray 69 (0,0))) (hjc:2<=jcap):
 QyIn T W exProject (QV.arr {k:=3,s:=(some ⟨m1,0,none⟩,1,1),c:=(some ⟨jg,0,none⟩,2,jcap)}).toList:=
 Ia (H9 hT h1 hq) A1
  (Df (E:=xpE) (l:=[Xp.col 0,Xp.col 1]) (acs:=[U 1,U 0,U 0,U 0,eS,eL,U 1,U 1,U 0,U 0,eS,eL]) (zs:=jzs) hj
   ⟨[U 1,U 0,U 0,U 0,eS,eL],[U 1,U 1,U 0,U 0,eS,eL],rfl,Co.2 ⟨eL,rfl,A1⟩,⟨_,[],(vr _).symm,Co.2 ⟨eL,rfl,A1⟩,rfl⟩⟩ hjc (hT jg))
  A1 A1 A1
theorem be {q:QV} {m2 og ocap:Nat} {ozs:List Value} (h2:W.heap[m2]?=some (.cells q.arr 73 (0,0))) (hq:QyIn T W exProject q.arr.toList) (ho:W.heap[og]?=some (.cells (U 1::.bool true::ozs).toArray 205 (0,0))) (hoc:1<=ocap):
 QyIn T W exOrder (QV.arr {k:=6,s:=(some ⟨m2,0,none⟩,1,1),o:=(some ⟨og,0,none⟩,1,ocap)}).toList:=
 Ia (H9 hT h2 hq) A1 A1 A1 A1
  (Df (E:=odE) (l:=[⟨1,true⟩]) (acs:=[U 1,.bool true]) (zs:=ozs) ho ⟨_,[],(vr _).symm,rfl,rfl⟩ hoc (hT og))
theorem bh {q:QV} {m3:Nat} (h3:W.heap[m3]?=some (.cells q.arr 73 (0,0))) (hq:QyIn T W exOrder q.arr.toList):QyIn T W exLimit (QV.arr {k:=7,s:=(some ⟨m3,0,none⟩,1,1),n:=3}).toList:=
 Ia (H9 hT h3 hq) A1 A1 A1 A1 A1
end
theorem jk:(prog.info? 35).map (fun i=>(i.zero,i.size,i.bytes))=some (some (.agg #[eS,eL,eL,eL]),4,88):=acz
theorem dd:(prog.info? 69).map (fun i=>(i.zero,i.size,i.bytes))=some (some (.agg #[U 0,U 0,U 0,U 0,eS,eL]),6,72):=acz
theorem ou:(prog.info? 134).map (fun i=>(i.zero,i.size,i.bytes))=some (some (.agg #[U 0,U 0,U 0,U 0,U 0,eS,eL]),7,80):=acz
theorem ke (Q:Nat->Prop) (dv xv:Value) (w:World) (hd:RSl tblE Q w dv [exTbl]) (hx:RSelQ Q w exSel xv):Calls prog 17 #[dv,xv] w (fun e w'=>∃s,e=.returned (.tuple #[.agg (QV.arr {k:=7,s:=s,n:=3}),U 0])/\Below w.heap.size w w'):=by
 obtain⟨ia,ic,fa,fc,oa,oc,wa,wc,ga,gc,sa,sc,rfl,hi,hf,ho,hw,hg,hs⟩:=hx;have HD:=tm hd;have HI:=tm hi;have HF:=tm hf;have HG:=tm hg;have HSO:=tm hs;have HW:Hid (ExIn Q w Ex.zero [U 0,eS,eS,U 0,U 0,eS,.slice wa 0 wc]):=Bc hw;obtain⟨tb,tq,tc,cb,co,cc,ja,jc,ka,kc,rfl,H⟩:=H4 hd;have HT:=tm H;have HLT:=tm (Z3 hd H);obtain⟨fb,fo,fcp,fcs,hfb,hfi,hft⟩:=hf.at (k:=0) rfl;injection hfb with e1 e3 e2;subst e1 e2;clear e3;have e:fcs=[.string (Y [116])]:=hfi;subst e;have hf0:=hft 0 _ rfl;simp only[yg,u0]at hf0;have HF0:=tm hf0;obtain⟨gb,go,gcp,gcs,hgb,hgi,hgt⟩:=hg.at (k:=0) rfl;injection hgb with e1 e3 e2;subst e1 e2;clear e3;obtain⟨gv,rfl,hgs⟩:=Ds (show ExIn Q w (.mk 1 [] [97] V.null []) gcs from hgi);obtain⟨gna,gnc,rfl⟩:=(Cv hgs).slice;obtain⟨ib,io,icp,ics,hib,hii,hit⟩:=hi.at (k:=0) rfl;injection hib with e1 e3 e2;subst e1 e2;clear e3;obtain⟨ics2,rfl,hii2⟩:=(show ∃c,ics=U 0::c/\ExIn Q w (colEx [] [97]) c from hii);obtain⟨iv,rfl,his⟩:=Ds (show ExIn Q w (.mk 1 [] [97] V.null []) ics2 from hii2);obtain⟨ina0,inc0,rfl⟩:=(Cv his).slice;obtain⟨ib',io',icp',ics',hib',hii',hit'⟩:=hi.at (k:=1) rfl;injection hib' with e1 e3 e2;injection e1 with e1;injection e1 with e1 e4;subst e1 e2 e4;clear e3;obtain⟨ics1,rfl,hii1⟩:=(show ∃c,ics'=U 2::c/\ExIn Q w (colEx [] [98]) c from hii');obtain⟨iv,rfl,his1⟩:=Ds (show ExIn Q w (.mk 1 [] [98] V.null []) ics1 from hii1);obtain⟨ina1,inc1,rfl⟩:=(Cv his1).slice
 have HGC:Hid (∀W,Below w.heap.size w W->W.cell? ⟨gb,go,none⟩=some (U 1)/\W.cell? ⟨gb,go+1,none⟩=some eS/\W.cell? ⟨gb,go+2,none⟩=some (.string (Y [97]))/\W.cell? ⟨gb,go+3,none⟩=some (U 0)/\W.cell? ⟨gb,go+4,none⟩=some (U 0)/\W.cell? ⟨gb,go+5,none⟩=some eS/\W.cell? ⟨gb,go+6,none⟩=some (.slice gna 0 gnc)):=fun W hW=>by
  have k:=fun j u h=>hW.cell_kept (hgt j u h);simp only[yg,u0]at k;exact⟨k 0 _ rfl,k 1 _ rfl,k 2 _ rfl,k 3 _ rfl,k 4 _ rfl,k 5 _ rfl,k 6 _ rfl⟩
 have HIC:Hid (∀W,Below w.heap.size w W->W.cell? ⟨ib,io,none⟩=some (U 0)/\W.cell? ⟨ib,io+1,none⟩=some (U 1)/\W.cell? ⟨ib,io+2,none⟩=some eS/\W.cell? ⟨ib,io+3,none⟩=some (.string (Y [97]))/\W.cell? ⟨ib,io+4,none⟩=some (U 0)/\W.cell? ⟨ib,io+5,none⟩=some (U 0)/\W.cell? ⟨ib,io+6,none⟩=some eS/\W.cell? ⟨ib,io+7,none⟩=some (.slice ina0 0 inc0)):=fun W hW=>by
  have k:=fun j u h=>hW.cell_kept (hit j u h);exact qm
 have HIC1:Hid (∀W,Below w.heap.size w W->W.cell? ⟨ib,io+8,none⟩=some (U 2)/\W.cell? ⟨ib,io+8+1,none⟩=some (U 1)/\W.cell? ⟨ib,io+8+2,none⟩=some eS/\W.cell? ⟨ib,io+8+3,none⟩=some (.string (Y [98]))/\W.cell? ⟨ib,io+8+4,none⟩=some (U 0)/\W.cell? ⟨ib,io+8+5,none⟩=some (U 0)/\W.cell? ⟨ib,io+8+6,none⟩=some eS/\W.cell? ⟨ib,io+8+7,none⟩=some (.slice ina1 0 inc1)):=fun W hW=>by
  have k:=fun j u h=>hW.cell_kept (hit' j u h);exact qm
 clear hgi hgt hgs hii hii2 hit his hii' hii1 hit' his1;clear hd hi hf ho hw hg hs H hft hfi hf0;simp only[exSel,Ex.zero,Ex.op,Ex.table,Ex.name,Ex.val,Ex.args,tw,tx,xr,Nat.reduceAdd]at HI HF HG HSO ⊢;show Calls prog 17 #[.slice (some ⟨tb,tq,none⟩) 1 tc,.agg #[.bool false,.slice (some ⟨ib,io,none⟩) 2 ic,.slice (some ⟨fb,fo,none⟩) 1 fc,.slice oa 0 oc,.int .i64 0,.string ⟨#[]⟩,.string ⟨#[]⟩,.int .i64 0,.int .i64 0,.string ⟨#[]⟩,.slice wa 0 wc,.slice (some ⟨gb,go,none⟩) 1 gc,.slice sa 1 sc,.int .i64 3]] w _;obtain⟨xa,hxa⟩:∃xa:Array Value,xa=#[.bool false,.slice (some ⟨ib,io,none⟩) 2 ic,.slice (some ⟨fb,fo,none⟩) 1 fc,.slice oa 0 oc,U 0,eS,eS,U 0,U 0,eS,.slice wa 0 wc,.slice (some ⟨gb,go,none⟩) 1 gc,.slice sa 1 sc,U 3]:=⟨_,rfl⟩;rw[<- hxa];have hx0:xa[0]?=some (.bool false):=by rw[hxa];rfl
 have hx1:xa[1]?=some (.slice (some ⟨ib,io,none⟩) 2 ic):=by rw[hxa];rfl
 have hx2:xa[2]?=some (.slice (some ⟨fb,fo,none⟩) 1 fc):=by rw[hxa];rfl
 have hx3:xa[3]?=some (.slice oa 0 oc):=by rw[hxa];rfl
 have hx4:xa[4]?=some (U 0):=by rw[hxa];rfl
 have hx5:xa[5]?=some eS:=by rw[hxa];rfl
 have hx6:xa[6]?=some eS:=by rw[hxa];rfl
 have hx7:xa[7]?=some (U 0):=by rw[hxa];rfl
 have hx8:xa[8]?=some (U 0):=by rw[hxa];rfl
 have hx9:xa[9]?=some eS:=by rw[hxa];rfl
 have hx10:xa[10]?=some (.slice wa 0 wc):=by rw[hxa];rfl
 have hx11:xa[11]?=some (.slice (some ⟨gb,go,none⟩) 1 gc):=by rw[hxa];rfl
 have hx12:xa[12]?=some (.slice sa 1 sc):=by rw[hxa];rfl
 have hx13:xa[13]?=some (U 3):=by rw[hxa];rfl
 have hxs:(prog.info? 48).map (·.size)=some xa.size:=by rw[hxa];kernel_rfl
 clear hxa;go_enter func17,ntmps17;go_upto_region 2 with fail;refine St.gen (St.alloc (St.alloc (St.alloc (St.start w) (cs:=xa) (t:=48)) (cs:=QV.arr {}) (t:=73)) (cs:=#[eL,U 0]) (t:=125)) ?_;intro w1 S;simp only[ug]at S;obtain⟨x,xf,xl⟩:=Aa (o:=2) (S.out.blk 2 rfl) hx2;have F:=HF0.out;replace F:=S.out.below.cell_kept F;have Fl:=vp F;go_upto_region 3 with fail;refine wm 2 ?_;rw[vq];go_upto_region 5 with fail;refine St.gen (St.alloc S.out (cs:=#[.string (Y [116])]) (t:=9)) ?_;clear S;intro w2 S;replace S:Hid (St w w2 [(w1.heap.size,#[.string (Y [116])],9),((w.heap.size+1+1),#[eL,U 0],125),((w.heap.size+1),QV.arr {},73),(w.heap.size,xa,48)]):=S.out;clear x xf xl F Fl;generalize w1.heap.size=nb at S ⊢;refine z125 ?_;intro hmf;go_wp2_with fail;refine tp (idx62_any 63 nb Q (fun _=>true) [exTbl] _ _ dx (HD.out.kept acy S.out.below) acy (fun W a cs hW ha hin=>?_)) ?_
 ·have e:=vh.1 ha;subst e;obtain⟨ca',cc',ia',ic',ka',kc',rfl,_⟩:=hin;have S:=S.out.kept hW;exact sq _ ca' cc' ia' ic' ka' kc' W (by simp only[World.cell?,S.blk 0 rfl];rfl)
 rintro e w3 ⟨rfl,hb⟩;replace S:Hid (St w w3 [(nb,#[.string (Y [116])],9),_,_,_]):=S.out.kept hb;clear hb;simp only[show idxFrom (fun _=>true) 0 [exTbl]=0 from rfl];go_upto_region 8 with fail;obtain⟨x,xf,xl⟩:=Aa (o:=2) (S.out.blk 3 rfl) hx2;obtain⟨nn,nnf,nnl⟩:=Aa (o:=0) (S.out.blk 0 rfl) rfl;replace x:=ud x;replace nn:=ud nn;have CC:Hid (∀(a:Option Addr) (c d:Nat) (os:Array Obj),Calls prog 64 #[.slice a 0 c,.string ⟨[116].toArray⟩] (grow (redrawn w3 d) os) fun e w'=>e=.returned (.bool false)/\Laid (grow (redrawn w3 d) os) w'):=fun a c d os=>Ln a c _ _;have F:=S.out.below.cell_kept HF0.out;have Fl:=vp F;refine wp_region_mixed 7 [(0,false),(1,false),(2,false),(3,false),(4,false),(5,false),(6,false)] acz acz ?_;repeat(refine wpM_mild rfl (fun K hK=>?_);go_simp;first|(refine hK _ ?_;clear hK K)|(apply Exists.intro;refine⟨fun _=>?_,hK _ ?_⟩;(exact CC.out _ _ _ _);clear hK K))
 refine Ba ?_;intro w4 hb _;refine z252 ?_;intro S;clear hb x xf xl nn nnf nnl F CC Fl;go_upto_region 10 with fail;obtain⟨b0,bf,bl⟩:=Aa (o:=0) (S.out.blk 1 rfl) rfl;obtain⟨b1,b1f,b1l⟩:=Aa (o:=1) (S.out.blk 1 rfl) rfl;obtain⟨t0,t1,t2,t3,_⟩:=HT.out.kept S.out.below;replace b0:=ud b0;replace t0:=ud t0;replace t1:=ud t1;replace t2:=ud t2;replace t3:=ud t3;refine wp_region_mixed 13 [(0,false),(1,false),(2,false),(3,false),(4,false),(5,false),(6,false),(7,false),(8,false),(9,true),(10,true),(11,false),(12,false)] acz acz ?_;refine z1053 ?_;clear b0 bf bl b1 b1f b1l t0 t1 t2 t3;refine B9 rfl ?_;intro w5 hb hb0;have T:=tm ((St.start w4).kept hb);clear hb hb0;go_wp2_with fail;refine⟨(St.alloc T.out).below,B9 rfl ?_⟩;intro w6 hb hb0;replace T:=tm ((St.alloc T.out (cs:=#[.string (Y [116]),.slice (some ⟨cb,co,none⟩) 2 cc,.slice ja 0 jc,.slice ka 0 kc]) (t:=35)).kept hb);clear hb hb0;generalize w5.heap.size=sb at T ⊢;go_wp2_with(refine wpList_append_nil rfl (.tmp 56) (.tmp 61) 65 rfl 35 (.agg #[eS,eL,eL,eL]) 4 88 underlying65 jk rfl acy T.out rfl _ 1 [.string (Y [116]),.slice (some ⟨cb,co,none⟩) 2 cc,.slice ja 0 jc,.slice ka 0 kc] rfl acy (Oy (T.out.blk 0 rfl) acy) rfl (by simp[Value.oneCell']) acy (by unfold maxLen;decide) ?_;intro sg scap szs w7 T7 hsc1 hsc2 hsc3;simp only[tz,uc]at T7)
 replace S:Hid (St w w7 [(sg,(.string (Y [116])::.slice (some ⟨cb,co,none⟩) 2 cc::.slice ja 0 jc::.slice ka 0 kc::szs).toArray,35),_,_,_,_]):=St.since S.out T7.out.below (T7.out.own _ (aba)).1 (T7.out.blk 0 rfl);refine⟨T7.out.below,?_⟩;clear T T7;refine z38 ?_;intro w8 hb _;refine z252 ?_;intro S;clear hb;obtain⟨b0,bf,bl⟩:=Aa (o:=0) (S.out.blk 2 rfl) rfl;go_upto_region 3 with fail;refine St.gen (St.set 2 (o:=0) (v:=.slice (O sg) 1 scap) S.out rfl) ?_;clear S;intro w9 S;replace S:Hid (St w w9 [_,_,((w.heap.size+1+1),#[.slice (O sg) 1 scap,U 0],125),_,_]):=S.out;clear b0 bf bl;obtain⟨x,xf,xl⟩:=Aa (o:=2) (S.out.blk 4 rfl) hx2;have F:=S.out.below.cell_kept HF0.out;have Fl:=vp F;go_upto_region 12 with fail;go_upto_region 13 with(first|(refine wpList_build_row rfl 73 _ rfl (QV.arr {k:=1,tb:=[116]}) (iu _) ?_)|(refine ur rfl 73 (.tmp 10) (.tmp 70) rfl w9.heap.size (QV.arr {k:=1,tb:=[116]}) rfl rfl 73 (QV.arr {}) ((St.alloc S.out).blk 0 rfl) (Bd _) rfl (Eo _) ?_));refine St.gen (St.row 0 (QV.arr {k:=1,tb:=[116]}) (St.alloc S.out (cs:=QV.arr {}) (t:=73)) rfl) ?_;clear S;intro w10 S;replace S:Hid (St w w10 [(w9.heap.size,QV.arr {k:=1,tb:=[116]},73),_,_,_,_,_]):=S.out;clear x xf xl F Fl;generalize w9.heap.size=qb at S ⊢;obtain⟨x,xf,xl⟩:=Aa (o:=3) (S.out.blk 5 rfl) hx3;go_upto_region 14 with fail;refine wm 1 ?_;rw[vq];obtain⟨b0,bf,bl⟩:=Aa (o:=0) (S.out.blk 3 rfl) rfl;go_upto_region 21 with fail;obtain⟨x4,x4f,x4l⟩:=Aa (o:=4) (S.out.blk 5 rfl) hx4
 obtain⟨x5,x5f,x5l⟩:=Aa (o:=5) (S.out.blk 5 rfl) hx5;obtain⟨x6,x6f,x6l⟩:=Aa (o:=6) (S.out.blk 5 rfl) hx6;obtain⟨x7,x7f,x7l⟩:=Aa (o:=7) (S.out.blk 5 rfl) hx7;obtain⟨x8,x8f,x8l⟩:=Aa (o:=8) (S.out.blk 5 rfl) hx8;obtain⟨x9,x9f,x9l⟩:=Aa (o:=9) (S.out.blk 5 rfl) hx9;obtain⟨x10,xf1,xl1⟩:=Aa (o:=10) (S.out.blk 5 rfl) hx10;go_wp2_with fail;refine tp (Fm Q Ex.zero _ w10 (HW.out.kept S.out.below)) ?_;rintro e w11 ⟨rfl,hb⟩;replace S:Hid (St w w11 [(qb,QV.arr {k:=1,tb:=[116]},73),_,_,_,_,_]):=S.out.kept hb;clear hb x xf xl b0 bf bl x4 x4f x4l x5 x5f x5l x6 x6f x6l x7 x7f x7l x8 x8f x8l x9 x9f x9l x10 xf1 xl1;simp only[show Ex.zero.isZero=true from by decide+kernel];obtain⟨x,xf,xl⟩:=Aa (o:=11) (S.out.blk 5 rfl) hx11;go_upto_region 26 with fail;refine wm 2 ?_;rw[vq];obtain⟨g0,g1,g2,g3,g4,g5,g6⟩:=HGC.out _ S.out.below;have gl:=vp g0;go_upto_region 28 with fail;refine St.gen (St.alloc S.out (cs:=#[U 1,eS,.string (Y [97]),U 0,U 0,eS,.slice gna 0 gnc]) (t:=44)) ?_;clear S;intro w12 S;replace S:Hid (St w w12 [(w11.heap.size,#[U 1,eS,.string (Y [97]),U 0,U 0,eS,.slice gna 0 gnc],44),_,_,_,_,_,_]):=S.out;clear x xf xl g0 g1 g2 g3 g4 g5 g6 gl;generalize w11.heap.size=eb at S ⊢;obtain⟨e0,ef,el⟩:=Aa (o:=0) (S.out.blk 0 rfl) rfl;obtain⟨e1,e1f,e1l⟩:=Aa (o:=1) (S.out.blk 0 rfl) rfl;obtain⟨e2,e2f,e2l⟩:=Aa (o:=2) (S.out.blk 0 rfl) rfl;obtain⟨e3,e3f,e3l⟩:=Aa (o:=3) (S.out.blk 0 rfl) rfl
 obtain⟨e4,e4f,e4l⟩:=Aa (o:=4) (S.out.blk 0 rfl) rfl;obtain⟨e5,e5f,e5l⟩:=Aa (o:=5) (S.out.blk 0 rfl) rfl;obtain⟨e6,e6f,e6l⟩:=Aa (o:=6) (S.out.blk 0 rfl) rfl;go_wp2_with fail;refine tp (Lq [97] 0 (w.heap.size+1+1) (some ⟨sg,0,none⟩) scap gna gnc w12 (S.out.blk 4 rfl) hsc1 (fun W hW=>Mf (fun _=>True) _ gna gnc W (Df (l:=[exTbl]) (by rw[hW.block sg (Aa (o:=0) (S.out.blk 2 rfl) rfl).2.2];exact S.out.blk 2 rfl) (LIn.move (fun b hb _=>⟨trivial,(S.out.kept hW).below.block b hb⟩) HLT.out) hsc1 trivial))) ?_;rintro e w13 ⟨rfl,hb⟩;replace S:Hid (St w w13 [(eb,#[U 1,eS,.string (Y [97]),U 0,U 0,eS,.slice gna 0 gnc],44),_,_,_,_,_,_]):=S.out.kept hb;clear hb e0 ef el e1 e1f e1l e2 e2f e2l e3 e3f e3l e4 e4f e4l e5 e5f e5l e6 e6f e6l;have hfd:∀w:World,(Instr.field 69 (.agg #[U 1,U 0,U 0,U 0,eS,eL]) 1).run prog w=.ok (U 0) w:=fun _=>by kernel_rfl
 go_wp2_with fail;refine tp (Lm none 0 0 w13) ?_;rintro e w14 ⟨rfl,hb⟩;refine z252 ?_;intro S;clear hb;go_wp2_with(refine wpList_append_nil rfl (.tmp 130) (.tmp 132) 61 rfl 3 (U 0) 1 8 underlying61 infoInt rfl acy (St.laid S.out) rfl _ 1 [U 0] rfl acy (Bk acy) rfl (by simp[Value.oneCell']) acy (by unfold maxLen;decide) ?_;intro gg gcap gzs w15 S15 hgc1 hgc2 hgc3;simp only[tz,uc]at S15);clear S;rw[vq];obtain⟨x,xf,xl⟩:=Aa (o:=11) (S15.out.blk 7 rfl) hx11;go_upto_region 34 with fail;obtain⟨x1,x1f,x1l⟩:=Aa (o:=1) (S15.out.blk 7 rfl) hx1;go_upto_region 35 with fail;refine wm 3 ?_;rw[vq];clear x xf xl x1 x1f x1l;obtain⟨i0,i1,i2,i3,i4,i5,i6,i7⟩:=HIC.out _ S15.out.below;have il:=vp i0;go_upto_region 38 with fail;refine St.gen (St.alloc (St.alloc S15.out (cs:=#[U 0,U 1,eS,.string (Y [97]),U 0,U 0,eS,.slice ina0 0 inc0]) (t:=132)) (cs:=#[U 0,U 0,U 0,U 0,eS,eL]) (t:=69)) ?_;intro w16 S;simp only[ug]at S;replace S:Hid (St w w16 [((w15.heap.size+1),#[U 0,U 0,U 0,U 0,eS,eL],69),(w15.heap.size,#[U 0,U 1,eS,.string (Y [97]),U 0,U 0,eS,.slice ina0 0 inc0],132),(gg,(U 0::gzs).toArray,3),_,_,_,_,_,_,_]):=S.out;clear S15 i0 i1 i2 i3 i4 i5 i6 i7 il;generalize w15.heap.size=p0 at S ⊢;obtain⟨q0,qf,ql⟩:=Aa (o:=0) (S.out.blk 1 rfl) rfl
 obtain⟨q1,q1f,q1l⟩:=Aa (o:=1) (S.out.blk 1 rfl) rfl;obtain⟨q2,q2f,q2l⟩:=Aa (o:=2) (S.out.blk 1 rfl) rfl;obtain⟨q3,q3f,q3l⟩:=Aa (o:=3) (S.out.blk 1 rfl) rfl;obtain⟨q4,q4f,q4l⟩:=Aa (o:=4) (S.out.blk 1 rfl) rfl;obtain⟨q5,q5f,q5l⟩:=Aa (o:=5) (S.out.blk 1 rfl) rfl;obtain⟨q6,q6f,q6l⟩:=Aa (o:=6) (S.out.blk 1 rfl) rfl;obtain⟨q7,q7f,q7l⟩:=Aa (o:=7) (S.out.blk 1 rfl) rfl;go_wp2_with fail;refine tp (Lq [97] 0 (w.heap.size+1+1) (some ⟨sg,0,none⟩) scap ina0 inc0 w16 (S.out.blk 7 rfl) hsc1 (fun W hW=>Mf (fun _=>True) _ ina0 inc0 W (Df (l:=[exTbl]) (by rw[hW.block sg (Aa (o:=0) (S.out.blk 5 rfl) rfl).2.2];exact S.out.blk 5 rfl) (LIn.move (fun b hb _=>⟨trivial,(S.out.kept hW).below.block b hb⟩) HLT.out) hsc1 trivial))) ?_;rintro e w17 ⟨rfl,hb⟩;replace S:Hid (St w w17 [((p0+1),#[U 0,U 0,U 0,U 0,eS,eL],69),(p0,#[U 0,U 1,eS,.string (Y [97]),U 0,U 0,eS,.slice ina0 0 inc0],132),_,_,_,_,_,_,_,_]):=S.out.kept hb;clear hb q0 qf ql q1 q1f q1l q2 q2f q2l q3 q3f q3l q4 q4f q4l q5 q5f q5l q6 q6f q6l q7 q7f q7l;refine z18 ?_;intro q0 qf ql q1 q1f q1l q2 q2f q2l q3 q3f q3l q4 q4f q4l q5 q5f q5l;go_upto_region 40 with fail;refine St.gen (St.setsL (i:=0) [U 1,U 0,U 0,U 0,eS,eL] 0 _ _ _ S.out rfl) ?_;clear S;intro w18 S
 replace S:Hid (St w w18 [((p0+1),#[U 1,U 0,U 0,U 0,eS,eL],69),_,_,_,_,_,_,_,_,_]):=S.out;clear q0 qf ql q1 q1f q1l q2 q2f q2l q3 q3f q3l q4 q4f q4l q5 q5f q5l;refine z18 ?_;intro q0 qf ql q1 q1f q1l q2 q2f q2l q3 q3f q3l q4 q4f q4l q5 q5f q5l;go_wp2_with(refine wpList_append_nil rfl (.tmp 155) (.tmp 157) 67 rfl 69 (.agg #[U 0,U 0,U 0,U 0,eS,eL]) 6 72 underlying67 dd rfl acy (St.laid S.out) rfl _ 1 [U 1,U 0,U 0,U 0,eS,eL] rfl acy (Bk acy) rfl (by simp[Value.oneCell']) acy (by unfold maxLen;decide) ?_;intro ig icap izs w19 S19 hic1 hic2 hic3;simp only[tz,uc]at S19);clear S q0 qf ql q1 q1f q1l q2 q2f q2l q3 q3f q3l q4 q4f q4l q5 q5f q5l;rw[vq];obtain⟨i0,i1,i2,i3,i4,i5,i6,i7⟩:=HIC1.out _ S19.out.below;have il:=vp i0;go_upto_region 38 with fail;refine St.gen (St.alloc (St.alloc S19.out (cs:=#[U 2,U 1,eS,.string (Y [98]),U 0,U 0,eS,.slice ina1 0 inc1]) (t:=132)) (cs:=#[U 0,U 0,U 0,U 0,eS,eL]) (t:=69)) ?_;intro w20 S;simp only[ug]at S
 replace S:Hid (St w w20 [((w19.heap.size+1),#[U 0,U 0,U 0,U 0,eS,eL],69),(w19.heap.size,#[U 2,U 1,eS,.string (Y [98]),U 0,U 0,eS,.slice ina1 0 inc1],132),(ig,(U 1::U 0::U 0::U 0::eS::eL::izs).toArray,69),_,_,_,_,_,_,_,_,_,_]):=S.out;clear S19 i0 i1 i2 i3 i4 i5 i6 i7 il;generalize w19.heap.size=p1 at S ⊢;obtain⟨q0,qf,ql⟩:=Aa (o:=0) (S.out.blk 1 rfl) rfl;obtain⟨q1,q1f,q1l⟩:=Aa (o:=1) (S.out.blk 1 rfl) rfl;obtain⟨q2,q2f,q2l⟩:=Aa (o:=2) (S.out.blk 1 rfl) rfl;obtain⟨q3,q3f,q3l⟩:=Aa (o:=3) (S.out.blk 1 rfl) rfl;obtain⟨q4,q4f,q4l⟩:=Aa (o:=4) (S.out.blk 1 rfl) rfl;obtain⟨q5,q5f,q5l⟩:=Aa (o:=5) (S.out.blk 1 rfl) rfl;obtain⟨q6,q6f,q6l⟩:=Aa (o:=6) (S.out.blk 1 rfl) rfl;obtain⟨q7,q7f,q7l⟩:=Aa (o:=7) (S.out.blk 1 rfl) rfl;go_wp2_with fail;refine tp (Lq [98] 1 (w.heap.size+1+1) (some ⟨sg,0,none⟩) scap ina1 inc1 w20 (S.out.blk 10 rfl) hsc1 (fun W hW=>Wp (fun _=>True) _ ina1 inc1 W (Df (l:=[exTbl]) (by rw[hW.block sg (Aa (o:=0) (S.out.blk 8 rfl) rfl).2.2];exact S.out.blk 8 rfl) (LIn.move (fun b hb _=>⟨trivial,(S.out.kept hW).below.block b hb⟩) HLT.out) hsc1 trivial))) ?_;rintro e w21 ⟨rfl,hb⟩
 replace S:Hid (St w w21 [((p1+1),#[U 0,U 0,U 0,U 0,eS,eL],69),(p1,#[U 2,U 1,eS,.string (Y [98]),U 0,U 0,eS,.slice ina1 0 inc1],132),_,_,_,_,_,_,_,_,_,_,_]):=S.out.kept hb;clear hb q0 qf ql q1 q1f q1l q2 q2f q2l q3 q3f q3l q4 q4f q4l q5 q5f q5l q6 q6f q6l q7 q7f q7l;refine z18 ?_;intro q0 qf ql q1 q1f q1l q2 q2f q2l q3 q3f q3l q4 q4f q4l q5 q5f q5l;go_upto_region 40 with fail;refine St.gen (St.setsL (i:=0) [U 1,U 1,U 0,U 0,eS,eL] 0 _ _ _ S.out rfl) ?_;clear S;intro w22 S;replace S:Hid (St w w22 [((p1+1),#[U 1,U 1,U 0,U 0,eS,eL],69),_,_,_,_,_,_,_,_,_,_,_,_]):=S.out;clear q0 qf ql q1 q1f q1l q2 q2f q2l q3 q3f q3l q4 q4f q4l q5 q5f q5l;refine z18 ?_;intro q0 qf ql q1 q1f q1l q2 q2f q2l q3 q3f q3l q4 q4f q4l q5 q5f q5l
 go_wp2_with(refine wpList_append_on rfl (.tmp 155) (.tmp 157) 67 rfl 69 (.agg #[U 0,U 0,U 0,U 0,eS,eL]) 6 72 underlying67 dd rfl acy 2 (xs:=[U 1,U 0,U 0,U 0,eS,eL]) (zs:=izs) (St.laid S.out) rfl rfl rfl hic1 hic2 hic3 _ 1 [U 1,U 1,U 0,U 0,eS,eL] rfl acy (Bk acy) rfl (by simp[Value.oneCell']) acy (by unfold maxLen;decide) ?_;intro jg jcap jzs w23 S23 hjc1 hjc2 hjc3;simp only[tz,uc,ub,ui]at S23);clear S q0 qf ql q1 q1f q1l q2 q2f q2l q3 q3f q3l q4 q4f q4l q5 q5f q5l;rw[vq];go_upto_region 46 with fail;go_wp2_with(refine ux rfl 73 (.tmp 10) rfl qb rfl 73 (QV.arr {k:=1,tb:=[116]}) (0,0) _ (S23.out.blk 7 rfl) underlying73 rfl (Bd _) ?_);refine tp (Ic 5 {k:=1,tb:=[116]} w23) ?_;rintro e w24 ⟨n0,rfl,hge,hbk,hbl⟩;have S:Hid (St w w24 [(n0,QV.arr {k:=1,tb:=[116]},73),_,_,(jg,(U 1::U 0::U 0::U 0::eS::eL::U 1::U 1::U 0::U 0::eS::eL::jzs).toArray,69),_,_,_,_,_,_,_,_,_,_]):=St.since S23.out hbl hge hbk;clear hge hbk hbl S23;go_upto_region 47 with(refine ur rfl 73 (.tmp 10) (.tmp 176) rfl qb (QV.arr {k:=5,s:=(some ⟨n0,0,none⟩,1,1)}) rfl rfl 73 (QV.arr {k:=1,tb:=[116]}) (S.out.blk 8 rfl) (Bd _) rfl (Eo _) ?_);refine St.gen (St.row 8 (QV.arr {k:=5,s:=(some ⟨n0,0,none⟩,1,1)}) S.out rfl) ?_;clear S;intro w25 S
 replace S:Hid (St w w25 [_,_,_,_,_,_,_,_,(qb,QV.arr {k:=5,s:=(some ⟨n0,0,none⟩,1,1)},73),_,_,_,_,_]):=S.out;obtain⟨u1,uf,ul⟩:=Aa (o:=10) (S.out.blk 8 rfl) rfl;simp only[sl0]at u1;go_upto_region 48 with fail;refine St.gen (St.set 8 (o:=10) (v:=.slice (O gg) 1 gcap) S.out rfl) ?_;clear S;intro w26 S;replace S:Hid (St w w26 [_,_,_,_,_,_,_,_,(qb,QV.arr {k:=5,s:=(some ⟨n0,0,none⟩,1,1),g:=(some ⟨gg,0,none⟩,1,gcap)},73),_,_,_,_,_]):=S.out;clear u1 uf ul;obtain⟨x,xf,xl⟩:=Aa (o:=1) (S.out.blk 13 rfl) hx1;go_upto_region 49 with fail;refine wm 3 ?_;rw[vq];clear x xf xl;obtain⟨i0,i1,i2,i3,i4,i5,i6,i7⟩:=HIC.out _ S.out.below;have il:=vp i0;go_upto_region 51 with fail;refine St.gen (St.alloc S.out (cs:=#[U 0,U 1,eS,.string (Y [97]),U 0,U 0,eS,.slice ina0 0 inc0]) (t:=132)) ?_;clear S;intro w27 S;replace S:Hid (St w w27 [(w26.heap.size,#[U 0,U 1,eS,.string (Y [97]),U 0,U 0,eS,.slice ina0 0 inc0],132),_,_,_,_,_,_,_,_,_,_,_,_,_,_]):=S.out;clear i0 i1 i2 i3 i4 i5 i6 i7 il;generalize w26.heap.size=r0 at S ⊢;obtain⟨q0,qf,ql⟩:=Aa (o:=0) (S.out.blk 0 rfl) rfl;obtain⟨j1,jf,jl⟩:=Aa (o:=1) (S.out.blk 4 rfl) rfl;go_wp2_with fail;refine tp (Ql gg gcap w27 (Aa (o:=0) (S.out.blk 7 rfl) rfl).1) ?_;rintro e w28 ⟨rfl,hb⟩
 have S28:Hid (St w w28 [(r0,#[U 0,U 1,eS,.string (Y [97]),U 0,U 0,eS,.slice ina0 0 inc0],132),_,_,_,_,_,_,_,_,_,_,_,_,_,_]):=S.out.kept hb;clear hb S q0 qf ql j1 jf jl;obtain⟨j0,jf,jl⟩:=Aa (o:=0) (S28.out.blk 4 rfl) rfl;obtain⟨j1,j1f,j1l⟩:=Aa (o:=1) (S28.out.blk 4 rfl) rfl;obtain⟨j2,j2f,j2l⟩:=Aa (o:=2) (S28.out.blk 4 rfl) rfl;obtain⟨j3,j3f,j3l⟩:=Aa (o:=3) (S28.out.blk 4 rfl) rfl;obtain⟨j4,j4f,j4l⟩:=Aa (o:=4) (S28.out.blk 4 rfl) rfl;obtain⟨j5,j5f,j5l⟩:=Aa (o:=5) (S28.out.blk 4 rfl) rfl;go_upto_region 58 with fail
 refine St.gen ((show St w (World.setCells w28 jg 0 [U 1,U 0,U 0,U 0,eS,eL]) [(r0,#[U 0,U 1,eS,.string (Y [97]),U 0,U 0,eS,.slice ina0 0 inc0],132),(n0,QV.arr {k:=1,tb:=[116]},73),((p1+1),#[U 1,U 1,U 0,U 0,eS,eL],69),(p1,#[U 2,U 1,eS,.string (Y [98]),U 0,U 0,eS,.slice ina1 0 inc1],132),(jg,(U 1::U 0::U 0::U 0::eS::eL::U 1::U 1::U 0::U 0::eS::eL::jzs).toArray,69),((p0+1),#[U 1,U 0,U 0,U 0,eS,eL],69),(p0,#[U 0,U 1,eS,.string (Y [97]),U 0,U 0,eS,.slice ina0 0 inc0],132),(gg,(U 0::gzs).toArray,3),(eb,#[U 1,eS,.string (Y [97]),U 0,U 0,eS,.slice gna 0 gnc],44),(qb,QV.arr {k:=5,s:=(some ⟨n0,0,none⟩,1,1),g:=(some ⟨gg,0,none⟩,1,gcap)},73),(sg,(.string (Y [116])::.slice (some ⟨cb,co,none⟩) 2 cc::.slice ja 0 jc::.slice ka 0 kc::szs).toArray,35),(nb,#[.string (Y [116])],9),((w.heap.size+1+1),#[.slice (O sg) 1 scap,U 0],125),((w.heap.size+1),QV.arr {},73),(w.heap.size,xa,48)]from by rw[Em [U 1,U 0,U 0,U 0,eS,eL] 0 w28 (S28.out.blk 4 rfl) (fun j v hv=>by rcases j with _|_|_|_|_|_|j<;>first|exact hv|(simp at hv))];exact S28.out)) ?_
 intro w29 S;replace S:=tm (S.out);clear S28 j0 jf jl j1 j1f j1l j2 j2f j2l j3 j3f j3l j4 j4f j4l j5 j5f j5l;go_upto_region 49 with fail;rw[vq];obtain⟨i0,i1,i2,i3,i4,i5,i6,i7⟩:=HIC1.out _ S.out.below;have il:=vp i0;go_upto_region 51 with fail;refine St.gen (St.alloc S.out (cs:=#[U 2,U 1,eS,.string (Y [98]),U 0,U 0,eS,.slice ina1 0 inc1]) (t:=132)) ?_;clear S;intro w30 S;replace S:Hid (St w w30 [(w29.heap.size,#[U 2,U 1,eS,.string (Y [98]),U 0,U 0,eS,.slice ina1 0 inc1],132),_,_,_,_,_,_,_,_,_,_,_,_,_,_,_]):=S.out;clear i0 i1 i2 i3 i4 i5 i6 i7 il;generalize w29.heap.size=r1 at S ⊢;obtain⟨q0,qf,ql⟩:=Aa (o:=0) (S.out.blk 0 rfl) rfl;go_upto_region 52 with fail;clear q0 qf ql;obtain⟨q0,qf,ql⟩:=Aa (o:=0) (S.out.blk 0 rfl) rfl;obtain⟨u1,uf,ul⟩:=Aa (o:=11) (S.out.blk 10 rfl) rfl;simp only[sl0]at u1;obtain⟨j0,jf,jl⟩:=Aa (o:=6) (S.out.blk 5 rfl) rfl;obtain⟨j1,j1f,j1l⟩:=Aa (o:=7) (S.out.blk 5 rfl) rfl;obtain⟨j2,j2f,j2l⟩:=Aa (o:=8) (S.out.blk 5 rfl) rfl;obtain⟨j3,j3f,j3l⟩:=Aa (o:=9) (S.out.blk 5 rfl) rfl;obtain⟨j4,j4f,j4l⟩:=Aa (o:=10) (S.out.blk 5 rfl) rfl;obtain⟨j5,j5f,j5l⟩:=Aa (o:=11) (S.out.blk 5 rfl) rfl;replace q0:=ud q0;replace u1:=ud u1;replace j0:=ud j0;replace j1:=ud j1;replace j2:=ud j2;replace j3:=ud j3;replace j4:=ud j4;replace j5:=ud j5
 refine wp_region_mixed 12 [(0,false),(1,false),(2,false),(3,false),(4,false),(5,false),(6,false),(7,false),(8,false),(9,true),(10,true),(11,false)] acz acz ?_;refine z1053 ?_;clear q0 qf ql u1 uf ul j0 jf jl j1 j1f j1l j2 j2f j2l j3 j3f j3l j4 j4f j4l j5 j5f j5l;refine B9 rfl ?_;intro w31 hb hb0;have T:=tm ((St.start w30).kept hb);clear hb hb0;go_wp2_with fail;refine⟨(St.alloc T.out).below,B9 rfl ?_⟩;intro w32 hb hb0;replace T:=tm ((St.alloc T.out (cs:=#[U 2,U 1,U 1,U 0,U 0,eS,eL]) (t:=134)).kept hb);clear hb hb0;generalize w31.heap.size=ab at T ⊢;go_wp2_with(refine wpList_append_nil rfl (.tmp 191) (.tmp 199) 70 rfl 134 (.agg #[U 0,U 0,U 0,U 0,U 0,eS,eL]) 7 80 underlying70 ou rfl acy T.out rfl _ 1 [U 2,U 1,U 1,U 0,U 0,eS,eL] rfl acy (Oy (T.out.blk 0 rfl) acy) rfl (by simp[Value.oneCell']) acy (by unfold maxLen;decide) ?_;intro ag acap azs w33 T33 hac1 hac2 hac3;simp only[tz,uc]at T33);replace S:Hid (St w w33 [(ag,(U 2::U 1::U 1::U 0::U 0::eS::eL::azs).toArray,134),(r1,#[U 2,U 1,eS,.string (Y [98]),U 0,U 0,eS,.slice ina1 0 inc1],132),_,_,_,_,_,_,_,_,_,_,_,_,_,_,_]):=St.since S.out T33.out.below (T33.out.own _ (aba)).1 (T33.out.blk 0 rfl);refine⟨T33.out.below,?_⟩
 clear T T33;refine z38 ?_;intro w34 hb _;refine z252 ?_;intro S;clear hb;obtain⟨u1,uf,ul⟩:=Aa (o:=11) (S.out.blk 11 rfl) rfl;simp only[sl0]at u1;go_upto_region 53 with fail;refine St.gen (St.set 11 (o:=11) (v:=.slice (O ag) 1 acap) S.out rfl) ?_;clear S;intro w35 S;have S35:Hid (St w w35 [_,_,_,_,_,_,_,_,_,_,_,(qb,QV.arr {k:=5,s:=(some ⟨n0,0,none⟩,1,1),g:=(some ⟨gg,0,none⟩,1,gcap),a:=(some ⟨ag,0,none⟩,1,acap)},73),_,_,_,_,_]):=S.out;clear S u1 uf ul;have u1:w35.cell? ⟨qb,11,none⟩=some (.slice (O ag) 1 acap):=(Aa (o:=11) (S35.out.blk 11 rfl) rfl).1;have ul:=vp u1;obtain⟨j0,jf,jl⟩:=Aa (o:=6) (S35.out.blk 6 rfl) rfl;obtain⟨j1,j1f,j1l⟩:=Aa (o:=7) (S35.out.blk 6 rfl) rfl;obtain⟨j2,j2f,j2l⟩:=Aa (o:=8) (S35.out.blk 6 rfl) rfl;obtain⟨j3,j3f,j3l⟩:=Aa (o:=9) (S35.out.blk 6 rfl) rfl;obtain⟨j4,j4f,j4l⟩:=Aa (o:=10) (S35.out.blk 6 rfl) rfl;obtain⟨j5,j5f,j5l⟩:=Aa (o:=11) (S35.out.blk 6 rfl) rfl;go_upto_region 58 with fail
 refine St.gen ((show St w (World.setCells w35 jg 6 [U 1,U 1,U 0,U 0,eS,eL]) [(ag,(U 2::U 1::U 1::U 0::U 0::eS::eL::azs).toArray,134),(r1,#[U 2,U 1,eS,.string (Y [98]),U 0,U 0,eS,.slice ina1 0 inc1],132),(r0,#[U 0,U 1,eS,.string (Y [97]),U 0,U 0,eS,.slice ina0 0 inc0],132),(n0,QV.arr {k:=1,tb:=[116]},73),((p1+1),#[U 1,U 1,U 0,U 0,eS,eL],69),(p1,#[U 2,U 1,eS,.string (Y [98]),U 0,U 0,eS,.slice ina1 0 inc1],132),(jg,(U 1::U 0::U 0::U 0::eS::eL::U 1::U 1::U 0::U 0::eS::eL::jzs).toArray,69),((p0+1),#[U 1,U 0,U 0,U 0,eS,eL],69),(p0,#[U 0,U 1,eS,.string (Y [97]),U 0,U 0,eS,.slice ina0 0 inc0],132),(gg,(U 0::gzs).toArray,3),(eb,#[U 1,eS,.string (Y [97]),U 0,U 0,eS,.slice gna 0 gnc],44),(qb,QV.arr {k:=5,s:=(some ⟨n0,0,none⟩,1,1),g:=(some ⟨gg,0,none⟩,1,gcap),a:=(some ⟨ag,0,none⟩,1,acap)},73),(sg,(.string (Y [116])::.slice (some ⟨cb,co,none⟩) 2 cc::.slice ja 0 jc::.slice ka 0 kc::szs).toArray,35),(nb,#[.string (Y [116])],9),((w.heap.size+1+1),#[.slice (O sg) 1 scap,U 0],125),((w.heap.size+1),QV.arr {},73),(w.heap.size,xa,48)]from by rw[Em [U 1,U 1,U 0,U 0,eS,eL] 6 w35 (S35.out.blk 6 rfl) (fun j v hv=>by rcases j with _|_|_|_|_|_|j<;>first|exact hv|(simp at hv))];exact S35.out)) ?_
 intro w36 S;replace S:=tm (S.out);clear S35 u1 ul j0 jf jl j1 j1f j1l j2 j2f j2l j3 j3f j3l j4 j4f j4l j5 j5f j5l;go_upto_region 49 with fail;rw[vq];go_upto_region 59 with fail;go_wp2_with(first|(refine ux rfl 73 (.tmp 10) rfl qb rfl 73 (QV.arr {k:=5,s:=(some ⟨n0,0,none⟩,1,1),g:=(some ⟨gg,0,none⟩,1,gcap),a:=(some ⟨ag,0,none⟩,1,acap)}) (0,0) _ (S.out.blk 11 rfl) underlying73 rfl (Bd _) ?_)|(refine ux rfl 48 (.tmp 3) rfl w.heap.size rfl 48 xa (0,0) _ (S.out.blk 16 rfl) underlying48 rfl hxs ?_));refine tp (ah Q (w.heap.size+1+1) (.slice (O sg) 1 scap) {k:=5,s:=(some ⟨n0,0,none⟩,1,1),g:=(some ⟨gg,0,none⟩,1,gcap),a:=(some ⟨ag,0,none⟩,1,acap)} xa sa sc (some ⟨jg,0,none⟩) jcap w36 (S.out.blk 14 rfl) hx0 hx12 hx13 (HSO.out.kept acy S.out.below)) ?_;rintro e w37 ⟨m,m2,m3,og,ocap,ozs,rfl,hoc,hst⟩;replace S:Hid (St w w37 [(m3,QV.arr {k:=6,s:=(some ⟨m2,0,none⟩,1,1),o:=(some ⟨og,0,none⟩,1,ocap)},73),(og,(U 1::.bool true::ozs).toArray,205),(m2,QV.arr {k:=3,s:=(some ⟨m,0,none⟩,1,1),c:=(some ⟨jg,0,none⟩,2,jcap)},73),(m,QV.arr {k:=5,s:=(some ⟨n0,0,none⟩,1,1),g:=(some ⟨gg,0,none⟩,1,gcap),a:=(some ⟨ag,0,none⟩,1,acap)},73),_,_,_,_,_,_,_,_,_,_,_,_,_,_,_,_,_]):=St.join S.out hst;clear hst;go_upto_region 60 with(refine ur rfl 73 (.tmp 10) (.tmp 242) rfl qb (QV.arr {k:=7,s:=(some ⟨m3,0,none⟩,1,1),n:=3}) rfl rfl 73 (QV.arr {k:=5,s:=(some ⟨n0,0,none⟩,1,1),g:=(some ⟨gg,0,none⟩,1,gcap),a:=(some ⟨ag,0,none⟩,1,acap)}) (S.out.blk 15 rfl) (Bd _) rfl (Eo _) ?_)
 refine St.gen (St.row 15 (QV.arr {k:=7,s:=(some ⟨m3,0,none⟩,1,1),n:=3}) S.out rfl) ?_;clear S;intro w38 S;replace S:Hid (St w w38 [_,_,_,_,_,_,_,_,_,_,_,_,_,_,_,(qb,QV.arr {k:=7,s:=(some ⟨m3,0,none⟩,1,1),n:=3},73),_,_,_,_,_]):=S.out;obtain⟨b1,bf,bl⟩:=Aa (o:=1) (S.out.blk 18 rfl) rfl;go_upto_region 61 with fail;clear b1 bf bl;go_wp2_with(refine ux rfl 73 (.tmp 10) rfl qb rfl 73 (QV.arr {k:=7,s:=(some ⟨m3,0,none⟩,1,1),n:=3}) (0,0) _ (S.out.blk 15 rfl) underlying73 rfl (Bd _) ?_);have hT:∀b:Nat,(fun _=>True:Nat->Prop) b:=fun _=>trivial;have k_m:w38.heap[m3]?=some (.cells (QV.arr {k:=6,s:=(some ⟨m2,0,none⟩,1,1),o:=(some ⟨og,0,none⟩,1,ocap)}) 73 (0,0)):=S.out.blk 0 rfl;have k_m2:w38.heap[m2]?=some (.cells (QV.arr {k:=3,s:=(some ⟨m,0,none⟩,1,1),c:=(some ⟨jg,0,none⟩,2,jcap)}) 73 (0,0)):=S.out.blk 2 rfl;have k_m1:w38.heap[m]?=some (.cells (QV.arr {k:=5,s:=(some ⟨n0,0,none⟩,1,1),g:=(some ⟨gg,0,none⟩,1,gcap),a:=(some ⟨ag,0,none⟩,1,acap)}) 73 (0,0)):=S.out.blk 3 rfl;have k_n:w38.heap[n0]?=some (.cells (QV.arr {k:=1,tb:=[116]}) 73 (0,0)):=S.out.blk 7 rfl;have k_gg:w38.heap[gg]?=some (.cells (U 0::gzs).toArray 3 (0,0)):=S.out.blk 13 rfl;have k_ag:w38.heap[ag]?=some (.cells (U 2::U 1::U 1::U 0::U 0::eS::eL::azs).toArray 134 (0,0)):=S.out.blk 4 rfl
 have k_jg:w38.heap[jg]?=some (.cells (U 1::U 0::U 0::U 0::eS::eL::U 1::U 1::U 0::U 0::eS::eL::jzs).toArray 69 (0,0)):=S.out.blk 10 rfl;have k_og:w38.heap[og]?=some (.cells (U 1::.bool true::ozs).toArray 205 (0,0)):=S.out.blk 1 rfl;have hq:=bi (W:=w38) hT k_n k_gg hgc1 k_ag hac1;have hq2:=R7 (W:=w38) (q:={k:=5,s:=(some ⟨n0,0,none⟩,1,1),g:=(some ⟨gg,0,none⟩,1,gcap),a:=(some ⟨ag,0,none⟩,1,acap)}) hT k_m1 hq k_jg hjc1;have hq3:=be (W:=w38) (q:={k:=3,s:=(some ⟨m,0,none⟩,1,1),c:=(some ⟨jg,0,none⟩,2,jcap)}) hT k_m2 hq2 k_og hoc;have hqy:=bh (W:=w38) (q:={k:=6,s:=(some ⟨m2,0,none⟩,1,1),o:=(some ⟨og,0,none⟩,1,ocap)}) hT k_m hq3;clear hq hq2 hq3 k_m k_m2 k_m1 k_n k_gg k_ag k_jg k_og;refine tp (aw (fun _=>True) _ {k:=7,s:=(some ⟨m3,0,none⟩,1,1),n:=3} w38 (Cq (HD.out.kept acy S.out.below) acy (fun _ _=>trivial)) hqy) ?_;rintro e w39 ⟨vk,rfl,hv,hb⟩;refine z252 ?_;intro S;clear hb hv hqy;obtain⟨b1,bf,bl⟩:=Aa (o:=1) (S.out.blk 18 rfl) rfl;go_upto_region 62 with fail;refine St.gen (St.set 18 (o:=1) (v:=U 0) S.out rfl) ?_;clear S;intro w40 S;replace S:=tm (S.out);clear b1 bf bl;obtain⟨b1,bf,bl⟩:=Aa (o:=1) (S.out.blk 18 rfl) rfl;go_upto_region 64 with fail;clear b1 bf bl
 go_wp2_with(first|(refine ux rfl 73 (.tmp 10) rfl qb rfl 73 (QV.arr {k:=7,s:=(some ⟨m3,0,none⟩,1,1),n:=3}) (0,0) _ (S.out.blk 15 rfl) underlying73 rfl (Bd _) ?_)|(refine ur rfl 73 (.tmp 4) (.tmp 267) rfl (w.heap.size+1) (QV.arr {k:=7,s:=(some ⟨m3,0,none⟩,1,1),n:=3}) rfl rfl 73 (QV.arr {}) (S.out.blk 19 rfl) (Bd _) rfl (Eo _) ?_)|(with_reducible (refine hold ?_)));unfold Held;have SE:=St.row 19 (QV.arr {k:=7,s:=(some ⟨m3,0,none⟩,1,1),n:=3}) S.out rfl;simp only[ub,ui]at SE;have hl:=yr (P:=prog) _ (w.heap.size+1) 73 73 (QV.arr {k:=7,s:=(some ⟨m3,0,none⟩,1,1),n:=3}) (0,0) _ (SE.blk 19 rfl) underlying73 rfl (Bd _);refine ue (v:=.tuple #[.agg (QV.arr {k:=7,s:=(some ⟨m3,0,none⟩,1,1),n:=3}),U 0]) (H8 rfl _ _ (w.heap.size+1) _ _ rfl rfl hl) rfl ?_;exact⟨_,rfl,SE.below⟩
end Go.Proofs.YtimoefagohifaaaGreatDoor
