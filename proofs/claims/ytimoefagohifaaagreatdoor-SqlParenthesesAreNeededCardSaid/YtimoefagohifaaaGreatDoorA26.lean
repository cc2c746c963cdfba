/- Laws that the last part needs. No condition. -/
import Derived.Deep.CutBlock
import Derived.Test.YtimoefagohifaaaGreatDoorA19
set_option maxHeartbeats 8000000
set_option maxRecDepth 100000
namespace Go.Proofs.YtimoefagohifaaaGreatDoor
open Go.RowKit Go.Sort Tryz
theorem codeGenC {P:Program} {c:Code} {Q:Exit->Act->World->Prop} {a:Act} {w:World} (R:World->Prop) (h:R w) (k:∀W,R W->Code.wp P c Q a W):Code.wp P c Q a w:=k w h
def errF (b:Bool):Int:=if b then 0 else 3
section
variable {s:SV} {x:Stm} (h:SvIs s x)
include h
theorem D1:SvIs {s with tb:=[]} {x with table:=[]}:={h with tb:=rfl}
theorem J1:SvIs {s with nm:=[]} {x with name:=[]}:={h with nm:=rfl}
theorem Ou:SvIs {s with ns:=sl0} {x with names:=[]}:={h with ns:=rfl}
theorem Ot:SvIs {s with wo:=0,wt:=[],wn:=[],wv:=V.null,wa:=sl0} {x with where_:=Ex.zero}:={h with wz:=rfl}
theorem V6:SvIs {s with un:=false} {x with unique:=false}:={h with un:=rfl}
theorem gy:SvIs {s with rs:=sl0} {x with rows:=[]}:={h with rs:=rfl}
theorem Z7:SvIs {s with es:=sl0} {x with exprs:=[]}:={h with es:=rfl}
theorem V8:SvIs {s with s0:=[],s1:=sl0,s2:=sl0,s3:=sl0} {x with schema:=Tbl.zero}:={h with s0:=rfl,s1:=rfl,s2:=rfl,s3:=rfl}
theorem V9:SvIs {s with c0:=[],c1:=0,c2:=false} {x with column:=Col.zero}:={h with c0:=rfl,c1:=rfl,c2:=rfl}
theorem V7:SvIs {s with xd:=false,xi:=sl0,xf:=sl0,xo:=sl0,yo:=0,yt:=[],yn:=[],yv:=V.null,ya:=sl0,xg:=sl0,xs:=sl0,xl:=0} {x with select:=Sel.zero}:={h with xd:=rfl,xi:=rfl,xf:=rfl,xo:=rfl,yz:=rfl,xg:=rfl,xs:=rfl,xl:=rfl}
theorem Nd:SvIs {s with md:=0} {x with mode:=0}:={h with md:=rfl}
end
def SV.small (s:SV):Prop:=s.lists<=4611686018427387904/\s.tb.length+s.nm.length+s.s0.length<=4611686018427387904
def CkSt (w W:World) (bo:Nat) (s:SV) (b:Bool) (r:SV):Prop:=StM (fun _=>False) w W [(bo,#[.bool b],4),(w.heap.size+1,r.arr,50),(w.heap.size,s.arr,50)]
theorem CkSt.at {w W:World} {bo:Nat} {s r:SV} {b:Bool} (h:CkSt w W bo s b r):CkAt bo (w.heap.size+1) w.heap.size W b r s:=by
 have hn:=StM.facts h;simp only[St.Facts,apartFacts,uo]at hn;exact⟨StM.blk h 0 rfl,StM.blk h 1 rfl,StM.blk h 2 rfl,hn.2.2.1.1.1,hn.2.2.1.2.1,by omega⟩
theorem CkSt.kept {w W W':World} {bo:Nat} {s r:SV} {b:Bool} (h:CkSt w W bo s b r) (hb:Below W.heap.size W W'):CkSt w W' bo s b r:=StM.kept h hb
theorem CkSt.below {w W:World} {bo:Nat} {s r:SV} {b:Bool} (h:CkSt w W bo s b r):Below w.heap.size w W:=Turn.below h.turn
theorem CkSt.went {w W W':World} {bo:Nat} {s r r':SV} {b b':Bool} {e:Ending} (h:CkSt w W bo s b r) (k:CkPost bo (w.heap.size+1) W b' r' e W'):e=.returned (.tuple #[])/\Hid (CkSt w W' bo s b' r'):=by
 obtain⟨e1,ht,h1,h2⟩:=k;have ha:=h.at;have g0:=StM.own h (bo,#[.bool b],4) acx;refine⟨e1,⟨?_,?_,?_⟩⟩
 ·exact h.turn.trans ht (fun i hi hk=>by
   rcases hk with rfl|rfl
   ·rcases g0.1 with g|g
    ·exact g
    ·have g':w.heap.size<=i:=g;omega
   ·omega)
 ·intro y hy;simp only[uw,vl,xp]at hy;rcases hy with rfl|rfl|rfl
  ·exact⟨g0.1,h1⟩
  ·exact⟨.inr (by show w.heap.size<=w.heap.size+1;omega),h2⟩
  ·refine⟨.inr (tu _),?_⟩;have hlt:w.heap.size<W.heap.size:=(uh.1 ha.x).1;exact(ht.block _ hlt (by rintro(e|e);exact ha.ox e.symm;omega)).trans ha.x
 ·simp[ha.or,ha.ox]
theorem CkSt.kind {w W:World} {bo:Nat} {s r:SV} {b:Bool} (h:CkSt w W bo s b r):W.cell? ⟨w.heap.size,0,none⟩=some (U s.k):=by simp only[World.cell?,h.at.x];rfl
theorem CkSt.ok {w W:World} {bo:Nat} {s r:SV} {b:Bool} (h:CkSt w W bo s b r):W.cell? ⟨bo,0,none⟩=some (.bool b)/\W.frozen? ⟨bo,0,none⟩=false/\bo≠w.heap.size+1/\w.heap.size+1≠bo/\bo≠w.heap.size/\w.heap.size≠bo:=
 ⟨by simp only[World.cell?,h.at.o];rfl,A7 h.at.o,h.at.or,Ne.symm h.at.or,h.at.ox,Ne.symm h.at.ox⟩
theorem CkSt.genC {w W:World} {bo:Nat} {s r:SV} {b:Bool} {f:FuncId} {args:Array Value} {K:Ending->World->Prop} (h:CkSt w W bo s b r) (k:∀W',Hid (CkSt w W' bo s b r)->Calls prog f args W' K):Calls prog f args W K:=k W h
theorem r5 (r:SV):setArr r.arr 11 [.bool false]={r with un:=false}.arr:=acz
theorem r8 (r:SV):setArr r.arr 12 [eL]={r with rs:=sl0}.arr:=acz
theorem r9 (r:SV):setArr r.arr 13 [eL]={r with es:=sl0}.arr:=acz
theorem Z8 (r:SV):setArr r.arr 35 [U 0]={r with md:=0}.arr:=acz
theorem ny (r:SV):setArr r.arr 3 [eS,eL,eL,eL]={r with s0:=[],s1:=sl0,s2:=sl0,s3:=sl0}.arr:=acz
theorem nz (r:SV):setArr r.arr 7 [eS,U 0,.bool false]={r with c0:=[],c1:=0,c2:=false}.arr:=acz
theorem nw (r:SV):setArr r.arr 21 [.bool false,eL,eL,eL,U 0,eS,eS,U 0,U 0,eS,eL,eL,eL,U 0]={r with xd:=false,xi:=sl0,xf:=sl0,xo:=sl0,yo:=0,yt:=[],yn:=[],yv:=V.null,ya:=sl0,xg:=sl0,xs:=sl0,xl:=0}.arr:=acz
theorem CkSt.store {w W:World} {bo:Nat} {s r r':SV} {b b':Bool} (h:CkSt w W bo s b r) (o:Nat) (vs:List Value) (e:setArr r.arr o vs=r'.arr):CkSt w ((W.setCell ⟨bo,0,none⟩ (.bool b')).setCells (w.heap.size+1) o vs) bo s b' r':=by
 have k:=StM.setsL (i:=1) vs o _ _ _ (StM.set 0 (o:=0) (v:=.bool b') h rfl) rfl;exact pn
theorem CkSt.storeR {w W:World} {bo:Nat} {s r r':SV} {b:Bool} (h:CkSt w W bo s b r) (o:Nat) (vs:List Value) (e:setArr r.arr o vs=r'.arr):CkSt w (W.setCells (w.heap.size+1) o vs) bo s b r':=by
 have k:=StM.setsL (i:=1) vs o _ _ _ h rfl;exact pn
theorem CkSt.storeO {w W:World} {bo:Nat} {s r:SV} {b b':Bool} (h:CkSt w W bo s b r):CkSt w (W.setCell ⟨bo,0,none⟩ (.bool b')) bo s b' r:=by
 have k:=StM.set 0 (o:=0) (v:=.bool b') h rfl;simp only[ub,um]at k;exact k
theorem I8 {Q:Nat->Prop} {w:World} {s:SV} {x:Stm} (h:StmIn Q w s x):ExIn Q w x.where_ [U s.wo,.string (Y s.wt),.string (Y s.wn),U s.wv.k,U s.wv.n,.string s.wv.s,.slice s.wa.1 s.wa.2.1 s.wa.2.2]:=by
 obtain⟨e1,e2,e3,e4,e5⟩:=h.wh;rw[e1,e2,e3,e4];generalize x.where_=e at *;obtain⟨op,t,n,v,args⟩:=e;exact Bc e5
def CkK (k:Int):Prop:=∀(Q:Nat->Prop) (x:Stm) (s:SV) (w:World),StmIn Q w s x->x.Wf->x.kind=k->x.lists<=4611686018427387904->x.txt<=4611686018427387904->Calls prog 14 #[.agg s.arr] w (Says (U (errF x.formed)) w)
theorem ep:CkK 1:=by
 intro Q x s w h hwf hk hl ht;refine z1037 ?_;clear hl ht h hwf;intro hmf SZ H HS HL HWF HNS hkx y HY;go_enter func14,ntmps14;go_upto_region 3 with(first|(refine ux rfl 50 (.tmp 1) rfl w.heap.size rfl 50 s.arr (0,0) _ (World.alloc_heap_new w _) underlying50 rfl (sv_size _) ?_)|(refine ur rfl 50 (.tmp 3) (.tmp 9) rfl (w.heap.size+1) s.arr rfl rfl 50 (SV.arr {}) (SZ.out.blk 0 rfl) (sv_size _) rfl (sv_one _) ?_;refine St.genL (St.row 0 s.arr SZ.out rfl) ?_;intro W2 S2;clear SZ));refine codeGenC (fun W=>CkSt w W W2.heap.size s true s) (St.toM (fun _=>False) (St.alloc S2.out (cs:=#[.bool true]) (t:=4))) ?_;clear S2;intro W3 S;replace S:=tm S;generalize W2.heap.size=bo at *;clear W2;have kd:=S.out.kind;go_upto_block 0 with fail;clear hmf;go_cut []from 15 (fun wc=>∃(b:Bool) (r:SV),CkSt w wc bo s b r/\y=(b&&r.unused)/\r.small)
 case first=>
  have hks:s.k=1:=hkx.trans hk;rw[hks]at kd;have x3:W3.cell? ⟨w.heap.size,3,none⟩=some (.string (Y s.s0)):=Ze;have x4:W3.cell? ⟨w.heap.size,4,none⟩=some (.slice s.s1.1 s.s1.2.1 s.s1.2.2):=Ze;have x5:W3.cell? ⟨w.heap.size,5,none⟩=some (.slice s.s2.1 s.s2.2.1 s.s2.2.2):=Ze;have x6:W3.cell? ⟨w.heap.size,6,none⟩=some (.slice s.s3.1 s.s3.2.1 s.s3.2.2):=Ze;go_wp2_with fail;refine tp ((Rr Q x.schema _ _ (H.out.kept S.out.below).sch HWF.out.checks)) ?_;rintro e w4 ⟨rfl,hb⟩;have S:=tm (S.out.kept hb);clear hb x3 x4 x5 x6;obtain⟨o0,o1,o2,o3,o4,o5⟩:=S.out.ok;have z:w4.cell? ⟨w.heap.size+1,3,none⟩=some (.string (Y s.s0)):=Zf;have zf:=A7 (o:=3) S.out.at.r;have z4:w4.cell? ⟨w.heap.size+1,4,none⟩=some (.slice s.s1.1 s.s1.2.1 s.s1.2.2):=Zf;have zf4:=A7 (o:=4) S.out.at.r;have z5:w4.cell? ⟨w.heap.size+1,5,none⟩=some (.slice s.s2.1 s.s2.2.1 s.s2.2.2):=Zf;have zf5:=A7 (o:=5) S.out.at.r;have z6:w4.cell? ⟨w.heap.size+1,6,none⟩=some (.slice s.s3.1 s.s3.2.1 s.s3.2.2):=Zf;have zf6:=A7 (o:=6) S.out.at.r;generalize hq:(x.schema.tabled)=q at *;go_wp2_with fail;clear z zf z4 zf4 z5 zf5 z6 zf6;clear o0 o1 o2 o3 o4 o5;go_meet;refine⟨q,{s with s0:=[],s1:=sl0,s2:=sl0,s3:=sl0},(S.out.store 3 [eS,eL,eL,eL] (ny _)),?_,?_⟩
  ·skip;rw[SvIs.unused (V8 HS.out),<- HY.out,<- hq];exact U4
  ·exact z35
 case rest=>
  obtain⟨b,r,hS,hy,hsm⟩:=hcut;replace S:Hid (CkSt w wc bo s b r):=hS;have HR:=tm hy;have C:=tm (fun W=>Bg r hsm.1 hsm.2 W);obtain⟨o0,_,_,_,_,_⟩:=S.out.ok;clear hS hy hsm HS HL HWF HNS HY H kd;generalize r.unused=u at *
  cases b with
  | false=>exact z58
  | true=>
   have HF:Hid (y=u):=by show _=_;rw[HR.out,wk]
   go_wp2_with(refine Ap rfl 50 (.tmp 3) rfl (w.heap.size+1) rfl 50 r.arr (0,0) _ S.out.at.r underlying50 rfl (sv_size _) ?_);refine tp (C.out _) ?_;rintro e w5 ⟨rfl,hb5⟩;replace S:=tm (S.out.kept hb5);clear hb5 HR C o0
   cases u with
   | false=>exact z26
   | true=>exact z26
theorem eo:CkK 2:=by
 intro Q x s w h hwf hk hl ht;refine z1037 ?_;clear hl ht h hwf;intro hmf SZ H HS HL HWF HNS hkx y HY;go_enter func14,ntmps14;go_upto_region 3 with(first|(refine ux rfl 50 (.tmp 1) rfl w.heap.size rfl 50 s.arr (0,0) _ (World.alloc_heap_new w _) underlying50 rfl (sv_size _) ?_)|(refine ur rfl 50 (.tmp 3) (.tmp 9) rfl (w.heap.size+1) s.arr rfl rfl 50 (SV.arr {}) (SZ.out.blk 0 rfl) (sv_size _) rfl (sv_one _) ?_;refine St.genL (St.row 0 s.arr SZ.out rfl) ?_;intro W2 S2;clear SZ));refine codeGenC (fun W=>CkSt w W W2.heap.size s true s) (St.toM (fun _=>False) (St.alloc S2.out (cs:=#[.bool true]) (t:=4))) ?_;clear S2;intro W3 S;replace S:=tm S;generalize W2.heap.size=bo at *;clear W2;have kd:=S.out.kind;go_upto_block 0 with fail;clear hmf;go_cut []from 15 (fun wc=>∃(b:Bool) (r:SV),CkSt w wc bo s b r/\y=(b&&r.unused)/\r.small)
 case first=>
  have hks:s.k=2:=hkx.trans hk;rw[hks]at kd;go_wp2_with fail;refine tp (ck36 bo (w.heap.size+1) w.heap.size (true) (isName x.table) (s) s _ S.out.at (fun W _=>by rw[show s.tb=x.table from HS.out.tb];exact Ah x.table W)) ?_;intro e w4 hp;obtain⟨rfl,S⟩:=S.out.went hp;clear hp;generalize hq:(true&&isName x.table)=q at S;go_wp2_with fail;go_meet;refine⟨q,{s with tb:=[]},S.out,?_,?_⟩
  ·skip;rw[SvIs.unused (D1 HS.out),<- HY.out,<- hq];exact U4
  ·exact z35
 case rest=>
  obtain⟨b,r,hS,hy,hsm⟩:=hcut;replace S:Hid (CkSt w wc bo s b r):=hS;have HR:=tm hy;have C:=tm (fun W=>Bg r hsm.1 hsm.2 W);obtain⟨o,_,_,_,_,_⟩:=S.out.ok;clear hS hy hsm HS HL HWF HNS HY H kd;generalize r.unused=u at *
  cases b with
  | false=>exact z58
  | true=>
   have HF:Hid (y=u):=by show _=_;rw[HR.out,wk]
   go_wp2_with(refine Ap rfl 50 (.tmp 3) rfl (w.heap.size+1) rfl 50 r.arr (0,0) _ S.out.at.r underlying50 rfl (sv_size _) ?_);refine tp (C.out _) ?_;rintro e w5 ⟨rfl,hb⟩;replace S:=tm (S.out.kept hb);clear hb HR C o
   cases u with
   | false=>exact z26
   | true=>exact z26
theorem en:CkK 3:=by
 intro Q x s w h hwf hk hl ht;refine z1037 ?_;clear hl ht h hwf;intro hmf SZ H HS HL HWF HNS hkx y HY;go_enter func14,ntmps14;go_upto_region 3 with(first|(refine ux rfl 50 (.tmp 1) rfl w.heap.size rfl 50 s.arr (0,0) _ (World.alloc_heap_new w _) underlying50 rfl (sv_size _) ?_)|(refine ur rfl 50 (.tmp 3) (.tmp 9) rfl (w.heap.size+1) s.arr rfl rfl 50 (SV.arr {}) (SZ.out.blk 0 rfl) (sv_size _) rfl (sv_one _) ?_;refine St.genL (St.row 0 s.arr SZ.out rfl) ?_;intro W2 S2;clear SZ));refine codeGenC (fun W=>CkSt w W W2.heap.size s true s) (St.toM (fun _=>False) (St.alloc S2.out (cs:=#[.bool true]) (t:=4))) ?_;clear S2;intro W3 S;replace S:=tm S;generalize W2.heap.size=bo at *;clear W2;have kd:=S.out.kind;go_upto_block 0 with fail;clear hmf;go_cut []from 15 (fun wc=>∃(b:Bool) (r:SV),CkSt w wc bo s b r/\y=(b&&r.unused)/\r.small)
 case first=>
  have hks:s.k=3:=hkx.trans hk;rw[hks]at kd;have x7:W3.cell? ⟨w.heap.size,7,none⟩=some (.string (Y s.c0)):=Ze;have x8:W3.cell? ⟨w.heap.size,8,none⟩=some (U s.c1):=Ze;have x9:W3.cell? ⟨w.heap.size,9,none⟩=some (.bool s.c2):=Ze;go_wp2_with fail;refine tp ((by have e:=H.out.col;unfold SV.col at e;rw[e];exact K6 x.column _)) ?_;rintro e w4 ⟨rfl,hb⟩;have S:=tm (S.out.kept hb);clear hb x7 x8 x9;obtain⟨o0,o1,o2,o3,o4,o5⟩:=S.out.ok;have z:w4.cell? ⟨w.heap.size+1,7,none⟩=some (.string (Y s.c0)):=Zf;have zf:=A7 (o:=7) S.out.at.r;have z8:w4.cell? ⟨w.heap.size+1,8,none⟩=some (U s.c1):=Zf;have zf8:=A7 (o:=8) S.out.at.r;have z9:w4.cell? ⟨w.heap.size+1,9,none⟩=some (.bool s.c2):=Zf;have zf9:=A7 (o:=9) S.out.at.r;generalize hq:(x.column.kinded)=q at *;go_wp2_with fail;clear z zf z8 zf8 z9 zf9;clear o0 o1 o2 o3 o4 o5;refine CkSt.genC (S.out.store 7 [eS,U 0,.bool false] (nz _)) ?_;intro w5 S;refine tp (ck36 bo (w.heap.size+1) w.heap.size (q) (isName x.table) ({s with c0:=[],c1:=0,c2:=false}) s _ S.out.at (fun W _=>by rw[show s.tb=x.table from HS.out.tb];exact Ah x.table W)) ?_;intro e w6 hp;obtain⟨rfl,S⟩:=S.out.went hp;clear hp;generalize hq6:(q&&isName x.table)=q6 at S;go_wp2_with fail;go_meet;refine⟨q6,{({s with c0:=[],c1:=0,c2:=false}:SV)with tb:=[]},S.out,?_,?_⟩
  ·skip;rw[SvIs.unused (D1 (V9 HS.out)),<- HY.out,<- hq6,<- hq];exact U4
  ·exact z35
 case rest=>
  obtain⟨b,r,hS,hy,hsm⟩:=hcut;replace S:Hid (CkSt w wc bo s b r):=hS;have HR:=tm hy;have C:=tm (fun W=>Bg r hsm.1 hsm.2 W);obtain⟨o0,_,_,_,_,_⟩:=S.out.ok;clear hS hy hsm HS HL HWF HNS HY H kd;generalize r.unused=u at *
  cases b with
  | false=>exact z58
  | true=>
   have HF:Hid (y=u):=by show _=_;rw[HR.out,wk]
   go_wp2_with(refine Ap rfl 50 (.tmp 3) rfl (w.heap.size+1) rfl 50 r.arr (0,0) _ S.out.at.r underlying50 rfl (sv_size _) ?_);refine tp (C.out _) ?_;rintro e w5 ⟨rfl,hb5⟩;replace S:=tm (S.out.kept hb5);clear hb5 HR C o0
   cases u with
   | false=>exact z26
   | true=>exact z26
theorem em:CkK 4:=by
 intro Q x s w h hwf hk hl ht;refine z1037 ?_;clear hl ht h hwf;intro hmf SZ H HS HL HWF HNS hkx y HY;go_enter func14,ntmps14;go_upto_region 3 with(first|(refine ux rfl 50 (.tmp 1) rfl w.heap.size rfl 50 s.arr (0,0) _ (World.alloc_heap_new w _) underlying50 rfl (sv_size _) ?_)|(refine ur rfl 50 (.tmp 3) (.tmp 9) rfl (w.heap.size+1) s.arr rfl rfl 50 (SV.arr {}) (SZ.out.blk 0 rfl) (sv_size _) rfl (sv_one _) ?_;refine St.genL (St.row 0 s.arr SZ.out rfl) ?_;intro W2 S2;clear SZ));refine codeGenC (fun W=>CkSt w W W2.heap.size s true s) (St.toM (fun _=>False) (St.alloc S2.out (cs:=#[.bool true]) (t:=4))) ?_;clear S2;intro W3 S;replace S:=tm S;generalize W2.heap.size=bo at *;clear W2;have kd:=S.out.kind;go_upto_block 0 with fail;clear hmf;go_cut []from 15 (fun wc=>∃(b:Bool) (r:SV),CkSt w wc bo s b r/\y=(b&&r.unused)/\r.small)
 case first=>
  have hks:s.k=4:=hkx.trans hk;rw[hks]at kd;have z:W3.cell? ⟨w.heap.size+1,11,none⟩=some (.bool s.un):=Zf;have zf:=A7 (o:=11) S.out.at.r;go_wp2_with fail;clear z zf;refine CkSt.genC (S.out.storeR 11 [.bool false] (r5 _)) ?_;intro w4 S;refine tp (ck36 bo (w.heap.size+1) w.heap.size (true) (isName x.table) ({s with un:=false}) s _ S.out.at (fun W _=>by rw[show s.tb=x.table from HS.out.tb];exact Ah x.table W)) ?_;intro e w5 hp;obtain⟨rfl,S⟩:=S.out.went hp;clear hp;generalize hq:(true&&isName x.table)=q at S;go_wp2_with fail;refine tp (j9 bo (w.heap.size+1) w.heap.size (q) (isName x.name) ({({s with un:=false}:SV)with tb:=[]}) s _ S.out.at (fun W _=>by rw[show s.nm=x.name from HS.out.nm];exact Ah x.name W)) ?_;intro e w6 hp;obtain⟨rfl,S⟩:=S.out.went hp;clear hp;generalize hq6:(q&&isName x.name)=q6 at S;go_wp2_with fail;refine tp (su bo (w.heap.size+1) w.heap.size (q6) (allR x.names 1 8 isName) ({({({s with un:=false}:SV)with tb:=[]}:SV)with nm:=[]}) s _ S.out.at (fun W hW=>I4 37 Q isName 1 8 x.names _ W Li (H.out.kept (S.out.below.step hW)).ns acy (fun W2 a cs _ _ hin=>by have e:cs=[.string (Y a)]:=hin;subst e;exact Ah a W2))) ?_;intro e w7 hp;obtain⟨rfl,S⟩:=S.out.went hp;clear hp;generalize hq7:(q6&&allR x.names 1 8 isName)=q at S;go_wp2_with fail;go_meet;refine⟨q,{({({({s with un:=false}:SV)with tb:=[]}:SV)with nm:=[]}:SV)with ns:=sl0},S.out,?_,?_⟩
  ·skip;rw[SvIs.unused (Ou (J1 (D1 (V6 HS.out)))),<- HY.out,<- hq7,<- hq6,<- hq];exact U4
  ·exact z35
 case rest=>
  obtain⟨b,r,hS,hy,hsm⟩:=hcut;replace S:Hid (CkSt w wc bo s b r):=hS;have HR:=tm hy;have C:=tm (fun W=>Bg r hsm.1 hsm.2 W);obtain⟨o0,_,_,_,_,_⟩:=S.out.ok;clear hS hy hsm HS HL HWF HNS HY H kd;generalize r.unused=u at *
  cases b with
  | false=>exact z58
  | true=>
   have HF:Hid (y=u):=by show _=_;rw[HR.out,wk]
   go_wp2_with(refine Ap rfl 50 (.tmp 3) rfl (w.heap.size+1) rfl 50 r.arr (0,0) _ S.out.at.r underlying50 rfl (sv_size _) ?_);refine tp (C.out _) ?_;rintro e w5 ⟨rfl,hb⟩;replace S:=tm (S.out.kept hb);clear hb HR C o0
   cases u with
   | false=>exact z26
   | true=>exact z26
theorem ej:CkK 5:=by
 intro Q x s w h hwf hk hl ht;refine z1037 ?_;clear hl ht h hwf;intro hmf SZ H HS HL HWF HNS hkx y HY;go_enter func14,ntmps14;go_upto_region 3 with(first|(refine ux rfl 50 (.tmp 1) rfl w.heap.size rfl 50 s.arr (0,0) _ (World.alloc_heap_new w _) underlying50 rfl (sv_size _) ?_)|(refine ur rfl 50 (.tmp 3) (.tmp 9) rfl (w.heap.size+1) s.arr rfl rfl 50 (SV.arr {}) (SZ.out.blk 0 rfl) (sv_size _) rfl (sv_one _) ?_;refine St.genL (St.row 0 s.arr SZ.out rfl) ?_;intro W2 S2;clear SZ));refine codeGenC (fun W=>CkSt w W W2.heap.size s true s) (St.toM (fun _=>False) (St.alloc S2.out (cs:=#[.bool true]) (t:=4))) ?_;clear S2;intro W3 S;replace S:=tm S;generalize W2.heap.size=bo at *;clear W2;have kd:=S.out.kind;go_upto_block 0 with fail;clear hmf;go_cut []from 15 (fun wc=>∃(b:Bool) (r:SV),CkSt w wc bo s b r/\y=(b&&r.unused)/\r.small)
 case first=>
  have hks:s.k=5:=hkx.trans hk;rw[hks]at kd;go_wp2_with fail;refine tp (ck36 bo (w.heap.size+1) w.heap.size (true) (isName x.table) (s) s _ S.out.at (fun W _=>by rw[show s.tb=x.table from HS.out.tb];exact Ah x.table W)) ?_;intro e w4 hp;obtain⟨rfl,S⟩:=S.out.went hp;clear hp;generalize hq:(true&&isName x.table)=q at S;go_wp2_with fail;refine tp (j9 bo (w.heap.size+1) w.heap.size (q) (isName x.name) ({s with tb:=[]}) s _ S.out.at (fun W _=>by rw[show s.nm=x.name from HS.out.nm];exact Ah x.name W)) ?_;intro e w5 hp;obtain⟨rfl,S⟩:=S.out.went hp;clear hp;generalize hq5:(q&&isName x.name)=q5 at S;go_wp2_with fail;go_meet;refine⟨q5,{({s with tb:=[]}:SV)with nm:=[]},S.out,?_,?_⟩
  ·skip;rw[SvIs.unused (J1 (D1 HS.out)),<- HY.out,<- hq5,<- hq];exact U4
  ·exact z35
 case rest=>
  obtain⟨b,r,hS,hy,hsm⟩:=hcut;replace S:Hid (CkSt w wc bo s b r):=hS;have HR:=tm hy;have C:=tm (fun W=>Bg r hsm.1 hsm.2 W);obtain⟨o,_,_,_,_,_⟩:=S.out.ok;clear hS hy hsm HS HL HWF HNS HY H kd;generalize r.unused=u at *
  cases b with
  | false=>exact z58
  | true=>
   have HF:Hid (y=u):=by show _=_;rw[HR.out,wk]
   go_wp2_with(refine Ap rfl 50 (.tmp 3) rfl (w.heap.size+1) rfl 50 r.arr (0,0) _ S.out.at.r underlying50 rfl (sv_size _) ?_);refine tp (C.out _) ?_;rintro e w5 ⟨rfl,hb⟩;replace S:=tm (S.out.kept hb);clear hb HR C o
   cases u with
   | false=>exact z26
   | true=>exact z26
theorem ei:CkK 6:=by
 intro Q x s w h hwf hk hl ht;refine z1037 ?_;clear hl ht h hwf;intro hmf SZ H HS HL HWF HNS hkx y HY;go_enter func14,ntmps14;go_upto_region 3 with(first|(refine ux rfl 50 (.tmp 1) rfl w.heap.size rfl 50 s.arr (0,0) _ (World.alloc_heap_new w _) underlying50 rfl (sv_size _) ?_)|(refine ur rfl 50 (.tmp 3) (.tmp 9) rfl (w.heap.size+1) s.arr rfl rfl 50 (SV.arr {}) (SZ.out.blk 0 rfl) (sv_size _) rfl (sv_one _) ?_;refine St.genL (St.row 0 s.arr SZ.out rfl) ?_;intro W2 S2;clear SZ));refine codeGenC (fun W=>CkSt w W W2.heap.size s true s) (St.toM (fun _=>False) (St.alloc S2.out (cs:=#[.bool true]) (t:=4))) ?_;clear S2;intro W3 S;replace S:=tm S;generalize W2.heap.size=bo at *;clear W2;have kd:=S.out.kind;go_upto_block 0 with fail;clear hmf;go_cut []from 15 (fun wc=>∃(b:Bool) (r:SV),CkSt w wc bo s b r/\y=(b&&r.unused)/\r.small)
 case first=>
  have hks:s.k=6:=hkx.trans hk;rw[hks]at kd;have x1:W3.cell? ⟨w.heap.size,12,none⟩=some (.slice s.rs.1 s.rs.2.1 s.rs.2.2):=Ze;go_wp2_with fail;refine tp ((Zb 46 Q rowOk 1 20 x.rows _ _ dz (H.out.kept S.out.below).rs acy (fun W a cs _ ha hin=>by obtain⟨v,rfl,hr⟩:=hin;exact Rz Q a v W hr (HWF.out.rows a ha)))) ?_;rintro e w4 ⟨rfl,hb⟩;have S:=tm (S.out.kept hb);clear hb x1;obtain⟨o0,o1,o2,o3,o4,o5⟩:=S.out.ok;have z:w4.cell? ⟨w.heap.size+1,12,none⟩=some (.slice s.rs.1 s.rs.2.1 s.rs.2.2):=Zf;have zf:=A7 (o:=12) S.out.at.r;generalize hq:(allR x.rows 1 20 rowOk)=q at *;go_wp2_with fail;clear z zf;clear o0 o1 o2 o3 o4 o5;refine CkSt.genC (S.out.store 12 [eL] (r8 _)) ?_;intro w5 S;refine tp (ck36 bo (w.heap.size+1) w.heap.size (q) (isName x.table) ({s with rs:=sl0}) s _ S.out.at (fun W _=>by rw[show s.tb=x.table from HS.out.tb];exact Ah x.table W)) ?_;intro e w6 hp;obtain⟨rfl,S⟩:=S.out.went hp;clear hp;generalize hq6:(q&&isName x.table)=q6 at S;go_wp2_with fail;go_meet;refine⟨q6,{({s with rs:=sl0}:SV)with tb:=[]},S.out,?_,?_⟩
  ·skip;rw[SvIs.unused (D1 (gy HS.out)),<- HY.out,<- hq6,<- hq];exact U4
  ·exact z35
 case rest=>
  obtain⟨b,r,hS,hy,hsm⟩:=hcut;replace S:Hid (CkSt w wc bo s b r):=hS;have HR:=tm hy;have C:=tm (fun W=>Bg r hsm.1 hsm.2 W);obtain⟨o0,_,_,_,_,_⟩:=S.out.ok;clear hS hy hsm HS HL HWF HNS HY H kd;generalize r.unused=u at *
  cases b with
  | false=>exact z58
  | true=>
   have HF:Hid (y=u):=by show _=_;rw[HR.out,wk]
   go_wp2_with(refine Ap rfl 50 (.tmp 3) rfl (w.heap.size+1) rfl 50 r.arr (0,0) _ S.out.at.r underlying50 rfl (sv_size _) ?_);refine tp (C.out _) ?_;rintro e w5 ⟨rfl,hb5⟩;replace S:=tm (S.out.kept hb5);clear hb5 HR C o0
   cases u with
   | false=>exact z26
   | true=>exact z26
theorem eh:CkK 7:=by
 intro Q x s w h hwf hk hl ht;refine z1037 ?_;clear hl ht h hwf;intro hmf SZ H HS HL HWF HNS hkx y HY;go_enter func14,ntmps14;go_upto_region 3 with(first|(refine ux rfl 50 (.tmp 1) rfl w.heap.size rfl 50 s.arr (0,0) _ (World.alloc_heap_new w _) underlying50 rfl (sv_size _) ?_)|(refine ur rfl 50 (.tmp 3) (.tmp 9) rfl (w.heap.size+1) s.arr rfl rfl 50 (SV.arr {}) (SZ.out.blk 0 rfl) (sv_size _) rfl (sv_one _) ?_;refine St.genL (St.row 0 s.arr SZ.out rfl) ?_;intro W2 S2;clear SZ));refine codeGenC (fun W=>CkSt w W W2.heap.size s true s) (St.toM (fun _=>False) (St.alloc S2.out (cs:=#[.bool true]) (t:=4))) ?_;clear S2;intro W3 S;replace S:=tm S;generalize W2.heap.size=bo at *;clear W2;have kd:=S.out.kind;go_upto_block 0 with fail;clear hmf;go_cut []from 15 (fun wc=>∃(b:Bool) (r:SV),CkSt w wc bo s b r/\y=(b&&r.unused)/\r.small)
 case first=>
  have hks:s.k=7:=hkx.trans hk;rw[hks]at kd;have x1:W3.cell? ⟨w.heap.size,13,none⟩=some (.slice s.es.1 s.es.2.1 s.es.2.2):=Ze;have x2:W3.cell? ⟨w.heap.size,10,none⟩=some (.slice s.ns.1 s.ns.2.1 s.ns.2.2):=Ze;go_wp2_with fail;refine tp ((by rw[show s.ns.2.1=x.names.length from HS.out.ns];exact I3 50 Q Ex.good _ _ x.exprs _ _ Qw (H.out.kept S.out.below).es HNS.out (fun W a cs _ ha hin=>B6 Q a cs W hin (HWF.out.exprs a ha)))) ?_;rintro e w4 ⟨rfl,hb⟩;have S:=tm (S.out.kept hb);clear hb x1;obtain⟨o0,o1,o2,o3,o4,o5⟩:=S.out.ok;have z:w4.cell? ⟨w.heap.size+1,13,none⟩=some (.slice s.es.1 s.es.2.1 s.es.2.2):=Zf;have zf:=A7 (o:=13) S.out.at.r;generalize hq:(allR x.exprs x.names.length x.names.length Ex.good)=q at *;go_wp2_with fail;clear z zf;clear o0 o1 o2 o3 o4 o5;refine CkSt.genC (S.out.store 13 [eL] (r9 _)) ?_;intro w5 S;refine tp (ck36 bo (w.heap.size+1) w.heap.size (q) (isName x.table) ({s with es:=sl0}) s _ S.out.at (fun W _=>by rw[show s.tb=x.table from HS.out.tb];exact Ah x.table W)) ?_;intro e w6 hp;obtain⟨rfl,S⟩:=S.out.went hp;clear hp;generalize hq6:(q&&isName x.table)=q6 at S;go_wp2_with fail;refine tp (su bo (w.heap.size+1) w.heap.size (q6) (allR x.names 1 8 isName) ({({s with es:=sl0}:SV)with tb:=[]}) s _ S.out.at (fun W hW=>I4 37 Q isName 1 8 x.names _ W Li (H.out.kept (S.out.below.step hW)).ns acy (fun W2 a cs _ _ hin=>by have e:cs=[.string (Y a)]:=hin;subst e;exact Ah a W2))) ?_;intro e w7 hp;obtain⟨rfl,S⟩:=S.out.went hp;clear hp
  generalize hq7:(q6&&allR x.names 1 8 isName)=q at S;go_wp2_with fail;refine tp (sr bo (w.heap.size+1) w.heap.size (q) (condR x.where_) ({({({s with es:=sl0}:SV)with tb:=[]}:SV)with ns:=sl0}) s _ S.out.at (fun W hW=>Es Q x.where_ _ W (I8 (H.out.kept (S.out.below.step hW))) HWF.out.where_)) ?_;intro e w8 hp;obtain⟨rfl,S⟩:=S.out.went hp;clear hp;generalize hq8:(q&&condR x.where_)=q8 at S;go_wp2_with fail;go_meet;refine⟨q8,{({({({s with es:=sl0}:SV)with tb:=[]}:SV)with ns:=sl0}:SV)with wo:=0,wt:=[],wn:=[],wv:=V.null,wa:=sl0},S.out,?_,?_⟩
  ·skip;rw[SvIs.unused (Ot (Ou (D1 (Z7 HS.out)))),<- HY.out,<- hq8,<- hq7,<- hq6,<- hq];exact U4
  ·exact z35
 case rest=>
  obtain⟨b,r,hS,hy,hsm⟩:=hcut;replace S:Hid (CkSt w wc bo s b r):=hS;have HR:=tm hy;have C:=tm (fun W=>Bg r hsm.1 hsm.2 W);obtain⟨o0,_,_,_,_,_⟩:=S.out.ok;clear hS hy hsm HS HL HWF HNS HY H kd;generalize r.unused=u at *
  cases b with
  | false=>exact z58
  | true=>
   have HF:Hid (y=u):=by show _=_;rw[HR.out,wk]
   go_wp2_with(refine Ap rfl 50 (.tmp 3) rfl (w.heap.size+1) rfl 50 r.arr (0,0) _ S.out.at.r underlying50 rfl (sv_size _) ?_);refine tp (C.out _) ?_;rintro e w5 ⟨rfl,hb5⟩;replace S:=tm (S.out.kept hb5);clear hb5 HR C o0
   cases u with
   | false=>exact z26
   | true=>exact z26
theorem ee:CkK 8:=by
 intro Q x s w h hwf hk hl ht;refine z1037 ?_;clear hl ht h hwf;intro hmf SZ H HS HL HWF HNS hkx y HY;go_enter func14,ntmps14;go_upto_region 3 with(first|(refine ux rfl 50 (.tmp 1) rfl w.heap.size rfl 50 s.arr (0,0) _ (World.alloc_heap_new w _) underlying50 rfl (sv_size _) ?_)|(refine ur rfl 50 (.tmp 3) (.tmp 9) rfl (w.heap.size+1) s.arr rfl rfl 50 (SV.arr {}) (SZ.out.blk 0 rfl) (sv_size _) rfl (sv_one _) ?_;refine St.genL (St.row 0 s.arr SZ.out rfl) ?_;intro W2 S2;clear SZ));refine codeGenC (fun W=>CkSt w W W2.heap.size s true s) (St.toM (fun _=>False) (St.alloc S2.out (cs:=#[.bool true]) (t:=4))) ?_;clear S2;intro W3 S;replace S:=tm S;generalize W2.heap.size=bo at *;clear W2;have kd:=S.out.kind;go_upto_block 0 with fail;clear hmf;go_cut []from 15 (fun wc=>∃(b:Bool) (r:SV),CkSt w wc bo s b r/\y=(b&&r.unused)/\r.small)
 case first=>
  have hks:s.k=8:=hkx.trans hk;rw[hks]at kd;go_wp2_with fail;refine tp (ck36 bo (w.heap.size+1) w.heap.size (true) (isName x.table) (s) s _ S.out.at (fun W _=>by rw[show s.tb=x.table from HS.out.tb];exact Ah x.table W)) ?_;intro e w4 hp;obtain⟨rfl,S⟩:=S.out.went hp;clear hp;generalize hq:(true&&isName x.table)=q at S;go_wp2_with fail;refine tp (sr bo (w.heap.size+1) w.heap.size (q) (condR x.where_) ({s with tb:=[]}) s _ S.out.at (fun W hW=>Es Q x.where_ _ W (I8 (H.out.kept (S.out.below.step hW))) HWF.out.where_)) ?_;intro e w5 hp;obtain⟨rfl,S⟩:=S.out.went hp;clear hp;generalize hq5:(q&&condR x.where_)=q5 at S;go_wp2_with fail;go_meet;refine⟨q5,{({s with tb:=[]}:SV)with wo:=0,wt:=[],wn:=[],wv:=V.null,wa:=sl0},S.out,?_,?_⟩
  ·skip;rw[SvIs.unused (Ot (D1 HS.out)),<- HY.out,<- hq5,<- hq];exact U4
  ·exact z35
 case rest=>
  obtain⟨b,r,hS,hy,hsm⟩:=hcut;replace S:Hid (CkSt w wc bo s b r):=hS;have HR:=tm hy;have C:=tm (fun W=>Bg r hsm.1 hsm.2 W);obtain⟨o,_,_,_,_,_⟩:=S.out.ok;clear hS hy hsm HS HL HWF HNS HY H kd;generalize r.unused=u at *
  cases b with
  | false=>exact z58
  | true=>
   have HF:Hid (y=u):=by show _=_;rw[HR.out,wk]
   go_wp2_with(refine Ap rfl 50 (.tmp 3) rfl (w.heap.size+1) rfl 50 r.arr (0,0) _ S.out.at.r underlying50 rfl (sv_size _) ?_);refine tp (C.out _) ?_;rintro e w5 ⟨rfl,hb⟩;replace S:=tm (S.out.kept hb);clear hb HR C o
   cases u with
   | false=>exact z26
   | true=>exact z26
theorem ed:CkK 9:=by
 intro Q x s w h hwf hk hl ht;refine z1037 ?_;clear hl ht h hwf;intro hmf SZ H HS HL HWF HNS hkx y HY;go_enter func14,ntmps14;go_upto_region 3 with(first|(refine ux rfl 50 (.tmp 1) rfl w.heap.size rfl 50 s.arr (0,0) _ (World.alloc_heap_new w _) underlying50 rfl (sv_size _) ?_)|(refine ur rfl 50 (.tmp 3) (.tmp 9) rfl (w.heap.size+1) s.arr rfl rfl 50 (SV.arr {}) (SZ.out.blk 0 rfl) (sv_size _) rfl (sv_one _) ?_;refine St.genL (St.row 0 s.arr SZ.out rfl) ?_;intro W2 S2;clear SZ));refine codeGenC (fun W=>CkSt w W W2.heap.size s true s) (St.toM (fun _=>False) (St.alloc S2.out (cs:=#[.bool true]) (t:=4))) ?_;clear S2;intro W3 S;replace S:=tm S;generalize W2.heap.size=bo at *;clear W2;have kd:=S.out.kind;go_upto_block 0 with fail;clear hmf;go_cut []from 15 (fun wc=>∃(b:Bool) (r:SV),CkSt w wc bo s b r/\y=(b&&r.unused)/\r.small)
 case first=>
  have hks:s.k=9:=hkx.trans hk;rw[hks]at kd;have x1:W3.cell? ⟨w.heap.size,21,none⟩=some (.bool s.xd):=Ze;have x2:W3.cell? ⟨w.heap.size,22,none⟩=some (.slice s.xi.1 s.xi.2.1 s.xi.2.2):=Ze;have x3:W3.cell? ⟨w.heap.size,23,none⟩=some (.slice s.xf.1 s.xf.2.1 s.xf.2.2):=Ze;have x4:W3.cell? ⟨w.heap.size,24,none⟩=some (.slice s.xo.1 s.xo.2.1 s.xo.2.2):=Ze;have x5:W3.cell? ⟨w.heap.size,25,none⟩=some (U s.yo):=Ze;have x6:W3.cell? ⟨w.heap.size,26,none⟩=some (.string (Y s.yt)):=Ze;have x7:W3.cell? ⟨w.heap.size,27,none⟩=some (.string (Y s.yn)):=Ze;have x8:W3.cell? ⟨w.heap.size,28,none⟩=some (U s.yv.k):=Ze;have x9:W3.cell? ⟨w.heap.size,29,none⟩=some (U s.yv.n):=Ze;have x30:W3.cell? ⟨w.heap.size,30,none⟩=some (.string s.yv.s):=Ze;have x31:W3.cell? ⟨w.heap.size,31,none⟩=some (.slice s.ya.1 s.ya.2.1 s.ya.2.2):=Ze;have x32:W3.cell? ⟨w.heap.size,32,none⟩=some (.slice s.xg.1 s.xg.2.1 s.xg.2.2):=Ze;have x33:W3.cell? ⟨w.heap.size,33,none⟩=some (.slice s.xs.1 s.xs.2.1 s.xs.2.2):=Ze;have x34:W3.cell? ⟨w.heap.size,34,none⟩=some (U s.xl):=Ze;go_wp2_with fail;refine tp ((Uj Q x.select _ _ (H.out.kept S.out.below).sel HWF.out.select)) ?_;rintro e w4 ⟨rfl,hb⟩;have S:=tm (S.out.kept hb);clear hb x1 x2 x3 x4 x5 x6 x7 x8 x9 x30 x31 x32 x33 x34;obtain⟨o0,o1,o2,o3,o4,o5⟩:=S.out.ok;have z:w4.cell? ⟨w.heap.size+1,21,none⟩=some (.bool s.xd):=Zf;have zf:=A7 (o:=21) S.out.at.r;have z1:w4.cell? ⟨w.heap.size+1,22,none⟩=some (.slice s.xi.1 s.xi.2.1 s.xi.2.2):=Zf
  have zf1:=A7 (o:=22) S.out.at.r;have z2:w4.cell? ⟨w.heap.size+1,23,none⟩=some (.slice s.xf.1 s.xf.2.1 s.xf.2.2):=Zf;have zf2:=A7 (o:=23) S.out.at.r;have z3:w4.cell? ⟨w.heap.size+1,24,none⟩=some (.slice s.xo.1 s.xo.2.1 s.xo.2.2):=Zf;have zf3:=A7 (o:=24) S.out.at.r;have z4:w4.cell? ⟨w.heap.size+1,25,none⟩=some (U s.yo):=Zf;have zf4:=A7 (o:=25) S.out.at.r;have z5:w4.cell? ⟨w.heap.size+1,26,none⟩=some (.string (Y s.yt)):=Zf;have zf5:=A7 (o:=26) S.out.at.r;have z6:w4.cell? ⟨w.heap.size+1,27,none⟩=some (.string (Y s.yn)):=Zf;have zf6:=A7 (o:=27) S.out.at.r;have z7:w4.cell? ⟨w.heap.size+1,28,none⟩=some (U s.yv.k):=Zf;have zf7:=A7 (o:=28) S.out.at.r;have z8:w4.cell? ⟨w.heap.size+1,29,none⟩=some (U s.yv.n):=Zf;have zf8:=A7 (o:=29) S.out.at.r;have z9:w4.cell? ⟨w.heap.size+1,30,none⟩=some (.string s.yv.s):=Zf;have zf9:=A7 (o:=30) S.out.at.r;have z31:w4.cell? ⟨w.heap.size+1,31,none⟩=some (.slice s.ya.1 s.ya.2.1 s.ya.2.2):=Zf;have zf31:=A7 (o:=31) S.out.at.r;have z32:w4.cell? ⟨w.heap.size+1,32,none⟩=some (.slice s.xg.1 s.xg.2.1 s.xg.2.2):=Zf;have zf32:=A7 (o:=32) S.out.at.r;have z33:w4.cell? ⟨w.heap.size+1,33,none⟩=some (.slice s.xs.1 s.xs.2.1 s.xs.2.2):=Zf;have zf33:=A7 (o:=33) S.out.at.r;have z34:w4.cell? ⟨w.heap.size+1,34,none⟩=some (U s.xl):=Zf;have zf34:=A7 (o:=34) S.out.at.r;generalize hq:(x.select.chosen)=q at *;go_wp2_with fail;clear z zf z1 zf1 z2 zf2 z3 zf3 z4 zf4 z5 zf5 z6 zf6 z7 zf7 z8 zf8 z9 zf9 z31 zf31 z32 zf32 z33 zf33 z34 zf34
  clear o0 o1 o2 o3 o4 o5;go_meet;refine⟨q,{s with xd:=false,xi:=sl0,xf:=sl0,xo:=sl0,yo:=0,yt:=[],yn:=[],yv:=V.null,ya:=sl0,xg:=sl0,xs:=sl0,xl:=0},(S.out.store 21 [.bool false,eL,eL,eL,U 0,eS,eS,U 0,U 0,eS,eL,eL,eL,U 0] (nw _)),?_,?_⟩
  ·skip;rw[SvIs.unused (V7 HS.out),<- HY.out,<- hq];exact U4
  ·exact z35
 case rest=>
  obtain⟨b,r,hS,hy,hsm⟩:=hcut;replace S:Hid (CkSt w wc bo s b r):=hS;have HR:=tm hy;have C:=tm (fun W=>Bg r hsm.1 hsm.2 W);obtain⟨o0,_,_,_,_,_⟩:=S.out.ok;clear hS hy hsm HS HL HWF HNS HY H kd;generalize r.unused=u at *
  cases b with
  | false=>exact z58
  | true=>
   have HF:Hid (y=u):=by show _=_;rw[HR.out,wk]
   go_wp2_with(refine Ap rfl 50 (.tmp 3) rfl (w.heap.size+1) rfl 50 r.arr (0,0) _ S.out.at.r underlying50 rfl (sv_size _) ?_);refine tp (C.out _) ?_;rintro e w5 ⟨rfl,hb5⟩;replace S:=tm (S.out.kept hb5);clear hb5 HR C o0
   cases u with
   | false=>exact z26
   | true=>exact z26
end Go.Proofs.YtimoefagohifaaaGreatDoor
