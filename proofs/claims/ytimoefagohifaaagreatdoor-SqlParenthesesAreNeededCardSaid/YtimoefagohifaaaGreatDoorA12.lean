/- Laws that the last part needs. No condition. -/
import Derived.Test.YtimoefagohifaaaGreatDoorA11
namespace Go.Proofs.YtimoefagohifaaaGreatDoor
open Go.RowKit Go.Sort Tryz
abbrev SlP:=Option Addr×Nat×Nat
def sl (p:SlP):Value:=.slice p.1 p.2.1 p.2.2
def sl0:SlP:=(none,0,0)
structure SV where
 k:Int:=0
 tb:Bytes:=[]
 nm:Bytes:=[]
 s0:Bytes:=[]
 s1:SlP:=sl0
 s2:SlP:=sl0
 s3:SlP:=sl0
 c0:Bytes:=[]
 c1:Int:=0
 c2:Bool:=false
 ns:SlP:=sl0
 un:Bool:=false
 rs:SlP:=sl0
 es:SlP:=sl0
 wo:Int:=0
 wt:Bytes:=[]
 wn:Bytes:=[]
 wv:V:=V.null
 wa:SlP:=sl0
 xd:Bool:=false
 xi:SlP:=sl0
 xf:SlP:=sl0
 xo:SlP:=sl0
 yo:Int:=0
 yt:Bytes:=[]
 yn:Bytes:=[]
 yv:V:=V.null
 ya:SlP:=sl0
 xg:SlP:=sl0
 xs:SlP:=sl0
 xl:Int:=0
 md:Int:=0
def SV.sch (s:SV):Value:=.agg #[.string (Y s.s0),sl s.s1,sl s.s2,sl s.s3]
def SV.col (s:SV):Value:=.agg #[.string (Y s.c0),U s.c1,.bool s.c2]
def SV.wh (s:SV):Value:=.agg #[U s.wo,.string (Y s.wt),.string (Y s.wn),U s.wv.k,U s.wv.n,.string s.wv.s,sl s.wa]
def SV.sel (s:SV):Value:=.agg #[.bool s.xd,sl s.xi,sl s.xf,sl s.xo,U s.yo,.string (Y s.yt),.string (Y s.yn),U s.yv.k,U s.yv.n,.string s.yv.s,sl s.ya,sl s.xg,sl s.xs,U s.xl]
def SV.arr (s:SV):Array Value:=#[U s.k,.string (Y s.tb),.string (Y s.nm),.string (Y s.s0),sl s.s1,sl s.s2,sl s.s3,.string (Y s.c0),U s.c1,.bool s.c2,
 sl s.ns,.bool s.un,sl s.rs,sl s.es,U s.wo,.string (Y s.wt),.string (Y s.wn),U s.wv.k,U s.wv.n,.string s.wv.s,sl s.wa,
 .bool s.xd,sl s.xi,sl s.xf,sl s.xo,U s.yo,.string (Y s.yt),.string (Y s.yn),U s.yv.k,U s.yv.n,.string s.yv.s,sl s.ya,sl s.xg,sl s.xs,U s.xl,U s.md]
theorem sv_size (s:SV):(prog.info? 50).map (·.size)=some s.arr.size:=by
 have:(prog.info? 50).map (·.size)=some 36:=acz;rw[this];rfl
theorem sv_one (s:SV):s.arr.all (·.oneCell')=true:=by unfold SV.arr sl;simp[Value.oneCell']
theorem nr (s:SV) (k:Int):s.arr.setIfInBounds 0 (U k)={s with k:=k}.arr:=rfl
theorem Z6 (s:SV) (x:Bytes):s.arr.setIfInBounds 1 (.string (Y x))={s with tb:=x}.arr:=rfl
theorem mj (s:SV) (x:Bytes):s.arr.setIfInBounds 2 (.string (Y x))={s with nm:=x}.arr:=rfl
theorem rz (s:SV) (a:Option Addr) (n c:Nat):s.arr.setIfInBounds 10 (.slice a n c)={s with ns:=(a,n,c)}.arr:=rfl
theorem ry (s:SV) (a:Option Addr) (n c:Nat):s.arr.setIfInBounds 12 (.slice a n c)={s with rs:=(a,n,c)}.arr:=rfl
theorem ml (s:SV) (x:Int):s.arr.setIfInBounds 35 (U x)={s with md:=x}.arr:=rfl
def setArr (cs:Array Value):Nat->List Value->Array Value
 | _,[]=>cs
 | o,v::vs=>setArr (cs.setIfInBounds o v) (o+1) vs
theorem mi (s:SV) (op:Int) (t n:Bytes) (v:V) (a:Option Addr) (m c:Nat):setArr s.arr 14 [U op,.string (Y t),.string (Y n),U v.k,U v.n,.string v.s,.slice a m c]={s with wo:=op,wt:=t,wn:=n,wv:=v,wa:=(a,m,c)}.arr:=acz
section
set_option maxRecDepth 100000
theorem Vv:prog.built 50 []=some (SV.arr {}):=acz
theorem Im (k:Int) (x:Bytes):prog.built 50 [(0,U k),(1,.string (Y x))]=some (SV.arr {k:=k,tb:=x}):=acz
theorem Lp (k:Int) (x:Bytes):prog.built 50 [(0,U k),(2,.string (Y x))]=some (SV.arr {k:=k,nm:=x}):=acz
theorem Y7 (k:Int) (x:Bytes) (a b c:SlP):prog.built 50 [(0,U k),(3,.agg #[.string (Y x),sl a,sl b,sl c])]=some (SV.arr {k:=k,s0:=x,s1:=a,s2:=b,s3:=c}):=acz
theorem Y8 (k:Int) (x:Bytes) (a:Int) (b:Bool):prog.built 50 [(0,U k),(4,.agg #[.string (Y x),U a,.bool b])]=some (SV.arr {k:=k,c0:=x,c1:=a,c2:=b}):=acz
theorem e9 (k:Int) (b:Bool):prog.built 50 [(0,U k),(6,.bool b)]=some (SV.arr {k:=k,un:=b}):=acz
theorem Y6 (k:Int) (d:Bool) (i f o:SlP) (op:Int) (t n:Bytes) (v:V) (a g q:SlP) (lim:Int):prog.built 50 [(0,U k),(10,.agg #[.bool d,sl i,sl f,sl o,U op,.string (Y t),.string (Y n),U v.k,U v.n,.string v.s,sl a,sl g,sl q,U lim])]=
 some (SV.arr {k:=k,xd:=d,xi:=i,xf:=f,xo:=o,yo:=op,yt:=t,yn:=n,yv:=v,ya:=a,xg:=g,xs:=q,xl:=lim}):=acz
def selSV (x:Sel) (ia:Option Addr) (ic:Nat) (fa:Option Addr) (fc:Nat) (oa:Option Addr) (oc:Nat) (wa:Option Addr) (wc:Nat) (ga:Option Addr) (gc:Nat) (sa:Option Addr) (sc:Nat):SV:=
 {k:=9,xd:=x.distinct,xi:=(ia,x.items.length,ic),xf:=(fa,x.from_.length,fc),xo:=(oa,x.on.length,oc),yo:=x.where_.op,yt:=x.where_.table,yn:=x.where_.name,yv:=x.where_.val,ya:=(wa,x.where_.args.length,wc),xg:=(ga,x.group.length,gc),xs:=(sa,x.sort.length,sc),xl:=x.limit}
theorem Uo (x:Sel) (ia:Option Addr) (ic:Nat) (fa:Option Addr) (fc:Nat) (oa:Option Addr) (oc:Nat) (wa:Option Addr) (wc:Nat) (ga:Option Addr) (gc:Nat) (sa:Option Addr) (sc:Nat):
 prog.built 50 [(0,U 9),(10,.agg #[.bool x.distinct,.slice ia x.items.length ic,.slice fa x.from_.length fc,.slice oa x.on.length oc,
 U x.where_.op,.string (Y x.where_.table),.string (Y x.where_.name),U x.where_.val.k,U x.where_.val.n,.string x.where_.val.s,.slice wa x.where_.args.length wc,
 .slice ga x.group.length gc,.slice sa x.sort.length sc,U x.limit])]=some (selSV x ia ic fa fc oa oc wa wc ga gc sa sc).arr:=Y6 9 x.distinct (ia,x.items.length,ic) (fa,x.from_.length,fc) (oa,x.on.length,oc) x.where_.op x.where_.table x.where_.name x.where_.val (wa,x.where_.args.length,wc) (ga,x.group.length,gc) (sa,x.sort.length,sc) x.limit
end
variable {pb:Nat} {sz:Int} {w0 w w':World} {L:List Blk} {R:List Row} {l:List Tok} {G:Far}
theorem XFr.row (i:Nat) {b:Nat} {cs:Array Value} {t:TypeId} (vs:Array Value) (h:XFr pb sz w0 w L R l G) (hi:L[i]?=some (b,cs,t)):XFr pb sz w0 (w.setRow b vs) (L.set i (b,vs,t)) R l G:=by
 refine⟨⟨h.fr.fr.row i vs hi,h.fr.rows.turned (M:=(·=b)) ((Turn.refl _ w).setRow (.inl rfl)) (fun g hg e=>?_),fun x hx=>?_⟩,G.move (fun c hlt hq=>⟨⟨hq.1,fun x hx=>?_,hq.2.2⟩,?_⟩) h.far⟩
 ·have e':g=b:=e;subst e';exact h.fr.apart (g,cs,t) (uq hi) hg
 ·rcases wu hx with hx|rfl
  ·exact h.fr.apart x hx
  ·exact h.fr.apart (b,cs,t) (uq hi)
 ·exact ah6
 ·have:=hq.2.1 (b,cs,t) (uq hi);exact Bb (fun e=>this e.symm)
theorem XFr.setsL {i b:Nat} {t:TypeId}:∀(vs:List Value) (o:Nat) (cs:Array Value) (w:World) (L:List Blk),XFr pb sz w0 w L R l G->L[i]?=some (b,cs,t)->XFr pb sz w0 (w.setCells b o vs) (L.set i (b,setArr cs o vs,t)) R l G
 | [],o,cs,w,L,h,hi=>by
  have:L.set i (b,cs,t)=L:=z95;unfold setArr;rw[this];exact h
 | v::vs,o,cs,w,L,h,hi=>by
  have h1:=XFr.set i (o:=o) (v:=v) h hi;have hlt:=(uu.1 hi).1;have h2:=XFr.setsL (i:=i) (b:=b) (t:=t) vs (o+1) (cs.setIfInBounds o v) _ _ h1 (by rw[xj];simp[hlt]);rw[ab8]at h2;exact h2
theorem XFr.thereL {j b:Nat} {cs:Array Value} {t:TypeId} (h:XFr pb sz w0 w L R l G) (hj:L[j]?=some (b,cs,t)) (o c:Nat) (hoc:o+c<=cs.size):w.there b o c:=by
 have h1:=h.fr.fr.blk j hj;intro i hi;exact⟨by have hlt:o+i<cs.size:=(by omega);simp[World.cell?,h1,hlt],by simp[World.frozen?,h1]⟩
def RTblQ (Q:Nat->Prop) (w:World) (t:Tbl) (v:Value):Prop:=∃ca cc ka kc,v=.agg #[.string (Y t.name),.slice ca t.cols.length cc,eL,.slice ka t.checks.length kc]/\t.indexes=[]/\RSl colE Q w (.slice ca t.cols.length cc) t.cols/\RSl chkE Q w (.slice ka t.checks.length kc) t.checks
def farTbl (v:Value) (t:Tbl):Far:=⟨fun Q w=>RTblQ Q w t v,fun hq h=>by
 obtain⟨ca,cc,ka,kc,h1,h2,h3,h4⟩:=h;exact⟨ca,cc,ka,kc,h1,h2,rSl_move acy hq h3,rSl_move acy hq h4⟩⟩
def RSelQ (Q:Nat->Prop) (w:World) (x:Sel) (v:Value):Prop:=∃ia ic fa fc oa oc wa wc ga gc sa sc,v=.agg #[.bool x.distinct,.slice ia x.items.length ic,.slice fa x.from_.length fc,.slice oa x.on.length oc,
 U x.where_.op,.string (Y x.where_.table),.string (Y x.where_.name),U x.where_.val.k,U x.where_.val.n,.string x.where_.val.s,.slice wa x.where_.args.length wc,
 .slice ga x.group.length gc,.slice sa x.sort.length sc,U x.limit]/\
 RSl pkE Q w (.slice ia x.items.length ic) x.items/\RSl strE Q w (.slice fa x.from_.length fc) x.from_/\RSl exE Q w (.slice oa x.on.length oc) x.on/\ExSl Q w (.slice wa x.where_.args.length wc) x.where_.args/\
 RSl exE Q w (.slice ga x.group.length gc) x.group/\RSl srtE Q w (.slice sa x.sort.length sc) x.sort
def farSel (v:Value) (x:Sel):Far:=⟨fun Q w=>RSelQ Q w x v,fun hq h=>by
 obtain⟨ia,ic,fa,fc,oa,oc,wa,wc,ga,gc,sa,sc,h0,h1,h2,h3,h4,h5,h6⟩:=h;exact⟨ia,ic,fa,fc,oa,oc,wa,wc,ga,gc,sa,sc,h0,rSl_move acy hq h1,rSl_move acy hq h2,rSl_move acy hq h3,Bi hq h4,rSl_move acy hq h5,rSl_move acy hq h6⟩⟩
structure StmIs (Q:Nat->Prop) (w:World) (s:SV) (x:Stm):Prop where
 k:s.k=x.kind
 tb:s.tb=x.table
 nm:s.nm=x.name
 sch:RTblQ Q w x.schema s.sch
 col:s.col=.agg #[.string (Y x.column.name),U x.column.kind,.bool x.column.null]
 ns:RSl strE Q w (sl s.ns) x.names
 un:s.un=x.unique
 rs:RSl rowE Q w (sl s.rs) x.rows
 es:RSl exE Q w (sl s.es) x.exprs
 wh:s.wo=x.where_.op/\s.wt=x.where_.table/\s.wn=x.where_.name/\s.wv=x.where_.val/\ExSl Q w (sl s.wa) x.where_.args
 sel:RSelQ Q w x.select s.sel
 md:s.md=x.mode
def RStm (B:Nat) (w:World) (x:Stm) (v:Value):Prop:=∃s:SV,v=.agg s.arr/\StmIs (B≤·) w s x
theorem A1 {α:Type} {E:ElRep α} {Q:Nat->Prop} {w:World}:RSl E Q w (sl sl0) []:=⟨[],⟨none,0,rfl,tu _,fun h=>absurd h acx⟩,rfl⟩
theorem Ad (Q:Nat->Prop) (w:World):StmIs Q w {} Stm.zero:=
 ⟨rfl,rfl,rfl,⟨none,0,none,0,rfl,rfl,A1,A1⟩,rfl,A1,rfl,A1,A1,⟨rfl,rfl,rfl,rfl,ExSl.nil _ _⟩,⟨none,0,none,0,none,0,none,0,none,0,none,0,rfl,A1,A1,A1,ExSl.nil _ _,A1,A1⟩,rfl⟩
end Go.Proofs.YtimoefagohifaaaGreatDoor
