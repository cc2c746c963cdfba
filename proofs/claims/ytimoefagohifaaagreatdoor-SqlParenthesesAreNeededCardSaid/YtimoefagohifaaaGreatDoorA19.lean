/- Laws that the last part needs. No condition. -/
import Derived.Test.YtimoefagohifaaaGreatDoorA18
set_option maxHeartbeats 4000000
set_option maxRecDepth 100000
namespace Go.Proofs.YtimoefagohifaaaGreatDoor
open Go.RowKit Go.Sort Tryz
section
variable {M:Nat->Prop} {w0 w:World} {L:List Blk}
theorem StM.setsL {i b:Nat} {t:TypeId}:∀(vs:List Value) (o:Nat) (cs:Array Value) (w:World) (L:List Blk),StM M w0 w L->L[i]?=some (b,cs,t)->StM M w0 (w.setCells b o vs) (L.set i (b,setArr cs o vs,t))
 | [],o,cs,w,L,h,hi=>by
  have e:L.set i (b,setArr cs o [],t)=L:=by
   apply aas;intro q;rw[xj];split
   ·rename_i e;subst e;rw[setArr,hi,if_pos (by simpa using(uu.1 hi).1)]
   ·rfl
  rw[e];exact h
 | v::vs,o,cs,w,L,h,hi=>by
  have h1:=StM.set i (o:=o) (v:=v) h hi;have hlt:=(uu.1 hi).1;have h2:=StM.setsL vs (o+1) _ _ _ h1 (by rw[List.getElem?_set_self hlt]);rw[ab8]at h2;exact h2
def CkPost (bo br:Nat) (w:World) (b:Bool) (r:SV) (e:Ending) (w':World):Prop:=
 e=.returned (.tuple #[])/\Turn (fun k=>k=bo\/k=br) w w'/\w'.heap[bo]?=some (.cells #[.bool b] 4 (0,0))/\w'.heap[br]?=some (.cells r.arr 50 (0,0))
structure CkAt (bo br bx:Nat) (w:World) (b:Bool) (r s:SV):Prop where
 o:w.heap[bo]?=some (.cells #[.bool b] 4 (0,0))
 r:w.heap[br]?=some (.cells r.arr 50 (0,0))
 x:w.heap[bx]?=some (.cells s.arr 50 (0,0))
 or:bo≠br
 ox:bo≠bx
 rx:br≠bx
theorem CkAt.kept {bo br bx:Nat} {w w':World} {b:Bool} {r s:SV} (h:CkAt bo br bx w b r s) (hb:Below w.heap.size w w'):CkAt bo br bx w' b r s:=⟨hb.blk_kept h.o,hb.blk_kept h.r,hb.blk_kept h.x,h.or,h.ox,h.rx⟩
theorem CkAt.ck {bo br bx:Nat} {w:World} {b:Bool} {r s:SV} (h:CkAt bo br bx w b r s):StM (fun k=>k=bo\/k=br) w w [(bo,#[.bool b],4),(br,r.arr,50)]:=by
 refine⟨Turn.refl _ _,fun x hx=>?_,by simp[h.or]⟩;simp only[uw,vl,xp]at hx;rcases hx with rfl|rfl
 ·exact⟨.inl (.inl rfl),h.o⟩
 ·exact⟨.inl (.inr rfl),h.r⟩
theorem Fu {bo br:Nat} {w w':World} {b:Bool} {r:SV} (h:StM (fun k=>k=bo\/k=br) w w' [(bo,#[.bool b],4),(br,r.arr,50)]):CkPost bo br w b r (.returned (.tuple #[])) w':=⟨rfl,h.turn,h.blk 0 rfl,h.blk 1 rfl⟩
theorem A7 {w:World} {b o:Nat} {cs:Array Value} {t:TypeId} (h:w.heap[b]?=some (.cells cs t (0,0))):w.frozen? ⟨b,o,none⟩=false:=by simp[World.frozen?,h]
theorem ck36 (bo br bx:Nat) (b q:Bool) (r s:SV) (w:World) (h:CkAt bo br bx w b r s) (C1:Hid (∀W,Below w.heap.size w W->Calls prog 37 #[.string ⟨s.tb.toArray⟩] W (Says (.bool q) W))):Calls prog 36 #[.pointer (some ⟨bo,0,none⟩),.pointer (some ⟨bx,0,none⟩),.pointer (some ⟨br,0,none⟩)] w (CkPost bo br w (b&&q) {r with tb:=[]}):=by
 have H:=tm h;have S:Hid (StM (fun k=>k=bo\/k=br) w w [(bo,#[.bool b],4),(br,r.arr,50)]):=h.ck;have n:=h.or;have n:=Ne.symm h.or;have y:w.cell? ⟨bo,0,none⟩=some (.bool b):=by simp only[World.cell?,h.o];rfl
 have y:=A7 (o:=0) h.o;have x0:w.cell? ⟨bx,1,none⟩=some (.string (Y s.tb)):=lg;have z:w.cell? ⟨br,1,none⟩=some (.string (Y r.tb)):=lj;have f:=A7 (o:=1) h.r;have hlt:br<w.heap.size:=(uh.1 h.r).1;clear h
 cases b with
 | false=>
  go_enter func36,ntmps36;go_wp2_with fail;go_returns;exact Fu (StM.set 1 (o:=1) (v:=eS) (StM.set 0 (o:=0) (v:=.bool false) S.out rfl) rfl)
 | true=>
  go_enter func36,ntmps36;go_wp2_with fail;refine tp (C1.out _ (uj _ _)) ?_;rintro e w1 ⟨rfl,hb⟩;refine z252 ?_;intro S;have h1:=H.out.kept hb;have y:w1.cell? ⟨bo,0,none⟩=some (.bool true):=by simp only[World.cell?,h1.o];rfl
  have y:=A7 (o:=0) h1.o;have z:w1.cell? ⟨br,1,none⟩=some (.string (Y r.tb)):=kr;have f:=A7 (o:=1) h1.r;clear h1 hb C1 H;go_wp2_with fail;go_returns;exact Fu (StM.set 1 (o:=1) (v:=eS) (StM.set 0 (o:=0) (v:=.bool q) S.out rfl) rfl)
theorem j9 (bo br bx:Nat) (b q:Bool) (r s:SV) (w:World) (h:CkAt bo br bx w b r s) (C1:Hid (∀W,Below w.heap.size w W->Calls prog 37 #[.string ⟨s.nm.toArray⟩] W (Says (.bool q) W))):Calls prog 38 #[.pointer (some ⟨bo,0,none⟩),.pointer (some ⟨bx,0,none⟩),.pointer (some ⟨br,0,none⟩)] w (CkPost bo br w (b&&q) {r with nm:=[]}):=by
 have H:=tm h;have S:Hid (StM (fun k=>k=bo\/k=br) w w [(bo,#[.bool b],4),(br,r.arr,50)]):=h.ck;have n:=h.or;have n:=Ne.symm h.or;have y:w.cell? ⟨bo,0,none⟩=some (.bool b):=by simp only[World.cell?,h.o];rfl
 have y:=A7 (o:=0) h.o;have x0:w.cell? ⟨bx,2,none⟩=some (.string (Y s.nm)):=lg;have z:w.cell? ⟨br,2,none⟩=some (.string (Y r.nm)):=lj;have f:=A7 (o:=2) h.r;have hlt:br<w.heap.size:=(uh.1 h.r).1;clear h
 cases b with
 | false=>
  go_enter func38,ntmps38;go_wp2_with fail;go_returns;exact Fu (StM.set 1 (o:=2) (v:=eS) (StM.set 0 (o:=0) (v:=.bool false) S.out rfl) rfl)
 | true=>
  go_enter func38,ntmps38;go_wp2_with fail;refine tp (C1.out _ (uj _ _)) ?_;rintro e w1 ⟨rfl,hb⟩;refine z252 ?_;intro S;have h1:=H.out.kept hb;have y:w1.cell? ⟨bo,0,none⟩=some (.bool true):=by simp only[World.cell?,h1.o];rfl
  have y:=A7 (o:=0) h1.o;have z:w1.cell? ⟨br,2,none⟩=some (.string (Y r.nm)):=kr;have f:=A7 (o:=2) h1.r;clear h1 hb C1 H;go_wp2_with fail;go_returns;exact Fu (StM.set 1 (o:=2) (v:=eS) (StM.set 0 (o:=0) (v:=.bool q) S.out rfl) rfl)
theorem su (bo br bx:Nat) (b q:Bool) (r s:SV) (w:World) (h:CkAt bo br bx w b r s) (C1:Hid (∀W,Below w.heap.size w W->Calls prog 40 #[.slice s.ns.1 s.ns.2.1 s.ns.2.2,.int .i64 1,.int .i64 8,.func (.func 37) #[] #[]] W (Says (.bool q) W))):Calls prog 39 #[.pointer (some ⟨bo,0,none⟩),.pointer (some ⟨bx,0,none⟩),.pointer (some ⟨br,0,none⟩)] w (CkPost bo br w (b&&q) {r with ns:=sl0}):=by
 have H:=tm h;have S:Hid (StM (fun k=>k=bo\/k=br) w w [(bo,#[.bool b],4),(br,r.arr,50)]):=h.ck;have n:=h.or;have n:=Ne.symm h.or;have y:w.cell? ⟨bo,0,none⟩=some (.bool b):=by simp only[World.cell?,h.o];rfl
 have y:=A7 (o:=0) h.o;have x0:w.cell? ⟨bx,10,none⟩=some (.slice s.ns.1 s.ns.2.1 s.ns.2.2):=lg;have z:w.cell? ⟨br,10,none⟩=some (.slice r.ns.1 r.ns.2.1 r.ns.2.2):=lj;have f:=A7 (o:=10) h.r;have hlt:br<w.heap.size:=(uh.1 h.r).1;clear h
 cases b with
 | false=>
  go_enter func39,ntmps39;go_wp2_with fail;go_returns;exact Fu (StM.set 1 (o:=10) (v:=eL) (StM.set 0 (o:=0) (v:=.bool false) S.out rfl) rfl)
 | true=>
  go_enter func39,ntmps39;go_wp2_with fail;refine tp (C1.out _ (uj _ _)) ?_;rintro e w1 ⟨rfl,hb⟩;refine z252 ?_;intro S;have h1:=H.out.kept hb;have y:w1.cell? ⟨bo,0,none⟩=some (.bool true):=by simp only[World.cell?,h1.o];rfl
  have y:=A7 (o:=0) h1.o;have z:w1.cell? ⟨br,10,none⟩=some (.slice r.ns.1 r.ns.2.1 r.ns.2.2):=kr;have f:=A7 (o:=10) h1.r;clear h1 hb C1 H;go_wp2_with fail;go_returns;exact Fu (StM.set 1 (o:=10) (v:=eL) (StM.set 0 (o:=0) (v:=.bool q) S.out rfl) rfl)
end
theorem nq (r:SV):setArr r.arr 14 [U 0,eS,eS,U 0,U 0,eS,eL]={r with wo:=0,wt:=[],wn:=[],wv:=V.null,wa:=sl0}.arr:=acz
theorem sr (bo br bx:Nat) (b q:Bool) (r s:SV) (w:World) (h:CkAt bo br bx w b r s) (C1:Hid (∀W,Below w.heap.size w W->Calls prog 42 #[.agg #[.int .i64 s.wo,.string ⟨s.wt.toArray⟩,.string ⟨s.wn.toArray⟩,.int .i64 s.wv.k,.int .i64 s.wv.n,.string s.wv.s,.slice s.wa.1 s.wa.2.1 s.wa.2.2]] W (Says (.bool q) W))):Calls prog 41 #[.pointer (some ⟨bo,0,none⟩),.pointer (some ⟨bx,0,none⟩),.pointer (some ⟨br,0,none⟩)] w (CkPost bo br w (b&&q) {r with wo:=0,wt:=[],wn:=[],wv:=V.null,wa:=sl0}):=by
 have H:=tm h;have S:Hid (StM (fun k=>k=bo\/k=br) w w [(bo,#[.bool b],4),(br,r.arr,50)]):=h.ck;have n1:=h.or;have n2:=Ne.symm h.or;have y:w.cell? ⟨bo,0,none⟩=some (.bool b):=by simp only[World.cell?,h.o];rfl
 have y:=A7 (o:=0) h.o;have x0:w.cell? ⟨bx,14,none⟩=some (U s.wo):=lg;have x1:w.cell? ⟨bx,15,none⟩=some (.string (Y s.wt)):=lg;have x2:w.cell? ⟨bx,16,none⟩=some (.string (Y s.wn)):=lg;have x3:w.cell? ⟨bx,17,none⟩=some (U s.wv.k):=lg;have x4:w.cell? ⟨bx,18,none⟩=some (U s.wv.n):=lg;have x5:w.cell? ⟨bx,19,none⟩=some (.string s.wv.s):=lg;have x6:w.cell? ⟨bx,20,none⟩=some (.slice s.wa.1 s.wa.2.1 s.wa.2.2):=lg;have z:w.cell? ⟨br,14,none⟩=some (U r.wo):=lj;have f:=A7 (o:=14) h.r;have z:w.cell? ⟨br,15,none⟩=some (.string (Y r.wt)):=lj;have f:=A7 (o:=15) h.r;have z:w.cell? ⟨br,16,none⟩=some (.string (Y r.wn)):=lj;have f:=A7 (o:=16) h.r;have z:w.cell? ⟨br,17,none⟩=some (U r.wv.k):=lj;have f:=A7 (o:=17) h.r;have z:w.cell? ⟨br,18,none⟩=some (U r.wv.n):=lj;have f:=A7 (o:=18) h.r;have z:w.cell? ⟨br,19,none⟩=some (.string r.wv.s):=lj;have f:=A7 (o:=19) h.r;have z:w.cell? ⟨br,20,none⟩=some (.slice r.wa.1 r.wa.2.1 r.wa.2.2):=lj;have f:=A7 (o:=20) h.r;have hlt:br<w.heap.size:=(uh.1 h.r).1;clear h
 cases b with
 | false=>
  go_enter func41,ntmps41;go_wp2_with fail;go_returns;have h:=StM.setsL (i:=1) [U 0,eS,eS,U 0,U 0,eS,eL] 14 _ _ _ (StM.set 0 (o:=0) (v:=.bool false) S.out rfl) rfl;exact kp
 | true=>
  go_enter func41,ntmps41;go_wp2_with fail;refine tp (C1.out _ (uj _ _)) ?_;rintro e w1 ⟨rfl,hb⟩;refine z252 ?_;intro S;have h1:=H.out.kept hb;have y:w1.cell? ⟨bo,0,none⟩=some (.bool true):=by simp only[World.cell?,h1.o];rfl
  have y:=A7 (o:=0) h1.o;have z:w1.cell? ⟨br,14,none⟩=some (U r.wo):=kr;have f:=A7 (o:=14) h1.r;have z:w1.cell? ⟨br,15,none⟩=some (.string (Y r.wt)):=kr;have f:=A7 (o:=15) h1.r;have z:w1.cell? ⟨br,16,none⟩=some (.string (Y r.wn)):=kr;have f:=A7 (o:=16) h1.r;have z:w1.cell? ⟨br,17,none⟩=some (U r.wv.k):=kr;have f:=A7 (o:=17) h1.r;have z:w1.cell? ⟨br,18,none⟩=some (U r.wv.n):=kr;have f:=A7 (o:=18) h1.r;have z:w1.cell? ⟨br,19,none⟩=some (.string r.wv.s):=kr;have f:=A7 (o:=19) h1.r;have z:w1.cell? ⟨br,20,none⟩=some (.slice r.wa.1 r.wa.2.1 r.wa.2.2):=kr;have f:=A7 (o:=20) h1.r;clear h1 hb C1 H;go_wp2_with fail;go_returns;have h:=StM.setsL (i:=1) [U 0,eS,eS,U 0,U 0,eS,eL] 14 _ _ _ (StM.set 0 (o:=0) (v:=.bool q) S.out rfl) rfl;exact kp
structure StmIn (Q:Nat->Prop) (w:World) (s:SV) (x:Stm):Prop where
 k:s.k=x.kind
 tb:s.tb=x.table
 nm:s.nm=x.name
 sch:RTblI Q w x.schema s.sch
 col:s.col=.agg #[.string (Y x.column.name),U x.column.kind,.bool x.column.null]
 ns:RSl strE Q w (sl s.ns) x.names
 un:s.un=x.unique
 rs:RSl rowE Q w (sl s.rs) x.rows
 es:RSl exE Q w (sl s.es) x.exprs
 wh:s.wo=x.where_.op/\s.wt=x.where_.table/\s.wn=x.where_.name/\s.wv=x.where_.val/\ExSl Q w (sl s.wa) x.where_.args
 sel:RSelQ Q w x.select s.sel
 md:s.md=x.mode
theorem StmIs.toIn {Q:Nat->Prop} {w:World} {s:SV} {x:Stm} (h:StmIs Q w s x):StmIn Q w s x:=⟨h.k,h.tb,h.nm,h.sch.toI,h.col,h.ns,h.un,h.rs,h.es,h.wh,h.sel,h.md⟩
theorem StmIn.move {Q R:Nat->Prop} {w w':World} {s:SV} {x:Stm} (hq:∀b,b<w.heap.size->Q b->R b/\w'.heap[b]?=w.heap[b]?) (h:StmIn Q w s x):StmIn R w' s x:=by
 refine⟨h.k,h.tb,h.nm,?_,h.col,rSl_move acy hq h.ns,h.un,rSl_move acy hq h.rs,rSl_move acy hq h.es,⟨h.wh.1,h.wh.2.1,h.wh.2.2.1,h.wh.2.2.2.1,Bi hq h.wh.2.2.2.2⟩,?_,h.md⟩
 ·obtain⟨ca,cc,ia,ic,ka,kc,e,h1,h2⟩:=h.sch;exact⟨ca,cc,ia,ic,ka,kc,e,rSl_move acy hq h1,rSl_move acy hq h2⟩
 ·obtain⟨ia,ic,fa,fc,oa,oc,wa,wc,ga,gc,sa,sc,h0,h1,h2,h3,h4,h5,h6⟩:=h.sel;exact⟨ia,ic,fa,fc,oa,oc,wa,wc,ga,gc,sa,sc,h0,rSl_move acy hq h1,rSl_move acy hq h2,rSl_move acy hq h3,Bi hq h4,rSl_move acy hq h5,rSl_move acy hq h6⟩
theorem StmIn.kept {Q:Nat->Prop} {w w':World} {s:SV} {x:Stm} (h:StmIn Q w s x) (hb:Below w.heap.size w w'):StmIn Q w' s x:=h.move (fun b hl k=>⟨k,hb.block b hl⟩)
theorem StmIn.mono {Q R:Nat->Prop} {w:World} {s:SV} {x:Stm} (h:StmIn Q w s x) (hq:∀b,Q b->R b):StmIn R w s x:=h.move (fun b _ hb=>⟨hq b hb,rfl⟩)
theorem StmIn.turned {Q M:Nat->Prop} {w w':World} {s:SV} {x:Stm} (h:StmIn Q w s x) (ht:Turn M w w') (hq:∀b,Q b->¬M b):StmIn Q w' s x:=h.move (fun b hb k=>⟨k,ht.block b hb (hq b k)⟩)
theorem G6 {α:Type} {E:ElRep α} {Q:Nat->Prop} {w:World} {p:SlP} {l:List α} (h:RSl E Q w (sl p) l):p.2.1=l.length:=by
 obtain⟨a,c,e⟩:=h.slice;unfold sl at e;injection e
theorem dr {op:Int} {t n:Bytes} {v:V} {m:Nat} {e:Ex} (h1:op=e.op) (h2:t=e.table) (h3:n=e.name) (h4:v=e.val) (h5:m=e.args.length):exZ op t n v m=e.isZero:=by
 subst h1 h2 h3 h4 h5;obtain⟨op,t,n,v,args⟩:=e;rfl
structure SvIs (s:SV) (x:Stm):Prop where
 k:s.k=x.kind
 tb:s.tb=x.table
 nm:s.nm=x.name
 s0:s.s0=x.schema.name
 s1:s.s1.2.1=x.schema.cols.length
 s2:s.s2.2.1=x.schema.indexes.length
 s3:s.s3.2.1=x.schema.checks.length
 c0:s.c0=x.column.name
 c1:s.c1=x.column.kind
 c2:s.c2=x.column.null
 ns:s.ns.2.1=x.names.length
 un:s.un=x.unique
 rs:s.rs.2.1=x.rows.length
 es:s.es.2.1=x.exprs.length
 wz:exZ s.wo s.wt s.wn s.wv s.wa.2.1=x.where_.isZero
 xd:s.xd=x.select.distinct
 xi:s.xi.2.1=x.select.items.length
 xf:s.xf.2.1=x.select.from_.length
 xo:s.xo.2.1=x.select.on.length
 yz:exZ s.yo s.yt s.yn s.yv s.ya.2.1=x.select.where_.isZero
 xg:s.xg.2.1=x.select.group.length
 xs:s.xs.2.1=x.select.sort.length
 xl:s.xl=x.select.limit
 md:s.md=x.mode
theorem StmIn.sv {Q:Nat->Prop} {w:World} {s:SV} {x:Stm} (h:StmIn Q w s x):SvIs s x:=by
 obtain⟨ca,cc,ia,ic,ka,kc,e,h1,h2⟩:=h.sch;obtain⟨ja,jc,fa,fc,oa,oc,wa,wc,ga,gc,sa,sc,g,g1,g2,g3,g4,g5,g6⟩:=h.sel;have hc:=h.col;unfold SV.sch sl at e;unfold SV.sel sl at g;unfold SV.col at hc;simp only[Value.agg.injEq,aci,aa7,uo,Value.string.injEq,Value.int.injEq,Value.bool.injEq,Value.slice.injEq,ByteArray.mk.injEq,true_and]at e g hc;have a:=G6 (Cv h.wh.2.2.2.2);obtain⟨e0,⟨_,e1,_⟩,⟨_,e2,_⟩,⟨_,e3,_⟩⟩:=e;obtain⟨g0,⟨_,g7,_⟩,⟨_,g8,_⟩,⟨_,g9,_⟩,k1,k2,k3,k4,k5,k6,⟨_,k7,_⟩,⟨_,g5',_⟩,⟨_,g6',_⟩,k8⟩:=g;exact⟨h.k,h.tb,h.nm,e0,e1,e2,e3,hc.1,hc.2.1,hc.2.2,G6 h.ns,h.un,G6 h.rs,G6 h.es,dr h.wh.1 h.wh.2.1 h.wh.2.2.1 h.wh.2.2.2.1 a,g0,g7,g8,g9,dr k1 k2 k3 ((V.ext_iff _ _).2 ⟨k4,k5,k6⟩) k7,g5',g6',k8,h.md⟩
theorem SvIs.unused {s:SV} {x:Stm} (h:SvIs s x):s.unused=x.unused:=by
 have hl:s.lists=x.names.length+x.rows.length+x.exprs.length+x.schema.cols.length+x.schema.indexes.length+x.schema.checks.length+x.select.items.length+x.select.from_.length+x.select.on.length+x.select.group.length+x.select.sort.length:=by
  unfold SV.lists;rw[h.ns,h.rs,h.es,h.s1,h.s2,h.s3,h.xi,h.xf,h.xo,h.xg,h.xs]
 unfold SV.unused Stm.unused;rw[hl,h.tb,h.nm,h.s0,h.un,h.wz,h.md,h.xd,h.yz,h.xl];have hc:decide (s.c0=[]/\s.c1=0/\s.c2=false)=decide (x.column=Col.zero):=by
  rw[h.c0,h.c1,h.c2];obtain⟨a,b,c⟩:=x.column;simp[Col.zero]
 rw[hc]
theorem SvIs.lists {s:SV} {x:Stm} (h:SvIs s x):s.lists=x.lists:=by
 unfold SV.lists Stm.lists Sel.lists;rw[h.ns,h.rs,h.es,h.s1,h.s2,h.s3,h.xi,h.xf,h.xo,h.xg,h.xs];omega
end Go.Proofs.YtimoefagohifaaaGreatDoor
