/- Laws that the last part needs. No condition. -/
import Derived.Test.YtimoefagohifaaaGreatDoorA07
set_option maxHeartbeats 8000000
set_option maxRecDepth 100000
namespace Go
open Go.Sort Go.RowKit
theorem wpList_append_at {P:Program} {ops:Array Oper} {rest:List Oper} {o:Oper} {a:Act} {Q:Exit->Act->World->Prop} {W:World} (hgd:o.guard=none) (s x:Operand) (t:TypeId) (ho:o.op=.call {callee:=.builtin .append,args:=#[s,x],argTypes:=#[t,t]}) (e:TypeId) (z:Value) (size bytes:Nat) (ht:P.underlying t=some (.slice e)) (hinfo:(P.info? e).map (fun i=>(i.zero,i.size,i.bytes))=some (some z,size,bytes)) (hzs:z.cells.size=size) (hsz:0<size) (base:Nat) (v:Value) (n:Nat) (xs:List Value) (hs:a.eval s=v) (hown:W.ownsRow base e size v n xs) (xv:Value) (m:Nat) (news:List Value) (hx:a.eval x=xv) (hm:0<m) (hsl:SlAt W xv m news) (hl:news.length=m * size) (h1:∀u∈news,u.oneCell'=true) (hbytes:(n+m) * bytes<=140737488355328) (h63:n+m<=maxLen) (hbase:base<=W.heap.size) (h:∀v' w',w'.ownsRow base e size v' (n+m) (xs++news)->W.grownBy w' v.ownBlock->(v'.ownBlock=v.ownBlock\/∃g,v'.ownBlock=some g/\W.heap.size<=g)->(∃g cap,v'=.slice (O g) (n+m) cap)->wpList P ops Q rest (a.put o.dst v') w'):wpList P ops Q (o::rest) a W:=by
 obtain⟨i0,hi,hz,hz1,hz2⟩:=ab2 hinfo;obtain⟨ad,cap,rfl,hcap,hcells⟩:=hsl;obtain⟨b,o',rfl,hat⟩:=hcells hm;have hnews:∀j u,news[j]?=some u->W.cell? ((⟨b,o',none⟩:Addr).add j)=some u:=fun j u hu=>by
  have e1:(⟨b,o',none⟩:Addr).add j=⟨b,o'+j,none⟩:=by unfold Addr.add;split<;>simp_all
  rw[e1];exact hat j u hu
 refine aa8 hgd fun K hK=>?_;obtain⟨v',w',hr,h2,h3,h4⟩:=run_append_own (P:=P) W base t o.type e i0 z size bytes ht hi hz hz1 hz2 hzs hsz v n xs hown ⟨b,o',none⟩ m cap news hl hnews h1 h63 hbytes hbase;subst hz1 hz2;have hw:=Ip ht hi hz hown hl hnews h1 h63 hbytes hr;unfold Oper.wp execOp;simp only[ho,resolve,invoke,builtin,Sem.run_bind,Sem.run_pure,Result.andThen_ok,zz,yp,aad,hs,hx,hr];refine hK _ _ (h v' w' h2 h3 (hw.imp id (fun e=>⟨_,e,tu _⟩)) ?_);obtain⟨_,⟨rfl,h0⟩|⟨g,cp,cur,rfl,_⟩⟩:=h2
 ·omega
 ·exact⟨g,cp,rfl⟩
end Go
namespace Go.Proofs.YtimoefagohifaaaGreatDoor
open Go.RowKit Go.Sort Tryz
section
theorem PFr.turnedBy {M:Nat->Prop} {pb:Nat} {sz:Int} {w0 w w':World} {L:List Blk} {l:List Tok} (h:PFr pb sz w0 w L l) (ht:Turn M w w') (hM:∀k,M k->w0.heap.size<=k) (hL:∀x∈L,¬M x.1):PFr pb sz w0 w' L l:=
 ⟨h.lt,h.st.turned ht (fun k hk hm=>by have:=hM k hm;omega) hL,h.own,h.psr.turned ht (fun k hk=>by have h1:=hM k hk;have h2:=h.lt;omega)⟩
structure RFr (pb:Nat) (sz:Int) (w0 w:World) (L:List Blk) (R:List Row) (l:List Tok):Prop where
 fr:PFr pb sz w0 w L l
 rows:OwnRows w0.heap.size w R
 apart:∀x∈L,x.1∉R.flatMap Row.blk
variable {pb:Nat} {sz:Int} {w0 w w':World} {L:List Blk} {R:List Row} {l:List Tok}
theorem RFr.mk0 (h:PFr pb sz w0 w L l):RFr pb sz w0 w L [] l:=⟨h,OwnRows.nil _ _,fun _ _ h=>by cases h⟩
theorem RFr.snoc (h:RFr pb sz w0 w L R l) (e:TypeId) (k:Nat):RFr pb sz w0 w L (R++[⟨e,k,eL,0,[]⟩]) l:=
 ⟨h.fr,h.rows.snoc e k,fun x hx=>by rw[abq];simp only[v8,List.flatMap_nil,Row.blk,Value.ownBlock,Option.toList_none,vr];exact h.apart x hx⟩
theorem RFr.facts (h:RFr pb sz w0 w L R l):St.Facts w L:=h.fr.facts
theorem RFr.psr (h:RFr pb sz w0 w L R l):Psr w pb sz l:=h.fr.psr
theorem RFr.kept (h:RFr pb sz w0 w L R l) (hb:Below w.heap.size w w'):RFr pb sz w0 w' L R l:=⟨h.fr.kept hb,h.rows.kept hb,h.apart⟩
theorem RFr.laid {o:Obj} (h:RFr pb sz w0 w L R l):RFr pb sz w0 (w.alloc o) L R l:=h.kept ((uj _ _).alloc (tu _) o)
theorem RFr.alloc {cs:Array Value} {t:TypeId} (h:RFr pb sz w0 w L R l):RFr pb sz w0 (w.alloc (.cells cs t)) ((w.heap.size,cs,t)::L) R l:=
 ⟨h.fr.alloc,h.rows.kept ((uj _ _).alloc (tu _) _),fun x hx hm=>by
  rcases uw.1 hx with rfl|hx
  ·have:=(h.rows.mem_blk hm).2;simp at this
  ·exact h.apart x hx hm⟩
theorem RFr.tail {x:Blk} (h:RFr pb sz w0 w (x::L) R l):RFr pb sz w0 w L R l:=⟨h.fr.tail,h.rows,fun y hy=>h.apart y (zk _ hy)⟩
theorem RFr.set (i:Nat) {b o:Nat} {cs:Array Value} {t:TypeId} {v:Value} (h:RFr pb sz w0 w L R l) (hi:L[i]?=some (b,cs,t)):RFr pb sz w0 (w.setCell ⟨b,o,none⟩ v) (L.set i (b,cs.setIfInBounds o v,t)) R l:=by
 refine⟨h.fr.set i hi,h.rows.turned (M:=(·=b)) ((Turn.refl _ w).setCell (.inl rfl)) (fun g hg e=>?_),fun x hx=>?_⟩
 ·have e':g=b:=e;subst e';exact h.apart (g,cs,t) (uq hi) hg
 ·rcases wu hx with hx|rfl
  ·exact h.apart x hx
  ·exact h.apart (b,cs,t) (uq hi)
theorem RFr.went {r:List Tok} (h:RFr pb sz w0 w L R l) (ht:Turn (·=pb) w w') (hp:Psr w' pb sz r):RFr pb sz w0 w' L R r:=
 ⟨h.fr.went ht hp,h.rows.turned ht (fun g hg e=>by have h1:=(h.rows.mem_blk hg).1;have h2:=h.fr.lt;have e':g=pb:=e;omega),h.apart⟩
theorem RFr.grown {i:Nat} {r r':Row} (h:RFr pb sz w0 w L R l) (hi:R[i]?=some r) (hg:w.grownBy w' r.v.ownBlock) (hown:w'.ownsRow w0.heap.size r'.e r'.k r'.v r'.n r'.xs) (hb:r'.v.ownBlock=r.v.ownBlock\/∃g,r'.v.ownBlock=some g/\w.heap.size<=g):RFr pb sz w0 w' L (R.set i r') l:=by
 have hm:∀g,r.v.ownBlock=some g->g∈R.flatMap Row.blk:=fun g hg=>wj.2 ⟨r,uq hi,by unfold Row.blk;simp[hg]⟩;have hL:∀x∈L,¬(r.v.ownBlock=some x.1):=fun x hx e=>h.apart x hx (hm _ e);refine⟨h.fr.turnedBy (Turn.of_grown hg) (fun k hk=>(h.rows.mem_blk (hm k hk)).1) hL,h.rows.grown hi hg hown hb,fun x hx hmem=>?_⟩;obtain⟨s,hs,hgs⟩:=wj.1 hmem;rcases wu hs with hs|rfl
 ·exact h.apart x hx (wj.2 ⟨s,hs,hgs⟩)
 ·unfold Row.blk at hgs;rcases hb with hb|⟨g,hb,hlt⟩
  ·rw[hb]at hgs;exact hL x hx (by simpa using hgs)
  ·rw[hb]at hgs;simp only[abv,vh]at hgs;have:=h.fr.facts;have hx2:x.1<w.heap.size:=by
    obtain⟨j,hj⟩:=yi.1 hx;obtain⟨b,cs,t⟩:=x;exact(uh.1 (h.fr.blk j hj)).1
   omega
theorem RFr.own {i:Nat} {r:Row} (h:RFr pb sz w0 w L R l) (hi:R[i]?=some r):w.ownsRow w0.heap.size r.e r.k r.v r.n r.xs:=h.rows.own r (uq hi)
theorem RFr.takes (S:RFr pb sz w0 w L R l) (s:Bytes) {nb cap:Nat} {t:TypeId} {K:Ending->World->Prop} (hs:w.heap[nb]?=some (.cells #[.string (Y s)] t (0,0))) (hc:1<=cap)
 (hyes:∀r w',tk s l=some r->Turn (·=pb) w w'->Hid (RFr pb sz w0 w' L R r)->K (.returned (.bool true)) w') (hno:∀w',tk s l=none->Turn (·=pb) w w'->Hid (RFr pb sz w0 w' L R l)->K (.returned (.bool false)) w'):
 Calls prog 122 #[.pointer (O pb),.slice (O nb) 1 cap] w K:=
 S.fr.takes s hs hc (fun r w' h1 h2 h3=>hyes r w' h1 h2 (S.went h2 h3.out.psr)) (fun w' h1 h2 h3=>hno w' h1 h2 (S.went h2 h3.out.psr))
theorem RFr.post {α β:Type} {f:FuncId} {args:Array Value} {Rep:World->α->Value->Prop} {Rep2:World->β->Value->Prop} {x:Res α} {y:Res β} {K:Ending->World->Prop} (S:RFr pb sz w0 w L R l) (C:Calls prog f args w (Post pb sz Rep x w))
 (herr:∀p q,x=.err p q->y=.err p q) (hK:∀c w',Post pb sz Rep2 y w0 (.panicked c) w'->K (.panicked c) w')
 (hok:∀a r v w',x=.ok a r->Rep w' a v->Turn (·=pb) w w'->Hid (RFr pb sz w0 w' L R r)->K (.returned v) w'):Calls prog f args w K:=
 S.fr.post C herr hK (fun a r v w' h1 h2 h3 h4=>hok a r v w' h1 h2 h3 (S.went h3 h4.out.psr))
theorem RFr.stop {β:Type} {Rep2:World->β->Value->Prop} {y:Res β} {K:Ending->World->Prop} (S:RFr pb sz w0 w L R l) (q:Int) (hy:y=stopR sz l q) (hK:∀c w',Post pb sz Rep2 y w0 (.panicked c) w'->K (.panicked c) w'):
 Calls prog 55 #[.pointer (O pb),U q] w K:=S.fr.stop q hy hK
theorem LIn.turned {α:Type} {E:ElRep α} {Q M:Nat->Prop} {w w':World} {l:List α} {acs:List Value} (h:LIn E Q w l acs) (ht:Turn M w w') (hM:∀b,Q b->¬M b):LIn E Q w' l acs:=
 LIn.move (fun b hb hq=>⟨hq,ht.block b hb (hM b hq)⟩) h
theorem RFr.notM {i j:Nat} {r:Row} {b:Nat} {cs:Array Value} {t:TypeId} (h:RFr pb sz w0 w L R l) (hi:R[i]?=some r) (hj:L[j]?=some (b,cs,t)):¬(b=pb\/r.v.ownBlock=some b):=by
 rintro(e|e)
 ·have h1:=h.fr.ge j hj;have h2:=h.fr.lt;omega
 ·exact h.apart (b,cs,t) (uq hj) (wj.2 ⟨r,uq hi,by unfold Row.blk;simp[e]⟩)
theorem RFr.cellT {i j:Nat} {r:Row} {b:Nat} {cs:Array Value} {t:TypeId} {v:Value} (h:RFr pb sz w0 w L R l) (hi:R[i]?=some r) (hj:L[j]?=some (b,cs,t)) (o:Nat) (hv:cs[o]?=some v) (p:TurnW (fun k=>k=pb\/r.v.ownBlock=some k) w):p.w.cell? ⟨b,o,none⟩=some v:=by
 have:=Ck p (h.fr.blk j hj) (h.notM hi hj);simp only[World.cell?,this];exact hv
theorem RFr.blkT {i j:Nat} {r:Row} {b:Nat} {cs:Array Value} {t:TypeId} (h:RFr pb sz w0 w L R l) (hi:R[i]?=some r) (hj:L[j]?=some (b,cs,t))
 (p:TurnW (fun k=>k=pb\/r.v.ownBlock=some k) w):p.w.heap[b]?=some (.cells cs t (0,0)):=Ck p (h.fr.blk j hj) (h.notM hi hj)
theorem RFr.done {α:Type} {Rep:World->α->Value->Prop} {y:Res α} {a:α} {v:Value} (S:RFr pb sz w0 w L R l) (hy:y=.ok a l) (hv:RFr pb sz w0 w L R l->Rep w a v):Post pb sz Rep y w0 (.returned v) w:=S.fr.done hy (hv S)
theorem RFr.size (h:RFr pb sz w0 w L R l):w0.heap.size<=w.heap.size:=h.fr.size
theorem RFr.lt (h:RFr pb sz w0 w L R l):pb<w0.heap.size:=h.fr.lt
theorem RFr.wants {β:Type} {Rep2:World->β->Value->Prop} {y:Res β} {K:Ending->World->Prop} (S:RFr pb sz w0 w L R l) (ws:List Bytes) {nb n cap:Nat} {cs:Array Value} {t:TypeId}
 (hs:w.heap[nb]?=some (.cells cs t (0,0))) (hcs:cs=(strVals ws).toArray) (ht:t≠114) (hn:n=ws.length) (hc:n<=cap) (hl:n<=1000000) (herr:∀p q,wantsR sz ws l=.err p q->y=.err p q) (hK:∀c w',Post pb sz Rep2 y w0 (.panicked c) w'->K (.panicked c) w')
 (hok:∀r w',wantsR sz ws l=.ok () r->Turn (·=pb) w w'->Hid (RFr pb sz w0 w' L R r)->K (.returned (.tuple #[])) w'):Calls prog 124 #[.pointer (O pb),.slice (O nb) n cap] w K:=
 S.fr.wants ws hs hcs ht hn hc hl herr hK (fun r w' h1 h2 h3=>hok r w' h1 h2 (S.went h2 h3.out.psr))
theorem RFr.sees1 {K:Ending->World->Prop} (S:RFr pb sz w0 w L R l) (s:Bytes) {nb cap:Nat} {t:TypeId} (hs:w.heap[nb]?=some (.cells #[.string (Y s)] t (0,0))) (hc:1<=cap) (hok:∀w',Below w.heap.size w w'->Hid (RFr pb sz w0 w' L R l)->K (.returned (.tuple #[.string ⟨(seesWord l).toArray⟩,.bool (tk s l).isSome])) w'):Calls prog 184 #[.pointer (O pb),.slice (O nb) 1 cap] w K:=by
 refine tp (Kq [s] _ pb sz l w S.psr (Ox hs hc) acx) ?_;rintro e w' ⟨rfl,hb⟩;rw[Va];exact hok w' hb (S.kept hb)
def Off (B:Nat) (R:List Row) (b:Nat):Prop:=B<=b/\b∉R.flatMap Row.blk
theorem RFr.off {i:Nat} {r r':Row} {b:Nat} (_h:RFr pb sz w0 w L R l) (hi:R[i]?=some r) (hb:r'.v.ownBlock=r.v.ownBlock\/∃g,r'.v.ownBlock=some g/\w.heap.size<=g) (hlt:b<w.heap.size) (ho:Off w0.heap.size R b):Off w0.heap.size (R.set i r') b/\¬(r.v.ownBlock=some b):=by
 have hm:∀g,r.v.ownBlock=some g->g∈R.flatMap Row.blk:=fun g hg=>wj.2 ⟨r,uq hi,by unfold Row.blk;simp[hg]⟩;refine⟨⟨ho.1,fun hmem=>?_⟩,fun e=>ho.2 (hm b e)⟩;obtain⟨s,hs,hgs⟩:=wj.1 hmem;rcases wu hs with hs|rfl
 ·exact ho.2 (wj.2 ⟨s,hs,hgs⟩)
 ·unfold Row.blk at hgs;rcases hb with hb|⟨g,hb,hg⟩
  ·rw[hb]at hgs;exact ho.2 (hm b (by simpa using hgs))
  ·rw[hb]at hgs;simp only[abv,vh]at hgs;omega
end
def RChk (_:World) (c:Chk) (v:Value):Prop:=v=.agg #[U c.col,U c.op,U c.val.k,U c.val.n,.string c.val.s]
theorem N5 {nm:Bytes} {l:List Col} (h:colIdx nm l=none):colFrom nm 0 l= -1:=by rw[Ft,h]
theorem N4 {nm:Bytes} {l:List Col} {k:Nat} (h:colIdx nm l=some k):colFrom nm 0 l=(k:Int):=by rw[Ft,h];simp
theorem Ui {l:List Col} (h:0<l.length):colVals l≠[]:=by
 cases l with
 | nil=>simp at h
 | cons c l=>simp[colVals,Col.cells]
theorem Tj {t:Tok} {q:List Tok} (h:t.kind=2):nextR 2 (t::q)=some (t,q):=by simp[nextR,h]
theorem Xi {l:List Tok} (h:headIs 2 l=false):nextR 2 l=none:=by
 cases l with
 | nil=>rfl
 | cons t q=>simp only[headIs,aal]at h;simp[nextR,h]
theorem af (a b c d:Value):(prog.info? 35).map (·.size)=some (#[a,b,c,d]:Array Value).size:=by
 have:(prog.info? 35).map (·.size)=some 4:=acz;rw[this];rfl
theorem Y4 (pb:Nat) (sz:Int) (tn:Bytes) (ca ka:Option Addr) (cc kn kc:Nat) (cols:List Col) (l:List Tok) (w:World) (h:Psr w pb sz l) (hv:SlIn (·≠pb) w (.slice ca cols.length cc) cols.length (colVals cols)) (hl:cols.length<=1000000):Calls prog 185 #[.pointer (O pb),.agg #[.string (Y tn),.slice ca cols.length cc,eL,.slice ka kn kc]] w (Post pb sz RChk (checkR sz cols l) w):=by
 have S:=tm (PFr.start h);have HV:=tm hv;clear h hv;refine Bt (C:=fun y=>Calls prog 185 _ w (Post pb sz RChk y w)) _ ?_;intro y HM;unfold checkR at HM;go_enter func185,ntmps185;go_wp2_with fail;refine PFr.wants (PFr.laid (PFr.alloc (PFr.alloc (S.out)))) [[99,104,101,99,107],[40]] (blk_at acx) rfl acy rfl acy acy (fun p q h=>by rw[HM.out,h];rfl) (fun _ _ h=>⟨rfl,h⟩) ?_;intro r1 w1 h1 ht S;replace HM:=HM.out;rw[h1]at HM;simp only[Res.bind]at HM;replace HM:=tm HM;have HV1:=tm ((((HV.out.kept ((uj _ _).alloc (tu _) (.cells #[.string (Y tn),.slice ca cols.length cc,eL,.slice ka kn kc] 35))).kept ((uj _ _).alloc (tu _) (.cells #[U 0,U 0,U 0,U 0,eS] 151))).kept ((uj _ _).alloc (tu _) _)).turned ht (fun b h e=>h e) Ui);clear h1 HV ht;simp only[ug]at S;have hlt:=S.out.psr.lt;have hs:w.heap.size+1<w1.heap.size:=S.out.facts.1;have hs:w.heap.size<w1.heap.size:=acw;by_cases hh:headIs 2 r1=true
 ·obtain⟨t,q,rfl⟩:∃t q,r1=t::q:=by
   cases r1 with
   | nil=>cases hh
   | cons t q=>exact⟨t,q,rfl⟩
  obtain⟨b,o,cap,H⟩:=S.out.psr.head;have G:=Al H.blk [.slice (some ⟨b,o,none⟩) (q.length+1) cap,U sz] 0 (fun j=>acx);simp only[cellFacts,uo]at G;have t0:=H.c0;have hk:t.kind=2:=by simpa[headIs]using hh
  rw[hk]at t0;have hc1:1<=cap:=by have:=H.cap1;omega
  unfold checkColR at HM;rw[Tj hk]at HM;have hbl:b<w1.heap.size:=by have:=H.lt;omega
  clear H hh;go_wp2_with fail;refine Ce (fun W=>PFr pb sz w W [(w1.heap.size,#[U 0,U 0,U 0,U 0,eS],151),(w.heap.size+1,#[U 0,U 0,U 0,U 0,eS],151),(w.heap.size,#[.string (Y tn),.slice ca cols.length cc,eL,.slice ka kn kc],35)] (t::q)/\SlIn (·≠pb) W (.slice ca cols.length cc) cols.length (colVals cols)) ⟨by simpa using(PFr.alloc (S.out)),HV1.out.kept ((uj _ _).alloc (tu _) _)⟩ ?_;clear S HV1 G t0 hc1 hlt hbl;rintro w2 ⟨S,HV4⟩;replace S:=tm S;have HV2:=tm HV4;clear HV4;obtain⟨b,o,cap,H⟩:=S.out.psr.head;have G:=Al H.blk [.slice (some ⟨b,o,none⟩) (q.length+1) cap,U sz] 0 (fun j=>acx);simp only[cellFacts,uo]at G;have t2:=H.c2;have hc1:1<=cap:=by have:=H.cap1;omega
  have y0:∀p:TurnW (fun _=>False) w2,p.w.heap[w.heap.size]?=some (.cells #[.string (Y tn),.slice ca cols.length cc,eL,.slice ka kn kc] 35 (0,0)):=fun p=>Ck p (S.out.blk 2 rfl) id;have y1:∀p:TurnW (fun _=>False) w2,p.w.cell? ⟨pb,0,none⟩=some (.slice (some ⟨b,o,none⟩) (q.length+1) cap):=fun p=>Bq p G.1.1 id;have y2:∀p:TurnW (fun _=>False) w2,p.w.cell? ⟨b,o+2,none⟩=some (.string (Y t.s)):=fun p=>Bq p t2 id;clear G t2 H;refine Av (fun _=>False) (fun c w'=>Post pb sz RChk y w (.panicked c) w') (fun _ _ _ hd h=>⟨hd,h⟩) 14 [(0,false),(1,false),(2,false),(3,false),(4,false),(5,false),(6,false),(7,false),(8,true),(9,false),(10,false),(11,false),(12,false),(13,false)] acz acz ?_;refine Db rfl rfl 35 (.tmp 3) rfl w.heap.size rfl 35 _ (0,0) _ y0 underlying35 rfl (af _ _ _ _) ?_;repeat(refine wpM_mildP rfl (fun K hK=>?_);go_simp;first|(refine hK _ ?_;clear hK K)|(apply Exists.intro;refine⟨fun _=>?_,hK _ ?_⟩;(fail);clear hK K))
  refine acm rfl rfl ?_;intro w3 hb3 ht;replace S:=tm (S.out.kept hb3);have HV3:=tm (HV2.out.kept hb3);have HT:=tm ht;clear hb3 ht y0 y1 y2 HV2;go_wp2_with fail;refine tp (colAt_any t.s tn _ _ _ cols w3 HV3.out.slAt hl rfl rfl) ?_;rintro e w4 ⟨rfl,hb4⟩;replace S:=tm (S.out.kept hb4);replace HT:=tm (HT.out.step hb4);clear hb4 HV3
  cases hc:colIdx t.s cols with
  | none=>
   replace HM:Hid (y=stopR sz (t::q) 5):=by show _=_;rw[HM.out];simp only[hc];rfl
   rw[N5 hc,show(decide ((0:Int)≤-1))=false by decide,show max (0:Int) (-1)=0 by decide];clear hc;go_wp2_with fail;refine⟨HT.out,?_⟩;repeat(refine wpM_mildP rfl (fun K hK=>?_);go_simp;first|(refine hK _ ?_;clear hK K)|(apply Exists.intro;refine⟨fun _=>?_,hK _ ?_⟩;(fail);clear hK K))
   refine B8 ?_;intro w5 hb5 _;replace S:=tm (S.out.kept hb5);clear hb5 HT;simp only[vo,List.drop_nil];have F:=fx_ S.out.facts;go_wp2_with fail;exact PFr.stop S.out 5 HM.out (fun _ _ h=>⟨rfl,h⟩)
  | some k=>
   replace HM:Hid (y=(nameR sz (t::q)).bind fun _ l3=>if(opPair (seesWord l3)).2≠3 then stopR sz l3 380 else(literalR sz l3.tail).bind fun v l4=>(wantsR sz [[41]] l4).map fun _=>⟨(k:Int),(opPair (seesWord l3)).1,v⟩):=by show _=_;rw[HM.out];simp only[hc];rfl
   rw[N4 hc,show(decide ((0:Int)<=(k:Int)))=true by simp,show max (0:Int) (k:Int)=k by omega];clear hc;go_wp2_with fail;refine⟨HT.out,?_⟩;repeat(refine wpM_mildP rfl (fun K hK=>?_);go_simp;first|(refine hK _ ?_;clear hK K)|(apply Exists.intro;refine⟨fun _=>?_,hK _ ?_⟩;(fail);clear hK K))
   refine B8 ?_;intro w5 hb5 _;replace S:=tm (S.out.kept hb5);clear hb5 HT;simp only[vo,List.drop_nil];have F:=fx_ S.out.facts;go_wp2_with fail;have SA:=tm (PFr.set 0 (o:=0) (v:=U (k:Int)) S.out rfl);try(simp only[ub,um]at SA)
   clear S F;refine PFr.post SA.out (name_any pb sz _ _ SA.out.psr) (fun p q h=>by rw[HM.out,h];rfl) (fun _ _ h=>⟨rfl,h⟩) ?_;intro a6 r6 v6 w6 h6 hv6 ht S;replace HM:=HM.out;rw[h6]at HM;try(simp only[Res.bind,Res.map]at HM)
   replace HM:=tm HM;clear h6;obtain rfl:=hv6;clear SA;go_wp2_with fail;refine PFr.sees S.out ?_;clear S;intro w7 bb hb7 S;obtain⟨mb,hops⟩:=S.out.psr.ops (seesWord r6) S.out.psr.sees_len;obtain⟨m,m1,_⟩:=hops w7 (tu _) (fun _ _=>rfl);have HOPS:=tm hops;have HNE:=tm (K3 (s:=seesWord r6));clear hops hb7;obtain⟨sw,hsw⟩:∃sw,seesWord r6=sw:=⟨_,rfl⟩;have HSW:=tm hsw;rw[hsw]at HM HNE HOPS m1 ⊢;obtain⟨pr,hpr⟩:∃pr,opPair sw=pr:=⟨_,rfl⟩;rw[hpr]at HM HNE HOPS m1;obtain⟨po,pl⟩:=pr;simp only at HM HNE HOPS m1;clear hsw hpr;have g:=fun w=>Qp po pl w;have g:=fun w=>Mz po pl w;have F:=fx_ S.out.facts;by_cases h3:pl=3
   ·subst h3;replace HM:Hid (y=(literalR sz r6.tail).bind fun v l4=>(wantsR sz [[41]] l4).map fun _=>⟨(k:Int),po,v⟩):=by show _=_;rw[HM.out,if_neg acx];rfl
    have hne:=HNE.out rfl;go_wp2_with fail;refine PFr.takes (PFr.laid (S.out)) sw (blk_at acx) acy ?_ ?_
    ·intro r w8 hn ht S8;have hr:r=r6.tail:=by
      have:=C7 (l:=r6) (by rw[HSW.out];exact hne);exact pz
     subst hr;have y0:∀p:TurnW (·=pb) w8,p.w.cell? ⟨0,0,none⟩=some (.map (some mb))/\(Instr.lookup 213 (.map (some mb)) (.string (Y sw)) false).run prog p.w=.ok (.agg #[U po,U 3]) p.w:=fun p=>by exact m9
     have y1:=fun p=>(y0 p).1;have y2:=fun p=>(y0 p).2;clear hn ht HOPS HNE HSW m m1 F S y0;go_wp2_with fail;refine Av (·=pb) (fun c w'=>Post pb sz RChk y w (.panicked c) w') (fun _ _ _ hd h=>⟨hd,h⟩) 7 [(0,false),(1,false),(2,false),(3,false),(4,false),(6,false),(5,true)] acz acz ?_;repeat(refine wpM_mildP rfl (fun K hK=>?_);go_simp;first|(refine hK _ ?_;clear hK K)|(apply Exists.intro;refine⟨fun _=>?_,hK _ ?_⟩;(fail);clear hK K))
     refine acm rfl rfl ?_;intro w9 hb9 ht;have S:=tm (S8.out.kept hb9);have HT:=tm ht;clear hb9 ht y1 y2 S8;go_wp2_with fail;refine PFr.post S.out (Gr pb sz _ _ S.out.psr) (fun p q h=>by rw[HM.out,h];rfl) (fun _ _ h=>h) ?_;clear S;intro a1 r v1 w10 h2 hv1 ht S;replace HM:=HM.out;rw[h2]at HM;try(simp only[Res.bind,Res.map]at HM)
     replace HM:=tm HM;clear h2;obtain rfl:=hv1;go_wp2_with fail;refine⟨HT.out.trans ht (fun _ _ h=>h),B8 ?_⟩;intro w11 hb1 _;replace S:=tm (S.out.kept hb1);clear hb1 HT ht;simp only[vo,vz];have F:=fx_ S.out.facts;go_wp2_with fail;refine PFr.wants (PFr.laid (PFr.set 0 (PFr.set 0 (PFr.set 0 (PFr.set 0 (S.out) rfl) rfl) rfl) rfl)) [[41]] (blk_at acx) rfl acy rfl acy acy (fun p q h=>by rw[HM.out,h];try rfl) (fun _ _ h=>⟨rfl,h⟩) ?_;clear S;intro r w12 h2 ht S;replace HM:=HM.out;rw[h2]at HM;simp only[]at HM;replace HM:=tm HM;clear h2 ht F;simp only[ub,ui,um]at S;have F:=fx_ S.out.facts;go_wp2_with fail;refine ue (v:=.agg #[U (k:Int),U po,U a1.k,U a1.n,.string a1.s]) (by simp[results,results185,go_sem,F]) rfl ?_;exact p4
    ·exact p8
   ·exact lf
 ·have hh':headIs 2 r1=false:=by simpa using hh
  unfold checkColR at HM;rw[Xi hh']at HM;replace HM:Hid (y=(nameR sz r1).bind fun _ l3=>if(opPair (seesWord l3)).2≠3 then stopR sz l3 380 else(literalR sz l3.tail).bind fun v l4=>(wantsR sz [[41]] l4).map fun _=>⟨0,(opPair (seesWord l3)).1,v⟩):=by show _=_;rw[HM.out];rfl
  clear hh HV1
  cases r1 with
  | nil=>
   obtain⟨a,cap,h1⟩:=S.out.psr.nil;have G:=Al h1 [.slice a 0 cap,U sz] 0 (fun j=>acx);simp only[cellFacts,uo]at G;clear h1 hh';exact mf
  | cons t q=>
   obtain⟨b,o,cap,H⟩:=S.out.psr.head;have G:=Al H.blk [.slice (some ⟨b,o,none⟩) (q.length+1) cap,U sz] 0 (fun j=>acx);simp only[cellFacts,uo]at G;have t0:=H.c0;have hk:(t.kind==2)=false:=by simpa[headIs]using hh'
   have hc1:1<=cap:=by have:=H.cap1;omega
   have hbl:b<w1.heap.size:=by have:=H.lt;omega
   clear H hh';obtain⟨tkk,hkk⟩:∃x,t.kind=x:=⟨_,rfl⟩;rw[hkk]at t0 hk;clear hkk;exact mf
def chkCells (c:Chk):List Value:=[U c.col,U c.op,U c.val.k,U c.val.n,.string c.val.s]
def chkVals (l:List Chk):List Value:=l.flatMap chkCells
def colE:ElRep Col where
 k:=3
 In _ _ c cs:=cs=c.cells
 val cs:=.agg cs.toArray
 len h:=by subst h;rfl
 ones h u hu:=by subst h;simp only[Col.cells,uw,vl,xp]at hu;rcases hu with rfl|rfl|rfl<;>rfl
 move _ h:=h
def chkE:ElRep Chk where
 k:=5
 In _ _ c cs:=cs=chkCells c
 val cs:=.agg cs.toArray
 len h:=by subst h;rfl
 ones h u hu:=by subst h;simp only[chkCells,uw,vl,xp]at hu;rcases hu with rfl|rfl|rfl|rfl|rfl<;>rfl
 move _ h:=h
theorem Qc {Q:Nat->Prop} {w:World}:∀{l:List Col},LIn colE Q w l (colVals l)
 | []=>rfl
 | c::l=>⟨c.cells,colVals l,rfl,rfl,Qc⟩
theorem Qd {Q:Nat->Prop} {w:World}:∀{l:List Chk},LIn chkE Q w l (chkVals l)
 | []=>rfl
 | c::l=>⟨chkCells c,chkVals l,rfl,rfl,Qd⟩
def RTbl (B:Nat) (w:World) (t:Tbl) (v:Value):Prop:=∃ca cc ka kc,v=.agg #[.string (Y t.name),.slice ca t.cols.length cc,eL,.slice ka t.checks.length kc]/\t.indexes=[]/\RSl colE (B≤·) w (.slice ca t.cols.length cc) t.cols/\RSl chkE (B≤·) w (.slice ka t.checks.length kc) t.checks
theorem B4 {α β:Type} {x:Res α} {f:α->List Tok->Res β} {b:β} {r:List Tok} (h:x.bind f=.ok b r):∃a q,x=.ok a q/\f a q=.ok b r:=by
 cases x with
 | err p q=>cases h
 | ok a q=>exact⟨a,q,rfl,h⟩
theorem G5 {α β:Type} {x:Res α} {f:α->β} {b:β} {r:List Tok} (h:x.map f=.ok b r):∃a,x=.ok a r/\f a=b:=by
 cases x with
 | err p q=>cases h
 | ok a q=>simp only[Res.map,Res.ok.injEq]at h;exact⟨a,by rw[h.2],h.1⟩
theorem Ej {sz:Int} (l:List Tok) (a:Col) (r:List Tok) (h:columnR sz l=.ok a r):r.length<=l.length:=by
 unfold columnR at h;obtain⟨nm,l1,h1,h⟩:=B4 h;have k1:=Be h1;obtain⟨k,l2,h2,h⟩:=B4 h;have k2:l2.length<=l1.length:=by
  cases h3:tk [105,110,116] l1 with
  | some q=>have:=A5 h3;simp only[h3,Res.ok.injEq]at h2;rw[<- h2.2];omega
  | none=>
   simp only[h3]at h2
   cases h4:tk [116,101,120,116] l1 with
   | some q=>have:=A5 h4;simp only[h4,Res.ok.injEq]at h2;rw[<- h2.2];omega
   | none=>
    simp only[h4]at h2;obtain⟨u,h5,_⟩:=G5 h2;have:=Aw h5;omega
 cases h3:tk [110,111,116] l2 with
 | some q=>
  have k3:=A5 h3;simp only[h3]at h;obtain⟨u,h5,_⟩:=G5 h;have:=Aw h5;omega
 | none=>exact ahi
theorem Hs {sz:Int} {cols:List Col} (l:List Tok) (a:Chk) (r:List Tok) (h:checkR sz cols l=.ok a r):r.length<=l.length:=by
 unfold checkR at h;obtain⟨u,l1,h1,h⟩:=B4 h;have k1:=Aw h1;obtain⟨k,l2,h2,h⟩:=B4 h;have k2:l2.length<=l1.length:=by
  unfold checkColR at h2
  cases h3:nextR 2 l1 with
  | none=>simp only[h3,Res.ok.injEq]at h2;rw[<- h2.2];omega
  | some p=>
   obtain⟨t,q⟩:=p;simp only[h3]at h2
   cases h4:colIdx t.s cols with
   | none=>simp only[h4,stopR]at h2;cases h2
   | some k=>simp only[h4,Res.ok.injEq]at h2;rw[<- h2.2];omega
 obtain⟨nm,l3,h3,h⟩:=B4 h;have k3:=Be h3;split at h
 ·cases h
 ·obtain⟨v,l4,h4,h⟩:=B4 h;have k4:=Cu h4;obtain⟨u,h5,_⟩:=G5 h;have k5:=Aw h5;simp only[List.length_tail]at k4;omega
theorem Cp (sz:Int) (f:Nat) (cols:List Col) (checks:List Chk) (l:List Tok):tableMore sz (f+1) cols checks l=match tk [44] l with
 | none=>.ok (cols,checks) l
 | some r=>
  if(tk [99,104,101,99,107] r).isSome||decide (0<checks.length)then(checkR sz cols r).bind fun x l1=>tableMore sz f cols (checks++[x]) l1
  else if headIs 2 r then(columnR sz r).bind fun c l1=>tableMore sz f (cols++[c]) checks l1
  else stopR sz r 380:=rfl
theorem Dz {sz:Int}:∀(f g:Nat) (cols:List Col) (checks:List Chk) (l:List Tok),l.length<=f->l.length<=g->tableMore sz f cols checks l=tableMore sz g cols checks l
 | 0,0,_,_,l,_,_=>rfl
 | 0,g+1,_,_,l,h,_=>by exact z99
 | f+1,0,_,_,l,_,h=>by exact z99
 | f+1,g+1,cols,checks,l,hf,hg=>by
  rw[Cp,Cp]
  cases h:tk [44] l with
  | none=>rfl
  | some r=>
   have h1:=A5 h;simp only;split
   ·cases h2:checkR sz cols r with
    | err p q=>rfl
    | ok a l1=>
     have h3:=Hs r a l1 h2;simp only[Res.bind];exact Dz f g _ _ l1 acw acw
   ·split
    ·cases h2:columnR sz r with
     | err p q=>rfl
     | ok a l1=>
      have h3:=Ej r a l1 h2;simp only[Res.bind];exact Dz f g _ _ l1 acw acw
    ·rfl
end Go.Proofs.YtimoefagohifaaaGreatDoor
namespace Go
open Go.Sort Go.RowKit
section
variable {P:Program} {ops:Array Oper} {md:Region.Mode} {w0:World} {M:Nat->Prop} {Q:Exit->Act->World->Prop} {R:PanicR}
def wpMA (P:Program) (ops:Array Oper) (M:Nat->Prop) (w0:World) (R:PanicR) (Q:Exit->Act->World->Prop) (g:Nat) (lst:Array Bool):Plan->Act->World->Prop
 | .stop,a,wc=>∀w,Below wc.heap.size wc w->Turn M w0 w->wpAny P .any ops Q g lst a w
 | .mild k r,a,wc=>∃o,ops[k]?=some o/\if Region.wanted o (yielded ops a.tmps)then o.mildT P a M w0 (fun a'=>wpMA P ops M w0 R Q g lst r a' wc)else wpMA P ops M w0 R Q g lst r (a.put o.dst undef) wc
 | .eff k r,a,wc=>∃o,ops[k]?=some o/\a.defers=[]/\∀w,Below wc.heap.size wc w->Turn M w0 w ->
  wpList P ops (Exit.then (fun a' w'=>Turn M w0 w'/\wpMA P ops M w0 R Q g lst r a' w') (calmR R Q)) [o] a w
 | .two k1 r1 k2 r2,a,wc=>
  (∃o,ops[k1]?=some o/\a.defers=[]/\∀w,Below wc.heap.size wc w->Turn M w0 w->wpList P ops (Exit.then (fun a' w'=>Turn M w0 w'/\wpMA P ops M w0 R Q g lst r1 a' w') (calmR R Q)) [o] a w)/\
  (∃o,ops[k2]?=some o/\a.defers=[]/\∀w,Below wc.heap.size wc w->Turn M w0 w->wpList P ops (Exit.then (fun a' w'=>Turn M w0 w'/\wpMA P ops M w0 R Q g lst r2 a' w') (calmR R Q)) [o] a w)
def Region.mixA (md:Region.Mode) (ops:Array Oper) (n:Nat) (lst:Array Bool):Plan->Array Bool->Bool
 | .stop,listed=>listed==lst&&(Region.ready md ops lst).all (fun j=>decide (n<=j))
 | .mild k r,listed=>(Region.ready md ops listed).contains k&&Region.free md ops listed k&&decide (k<n)&&Region.mixA md ops n lst r (listed.setIfInBounds k true)
 | .eff k r,listed=>decide (Region.ready md ops listed=[k])&&Region.effB ops n k&&Region.mixA md ops n lst r (listed.setIfInBounds k true)
 | .two k1 r1 k2 r2,listed=>decide (Region.ready md ops listed=[k1,k2])&&Region.effB ops n k1&&Region.effB ops n k2&&decide (r1.len=r2.len)&&
  Region.mixA md ops n lst r1 (listed.setIfInBounds k1 true)&&Region.mixA md ops n lst r2 (listed.setIfInBounds k2 true)
theorem Gq {k:Nat} {o:Oper} {a:Act} {wc:World} {K K':Act->World->Prop} (h0:ops[k]?=some o) (hgd:o.guard=none) (hd:a.defers=[]) (hK:∀a w,K a w->K' a w) (h:∀w,Below wc.heap.size wc w->Turn M w0 w->wpList P ops (Exit.then (fun a' w'=>Turn M w0 w'/\K a' w') (calmR R Q)) [o] a w):mOpP P ops M w0 R Q k K' a wc:=by
 have hwt:∀a:Act,Region.wanted o (yielded ops a.tmps)=true:=fun a=>by simp[Region.wanted,hgd]
 unfold mOpP;simp only[h0,hwt a,if_true];refine .inr ⟨hd,fun w h1 h2=>?_⟩;have h3:=h w h1 h2;simp only[wpList,hwt a,if_true]at h3;rcases h3 with h3|h3
 ·refine .inl ?_;unfold Oper.wp at *;generalize (execOp a.eval o).run P w=r' at *
  cases r' with
  | ok nx w'=>
   cases nx<;>simp only[Oper.upon]at h3 ⊢
   case value u=>exact⟨h3.1,hK _ _ h3.2⟩
   case skip=>exact⟨h3.1,hK _ _ h3.2⟩
   case defer d=>exact⟨h3.1,hK _ _ h3.2⟩
   case enter f args=>
    refine tp h3 fun e w'' he=>?_
    cases e with
    | returned u=>exact⟨he.1,hK _ _ he.2⟩
    | panicked c=>exact he
    | outgrown=>obtain⟨a1,w1,h4⟩:=he;exact⟨a1,w1,h4⟩
   case row row args=>exact Rows.mono h3 fun u w'' he=>⟨he.1,hK _ _ he.2⟩
  | halt x w'=>exact Zn
 ·obtain⟨h3,a1,w1,h4⟩:=h3;exact .inr ⟨h3,a1,w1,h4⟩
theorem Ey {n g:Nat} {lst:Array Bool} (hsel:Region.noSelect ops=true) (hw:TailWaits md ops n):
 ∀(r:Plan) (listed:Array Bool) (a:Act) (wc:World),HeadInv md ops n listed->Region.mixA md ops n lst r listed=true->wpMA P ops M w0 R Q g lst r a wc ->
 wpAMP P md ops M w0 R Q n (fun listed' a' wc'=>(listed'=lst/\(Region.ready md ops lst).all (fun j=>decide (n<=j))=true)/\∀w,Below wc'.heap.size wc' w->Turn M w0 w->wpAny P .any ops Q g lst a' w) r.len listed a wc
 | .stop,listed,a,wc,_,hB,h=>by
  simp only[Region.mixA,tr,zp]at hB;exact⟨hB,h⟩
 | .mild k r,listed,a,wc,inv,hB,h=>by
  obtain⟨o,h0,h⟩:=h;simp only[Region.mixA,tr,uk]at hB;obtain⟨⟨⟨hr,hf⟩,hkn⟩,hB'⟩:=hB;have hr':k∈Region.ready md ops listed:=by simpa using hr
  obtain⟨v,hy,hK⟩:∃v,YMT P ops M w0 o v a/\wpMA P ops M w0 R Q g lst r (a.put o.dst v) wc:=z48;exact I7 h0 (aav hsel) hw hkn (fun listed' a' wc' hL j hj=>by
   obtain⟨⟨rfl,h2⟩,_⟩:=hL
   have:=vg.1 h2 j hj
   simpa using this) r.len listed a wc inv (abi h0 hf) hr' hy
   (Ey hsel hw r _ _ _ (inv.set hr' hkn) hB' hK)
 | .eff k r,listed,a,wc,inv,hB,h=>by
  obtain⟨o,h0,hd,h⟩:=h;simp only[Region.mixA,Region.effB,tr,uk]at hB;obtain⟨⟨hr,hkn,hgd⟩,hB'⟩:=hB;have hr':k∈Region.ready md ops listed:=by rw[hr];simp
  have hgd':o.guard=none:=by rw[h0]at hgd;simpa using hgd
  refine⟨by rw[hr];simp,fun j hj=>?_⟩;rw[hr]at hj;have hjk:j=k:=by simpa using hj
  subst hjk;exact⟨hkn,Gq h0 hgd' hd (fun a' w' h'=>Ey hsel hw r _ _ _ (inv.set hr' hkn) hB' h') h⟩
 | .two k1 r1 k2 r2,listed,a,wc,inv,hB,h=>by
  obtain⟨⟨o1,h3,hd1,h1⟩,⟨o2,h4,hd2,h2⟩⟩:=h;simp only[Region.mixA,Region.effB,tr,uk]at hB;obtain⟨⟨⟨⟨⟨hr,hkn1,hgd1⟩,hkn2,hgd2⟩,hlen⟩,hB1⟩,hB2⟩:=hB;have hr1:k1∈Region.ready md ops listed:=by rw[hr];simp
  have hr2:k2∈Region.ready md ops listed:=by rw[hr];simp
  have hgd3:o1.guard=none:=by rw[h3]at hgd1;simpa using hgd1
  have hgd4:o2.guard=none:=by rw[h4]at hgd2;simpa using hgd2
  refine⟨by rw[hr];simp,fun j hj=>?_⟩;rw[hr]at hj;have hjk:j=k1\/j=k2:=by simpa using hj
  rcases hjk with rfl|rfl
  ·exact⟨hkn1,Gq h3 hgd3 hd1 (fun a' w' h'=>Ey hsel hw r1 _ _ _ (inv.set hr1 hkn1) hB1 h') h1⟩
  ·exact⟨hkn2,Gq h4 hgd4 hd2 (fun a' w' h'=>by
    have:=Ey hsel hw r2 _ _ _ (inv.set hr2 hkn2) hB2 h';rw[<- hlen]at this;exact this) h2⟩
def Region.waitB (md:Region.Mode) (ops:Array Oper) (n:Nat):Bool:=(List.range ops.size).all fun t=>decide (t<n)||(List.range n).all fun i=>match ops[t]? with
 | some o=>o.after.any fun e=>Region.binds md e&&decide (e.on=i)
 | none=>true
theorem Zy {n:Nat} (h:Region.waitB md ops n=true):TailWaits md ops n:=by
 intro listed _ i hi hun t ht hr;obtain⟨_,o,ho,hall⟩:=mem_ready.1 hr;have hts:=(uh.1 ho).1;have h1:=vg.1 h t (ach.2 hts);simp only[vy,uk]at h1;rcases h1 with h1|h1
 ·omega
 ·have h2:=vg.1 h1 i (ach.2 hi);simp only[ho,Array.any_eq_true,tr,uk]at h2;obtain⟨j,hj,hb,he⟩:=h2;have h3:=hall o.after[j] (Array.getElem_mem hj) hb;rw[he,getD_both hun]at h3
  cases h3
def Region.headB (md:Region.Mode) (ops:Array Oper) (n:Nat) (lst:Array Bool) (r:Plan):Bool:=
 Region.noSelect ops&&decide (n<=ops.size)&&decide (r.len=n)&&Region.waitB md ops n&&Region.mixA md ops n lst r (Array.replicate ops.size false)
theorem Jo (M:Nat->Prop) (R:PanicR) (hR:OfPanic R Q) {id:Nat} {a:Act} {w:World} {l:List Oper} (n:Nat) (lst:Array Bool) (r:Plan) (hm:P.follows .mixedOrders=true) (hB:Region.headB .any l.toArray n lst r=true) (h:wpMA P l.toArray M w R Q (l.toArray.size - n) lst r a w):(Code.region id l.toArray true).wp P Q a w:=by
 simp only[Region.headB,tr,uk]at hB;obtain⟨⟨⟨⟨hsel,hn⟩,hrl⟩,hwt⟩,hmix⟩:=hB;have hw:TailWaits .any l.toArray n:=Zy hwt;have inv:HeadInv .any l.toArray n (Array.replicate l.toArray.size false):=
  ⟨by simp,fun j oj _ hl=>(by rw[yy]at hl;cases hl),fun t _ ht=>getD_in (by simpa using ht) (yy _ _)⟩
 have H:=Ey (md:=.any) (g:=l.toArray.size - n) hsel hw r _ a w inv hmix h;refine wp_region_any hm ?_;have hd:Below w.heap.size w {w with drawn:=w.drawn+1}:=⟨rfl,rfl,rfl,tu _,fun _ _=>rfl⟩;have hdT:Turn M w {w with drawn:=w.drawn+1}:=Turn.of_below hd;have:=E7 (R:=R) (Q:=Q) hR (g:=l.toArray.size - n) (fun listed a' wc w' h1 h2 hL=>by
  obtain⟨⟨rfl,_⟩,h3⟩:=hL;exact h3 w' h1 h2) _ _ _ _ _ hd hdT H
 exact rg
theorem Zx {l:List Oper} {g:Nat} {lst:Array Bool} {k:Nat} {r:Plan} {a:Act} {wc:World} {o:Oper} (ho:l[k]?=some o)
 (h:∀K:Act->Prop,(∀a',wpMA P l.toArray M w0 R Q g lst r a' wc->K a')->if Region.wanted o (yielded l.toArray a.tmps)then o.mildT P a M w0 K else K (a.put o.dst undef)):wpMA P l.toArray M w0 R Q g lst (.mild k r) a wc:=
 ⟨o,by simpa using ho,h _ (fun _ h=>h)⟩
theorem G3 {l:List Oper} {g:Nat} {lst:Array Bool} {k:Nat} {r:Plan} {a:Act} {wc:World} {o:Oper} (ho:l[k]?=some o) (hd:a.defers=[])
 (h:∀w,Below wc.heap.size wc w->Turn M w0 w->wpList P l.toArray (Exit.then (fun a' w'=>Turn M w0 w'/\wpMA P l.toArray M w0 R Q g lst r a' w') (calmR R Q)) [o] a w):wpMA P l.toArray M w0 R Q g lst (.eff k r) a wc:=
 ⟨o,by simpa using ho,hd,h⟩
theorem gk {l:List Oper} {g:Nat} {lst:Array Bool} {k1 k2:Nat} {r1 r2:Plan} {a:Act} {wc:World}
 (h1:wpMA P l.toArray M w0 R Q g lst (.eff k1 r1) a wc) (h2:wpMA P l.toArray M w0 R Q g lst (.eff k2 r2) a wc):wpMA P l.toArray M w0 R Q g lst (.two k1 r1 k2 r2) a wc:=⟨h1,h2⟩
theorem gm {g:Nat} {lst:Array Bool} {a:Act} {wc:World} (h:∀w,Below wc.heap.size wc w->Turn M w0 w->wpAny P .any ops Q g lst a w):wpMA P ops M w0 R Q g lst .stop a wc:=h
theorem B3 {f:Nat} {listed:Array Bool} {a:Act} {w:World} (rs:List Nat) (hr:Region.ready md ops listed=rs) (h0:rs≠[]) (h:∀i∈rs,wpOp P ops Q i (wpAny P md ops Q f (listed.setIfInBounds i true)) a w):wpAny P md ops Q (f+1) listed a w:=
 ⟨fun h1=>absurd (hr.symm.trans h1) h0,fun i hi=>h i (by rw[<- hr];exact hi)⟩
theorem wpOp_of_list {i:Nat} {o:Oper} {K:Act->World->Prop} {a:Act} {w:World} (ho:ops[i]?=some o) (hg:o.guard=none) (h:wpList P ops (Exit.then K Q) [o] a w):wpOp P ops Q i K a w:=by
 have hwt:∀a:Act,Region.wanted o (yielded ops a.tmps)=true:=fun a=>by simp[Region.wanted,hg]
 unfold wpOp;simp only[ho,hwt a,if_true];simp only[wpList,hwt a,if_true]at h;rcases h with h|h
 ·refine .inl ?_;unfold Oper.wp at *;generalize (execOp a.eval o).run P w=r' at *
  cases r' with
  | ok nx w'=>
   cases nx<;>simp only[Oper.upon]at h ⊢
   case value u=>exact h
   case skip=>exact h
   case defer d=>exact h
   case enter f args=>exact tp h fun e w'' he=>by cases e<;>first|exact he|(obtain⟨a1,w1,h4⟩:=he;exact⟨a1,w1,h4⟩)
   case row row args=>exact Rows.mono h fun u w'' he=>he
  | halt x w'=>cases x<;>simp only[Oper.upon]at h ⊢<;>exact h
 ·obtain⟨h3,a1,w1,h4⟩:=h;exact .inr ⟨h3,a1,w1,h4⟩
end
end Go
