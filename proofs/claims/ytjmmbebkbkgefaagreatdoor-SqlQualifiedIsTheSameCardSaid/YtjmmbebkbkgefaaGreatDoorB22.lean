/- Part 22; the last part says what is proved. No condition. -/
import Derived.Test.YtjmmbebkbkgefaaGreatDoorB21
set_option linter.unusedVariables false
set_option linter.unusedSimpArgs false
set_option maxHeartbeats 16000000
set_option maxRecDepth 100000
namespace Go.Proofs.YtjmmbebkbkgefaaGreatDoor
open Go.RowKit Go.Sort Go.Proofs.Tryz
abbrev M0:Nat->Prop:=fun _=>False
abbrev U1:Nat->Prop:=fun _=>True
variable {M U:Nat->Prop} {w0 w w':World} {L:List Blk} {R:List Row} {G G2:Far}
theorem BF.below (h:BF M0 U w0 w L R G):Below w0.heap.size w0 w:=⟨h.st.turn.os,h.st.turn.tape,h.st.turn.output,h.st.turn.size,fun k hk=>h.st.turn.block k hk (fun h=>h)⟩
theorem BF.ge (h:BF M0 U w0 w L R G):∀x∈L,w0.heap.size<=x.1:=fun x hx=>(h.st.own x hx).1.resolve_left fun h=>h
theorem BF.inp (h:BF M0 U1 w0 w L R G) (G2:Far) (h2:G2.P (·<w0.heap.size) w):BF M0 U1 w0 w L R (G.and G2):=
 h.add0 G2 (fun x hx hq=>by have:=h.ge x hx;have hq':x.1<w0.heap.size:=hq;omega) (fun _ _=>trivial) (fun _ h=>h) h2
theorem BF.bres {i bb:Nat} {cs cs':Array Value} {x:Xp} {xcs:List Value} (h:BF M0 U1 w0 w L R G) (hi:L[i]?=some (bb,cs,99)) (hx:XpIn (w.heap.size≤·) w' x xcs) (hb:w'.heap[bb]?=some (.cells cs' 99 (0,0))) (ht:Turn (·=bb) w w'):BF M0 U1 w0 w' (L.set i (bb,cs',99)) R (G.and (farE xpE x xcs)):=by
 have hl:=h.lt;refine(h.turn1 i hi ht hb).add (C:=w.heap.size) _ (fun _ _=>trivial) h.size (fun y hy=>?_) hl.2 hx;rcases List.mem_or_eq_of_mem_set hy with hy|rfl
 ·exact hl.1 y hy
 ·exact hl.1 (bb,cs,99) (List.mem_of_getElem? hi)
theorem BF.setsL {i b:Nat} {t:TypeId}:∀(vs:List Value) (o:Nat) (cs:Array Value) (w:World) (L:List Blk),BF M U w0 w L R G->L[i]?=some (b,cs,t)->BF M U w0 (w.setCells b o vs) (L.set i (b,setArr cs o vs,t)) R G
 | [],o,cs,w,L,h,hi=>by
  have:L.set i (b,cs,t)=L:=by
   apply List.ext_getElem?;intro q;rw[List.getElem?_set];split
   ·rename_i e;subst e;split
    ·exact hi.symm
    ·rename_i hq;simp at hq;simp[List.getElem?_eq_none hq]
   ·rfl
  unfold setArr;rw[this];exact h
 | v::vs,o,cs,w,L,h,hi=>by
  have h1:=BF.set i (o:=o) (v:=v) h hi;have hlt:=(List.getElem?_eq_some_iff.1 hi).1;have h2:=BF.setsL (i:=i) (b:=b) (t:=t) vs (o+1) (cs.setIfInBounds o v) _ _ h1 (by rw[List.getElem?_set];simp[hlt]);rw[List.set_set]at h2;exact h2
theorem BF.cellT {i j:Nat} {r:Row} {b:Nat} {cs:Array Value} {t:TypeId} {v:Value} (h:BF M U w0 w L R G) (hi:R[i]?=some r) (hj:L[j]?=some (b,cs,t)) (o:Nat) (hv:cs[o]?=some v) (p:TurnW (fun k=>r.v.ownBlock=some k) w):p.w.cell? ⟨b,o,none⟩=some v:=by
 have:=Cn p (h.blk j hj) (fun e=>h.apart (b,cs,t) (List.mem_of_getElem? hj) (List.mem_flatMap.2 ⟨r,List.mem_of_getElem? hi,by unfold Row.blk;simp only[Option.mem_toList];exact e⟩));simp only[World.cell?,this];exact hv
theorem BF.inT {i:Nat} {r:Row} {b o:Nat} {v:Value} (h:BF M U w0 w L R G) (hi:R[i]?=some r) (hb:b<w0.heap.size) (hv:w.cell? ⟨b,o,none⟩=some v) (p:TurnW (fun k=>r.v.ownBlock=some k) w):p.w.cell? ⟨b,o,none⟩=some v:=
 Bd p hv (fun e=>by have:=(World.ownsRow.lt (h.own hi) b e).1;omega)
abbrev bdL (n:Nat) (xa:Array Value) (tv:Value) (e:Int):List Blk:=[(n+1+1,#[tv,.int .i64 e],99),(n+1,QV.arr {},59),(n,xa,44)]
abbrev bdQ (n qb:Nat) (xa:Array Value) (tv:Value) (e:Int) (v:QV):List Blk:=(qb,v.arr,59)::bdL n xa tv e
abbrev bT (tv:Value) (sc:List Tbl):Far:=Far.top.and (farSl tblE (by decide) tv sc)
abbrev bQ (tv:Value) (sc:List Tbl) (q:Qy) (v:QV):Far:=(bT tv sc).and (farQ q v.arr.toList)
def BindPost (w:World) (r:Qy×Int) (e:Ending) (w':World):Prop:=
 ∃v:QV,e=.returned (.tuple #[.agg v.arr,.int .i64 r.2])/\QyIn (fun _=>True) w' r.1 v.arr.toList/\Below w.heap.size w w'
theorem Fr (Q:Nat->Prop) (w:World):QyIn Q w Qy.zero (QV.arr {}).toList:=Fs Aj Aj Aj Aj Aj Aj
theorem Lu (Q:Nat->Prop) (w:World) (t:Bytes):QyIn Q w (Qy.scan t) (QV.arr {k:=1,tb:=t}).toList:=Fs Aj Aj Aj Aj Aj Aj
def bdB (db:List Tbl) (b:Qy×Int):Qy×Int:=if(if b.2=0 then(schemaQ db b.1).2 else b.2)=0 then(b.1,0)else(Qy.zero,if b.2=0 then(schemaQ db b.1).2 else b.2)
def bdA (db:List Tbl) (x:Sel):Except Int (List Tbl)->Qy×Int
 | .error e=>(Qy.zero,e)
 | .ok sc=>bdB db (boundY sc x)
theorem Ku (db:List Tbl) (x:Sel):bindY schemaQ db x=bdA db x (scopeY db [] x.from_):=by
 unfold bindY bdA
 cases scopeY db [] x.from_<;>rfl
def scJ (acc:List Tbl):Except Int (List Tbl)->Except Int (List Tbl)
 | .error e=>.error e
 | .ok l=>.ok (acc++l)
theorem Nz {db:List Tbl} {acc:List Tbl} {past:List Bytes} {n:Bytes} {l:List Bytes} (h:db.find? (fun t=>t.name==n)=none):scJ acc (scopeY db past (n::l))=.error 5:=by unfold scopeY;rw[h];rfl
theorem Lq {db:List Tbl} {acc:List Tbl} {past:List Bytes} {n:Bytes} {l:List Bytes} {t:Tbl} (h:db.find? (fun t=>t.name==n)=some t) (h2:n∈past):scJ acc (scopeY db past (n::l))=.error 6:=by unfold scopeY;rw[h];simp only;rw[if_pos h2];rfl
theorem N0 {db:List Tbl} {acc:List Tbl} {past:List Bytes} {n:Bytes} {l:List Bytes} {t:Tbl} (h:db.find? (fun t=>t.name==n)=some t) (h2:¬n∈past):scJ acc (scopeY db past (n::l))=scJ (acc++[t]) (scopeY db (past++[n]) l):=by
 conv=>lhs;unfold scopeY
 rw[h];simp only;rw[if_neg h2]
 cases scopeY db (past++[n]) l with
 | error e=>rfl
 | ok r=>simp[scJ]
theorem M6 {w:World} {g:Nat} {o:Obj} (h:w.heap[g]?=some o) (d:Nat) (os:Array Obj):(grow (redrawn w d) os).heap[g]?=some o:=by
 show(w.heap++os)[g]?=some o;rw[Array.getElem?_append_left (Array.getElem?_eq_some_iff.1 h).1];exact h
section
variable {P:Program} {o:Oper} {a:Act} {Q:Exit->Act->World->Prop}
theorem K7 {w0:World} {next:Act->Prop} (ty:TypeId) (x:Operand) (ho:o.op=.load ty x)
 (g:Nat) (hx:a.eval x=.pointer (some ⟨g,0,none⟩)) (t:TypeId) (cs:Array Value) (fr:Nat×Nat) (d:TypeDesc) (hg:w0.heap[g]?=some (.cells cs t fr))
 (hu:P.underlying ty=some d) (hd:(match d with|.struct _|.array _ _=>true|_=>false)=true) (hi:(P.info? ty).map (·.size)=some cs.size)
 (h:next (a.put o.dst (.agg cs))):o.mild P a w0 next:=by
 refine⟨.agg cs,?_,h⟩
 rintro w ⟨p,rfl⟩
 unfold Oper.mildAt execOp
 simp only[ho,hx,Instr.loadAt,Instr.sureAddr,Sem.run_bind,Sem.run_pure,Result.andThen_ok,run_loadVar_row _ g t ty cs fr d (M6 hg _ _) hu hd hi,Oper.mildUpon,and_self]
theorem Mh {w0 wc:World} {l:List Oper} {tail:List Oper} {k:Nat} {r:Plan} (hk:l[k]?=some o) (hw:Region.wanted o (yielded l.toArray a.tmps)=true) (ty:TypeId) (x:Operand) (ho:o.op=.load ty x)
 (g:Nat) (hx:a.eval x=.pointer (some ⟨g,0,none⟩)) (t:TypeId) (cs:Array Value) (fr:Nat×Nat) (d:TypeDesc) (hg:w0.heap[g]?=some (.cells cs t fr))
 (hu:P.underlying ty=some d) (hd:(match d with|.struct _|.array _ _=>true|_=>false)=true) (hi:(P.info? ty).map (·.size)=some cs.size)
 (h:wpP P l.toArray w0 Q tail r (a.put o.dst (.agg cs)) wc):wpP P l.toArray w0 Q tail (.mild k r) a wc:=
 Cb hk (fun K hK=>by rw[if_pos hw];exact K7 ty x ho g hx t cs fr d hg hu hd hi (hK _ h))
end
theorem Xa (q s:QV) (w:World):(Instr.buildSlice 54 2 #[(0,.agg q.arr),(1,.agg s.arr)]).run prog w=.ok (.slice (some ⟨w.heap.size,0,none⟩) 2 2) (w.alloc (.cells (q.arr++s.arr) 59)):=by kernel_rfl
section
variable {ops:Array Oper} {rest:List Oper} {o:Oper} {a:Act} {Q:Exit->Act->World->Prop} {W:World}
theorem Ht (hg:o.guard=none) (x y:Operand) (ho:o.op=.buildSlice 54 2 #[(0,x),(1,y)]) (q s:QV) (hx:a.eval x=.agg q.arr) (hy:a.eval y=.agg s.arr)
 (h:wpList prog ops Q rest (a.put o.dst (.slice (some ⟨W.heap.size,0,none⟩) 2 2)) (W.alloc (.cells (q.arr++s.arr) 59))):wpList prog ops Q (o::rest) a W:=by
 refine wpList_plain hg fun K hK=>?_
 unfold Oper.wp execOp
 simp only[ho,List.map_toArray,List.map_cons,List.map_nil,hx,hy,Sem.run_bind,Xa,Result.andThen_ok,Sem.run_pure]
 exact hK _ _ h
end
theorem BF.pair {L1 L2:List Blk} {pb:Nat} {q:Qy} {v:QV} {nm:Bytes} (h:BF M0 U1 w0 w (L1++(pb,v.arr++QV.arr {k:=1,tb:=nm},59)::L2) R (G.and (farQ q v.arr.toList))):BF M0 U1 w0 w (L1++L2) R (G.and (farSl qyE (by decide) (.slice (some ⟨pb,0,none⟩) 2 2) [q,Qy.scan nm])):=by
 have hs:(L1++L2).Sublist (L1++(pb,v.arr++QV.arr {k:=1,tb:=nm},59)::L2):=List.Sublist.append (List.Sublist.refl _) (List.sublist_cons_self _ _);have h2:=h.sub hs;have hm:(pb,v.arr++QV.arr {k:=1,tb:=nm},59)∈L1++(pb,v.arr++QV.arr {k:=1,tb:=nm},59)::L2:=by simp
 have hb:=(h.st.own _ hm).2;have ha:=h.st.apart;rw[List.map_append,List.map_cons,List.nodup_append,List.nodup_cons]at ha;have ho:OffB U1 (L1++L2) R pb:=⟨trivial,fun y hy e=>by
  rcases List.mem_append.1 hy with hy|hy
  ·exact ha.2.2 y.1 (List.mem_map.2 ⟨y,hy,rfl⟩) pb (by simp) e
  ·exact ha.2.1.1 (List.mem_map.2 ⟨y,hy,e⟩),h.apart _ hm⟩
 refine⟨h2.st,h2.rows,h2.apart,h2.far.1,v.arr.toList++(QV.arr {k:=1,tb:=nm}).toList,⟨some ⟨pb,0,none⟩,2,rfl,Nat.le_refl _,fun _=>⟨pb,0,rfl,ho,fun j u hj=>?_⟩⟩,v.arr.toList,(QV.arr {k:=1,tb:=nm}).toList,rfl,h2.far.2,(QV.arr {k:=1,tb:=nm}).toList,[],rfl,Lu _ _ _,rfl⟩;have hj':(v.arr++QV.arr {k:=1,tb:=nm})[j]?=some u:=by rw[<- Array.toList_append,Array.getElem?_toList]at hj;exact hj
 simp only[World.cell?,hb,Nat.zero_add,Nat.zero_mul];exact hj'
theorem Lz {Q:Nat->Prop} {w:World} {q:Qy} {nm:Bytes} {pb:Nat} {xop xn:Int} {xv:V} {xargs:List Xp} {xa:Option Addr} {xc:Nat} (h:RSl qyE Q w (.slice (some ⟨pb,0,none⟩) 2 2) [q,Qy.scan nm]) (hx:RSl xpE Q w (.slice xa xargs.length xc) xargs):
 QyIn Q w (.mk 4 [] [q,Qy.scan nm] (.mk xop xn xv xargs) [] [] [] [] 0) (QV.arr {k:=4,s:=(some ⟨pb,0,none⟩,2,2),xo:=xop,xn:=xn,xv:=xv,xa:=(xa,xargs.length,xc)}).toList:=Fs h hx Aj Aj Aj Aj
theorem Om {Q:Nat->Prop} {w:World} {q:Qy} {pb:Nat} {xop xn:Int} {xv:V} {xargs:List Xp} {xa:Option Addr} {xc:Nat} (h:RSl qyE Q w (.slice (some ⟨pb,0,none⟩) 1 1) [q]) (hx:RSl xpE Q w (.slice xa xargs.length xc) xargs):
 QyIn Q w (.mk 2 [] [q] (.mk xop xn xv xargs) [] [] [] [] 0) (QV.arr {k:=2,s:=(some ⟨pb,0,none⟩,1,1),xo:=xop,xn:=xn,xv:=xv,xa:=(xa,xargs.length,xc)}).toList:=Fs h hx Aj Aj Aj Aj
theorem Q4 {Q:Nat->Prop} {w:World} {q:Qy} {pb:Nat} {g:List Int} {ga:Option Addr} {gc:Nat} {ag:List Ag} {aa:Option Addr} {ac:Nat} (h:RSl qyE Q w (.slice (some ⟨pb,0,none⟩) 1 1) [q]) (hg:RSl intE Q w (.slice ga g.length gc) g) (ha:RSl agE Q w (.slice aa ag.length ac) ag):
 QyIn Q w (.mk 5 [] [q] Xp.zero [] g ag [] 0) (QV.arr {k:=5,s:=(some ⟨pb,0,none⟩,1,1),g:=(ga,g.length,gc),a:=(aa,ag.length,ac)}).toList:=Fs h Aj Aj hg ha Aj
theorem D1 (x:Xp):∃a b c d,x=.mk a b c d:=by cases x with|mk a b c d=>exact⟨a,b,c,d,rfl⟩
theorem Zr {Q:Nat->Prop} {B:Nat} {w:World} {v:Value} {g:List Int} (h:w.ownsRow B 3 1 v g.length (intVals g)) (hQ:∀b,B<=b->Q b):RSl intE Q w v g:=Bt ⟨intVals g,h.slIn,B0 g⟩ (by decide) hQ
theorem Mo {Q:Nat->Prop} {w:World} {a:Option Addr} {c:Nat} {l:List Bytes} (h:RSl strE Q w (.slice a l.length c) l) (h0:0<l.length):∃b o,a=some ⟨b,o,none⟩/\Q b/\∀j s,l[j]?=some s->w.cell? ⟨b,o+j,none⟩=some (.string ⟨s.toArray⟩):=by
 obtain⟨acs,⟨a',c',e,hc,h1⟩,h2⟩:=h;simp only[Value.slice.injEq]at e;obtain⟨rfl,_,rfl⟩:=e;have h3:=Jk h2;subst h3;obtain⟨b,o,rfl,hq,hat⟩:=h1 h0;exact⟨b,o,rfl,hq,fun j s hj=>hat j _ (by rw[List.getElem?_map,hj];rfl)⟩
theorem ExIn.back {w w':World} {e:Ex} {cs:List Value} (hb:Below w.heap.size w w') (h:ExIn (·<w.heap.size) w' e cs):ExIn (·<w.heap.size) w e cs:=Ar (fun b _ hq=>⟨hq,(hb.block b hq).symm⟩) _ _ h
theorem Sx {α:Type} {E:ElRep α} {Q:Nat->Prop} {w:World}:∀{l1:List α} {x:α} {l2:List α} {acs:List Value},LIn E Q w (l1++x::l2) acs->∃c1 c2 c3,acs=c1++(c2++c3)/\c1.length=l1.length * E.k/\LIn E Q w l1 c1/\E.In Q w x c2/\LIn E Q w l2 c3
 | [],x,l2,acs,h=>by
  obtain⟨c2,c3,rfl,h1,h2⟩:=h;exact⟨[],c2,c3,rfl,by simp,rfl,h1,h2⟩
 | a::l1,x,l2,acs,h=>by
  obtain⟨d1,d2,rfl,h1,h2⟩:=h;obtain⟨c1,c2,c3,rfl,h3,h4,h5,h6⟩:=Sx h2;exact⟨d1++c1,c2,c3,by simp,by rw[List.length_append,E.len h1,h3,List.length_cons,Nat.add_mul];omega,⟨d1,c1,rfl,h1,h4⟩,h5,h6⟩
theorem aw {B e k:Nat} {w:World} {a:Option Addr} {n cap:Nat} {xs:List Value} (h:w.ownsRow B e k (.slice a n cap) n xs) (hn:0<n):∃ib,a=some ⟨ib,0,none⟩/\∀k u,xs[k]?=some u->w.cell? ⟨ib,k,none⟩=some u/\w.frozen? ⟨ib,k,none⟩=false/\ib<w.heap.size:=by
 obtain⟨hl,⟨hv,h0⟩|⟨g,cap',cur,hv,hb,hblk,h1,h2,h3,h4⟩⟩:=h
 ·omega
 ·injection hv with hv;refine⟨g,hv,fun j u hj=>?_⟩;rw[<- h4,List.getElem?_take]at hj;split at hj
  ·exact Aa hblk (by simpa[Array.getElem?_toList]using hj)
  ·cases hj
def setL:List Value->Nat->List Value->List Value
 | xs,_,[]=>xs
 | xs,o,v::vs=>setL (xs.set o v) (o+1) vs
theorem E7:∀(vs c1 c2 c3:List Value),vs.length=c2.length->setL (c1++(c2++c3)) c1.length vs=c1++(vs++c3)
 | [],c1,c2,c3,h=>by
  have:c2=[]:=List.eq_nil_of_length_eq_zero (by simpa using h.symm);subst this;rfl
 | v::vs,c1,[],c3,h=>by simp at h
 | v::vs,c1,d::c2,c3,h=>by
  have h1:=E7 vs (c1++[v]) c2 c3 (by simpa using h);have e1:(c1++(d::c2++c3)).set c1.length v=c1++[v]++(c2++c3):=by simp
  unfold setL;rw[e1];rw[List.length_append]at h1;exact h1.trans (by simp)
theorem BF.stores {i e k g n cap:Nat}:∀(vs:List Value) (o:Nat) (xs:List Value) (w:World) (R:List Row),BF M U w0 w L R G->R[i]?=some ⟨e,k,.slice (some ⟨g,0,none⟩) n cap,n,xs⟩->BF M U w0 (w.setCells g o vs) L (R.set i ⟨e,k,.slice (some ⟨g,0,none⟩) n cap,n,setL xs o vs⟩) G
 | [],o,xs,w,R,h,hi=>by
  have:R.set i ⟨e,k,.slice (some ⟨g,0,none⟩) n cap,n,xs⟩=R:=by
   apply List.ext_getElem?;intro q;rw[List.getElem?_set];split
   ·rename_i e;subst e;split
    ·exact hi.symm
    ·rename_i hq;simp at hq;simp[List.getElem?_eq_none hq]
   ·rfl
  unfold setL;rw[this];exact h
 | v::vs,o,xs,w,R,h,hi=>by
  have h1:=BF.store h hi o v;have hlt:=(List.getElem?_eq_some_iff.1 hi).1;have h2:=BF.stores (i:=i) (e:=e) (k:=k) (g:=g) (n:=n) (cap:=cap) vs (o+1) (xs.set o v) _ _ h1 (by rw[List.getElem?_set];simp[hlt]);rw[List.set_set]at h2;exact h2
theorem BF.rowT {r1 r2:Row} {g k:Nat} {v:Value} (h:BF M U w0 w L [r1,r2] G) (h1:r1.v.ownBlock=some g) (hv:w.cell? ⟨g,k,none⟩=some v) (p:TurnW (fun k=>r2.v.ownBlock=some k) w):p.w.cell? ⟨g,k,none⟩=some v:=by
 refine Bd p hv (fun e=>?_);have ha:=h.rows.apart;simp only[List.flatMap_cons,List.flatMap_nil,List.append_nil,Row.blk]at ha;rw[h1,show r2.v.ownBlock=some g from e]at ha;simp at ha
theorem D6 {B e k ib:Nat} {w:World} {n cap:Nat} {xs:List Value} (h:w.ownsRow B e k (.slice (some ⟨ib,0,none⟩) n cap) n xs):∀j u,xs[j]?=some u->w.cell? ⟨ib,j,none⟩=some u/\w.frozen? ⟨ib,j,none⟩=false/\ib<w.heap.size:=by
 intro j u hj;obtain⟨hl,⟨hv,h0⟩|⟨g,cap',cur,hv,hb,hblk,h1,h2,h3,h4⟩⟩:=h
 ·cases hv
 ·simp only[Value.slice.injEq,Option.some.injEq,Addr.mk.injEq]at hv;obtain⟨⟨rfl,_,_⟩,_,_⟩:=hv;rw[<- h4,List.getElem?_take]at hj;split at hj
  ·exact Aa hblk (by simpa[Array.getElem?_toList]using hj)
  ·cases hj
theorem A1 {c1 c2 c3:List Value} {m k:Nat} {u:Value} (h1:c1.length=m) (h:c2[k]?=some u):(c1++(c2++c3))[m+k]?=some u:=by
 have hk:=(List.getElem?_eq_some_iff.1 h).1;rw[List.getElem?_append_right (by omega),show m+k - c1.length=k by omega,List.getElem?_append_left hk];exact h
def boundI (sc:List Tbl) (x:Sel) (q:Qy) (g:List Int) (it:List Xp×Int):Qy×Int:=
 if groupedY x then
  let e:=if it.1.length=0 then firstE it.2 1 else it.2
  let a:=aggsY g x.items it.1 [] [] e
  shapeY sc x a.1.2 (.mk 5 [] [q] Xp.zero [] g a.1.1 [] 0) a.2
 else shapeY sc x it.1 q it.2
def boundG (sc:List Tbl) (x:Sel) (q:Qy) (g:List Int×Int):Qy×Int:=boundI sc x q g.1 (itemsY sc x.items [] g.2)
def boundF (sc:List Tbl) (x:Sel) (f:Qy×Int):Qy×Int:=boundG sc x f.1 (groupY sc x.group [] f.2)
def boundR (sc:List Tbl) (x:Sel) (j:Qy×Int):Qy×Int:=boundF sc x (whereY sc x.where_ j.1 j.2)
end Go.Proofs.YtjmmbebkbkgefaaGreatDoor
namespace Go.Proofs.YtjmmbebkbkgefaaGreatDoor
open Go.RowKit Go.Sort Go.Proofs.Tryz
abbrev shL (n:Nat) (bb:Nat) (xa:Array Value) (v:QV) (tv:Value) (e:Int):List Blk:=[(n+1+1,QV.arr {},59),(n+1,xa,44),(n,v.arr,59),(bb,#[tv,.int .i64 e],99)]
def ShapePost (Q:Nat->Prop) (w:World) (bb:Nat) (tv:Value) (r:Qy×Int) (e:Ending) (w':World):Prop:=
 ∃v:QV,e=.returned (.agg v.arr)/\QyIn (fun b=>Q b\/w.heap.size<=b) w' r.1 v.arr.toList/\w'.heap[bb]?=some (.cells #[tv,.int .i64 r.2] 99 (0,0))/\Turn (·=bb) w w'
def odVals (l:List Od):List Value:=l.flatMap fun o=>[.int .i64 o.col,.bool o.down]
theorem J6 {Q:Nat->Prop} {w:World}:∀l:List Od,LIn odE Q w l (odVals l)
 | []=>rfl
 | o::l=>⟨[.int .i64 o.col,.bool o.down],odVals l,rfl,rfl,J6 l⟩
theorem Fa (l:List Od) (o:Od):odVals (l++[o])=odVals l++[.int .i64 o.col,.bool o.down]:=by unfold odVals;simp
abbrev shK (tv:Value) (sc:List Tbl) (ov:Value) (so:List Srt):Far:=(Far.top.and (farSl tblE (by decide) tv sc)).and (farSl srtE (by decide) ov so)
theorem D7 {Q:Nat->Prop} {w:World} {q:Qy} {p:SlP} {k n:Int} {cols:List Xp} {order:List Od} {ca oa:SlP} (h:RSl qyE Q w (sl p) [q]) (hc:RSl xpE Q w (sl ca) cols) (ho:RSl odE Q w (sl oa) order):
 QyIn Q w (.mk k [] [q] Xp.zero cols [] [] order n) (QV.arr {k:=k,s:=p,c:=ca,o:=oa,n:=n}).toList:=Fs h Aj hc Aj Aj ho
theorem Ue (Q:Nat->Prop) (bb:Nat) (hQ:¬Q bb) (ta:Option Addr) (tc:Nat) (sc:List Tbl) (e0:Int) (q:Qy) (qv:QV) (x:Sel) (xa:Array Value) (items:List Xp) (ia:Option Addr) (ic:Nat) (w:World)
 (hb:w.heap[bb]?=some (.cells #[.slice ta sc.length tc,.int .i64 e0] 99 (0,0))) (hsc:RSl tblE Q w (.slice ta sc.length tc) sc) (hq:QyIn Q w q qv.arr.toList) (hi:RSl xpE Q w (.slice ia items.length ic) items) (hx:RSelQ Q w x (.agg xa))
 (hil:items.length<=1000000) (hsl:sc.length<=1000000) (hfl:(flatC sc).length<=1000000) (hol:x.sort.length<=1000000) (hso:∀s∈x.sort,0<=s.place/\s.place<=549755813887):
 Calls prog 47 #[.pointer (some ⟨bb,0,none⟩),.agg qv.arr,.agg xa,.slice ia items.length ic] w (ShapePost Q w bb (.slice ta sc.length tc) (shapeY sc x items q e0)):=by
 obtain⟨ia1,ic1,fa1,fc1,oa1,oc1,wa1,wc1,ga1,gc1,sa,sn,hxe,_,_,_,_,_,hsr⟩:=hx
 injection hxe with hxe
 have h0:xa[0]?=some (.bool x.distinct):=by rw[hxe];rfl
 have h12:xa[12]?=some (.slice sa x.sort.length sn):=by rw[hxe];rfl
 have h13:xa[13]?=some (.int .i64 x.limit):=by rw[hxe];rfl
 have hU:∀b,w.heap.size<=b->(fun b=>Q b\/w.heap.size<=b) b:=fun b h=>.inr h
 have HSO:=Lib.hid hso
 obtain⟨xd,hxd⟩:∃d,x.distinct=d:=⟨_,rfl⟩
 obtain⟨xl,hxl⟩:∃d,x.limit=d:=⟨_,rfl⟩
 obtain⟨so,hxs⟩:∃d,x.sort=d:=⟨_,rfl⟩
 obtain⟨tot,htot⟩:∃t,shapeY sc x items q e0=t:=⟨_,rfl⟩
 have HT0:Hid (tot=shapeR sc xd so xl items q e0):=by show _=_;rw[<- htot,<- hxd,<- hxl,<- hxs];rfl
 rw[htot]
 rw[hxd]at h0
 rw[hxl]at h13
 rw[hxs]at h12 hsr hol HSO
 have H0:BF (·=bb) (fun b=>Q b\/w.heap.size<=b) w w [(bb,#[.slice ta sc.length tc,.int .i64 e0],99)] [] (((shK (.slice ta sc.length tc) sc (.slice sa so.length sn) so).and (farSl xpE (by decide) (.slice ia items.length ic) items)).and (farQ q qv.arr.toList)):=by
  have hmv:∀b,b<w.heap.size->Q b->OffB (fun b=>Q b\/w.heap.size<=b) [(bb,#[.slice ta sc.length tc,.int .i64 e0],99)] [] b/\w.heap[b]?=w.heap[b]?:=fun b _ hq=>⟨⟨.inl hq,fun y hy e=>by
   rw[List.mem_singleton]at hy;subst hy;have e:bb=b:=e;subst e;exact hQ hq,fun h=>by cases h⟩,rfl⟩
  refine⟨StM.one rfl hb,OwnRows.nil _ _,fun _ _ h=>by simp at h,⟨⟨⟨trivial,Ad (by decide) hmv hsc⟩,Ad (by decide) hmv hsr⟩,Ad (by decide) hmv hi⟩,Ax hmv _ _ hq⟩
 clear hb hsc hq hi hsr hso hxe htot hxd hxl hxs
 go_enter func47,ntmps47
 go_upto_region 1 with fail
 refine Af (fun W=>BF (·=bb) (fun b=>Q b\/w.heap.size<=b) w W (shL w.heap.size bb xa qv (.slice ta sc.length tc) e0) [] (((shK (.slice ta sc.length tc) sc (.slice sa so.length sn) so).and (farSl xpE (by decide) (.slice ia items.length ic) items)).and (farQ q qv.arr.toList))) ?_ ?_
 ·have h:=((H0.alloc (cs:=qv.arr) (t:=59)).alloc (cs:=xa) (t:=44)).alloc (cs:=QV.arr {}) (t:=59);simp only[World.size_alloc]at h;exact h
 clear H0
 intro w1 F1'
 have F1:=Lib.hid F1'
 clear F1'
 obtain⟨wd,hwd⟩:∃t,widthY sc items=t:=⟨_,rfl⟩
 have HT1:Hid (tot=shapeR2 wd xd so xl (if 0<items.length then Qy.mk 3 [] [q] Xp.zero items [] [] [] 0 else q) e0):=by show _=_;rw[HT0.out,<- hwd];rfl
 have HWD:=Lib.hid hwd
 clear HT0 hwd
 go_upto_if 17 with fail
 go_cut [9]from 10 (fun v wc=>∃v1:QV,v=.int .i64 wd/\Hid (BF (·=bb) (fun b=>Q b\/w.heap.size<=b) w wc (shL w.heap.size bb xa v1 (.slice ta sc.length tc) e0) [] ((shK (.slice ta sc.length tc) sc (.slice sa so.length sn) so).and (farQ (if 0<items.length then Qy.mk 3 [] [q] Xp.zero items [] [] [] 0 else q) v1.arr.toList))))
 case first=>
  clear HT1;by_cases hp:0<items.length
  ·have hpz:(0:Int)<(items.length:Int):=by omega
   have hw:wd=(items.length:Int):=by rw[<- HWD.out];unfold widthY;rw[if_pos hp]
   subst hw;go_wp2_with(refine wpList_load_row rfl 59 (.tmp 5) rfl w.heap.size rfl 59 qv.arr (0,0) _ (F1.out.blk 2 rfl) underlying59 rfl (Ae _) ?_);refine Calls.mono (Di 3 qv w1) ?_;rintro e w2 ⟨n1,rfl,hge,hbk,hbl⟩;have F2:=Lib.hid (F1.out.kept hbl);have G2:=Lib.hid (BF.over 3 (i:=2) F1.out hU rfl hge hbk hbl);clear hge hbk hbl F1;go_upto_region 4 with(refine wpList_store_row rfl 59 (.tmp 5) (.tmp 19) rfl w.heap.size (QV.arr {k:=3,s:=(some ⟨n1,0,none⟩,1,1)}) rfl rfl 59 qv.arr (F2.out.blk 2 rfl) (Ae _) rfl (Ba _) ?_);refine Af (fun W=>BF (·=bb) (fun b=>Q b\/w.heap.size<=b) w W (shL w.heap.size bb xa {k:=3,s:=(some ⟨n1,0,none⟩,1,1)} (.slice ta sc.length tc) e0) [] (((shK (.slice ta sc.length tc) sc (.slice sa so.length sn) so).and (farSl xpE (by decide) (.slice ia items.length ic) items)).and (farSl qyE (by decide) (.slice (some ⟨n1,0,none⟩) 1 1) [q]))) G2.out ?_;clear F2 G2;intro w3 F3';have F3:=Lib.hid F3';clear F3';obtain⟨c9,f9,l9⟩:=Aa (o:=9) (F3.out.blk 2 rfl) rfl;go_wp2_with fail;go_meet;refine⟨{k:=3,s:=(some ⟨n1,0,none⟩,1,1),c:=(ia,items.length,ic)},rfl,?_⟩;have F4:BF (·=bb) (fun b=>Q b\/w.heap.size<=b) w _ (shL w.heap.size bb xa {k:=3,s:=(some ⟨n1,0,none⟩,1,1),c:=(ia,items.length,ic)} (.slice ta sc.length tc) e0) [] _:=BF.set 2 (o:=9) (v:=.slice ia items.length ic) F3.out rfl;rw[if_pos hp];exact F4.imp fun _ _ k=>⟨k.1.1,D7 (p:=(some ⟨n1,0,none⟩,1,1)) (ca:=(ia,items.length,ic)) (oa:=sl0) k.2 k.1.2 Aj⟩
  ·obtain rfl:items=[]:=List.eq_nil_of_length_eq_zero (by omega);have hw:wd=((flatC sc).length:Int):=by rw[<- HWD.out];rfl
   subst hw;obtain⟨b0,b0f,b0l⟩:=Aa (o:=0) (F1.out.blk 3 rfl) rfl;go_wp2_with fail;clear b0 b0f b0l;go_loopw [9,11,27] (fun wv _ iv wr=>∃j:Nat,wv=.int .i64 ((flatC (sc.take j)).length:Int)/\iv=.int .i64 j/\j<=sc.length/\Hid (BF (·=bb) (fun b=>Q b\/w.heap.size<=b) w wr (shL w.heap.size bb xa qv (.slice ta sc.length tc) e0) [] ((shK (.slice ta sc.length tc) sc (.slice sa so.length sn) so).and (farQ q qv.arr.toList)))) (fun _ _ iv _=>sc.length - (intOf iv).toNat)
   case atStart=>exact⟨0,rfl,rfl,by omega,F1.out.imp fun _ _ k=>⟨k.1.1,k.2⟩⟩
   case round=>
    clear F1;obtain⟨j,rfl,rfl,hj,F2⟩:=hrel;by_cases hlt:j<sc.length
    ·obtain⟨t,hx⟩:∃x,sc[j]?=some x:=⟨sc[j],by simp[hlt]⟩;obtain⟨b,o,cap,cs,hbo,hin,hat⟩:=RSl.at F2.out.far.1.1.2 hx;injection hbo with e1 _ e2;subst e1;subst e2;obtain⟨ca,cc,ja,jc,ka,kc,rfl,_⟩:=hin;have y0:=hat 0 _ rfl;have y1:=hat 1 _ rfl;have y2:=hat 2 _ rfl;have y3:=hat 3 _ rfl;simp only[show tblE.k=4 from rfl,Nat.add_zero]at y0 y1 y2 y3;have hji:(j:Int)<(sc.length:Int):=by omega
     have hfl1:(flatC (sc.take (j+1))).length=(flatC (sc.take j)).length+t.cols.length:=by
      obtain⟨h1,rfl⟩:=List.getElem?_eq_some_iff.1 hx;unfold flatC;rw[List.take_succ_eq_append_getElem h1,List.flatMap_append,List.length_append];congr 1;simp
     have hfl2:(flatC (sc.take (j+1))).length<=(flatC sc).length:=by
      have h1:flatC sc=flatC (sc.take (j+1))++flatC (sc.drop (j+1)):=by unfold flatC;rw[<- List.flatMap_append,List.take_append_drop]
      rw[h1,List.length_append];omega
     clear hat hx;go_wp2_with fail;go_roundw
     case rel=>exact⟨j+1,by rw[hfl1];go_num,by go_num,by omega,F2.out.laid⟩
     case measure=>simp[intOf];omega
    ·obtain rfl:j=sc.length:=by omega
     go_wp2_with fail;go_meet;exact⟨qv,by rw[List.take_length],F2.out⟩
 case rest=>
  obtain⟨v1,rfl,F2⟩:=hcut;clear F1 HWD;generalize (if 0<items.length then Qy.mk 3 [] [q] Xp.zero items [] [] [] 0 else q)=q1 at *;have HT2:Hid (tot=shapeR3 wd so xl (if xd=true then Qy.mk 8 [] [q1] Xp.zero [] [] [] [] 0 else q1) e0):=by show _=_;rw[HT1.out];rfl
  clear HT1;obtain⟨x0,_,lx⟩:=Aa (o:=0) (F2.out.blk 1 rfl) h0;go_upto_if 38 with fail;clear x0 lx;go_cut [9]from 10 (fun v wc=>∃v1:QV,v=.int .i64 wd/\Hid (BF (·=bb) (fun b=>Q b\/w.heap.size<=b) w wc (shL w.heap.size bb xa v1 (.slice ta sc.length tc) e0) [] ((shK (.slice ta sc.length tc) sc (.slice sa so.length sn) so).and (farQ (if xd=true then Qy.mk 8 [] [q1] Xp.zero [] [] [] [] 0 else q1) v1.arr.toList))))
  case first=>
   clear HT2
   cases xd with
   | true=>
    go_upto_region 11 with fail;go_wp2_with(refine wpList_load_row rfl 59 (.tmp 5) rfl w.heap.size rfl 59 (QV.arr v1) (0,0) _ (F2.out.blk 2 rfl) underlying59 rfl (Ae _) ?_);refine Calls.mono (Di 8 v1 _) ?_;rintro e w2 ⟨n1,rfl,hge,hbk,hbl⟩;have H2:=Lib.hid (F2.out.kept hbl);have G2:=Lib.hid (BF.over 8 (i:=2) F2.out hU rfl hge hbk hbl);clear hge hbk hbl;go_upto_region 12 with(refine wpList_store_row rfl 59 (.tmp 5) (.tmp 40) rfl w.heap.size (QV.arr {k:=8,s:=(some ⟨n1,0,none⟩,1,1)}) rfl rfl 59 (QV.arr v1) (H2.out.blk 2 rfl) (Ae _) rfl (Ba _) ?_);go_meet;exact⟨{k:=8,s:=(some ⟨n1,0,none⟩,1,1)},rfl,G2.out.imp fun _ _ k=>⟨k.1,D7 (p:=(some ⟨n1,0,none⟩,1,1)) (ca:=sl0) (oa:=sl0) k.2 Aj Aj⟩⟩
   | false=>
    go_wp2_with fail;go_meet;exact⟨v1,rfl,F2.out⟩
  case rest=>
   clear F2;obtain⟨v2,rfl,F2⟩:=hcut;generalize (if xd=true then Qy.mk 8 [] [q1] Xp.zero [] [] [] [] 0 else q1)=q2 at *;obtain⟨x12,_,lx⟩:=Aa (o:=12) (F2.out.blk 1 rfl) h12;go_upto_if 44 with fail;clear x12 lx;go_cut [9]from 10 (fun v wc=>∃v3:QV,v=.int .i64 wd/\((so=[]/\Hid (BF (·=bb) (fun b=>Q b\/w.heap.size<=b) w wc (shL w.heap.size bb xa v3 (.slice ta sc.length tc) e0) [] ((shK (.slice ta sc.length tc) sc (.slice sa so.length sn) so).and (farQ q2 v3.arr.toList))))\/(so≠[]/\∃n1,v3={k:=6,s:=(some ⟨n1,0,none⟩,1,1)}/\Hid (BF (·=bb) (fun b=>Q b\/w.heap.size<=b) w wc (shL w.heap.size bb xa {k:=6,s:=(some ⟨n1,0,none⟩,1,1)} (.slice ta sc.length tc) e0) [] ((shK (.slice ta sc.length tc) sc (.slice sa so.length sn) so).and (farSl qyE (by decide) (.slice (some ⟨n1,0,none⟩) 1 1) [q2]))))))
   case first=>
    clear HT2;by_cases hp:0<so.length
    ·have hpz:(0:Int)<(so.length:Int):=by omega
     go_upto_region 13 with fail;go_wp2_with(refine wpList_load_row rfl 59 (.tmp 5) rfl w.heap.size rfl 59 (QV.arr v2) (0,0) _ (F2.out.blk 2 rfl) underlying59 rfl (Ae _) ?_);refine Calls.mono (Di 6 v2 _) ?_;rintro e w2 ⟨n1,rfl,hge,hbk,hbl⟩;have H2:=Lib.hid (F2.out.kept hbl);have G2:=Lib.hid (BF.over 6 (i:=2) F2.out hU rfl hge hbk hbl);clear hge hbk hbl;go_upto_region 14 with(refine wpList_store_row rfl 59 (.tmp 5) (.tmp 46) rfl w.heap.size (QV.arr {k:=6,s:=(some ⟨n1,0,none⟩,1,1)}) rfl rfl 59 (QV.arr v2) (H2.out.blk 2 rfl) (Ae _) rfl (Ba _) ?_);go_meet;exact⟨_,rfl,.inr ⟨fun h=>by rw[h]at hp;exact absurd hp (by decide),n1,rfl,G2.out⟩⟩
    ·have hpz:¬(0:Int)<(so.length:Int):=by omega
     go_wp2_with fail;go_meet;exact⟨v2,rfl,.inl ⟨List.eq_nil_of_length_eq_zero (by omega),F2.out⟩⟩
   case rest=>
    clear F2;obtain⟨v3,rfl,⟨hs0,F3⟩|⟨hs0,n0,rfl,F3⟩⟩:=hcut
    ·have HT:Hid (tot=shapeR4 xl ([],e0) q2):=by
      have h:=HT2.out;rw[hs0]at h;exact h
     have hs1:¬(0:Int)<(so.length:Int):=by rw[hs0];decide
     clear HT2 hs0;obtain⟨x12,_,lx⟩:=Aa (o:=12) (F3.out.blk 1 rfl) h12;go_wp2_with fail;clear x12 lx;go_loopw [13,50] (fun _ iv wr=>iv=.int .i64 0/\Hid (BF (·=bb) (fun b=>Q b\/w.heap.size<=b) w wr (shL w.heap.size bb xa v3 (.slice ta sc.length tc) e0) [] ((shK (.slice ta sc.length tc) sc (.slice sa so.length sn) so).and (farQ q2 v3.arr.toList)))) (fun _ _ _=>0)
     case atStart=>exact⟨rfl,F3.out⟩
     case round=>
      clear F3;obtain⟨rfl,F3⟩:=hrel;obtain⟨x13,_,lx⟩:=Aa (o:=13) (F3.out.blk 1 rfl) h13;by_cases hl:0<=xl
      ·obtain rfl:tot=(Qy.mk 7 [] [q2] Xp.zero [] [] [] [] xl,e0):=by rw[HT.out];unfold shapeR4;rw[if_pos hl]
       go_upto_region 22 with fail;clear x13 lx;go_wp2_with(refine wpList_load_row rfl 59 (.tmp 5) rfl w.heap.size rfl 59 (QV.arr v3) (0,0) _ (F3.out.blk 2 rfl) underlying59 rfl (Ae _) ?_);refine Calls.mono (Di 7 v3 _) ?_;rintro e w2 ⟨n1,rfl,hge,hbk,hbl⟩;have H2:=Lib.hid (F3.out.kept hbl);have G2:=Lib.hid (BF.over 7 (i:=2) F3.out hU rfl hge hbk hbl);clear hge hbk hbl F3;go_upto_region 23 with(refine wpList_store_row rfl 59 (.tmp 5) (.tmp 81) rfl w.heap.size (QV.arr {k:=7,s:=(some ⟨n1,0,none⟩,1,1)}) rfl rfl 59 (QV.arr v3) (H2.out.blk 2 rfl) (Ae _) rfl (Ba _) ?_);refine Af (fun W=>BF (·=bb) (fun b=>Q b\/w.heap.size<=b) w W (shL w.heap.size bb xa {k:=7,s:=(some ⟨n1,0,none⟩,1,1)} (.slice ta sc.length tc) e0) [] ((shK (.slice ta sc.length tc) sc (.slice sa so.length sn) so).and (farSl qyE (by decide) (.slice (some ⟨n1,0,none⟩) 1 1) [q2]))) G2.out ?_;clear H2 G2;intro w3 H3';have F8:=Lib.hid H3';clear H3';obtain⟨x13,_,lx⟩:=Aa (o:=13) (F8.out.blk 1 rfl) h13;obtain⟨c13,f13,l13⟩:=Aa (o:=13) (F8.out.blk 2 rfl) rfl;go_upto_region 24 with fail
       refine Af (fun W=>BF (·=bb) (fun b=>Q b\/w.heap.size<=b) w W (shL w.heap.size bb xa {k:=7,s:=(some ⟨n1,0,none⟩,1,1),n:=xl} (.slice ta sc.length tc) e0) [] ((shK (.slice ta sc.length tc) sc (.slice sa so.length sn) so).and (farQ (.mk 7 [] [q2] Xp.zero [] [] [] [] xl) (QV.arr {k:=7,s:=(some ⟨n1,0,none⟩,1,1),n:=xl}).toList))) (BF.imp (BF.set 2 (o:=13) (v:=.int .i64 xl) F8.out rfl) fun _ _ k=>⟨k.1,D7 (p:=(some ⟨n1,0,none⟩,1,1)) (ca:=sl0) (oa:=sl0) k.2 Aj Aj⟩) ?_;clear F8 x13 lx c13 f13 l13;intro w9 F9';have F9:=Lib.hid F9';clear F9';go_wp2_with(first|(refine wpList_load_row rfl 59 (.tmp 5) rfl w.heap.size rfl 59 (QV.arr {k:=7,s:=(some ⟨n1,0,none⟩,1,1),n:=xl}) (0,0) _ (F9.out.blk 2 rfl) underlying59 rfl (Ae _) ?_)|(refine wpList_store_row rfl 59 (.tmp 8) (.tmp 85) rfl (w.heap.size+1+1) (QV.arr {k:=7,s:=(some ⟨n1,0,none⟩,1,1),n:=xl}) rfl rfl 59 (QV.arr {}) (F9.out.blk 0 rfl) (Ae _) rfl (Ba _) ?_));have SE:=BF.row 0 (QV.arr {k:=7,s:=(some ⟨n1,0,none⟩,1,1),n:=xl}) F9.out rfl;simp only[List.set_cons_zero,List.set_cons_succ]at SE;refine bodyPost_ret (v:=.agg (QV.arr {k:=7,s:=(some ⟨n1,0,none⟩,1,1),n:=xl})) (results_cell_row rfl _ _ (w.heap.size+1+1) 59 (QV.arr {k:=7,s:=(some ⟨n1,0,none⟩,1,1),n:=xl}) (0,0) _ rfl (SE.blk 0 rfl) underlying59 rfl (Ae _)) rfl ?_;refine⟨{k:=7,s:=(some ⟨n1,0,none⟩,1,1),n:=xl},rfl,?_,SE.blk 3 rfl,SE.st.turn⟩;exact Ax (fun b _ h=>⟨h.1,rfl⟩) _ _ SE.far.2
      ·obtain rfl:tot=(q2,e0):=by rw[HT.out];unfold shapeR4;rw[if_neg hl]
       go_upto_region 24 with fail;clear x13 lx;go_wp2_with(first|(refine wpList_load_row rfl 59 (.tmp 5) rfl w.heap.size rfl 59 (QV.arr v3) (0,0) _ (F3.out.blk 2 rfl) underlying59 rfl (Ae _) ?_)|(refine wpList_store_row rfl 59 (.tmp 8) (.tmp 85) rfl (w.heap.size+1+1) (QV.arr v3) rfl rfl 59 (QV.arr {}) (F3.out.blk 0 rfl) (Ae _) rfl (Ba _) ?_));have SE:=BF.row 0 (QV.arr v3) F3.out rfl;simp only[List.set_cons_zero,List.set_cons_succ]at SE;refine bodyPost_ret (v:=.agg (QV.arr v3)) (results_cell_row rfl _ _ (w.heap.size+1+1) 59 (QV.arr v3) (0,0) _ rfl (SE.blk 0 rfl) underlying59 rfl (Ae _)) rfl ?_;refine⟨v3,rfl,?_,SE.blk 3 rfl,SE.st.turn⟩;exact Ax (fun b _ h=>⟨h.1,rfl⟩) _ _ SE.far.2
    ·have HT3:Hid (tot=shapeR4 xl (ordersY wd (so.drop 0) [] e0) (.mk 6 [] [q2] Xp.zero [] [] [] (ordersY wd (so.drop 0) [] e0).1 0)):=by
      show _=_;rw[HT2.out];unfold shapeR3;rw[if_pos (List.length_pos_iff.2 hs0)];rfl
     clear HT2 hs0;obtain⟨x12,_,lx⟩:=Aa (o:=12) (F3.out.blk 1 rfl) h12;go_wp2_with fail;clear x12 lx;go_loopw [13,50] (fun _ iv wr=>∃(k:Nat) (acc:List Od) (e1:Int) (oa:Option Addr) (oc:Nat),iv=.int .i64 k/\k<=so.length/\Hid (acc.length=k)/\Hid (tot=shapeR4 xl (ordersY wd (so.drop k) acc e1) (.mk 6 [] [q2] Xp.zero [] [] [] (ordersY wd (so.drop k) acc e1).1 0))/\Hid (BF (·=bb) (fun b=>Q b\/w.heap.size<=b) w wr (shL w.heap.size bb xa {k:=6,s:=(some ⟨n0,0,none⟩,1,1),o:=(oa,acc.length,oc)} (.slice ta sc.length tc) e1) [⟨160,2,.slice oa acc.length oc,acc.length,odVals acc⟩] ((shK (.slice ta sc.length tc) sc (.slice sa so.length sn) so).and (farSl qyE (by decide) (.slice (some ⟨n0,0,none⟩) 1 1) [q2])))) (fun _ iv _=>so.length - (intOf iv).toNat)
     case atStart=>exact⟨0,[],e0,none,0,rfl,by omega,rfl,HT3.out,F3.out.snoc 160 2⟩
     case round=>
      clear HT3 F3;obtain⟨k,acc,e1,oa,oc,rfl,hk,HL,HT,F3⟩:=hrel;have hac:acc.length<=1000000:=by have:=HL.out;omega
      by_cases hlt:k<so.length
      ·obtain⟨s,hx⟩:∃x,so[k]?=some x:=⟨so[k],by simp[hlt]⟩;have hsp:=HSO.out s (List.mem_of_getElem? hx);obtain⟨b,o,cap,cs,hbo,hin,hat⟩:=RSl.at F3.out.far.1.2 hx;injection hbo with z1 _ z2;subst z1;subst z2;have e:cs=[.int .i64 s.place,.bool s.down]:=hin;subst e;have y0:=hat 0 _ rfl;have y1:=hat 1 _ rfl;simp only[show srtE.k=2 from rfl,Nat.add_zero]at y0 y1;have hdr:so.drop k=s::so.drop (k+1):=by
        obtain⟨h1,rfl⟩:=List.getElem?_eq_some_iff.1 hx;exact List.drop_eq_getElem_cons h1
       have hki:(k:Int)<(so.length:Int):=by omega
       have ht0:=HT.out;rw[hdr]at ht0;obtain⟨pl,dn⟩:=s;simp only at y0 y1 hsp ht0;have HT1:=Lib.hid ht0;clear hat hin hx hdr ht0 HT;go_upto_region 17 with fail;clear y0 y1;refine Af (fun W=>BF (·=bb) (fun b=>Q b\/w.heap.size<=b) w W ((wr.heap.size,#[.int .i64 pl,.bool dn],156)::(shL w.heap.size bb xa {k:=6,s:=(some ⟨n0,0,none⟩,1,1),o:=(oa,acc.length,oc)} (.slice ta sc.length tc) e1)) [⟨160,2,.slice oa acc.length oc,acc.length,odVals acc⟩] ((shK (.slice ta sc.length tc) sc (.slice (some ⟨b,o,none⟩) so.length sn) so).and (farSl qyE (by decide) (.slice (some ⟨n0,0,none⟩) 1 1) [q2]))) F3.out.alloc ?_;clear F3;intro w4 F4';have F4:=Lib.hid F4';clear F4';generalize wr.heap.size=eb at *;obtain⟨z0,_,lz⟩:=Aa (o:=0) (F4.out.blk 0 rfl) rfl;have hbad:pl<1\/(¬pl<1/\wd<pl)\/(¬pl<1/\¬wd<pl):=by omega
       rcases hbad with hb1|⟨hb1,hb2⟩|⟨hb1,hb2⟩
       ·go_wp2_with fail;refine Calls.mono (Dk bb _ e1 1 _ (F4.out.blk 4 rfl)) ?_;rintro e w5 ⟨rfl,hb5,ht5⟩;have F5:Hid (BF (·=bb) (fun b=>Q b\/w.heap.size<=b) w w5 ((eb,#[.int .i64 pl,.bool dn],156)::(shL w.heap.size bb xa {k:=6,s:=(some ⟨n0,0,none⟩,1,1),o:=(oa,acc.length,oc)} (.slice ta sc.length tc) (firstE e1 1))) _ _):=BF.turn1 4 F4.out rfl ht5 hb5;have HT2:Hid (tot=shapeR4 xl (ordersY wd (so.drop (k+1)) (acc++[⟨pl - 1,dn⟩]) (firstE e1 1)) (.mk 6 [] [q2] Xp.zero [] [] [] (ordersY wd (so.drop (k+1)) (acc++[⟨pl - 1,dn⟩]) (firstE e1 1)).1 0)):=by have h:=HT1.out;unfold ordersY at h;rw[if_pos (by simp only;omega)]at h;exact h
        clear hb5 ht5 F4 z0 lz HT1;obtain⟨z0,_,lz⟩:=Aa (o:=0) (F5.out.blk 0 rfl) rfl;obtain⟨z1,_,_⟩:=Aa (o:=1) (F5.out.blk 0 rfl) rfl;obtain⟨c12,f12,l12⟩:=Aa (o:=12) (F5.out.blk 3 rfl) rfl;have hpw:IntKind.i64.wrap (pl - 1)=pl - 1:=IntWalk.i64_in _ (by omega);go_wp2_with(at_builtin;go_must (refine BF.append_new rfl (.tmp 66) (.tmp 73) 57 rfl 160 (.agg #[.int .i64 0,.bool false]) 2 16 underlying57 Rb rfl (by decide) 0 (.slice oa acc.length oc) acc.length (odVals acc) F5.out rfl rfl #[.int .i64 (pl - 1),.bool dn] _ rfl rfl rfl (by simp[Value.oneCell']) (by omega) (by unfold maxLen;omega) ?_;intro ga gc w6 F6 T6;obtain⟨d12,k12,j12⟩:=Aa (o:=12) (F6.out.blk 3 rfl) rfl));have F7:=(BF.set 3 (o:=12) (v:=.slice ga (acc.length+1) gc) F6.out rfl).tail;go_roundw
        case rel=>exact⟨k+1,acc++[(⟨pl - 1,dn⟩:Od)],(firstE e1 1),ga,gc,by go_num,by omega,by show _=_;rw[List.length_append,HL.out];rfl,HT2.out,by show BF _ _ _ _ _ _ _;rw[Fa,List.length_append];exact F7⟩
        case measure=>simp[intOf];omega
       ·go_wp2_with fail;refine Calls.mono (Dk bb _ e1 1 _ (F4.out.blk 4 rfl)) ?_;rintro e w5 ⟨rfl,hb5,ht5⟩;have F5:Hid (BF (·=bb) (fun b=>Q b\/w.heap.size<=b) w w5 ((eb,#[.int .i64 pl,.bool dn],156)::(shL w.heap.size bb xa {k:=6,s:=(some ⟨n0,0,none⟩,1,1),o:=(oa,acc.length,oc)} (.slice ta sc.length tc) (firstE e1 1))) _ _):=BF.turn1 4 F4.out rfl ht5 hb5;have HT2:Hid (tot=shapeR4 xl (ordersY wd (so.drop (k+1)) (acc++[⟨pl - 1,dn⟩]) (firstE e1 1)) (.mk 6 [] [q2] Xp.zero [] [] [] (ordersY wd (so.drop (k+1)) (acc++[⟨pl - 1,dn⟩]) (firstE e1 1)).1 0)):=by have h:=HT1.out;unfold ordersY at h;rw[if_pos (by simp only;omega)]at h;exact h
        clear hb5 ht5 F4 z0 lz HT1;obtain⟨z0,_,lz⟩:=Aa (o:=0) (F5.out.blk 0 rfl) rfl;obtain⟨z1,_,_⟩:=Aa (o:=1) (F5.out.blk 0 rfl) rfl;obtain⟨c12,f12,l12⟩:=Aa (o:=12) (F5.out.blk 3 rfl) rfl;have hpw:IntKind.i64.wrap (pl - 1)=pl - 1:=IntWalk.i64_in _ (by omega);go_wp2_with(at_builtin;go_must (refine BF.append_new rfl (.tmp 66) (.tmp 73) 57 rfl 160 (.agg #[.int .i64 0,.bool false]) 2 16 underlying57 Rb rfl (by decide) 0 (.slice oa acc.length oc) acc.length (odVals acc) F5.out rfl rfl #[.int .i64 (pl - 1),.bool dn] _ rfl rfl rfl (by simp[Value.oneCell']) (by omega) (by unfold maxLen;omega) ?_;intro ga gc w6 F6 T6;obtain⟨d12,k12,j12⟩:=Aa (o:=12) (F6.out.blk 3 rfl) rfl));have F7:=(BF.set 3 (o:=12) (v:=.slice ga (acc.length+1) gc) F6.out rfl).tail;go_roundw
        case rel=>exact⟨k+1,acc++[(⟨pl - 1,dn⟩:Od)],(firstE e1 1),ga,gc,by go_num,by omega,by show _=_;rw[List.length_append,HL.out];rfl,HT2.out,by show BF _ _ _ _ _ _ _;rw[Fa,List.length_append];exact F7⟩
        case measure=>simp[intOf];omega
       ·have HT2:Hid (tot=shapeR4 xl (ordersY wd (so.drop (k+1)) (acc++[⟨pl - 1,dn⟩]) e1) (.mk 6 [] [q2] Xp.zero [] [] [] (ordersY wd (so.drop (k+1)) (acc++[⟨pl - 1,dn⟩]) e1).1 0)):=by have h:=HT1.out;unfold ordersY at h;rw[if_neg (by simp only;omega)]at h;exact h
        have F5:=F4;go_upto_region 19 with fail;clear F4 z0 lz HT1;obtain⟨z0,_,lz⟩:=Aa (o:=0) (F5.out.blk 0 rfl) rfl;obtain⟨z1,_,_⟩:=Aa (o:=1) (F5.out.blk 0 rfl) rfl;obtain⟨c12,f12,l12⟩:=Aa (o:=12) (F5.out.blk 3 rfl) rfl;have hpw:IntKind.i64.wrap (pl - 1)=pl - 1:=IntWalk.i64_in _ (by omega);go_wp2_with(at_builtin;go_must (refine BF.append_new rfl (.tmp 66) (.tmp 73) 57 rfl 160 (.agg #[.int .i64 0,.bool false]) 2 16 underlying57 Rb rfl (by decide) 0 (.slice oa acc.length oc) acc.length (odVals acc) F5.out rfl rfl #[.int .i64 (pl - 1),.bool dn] _ rfl rfl rfl (by simp[Value.oneCell']) (by omega) (by unfold maxLen;omega) ?_;intro ga gc w6 F6 T6;obtain⟨d12,k12,j12⟩:=Aa (o:=12) (F6.out.blk 3 rfl) rfl));have F7:=(BF.set 3 (o:=12) (v:=.slice ga (acc.length+1) gc) F6.out rfl).tail;go_roundw
        case rel=>exact⟨k+1,acc++[(⟨pl - 1,dn⟩:Od)],e1,ga,gc,by go_num,by omega,by show _=_;rw[List.length_append,HL.out];rfl,HT2.out,by show BF _ _ _ _ _ _ _;rw[Fa,List.length_append];exact F7⟩
        case measure=>simp[intOf];omega
      ·obtain rfl:k=so.length:=by omega
       have HT1:Hid (tot=shapeR4 xl (acc,e1) (.mk 6 [] [q2] Xp.zero [] [] [] acc 0)):=by
        have h:=HT.out;rw[List.drop_length]at h;exact h
       clear HT;have HT:=HT1;clear HT1;have F5:Hid (BF (·=bb) (fun b=>Q b\/w.heap.size<=b) w wr (shL w.heap.size bb xa {k:=6,s:=(some ⟨n0,0,none⟩,1,1),o:=(oa,acc.length,oc)} (.slice ta sc.length tc) e1) [] ((shK (.slice ta sc.length tc) sc (.slice sa so.length sn) so).and (farQ (.mk 6 [] [q2] Xp.zero [] [] [] acc 0) (QV.arr {k:=6,s:=(some ⟨n0,0,none⟩,1,1),o:=(oa,acc.length,oc)}).toList))):=
        (BF.fin (E:=odE) (by decide) (R:=[]) (F3.out.imp (G2:=((shK (.slice ta sc.length tc) sc (.slice sa so.length sn) so).and (farSl qyE (by decide) (.slice (some ⟨n0,0,none⟩) 1 1) [q2])).and (farL odE acc (odVals acc))) fun _ _ k=>⟨k,J6 _⟩) hU).imp fun _ _ k=>⟨k.1.1,D7 (p:=(some ⟨n0,0,none⟩,1,1)) (ca:=sl0) (oa:=(oa,acc.length,oc)) k.1.2 Aj k.2⟩
       clear F3;obtain⟨x13,_,lx⟩:=Aa (o:=13) (F5.out.blk 1 rfl) h13;by_cases hl:0<=xl
       ·obtain rfl:tot=(Qy.mk 7 [] [(.mk 6 [] [q2] Xp.zero [] [] [] acc 0)] Xp.zero [] [] [] [] xl,e1):=by rw[HT.out];unfold shapeR4;rw[if_pos hl]
        go_upto_region 22 with fail;clear x13 lx;go_wp2_with(refine wpList_load_row rfl 59 (.tmp 5) rfl w.heap.size rfl 59 (QV.arr {k:=6,s:=(some ⟨n0,0,none⟩,1,1),o:=(oa,acc.length,oc)}) (0,0) _ (F5.out.blk 2 rfl) underlying59 rfl (Ae _) ?_);refine Calls.mono (Di 7 {k:=6,s:=(some ⟨n0,0,none⟩,1,1),o:=(oa,acc.length,oc)} _) ?_;rintro e w2 ⟨n1,rfl,hge,hbk,hbl⟩;have H2:=Lib.hid (F5.out.kept hbl);have G2:=Lib.hid (BF.over 7 (i:=2) F5.out hU rfl hge hbk hbl);clear hge hbk hbl F5;go_upto_region 23 with(refine wpList_store_row rfl 59 (.tmp 5) (.tmp 81) rfl w.heap.size (QV.arr {k:=7,s:=(some ⟨n1,0,none⟩,1,1)}) rfl rfl 59 (QV.arr {k:=6,s:=(some ⟨n0,0,none⟩,1,1),o:=(oa,acc.length,oc)}) (H2.out.blk 2 rfl) (Ae _) rfl (Ba _) ?_);refine Af (fun W=>BF (·=bb) (fun b=>Q b\/w.heap.size<=b) w W (shL w.heap.size bb xa {k:=7,s:=(some ⟨n1,0,none⟩,1,1)} (.slice ta sc.length tc) e1) [] ((shK (.slice ta sc.length tc) sc (.slice sa so.length sn) so).and (farSl qyE (by decide) (.slice (some ⟨n1,0,none⟩) 1 1) [(.mk 6 [] [q2] Xp.zero [] [] [] acc 0)]))) G2.out ?_;clear H2 G2;intro w3 H3';have F8:=Lib.hid H3';clear H3';obtain⟨x13,_,lx⟩:=Aa (o:=13) (F8.out.blk 1 rfl) h13;obtain⟨c13,f13,l13⟩:=Aa (o:=13) (F8.out.blk 2 rfl) rfl;go_upto_region 24 with fail
        refine Af (fun W=>BF (·=bb) (fun b=>Q b\/w.heap.size<=b) w W (shL w.heap.size bb xa {k:=7,s:=(some ⟨n1,0,none⟩,1,1),n:=xl} (.slice ta sc.length tc) e1) [] ((shK (.slice ta sc.length tc) sc (.slice sa so.length sn) so).and (farQ (.mk 7 [] [(.mk 6 [] [q2] Xp.zero [] [] [] acc 0)] Xp.zero [] [] [] [] xl) (QV.arr {k:=7,s:=(some ⟨n1,0,none⟩,1,1),n:=xl}).toList))) (BF.imp (BF.set 2 (o:=13) (v:=.int .i64 xl) F8.out rfl) fun _ _ k=>⟨k.1,D7 (p:=(some ⟨n1,0,none⟩,1,1)) (ca:=sl0) (oa:=sl0) k.2 Aj Aj⟩) ?_;clear F8 x13 lx c13 f13 l13;intro w9 F9';have F9:=Lib.hid F9';clear F9';go_wp2_with(first|(refine wpList_load_row rfl 59 (.tmp 5) rfl w.heap.size rfl 59 (QV.arr {k:=7,s:=(some ⟨n1,0,none⟩,1,1),n:=xl}) (0,0) _ (F9.out.blk 2 rfl) underlying59 rfl (Ae _) ?_)|(refine wpList_store_row rfl 59 (.tmp 8) (.tmp 85) rfl (w.heap.size+1+1) (QV.arr {k:=7,s:=(some ⟨n1,0,none⟩,1,1),n:=xl}) rfl rfl 59 (QV.arr {}) (F9.out.blk 0 rfl) (Ae _) rfl (Ba _) ?_));have SE:=BF.row 0 (QV.arr {k:=7,s:=(some ⟨n1,0,none⟩,1,1),n:=xl}) F9.out rfl;simp only[List.set_cons_zero,List.set_cons_succ]at SE;refine bodyPost_ret (v:=.agg (QV.arr {k:=7,s:=(some ⟨n1,0,none⟩,1,1),n:=xl})) (results_cell_row rfl _ _ (w.heap.size+1+1) 59 (QV.arr {k:=7,s:=(some ⟨n1,0,none⟩,1,1),n:=xl}) (0,0) _ rfl (SE.blk 0 rfl) underlying59 rfl (Ae _)) rfl ?_;refine⟨{k:=7,s:=(some ⟨n1,0,none⟩,1,1),n:=xl},rfl,?_,SE.blk 3 rfl,SE.st.turn⟩;exact Ax (fun b _ h=>⟨h.1,rfl⟩) _ _ SE.far.2
       ·obtain rfl:tot=((.mk 6 [] [q2] Xp.zero [] [] [] acc 0),e1):=by rw[HT.out];unfold shapeR4;rw[if_neg hl]
        go_upto_region 24 with fail;clear x13 lx;go_wp2_with(first|(refine wpList_load_row rfl 59 (.tmp 5) rfl w.heap.size rfl 59 (QV.arr {k:=6,s:=(some ⟨n0,0,none⟩,1,1),o:=(oa,acc.length,oc)}) (0,0) _ (F5.out.blk 2 rfl) underlying59 rfl (Ae _) ?_)|(refine wpList_store_row rfl 59 (.tmp 8) (.tmp 85) rfl (w.heap.size+1+1) (QV.arr {k:=6,s:=(some ⟨n0,0,none⟩,1,1),o:=(oa,acc.length,oc)}) rfl rfl 59 (QV.arr {}) (F5.out.blk 0 rfl) (Ae _) rfl (Ba _) ?_));have SE:=BF.row 0 (QV.arr {k:=6,s:=(some ⟨n0,0,none⟩,1,1),o:=(oa,acc.length,oc)}) F5.out rfl;simp only[List.set_cons_zero,List.set_cons_succ]at SE;refine bodyPost_ret (v:=.agg (QV.arr {k:=6,s:=(some ⟨n0,0,none⟩,1,1),o:=(oa,acc.length,oc)})) (results_cell_row rfl _ _ (w.heap.size+1+1) 59 (QV.arr {k:=6,s:=(some ⟨n0,0,none⟩,1,1),o:=(oa,acc.length,oc)}) (0,0) _ rfl (SE.blk 0 rfl) underlying59 rfl (Ae _)) rfl ?_;refine⟨{k:=6,s:=(some ⟨n0,0,none⟩,1,1),o:=(oa,acc.length,oc)},rfl,?_,SE.blk 3 rfl,SE.st.turn⟩;exact Ax (fun b _ h=>⟨h.1,rfl⟩) _ _ SE.far.2
end Go.Proofs.YtjmmbebkbkgefaaGreatDoor
