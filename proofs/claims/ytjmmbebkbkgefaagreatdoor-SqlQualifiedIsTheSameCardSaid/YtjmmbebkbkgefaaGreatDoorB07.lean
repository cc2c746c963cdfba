/- Part 7; the last part says what is proved. No condition. -/
import Derived.Deep.Cut
import Derived.Test.YtjmmbebkbkgefaaGreatDoorB06
set_option linter.unusedVariables false
set_option linter.unusedSimpArgs false
namespace Go.Proofs.YtjmmbebkbkgefaaGreatDoor
open Go.RowKit Go.Sort Tryz
theorem Fj {sz:Int} (l:List Tok) (a:Ex) (r:List Tok) (h:anyR sz l=.ok a r):r.length<=l.length:=by
 unfold anyR at h;have:=Ci (by omega) h;omega
theorem M2 {α β:Type} {f:α->β} {x:Res α} {b:β} {r l:List Tok} (hx:∀a q,x=.ok a q->q.length<=l.length) (h:x.map f=.ok b r):r.length<=l.length:=by
 cases x with
 | err p q=>cases h
 | ok a q=>
  simp only[Res.map,Res.ok.injEq]at h;rw[<- h.2];exact hx a q rfl
theorem Ub {sz:Int} (l:List Tok) (a:Srt) (r:List Tok) (h:sortR sz l=.ok a r):r.length<=l.length:=by
 unfold sortR at h
 cases h1:numberR sz l with
 | err p q=>rw[h1]at h;cases h
 | ok n l1=>
  have k1:=Ig h1;rw[h1]at h;simp only[Res.bind]at h
  cases h2:tk [97,115,99] l1 with
  | some q=>
   have k2:=A2 h2;simp only[h2,Res.ok.injEq]at h;rw[<- h.2];omega
  | none=>
   simp only[h2]at h
   cases h3:tk [100,101,115,99] l1 with
   | some q=>
    have k3:=A2 h3;simp only[h3,Res.ok.injEq]at h;rw[<- h.2];omega
   | none=>
    simp only[h3,Res.ok.injEq]at h;rw[<- h.2];omega
theorem L5 {sz:Int} (l:List Tok) (a:Pk) (r:List Tok) (h:itemR sz l=.ok a r):r.length<=l.length:=by
 unfold itemR at h;have key:∀(q:List Tok) (k:Int),q.length<=l.length->(insideR sz (anyR sz) q).map (fun e=>(⟨k,e⟩:Pk))=.ok a r->r.length<=l.length:=fun q k hq h=>
  M2 (l:=l) (fun e s hs=>Nat.le_trans (O2 Fj q e s hs) hq) h
 cases h1:tk [99,111,117,110,116] l with
 | some q=>
  have k1:=A2 h1;simp only[h1]at h;refine M2 (l:=l) (fun u s hs=>?_) h;have:=Bg hs;omega
 | none=>
  simp only[h1]at h
  cases h2:tk [115,117,109] l with
  | some q=>have k2:=A2 h2;simp only[h2]at h;exact key q _ (by omega) h
  | none=>
   simp only[h2]at h
   cases h3:tk [109,105,110] l with
   | some q=>have k3:=A2 h3;simp only[h3]at h;exact key q _ (by omega) h
   | none=>
    simp only[h3]at h
    cases h4:tk [109,97,120] l with
    | some q=>have k4:=A2 h4;simp only[h4]at h;exact key q _ (by omega) h
    | none=>
     simp only[h4]at h;exact M2 (l:=l) (fun e s hs=>Fj l e s hs) h
theorem Vy:En 182:=enters_of func182 (by kernel_rfl) rfl
theorem Vw:En 186:=enters_of func186 (by kernel_rfl) rfl
theorem Ve (pb:Nat) (sz:Int) (l:List Tok) (w:World) (h:Psr w pb sz l):
 Calls prog 181 #[.pointer (some ⟨pb,0,none⟩),.func (.func 182) #[.pointer (some ⟨pb,0,none⟩)] #[]] w (Post pb sz (RLst pkE w.heap.size) (listR (itemR sz) l) w):=
 Ou pb 182 sz (itemR sz) l w h Vy L5 (fun l' w' _ hp=>X4 pb sz l' w' hp)
theorem Ua (pb:Nat) (sz:Int) (l:List Tok) (w:World) (h:Psr w pb sz l):
 Calls prog 185 #[.pointer (some ⟨pb,0,none⟩),.func (.func 186) #[.pointer (some ⟨pb,0,none⟩)] #[]] w (Post pb sz (RLst srtE w.heap.size) (listR (sortR sz) l) w):=
 Oq pb 186 sz (sortR sz) l w h Vw Ub (fun l' w' _ hp=>W4 pb sz l' w' hp)
def Col.cells (c:Col):List Value:=[.string ⟨c.name.toArray⟩,.int .i64 c.kind,.bool c.null]
end Go.Proofs.YtjmmbebkbkgefaaGreatDoor
namespace Go
open Go.Sort Go.RowKit
theorem Ah {P:Program} {ops:Array Oper} {rest:List Oper} {o:Oper} {a:Act} {Q:Exit->Act->World->Prop} {W:World} (hgd:o.guard=none) (s x:Operand) (t:TypeId)
 (ho:o.op=.call {callee:=.builtin .append,args:=#[s,x],argTypes:=#[t,t]})
 (e:TypeId) (z:Value) (size bytes:Nat) (ht:P.underlying t=some (.slice e)) (hinfo:(P.info? e).map (fun i=>(i.zero,i.size,i.bytes))=some (some z,size,bytes)) (hzs:z.cells.size=size) (hsz:0<size)
 (base:Nat) (v:Value) (n:Nat) (xs:List Value) (hs:a.eval s=v) (hown:W.ownsRow base e size v n xs)
 (xv:Value) (m:Nat) (news:List Value) (hx:a.eval x=xv) (hm:0<m) (hsl:SlAt W xv m news) (hl:news.length=m * size) (h1:∀u∈news,u.oneCell'=true)
 (hbytes:(n+m) * bytes<=140737488355328) (h63:n+m<=maxLen) (hbase:base<=W.heap.size)
 (h:∀v' w',w'.ownsRow base e size v' (n+m) (xs++news)->W.grownBy w' v.ownBlock->(v'.ownBlock=v.ownBlock\/∃g,v'.ownBlock=some g/\W.heap.size<=g)->(∃g cap,v'=.slice (some ⟨g,0,none⟩) (n+m) cap)->wpList P ops Q rest (a.put o.dst v') w'):wpList P ops Q (o::rest) a W:=by
 obtain⟨i0,hi0,hz0,hz1,hz2⟩:=info_parts hinfo
 obtain⟨ad,cap,rfl,hcap,hcells⟩:=hsl
 obtain⟨b,o',rfl,hat⟩:=hcells hm
 have hnews:∀j u,news[j]?=some u->W.cell? ((⟨b,o',none⟩:Addr).add j)=some u:=fun j u hu=>by
  have e1:(⟨b,o',none⟩:Addr).add j=⟨b,o'+j,none⟩:=by unfold Addr.add;split<;>simp_all
  rw[e1];exact hat j u hu
 refine wpList_plain hgd fun K hK=>?_
 obtain⟨v',w',hr,h2,h3,h4⟩:=run_append_own (P:=P) W base t o.type e i0 z size bytes ht hi0 hz0 hz1 hz2 hzs hsz v n xs hown ⟨b,o',none⟩ m cap news hl hnews h1 h63 hbytes hbase
 subst hz1 hz2
 have hw:=Hi ht hi0 hz0 hown hl hnews h1 h63 hbytes hr
 unfold Oper.wp execOp
 simp only[ho,resolve,invoke,builtin,Sem.run_bind,Sem.run_pure,Result.andThen_ok,List.map_toArray,List.map_cons,List.map_nil,hs,hx,hr]
 refine hK _ _ (h v' w' h2 h3 (hw.imp id (fun e=>⟨_,e,Nat.le_refl _⟩)) ?_)
 obtain⟨_,⟨rfl,h0⟩|⟨g,cp,cur,rfl,_⟩⟩:=h2
 ·omega
 ·exact⟨g,cp,rfl⟩
end Go
namespace Go.Proofs.YtjmmbebkbkgefaaGreatDoor
open Go.RowKit Go.Sort Tryz
theorem PFr.turnedBy {M:Nat->Prop} {pb:Nat} {sz:Int} {w0 w w':World} {L:List Blk} {l:List Tok} (h:PFr pb sz w0 w L l) (ht:Turn M w w') (hM:∀k,M k->w0.heap.size<=k) (hL:∀x∈L,¬M x.1):PFr pb sz w0 w' L l:=
 ⟨h.lt,h.st.turned ht (fun k hk hm=>by have:=hM k hm;omega) hL,h.own,h.psr.turned ht (fun k hk=>by have h1:=hM k hk;have h2:=h.lt;omega)⟩
structure RFr (pb:Nat) (sz:Int) (w0 w:World) (L:List Blk) (R:List Row) (l:List Tok):Prop where
 fr:PFr pb sz w0 w L l
 rows:OwnRows w0.heap.size w R
 apart:∀x∈L,x.1∉R.flatMap Row.blk
variable {pb:Nat} {sz:Int} {w0 w w':World} {L:List Blk} {R:List Row} {l:List Tok}
theorem RFr.mk0 (h:PFr pb sz w0 w L l):RFr pb sz w0 w L [] l:=⟨h,OwnRows.nil _ _,fun _ _ h=>by cases h⟩
theorem RFr.snoc (h:RFr pb sz w0 w L R l) (e:TypeId) (k:Nat):RFr pb sz w0 w L (R++[⟨e,k,.slice none 0 0,0,[]⟩]) l:=
 ⟨h.fr,h.rows.snoc e k,fun x hx=>by rw[List.flatMap_append];simp only[List.flatMap_cons,List.flatMap_nil,Row.blk,Value.ownBlock,Option.toList_none,List.append_nil];exact h.apart x hx⟩
theorem RFr.facts (h:RFr pb sz w0 w L R l):St.Facts w L:=h.fr.facts
theorem RFr.psr (h:RFr pb sz w0 w L R l):Psr w pb sz l:=h.fr.psr
theorem RFr.kept (h:RFr pb sz w0 w L R l) (hb:Below w.heap.size w w'):RFr pb sz w0 w' L R l:=⟨h.fr.kept hb,h.rows.kept hb,h.apart⟩
theorem RFr.laid {o:Obj} (h:RFr pb sz w0 w L R l):RFr pb sz w0 (w.alloc o) L R l:=h.kept ((Below.refl _ _).alloc (Nat.le_refl _) o)
theorem RFr.alloc {cs:Array Value} {t:TypeId} (h:RFr pb sz w0 w L R l):RFr pb sz w0 (w.alloc (.cells cs t)) ((w.heap.size,cs,t)::L) R l:=
 ⟨h.fr.alloc,h.rows.kept ((Below.refl _ _).alloc (Nat.le_refl _) _),fun x hx hm=>by
  rcases List.mem_cons.1 hx with rfl|hx
  ·have:=(h.rows.mem_blk hm).2;simp at this
  ·exact h.apart x hx hm⟩
theorem RFr.tail {x:Blk} (h:RFr pb sz w0 w (x::L) R l):RFr pb sz w0 w L R l:=⟨h.fr.tail,h.rows,fun y hy=>h.apart y (List.mem_cons_of_mem _ hy)⟩
theorem RFr.set (i:Nat) {b o:Nat} {cs:Array Value} {t:TypeId} {v:Value} (h:RFr pb sz w0 w L R l) (hi:L[i]?=some (b,cs,t)):RFr pb sz w0 (w.setCell ⟨b,o,none⟩ v) (L.set i (b,cs.setIfInBounds o v,t)) R l:=by
 refine⟨h.fr.set i hi,h.rows.turned (M:=(·=b)) ((Turn.refl _ w).setCell (.inl rfl)) (fun g hg e=>?_),fun x hx=>?_⟩
 ·have e':g=b:=e;subst e';exact h.apart (g,cs,t) (List.mem_of_getElem? hi) hg
 ·rcases List.mem_or_eq_of_mem_set hx with hx|rfl
  ·exact h.apart x hx
  ·exact h.apart (b,cs,t) (List.mem_of_getElem? hi)
theorem RFr.went {r:List Tok} (h:RFr pb sz w0 w L R l) (ht:Turn (·=pb) w w') (hp:Psr w' pb sz r):RFr pb sz w0 w' L R r:=
 ⟨h.fr.went ht hp,h.rows.turned ht (fun g hg e=>by have h1:=(h.rows.mem_blk hg).1;have h2:=h.fr.lt;have e':g=pb:=e;omega),h.apart⟩
theorem RFr.grown {i:Nat} {r r':Row} (h:RFr pb sz w0 w L R l) (hi:R[i]?=some r) (hg:w.grownBy w' r.v.ownBlock) (hown:w'.ownsRow w0.heap.size r'.e r'.k r'.v r'.n r'.xs)
 (hb:r'.v.ownBlock=r.v.ownBlock\/∃g,r'.v.ownBlock=some g/\w.heap.size<=g):RFr pb sz w0 w' L (R.set i r') l:=by
 have hm:∀g,r.v.ownBlock=some g->g∈R.flatMap Row.blk:=fun g hg=>List.mem_flatMap.2 ⟨r,List.mem_of_getElem? hi,by unfold Row.blk;simp[hg]⟩
 have hL:∀x∈L,¬(r.v.ownBlock=some x.1):=fun x hx e=>h.apart x hx (hm _ e)
 refine⟨h.fr.turnedBy (Turn.of_grown hg) (fun k hk=>(h.rows.mem_blk (hm k hk)).1) hL,h.rows.grown hi hg hown hb,fun x hx hmem=>?_⟩
 obtain⟨s,hs,hgs⟩:=List.mem_flatMap.1 hmem
 rcases List.mem_or_eq_of_mem_set hs with hs|rfl
 ·exact h.apart x hx (List.mem_flatMap.2 ⟨s,hs,hgs⟩)
 ·unfold Row.blk at hgs;rcases hb with hb|⟨g,hb,hlt⟩
  ·rw[hb]at hgs;exact hL x hx (by simpa using hgs)
  ·rw[hb]at hgs;simp only[Option.toList_some,List.mem_singleton]at hgs;have:=h.fr.facts;have hx2:x.1<w.heap.size:=by
    obtain⟨j,hj⟩:=List.mem_iff_getElem?.1 hx;obtain⟨b,cs,t⟩:=x;exact(Array.getElem?_eq_some_iff.1 (h.fr.blk j hj)).1
   omega
theorem RFr.own {i:Nat} {r:Row} (h:RFr pb sz w0 w L R l) (hi:R[i]?=some r):w.ownsRow w0.heap.size r.e r.k r.v r.n r.xs:=h.rows.own r (List.mem_of_getElem? hi)
theorem RFr.takes (S:RFr pb sz w0 w L R l) (s:Bytes) {nb cap:Nat} {t:TypeId} {K:Ending->World->Prop} (hs:w.heap[nb]?=some (.cells #[.string ⟨s.toArray⟩] t (0,0))) (hc:1<=cap)
 (hyes:∀r w',tk s l=some r->Turn (·=pb) w w'->Hid (RFr pb sz w0 w' L R r)->K (.returned (.bool true)) w') (hno:∀w',tk s l=none->Turn (·=pb) w w'->Hid (RFr pb sz w0 w' L R l)->K (.returned (.bool false)) w'):
 Calls prog 109 #[.pointer (some ⟨pb,0,none⟩),.slice (some ⟨nb,0,none⟩) 1 cap] w K:=
 S.fr.takes s hs hc (fun r w' h1 h2 h3=>hyes r w' h1 h2 (S.went h2 h3.out.psr)) (fun w' h1 h2 h3=>hno w' h1 h2 (S.went h2 h3.out.psr))
theorem RFr.post {α β:Type} {f:FuncId} {args:Array Value} {Rep:World->α->Value->Prop} {Rep2:World->β->Value->Prop} {x:Res α} {y:Res β} {K:Ending->World->Prop} (S:RFr pb sz w0 w L R l) (C:Calls prog f args w (Post pb sz Rep x w))
 (herr:∀p q,x=.err p q->y=.err p q) (hK:∀c w',Post pb sz Rep2 y w0 (.panicked c) w'->K (.panicked c) w')
 (hok:∀a r v w',x=.ok a r->Rep w' a v->Turn (·=pb) w w'->Hid (RFr pb sz w0 w' L R r)->K (.returned v) w'):Calls prog f args w K:=
 S.fr.post C herr hK (fun a r v w' h1 h2 h3 h4=>hok a r v w' h1 h2 h3 (S.went h3 h4.out.psr))
theorem RFr.stop {β:Type} {Rep2:World->β->Value->Prop} {y:Res β} {K:Ending->World->Prop} (S:RFr pb sz w0 w L R l) (q:Int) (hy:y=stopR sz l q) (hK:∀c w',Post pb sz Rep2 y w0 (.panicked c) w'->K (.panicked c) w'):
 Calls prog 54 #[.pointer (some ⟨pb,0,none⟩),.int .i64 q] w K:=S.fr.stop q hy hK
theorem LIn.turned {α:Type} {E:ElRep α} {Q M:Nat->Prop} {w w':World} {l:List α} {acs:List Value} (h:LIn E Q w l acs) (ht:Turn M w w') (hM:∀b,Q b->¬M b):LIn E Q w' l acs:=
 LIn.move (fun b hb hq=>⟨hq,ht.block b hb (hM b hq)⟩) h
theorem RFr.notM {i j:Nat} {r:Row} {b:Nat} {cs:Array Value} {t:TypeId} (h:RFr pb sz w0 w L R l) (hi:R[i]?=some r) (hj:L[j]?=some (b,cs,t)):¬(b=pb\/r.v.ownBlock=some b):=by
 rintro(e|e)
 ·have h1:=h.fr.ge j hj;have h2:=h.fr.lt;omega
 ·exact h.apart (b,cs,t) (List.mem_of_getElem? hj) (List.mem_flatMap.2 ⟨r,List.mem_of_getElem? hi,by unfold Row.blk;simp[e]⟩)
theorem RFr.cellT {i j:Nat} {r:Row} {b:Nat} {cs:Array Value} {t:TypeId} {v:Value} (h:RFr pb sz w0 w L R l) (hi:R[i]?=some r) (hj:L[j]?=some (b,cs,t)) (o:Nat) (hv:cs[o]?=some v)
 (p:TurnW (fun k=>k=pb\/r.v.ownBlock=some k) w):p.w.cell? ⟨b,o,none⟩=some v:=by
 have:=Cn p (h.fr.blk j hj) (h.notM hi hj)
 simp only[World.cell?,this]
 exact hv
theorem RFr.done {α:Type} {Rep:World->α->Value->Prop} {y:Res α} {a:α} {v:Value} (S:RFr pb sz w0 w L R l) (hy:y=.ok a l) (hv:RFr pb sz w0 w L R l->Rep w a v):Post pb sz Rep y w0 (.returned v) w:=S.fr.done hy (hv S)
theorem RFr.size (h:RFr pb sz w0 w L R l):w0.heap.size<=w.heap.size:=h.fr.size
theorem RFr.lt (h:RFr pb sz w0 w L R l):pb<w0.heap.size:=h.fr.lt
theorem RFr.wants {β:Type} {Rep2:World->β->Value->Prop} {y:Res β} {K:Ending->World->Prop} (S:RFr pb sz w0 w L R l) (ws:List Bytes) {nb n cap:Nat} {cs:Array Value} {t:TypeId}
 (hs:w.heap[nb]?=some (.cells cs t (0,0))) (hcs:cs=(strVals ws).toArray) (ht:t≠115) (hn:n=ws.length) (hc:n<=cap) (hl:n<=1000000) (herr:∀p q,wantsR sz ws l=.err p q->y=.err p q) (hK:∀c w',Post pb sz Rep2 y w0 (.panicked c) w'->K (.panicked c) w')
 (hok:∀r w',wantsR sz ws l=.ok () r->Turn (·=pb) w w'->Hid (RFr pb sz w0 w' L R r)->K (.returned (.tuple #[])) w'):Calls prog 111 #[.pointer (some ⟨pb,0,none⟩),.slice (some ⟨nb,0,none⟩) n cap] w K:=
 S.fr.wants ws hs hcs ht hn hc hl herr hK (fun r w' h1 h2 h3=>hok r w' h1 h2 (S.went h2 h3.out.psr))
def Off (B:Nat) (R:List Row) (b:Nat):Prop:=B<=b/\b∉R.flatMap Row.blk
theorem RFr.off {i:Nat} {r r':Row} {b:Nat} (h:RFr pb sz w0 w L R l) (hi:R[i]?=some r) (hb:r'.v.ownBlock=r.v.ownBlock\/∃g,r'.v.ownBlock=some g/\w.heap.size<=g) (hlt:b<w.heap.size) (ho:Off w0.heap.size R b):Off w0.heap.size (R.set i r') b/\¬(r.v.ownBlock=some b):=by
 have hm:∀g,r.v.ownBlock=some g->g∈R.flatMap Row.blk:=fun g hg=>List.mem_flatMap.2 ⟨r,List.mem_of_getElem? hi,by unfold Row.blk;simp[hg]⟩;refine⟨⟨ho.1,fun hmem=>?_⟩,fun e=>ho.2 (hm b e)⟩;obtain⟨s,hs,hgs⟩:=List.mem_flatMap.1 hmem;rcases List.mem_or_eq_of_mem_set hs with hs|rfl
 ·exact ho.2 (List.mem_flatMap.2 ⟨s,hs,hgs⟩)
 ·unfold Row.blk at hgs;rcases hb with hb|⟨g,hb,hg⟩
  ·rw[hb]at hgs;exact ho.2 (hm b (by simpa using hgs))
  ·rw[hb]at hgs;simp only[Option.toList_some,List.mem_singleton]at hgs;omega
end Go.Proofs.YtjmmbebkbkgefaaGreatDoor
namespace Go.Proofs.YtjmmbebkbkgefaaGreatDoor
open Go.RowKit Go.Sort Tryz
def chkCells (c:Chk):List Value:=[.int .i64 c.col,.int .i64 c.op,.int .i64 c.val.k,.int .i64 c.val.n,.string c.val.s]
def colE:ElRep Col where
 k:=3
 In _ _ c cs:=cs=c.cells
 val cs:=.agg cs.toArray
 len h:=by subst h;rfl
 ones h u hu:=by subst h;simp only[Col.cells,List.mem_cons,List.not_mem_nil,or_false]at hu;rcases hu with rfl|rfl|rfl<;>rfl
 move _ h:=h
def chkE:ElRep Chk where
 k:=5
 In _ _ c cs:=cs=chkCells c
 val cs:=.agg cs.toArray
 len h:=by subst h;rfl
 ones h u hu:=by subst h;simp only[chkCells,List.mem_cons,List.not_mem_nil,or_false]at hu;rcases hu with rfl|rfl|rfl|rfl|rfl<;>rfl
 move _ h:=h
theorem Jn {w:World} {b:Nat} {cs:Array Value} {t:TypeId} {fr:Nat×Nat} (h:w.heap[b]?=some (.cells cs t fr)):SlAt w (.slice (some ⟨b,0,none⟩) 1 1) 1 cs.toList:=by
 refine⟨_,1,rfl,Nat.le_refl _,fun _=>⟨b,0,rfl,fun j u hu=>?_⟩⟩;simp only[World.cell?,h,Nat.zero_add];simpa using hu
end Go.Proofs.YtjmmbebkbkgefaaGreatDoor
namespace Go.Proofs.YtjmmbebkbkgefaaGreatDoor
open Go.RowKit Go.Sort Tryz
structure Far where
 P:(Nat->Prop)->World->Prop
 move:∀{Q R:Nat->Prop} {w w':World},(∀b,b<w.heap.size->Q b->R b/\w'.heap[b]?=w.heap[b]?)->P Q w->P R w'
def Far.top:Far:=⟨fun _ _=>True,fun _ h=>h⟩
def Far.and (F G:Far):Far:=⟨fun Q w=>F.P Q w/\G.P Q w,fun hq h=>⟨F.move hq h.1,G.move hq h.2⟩⟩
def farSl {α:Type} (E:ElRep α) (hk:0<E.k) (v:Value) (l:List α):Far:=⟨fun Q w=>RSl E Q w v l,fun hq h=>Ad hk hq h⟩
def farL {α:Type} (E:ElRep α) (l:List α) (acs:List Value):Far:=⟨fun Q w=>LIn E Q w l acs,fun hq h=>LIn.move hq h⟩
def farEx (e:Ex) (cs:List Value):Far:=⟨fun Q w=>ExIn Q w e cs,fun hq h=>Ar hq _ _ h⟩
def OffL (B:Nat) (L:List Blk) (R:List Row) (b:Nat):Prop:=B<=b/\(∀x∈L,x.1≠b)/\b∉R.flatMap Row.blk
structure XFr (pb:Nat) (sz:Int) (w0 w:World) (L:List Blk) (R:List Row) (l:List Tok) (G:Far):Prop where
 fr:RFr pb sz w0 w L R l
 far:G.P (OffL w0.heap.size L R) w
variable {pb:Nat} {sz:Int} {w0 w w':World} {L:List Blk} {R:List Row} {l:List Tok} {G:Far}
theorem XFr.mk0 (h:RFr pb sz w0 w L R l):XFr pb sz w0 w L R l Far.top:=⟨h,trivial⟩
theorem XFr.facts (h:XFr pb sz w0 w L R l G):St.Facts w L:=h.fr.facts
theorem XFr.psr (h:XFr pb sz w0 w L R l G):Psr w pb sz l:=h.fr.psr
theorem XFr.size (h:XFr pb sz w0 w L R l G):w0.heap.size<=w.heap.size:=h.fr.size
theorem XFr.lt (h:XFr pb sz w0 w L R l G):pb<w0.heap.size:=h.fr.lt
theorem XFr.kept (h:XFr pb sz w0 w L R l G) (hb:Below w.heap.size w w'):XFr pb sz w0 w' L R l G:=⟨h.fr.kept hb,G.move (fun b hlt hq=>⟨hq,hb.block b hlt⟩) h.far⟩
theorem XFr.laid {o:Obj} (h:XFr pb sz w0 w L R l G):XFr pb sz w0 (w.alloc o) L R l G:=h.kept ((Below.refl _ _).alloc (Nat.le_refl _) o)
theorem XFr.alloc {cs:Array Value} {t:TypeId} (h:XFr pb sz w0 w L R l G):XFr pb sz w0 (w.alloc (.cells cs t)) ((w.heap.size,cs,t)::L) R l G:=
 ⟨h.fr.alloc,G.move (fun b hlt hq=>⟨⟨hq.1,fun x hx=>by
  rcases List.mem_cons.1 hx with rfl|hx
  ·intro e;have e':w.heap.size=b:=e;omega
  ·exact hq.2.1 x hx,hq.2.2⟩,Below.heap_alloc _ _ _ hlt⟩) h.far⟩
theorem XFr.tail {x:Blk} (h:XFr pb sz w0 w (x::L) R l G):XFr pb sz w0 w L R l G:=⟨h.fr.tail,G.move (fun b _ hq=>⟨⟨hq.1,fun y hy=>hq.2.1 y (List.mem_cons_of_mem _ hy),hq.2.2⟩,rfl⟩) h.far⟩
theorem XFr.set (i:Nat) {b o:Nat} {cs:Array Value} {t:TypeId} {v:Value} (h:XFr pb sz w0 w L R l G) (hi:L[i]?=some (b,cs,t)):XFr pb sz w0 (w.setCell ⟨b,o,none⟩ v) (L.set i (b,cs.setIfInBounds o v,t)) R l G:=by
 refine⟨h.fr.set i hi,G.move (fun c hlt hq=>⟨⟨hq.1,fun x hx=>?_,hq.2.2⟩,?_⟩) h.far⟩
 ·rcases List.mem_or_eq_of_mem_set hx with hx|rfl
  ·exact hq.2.1 x hx
  ·exact hq.2.1 (b,cs,t) (List.mem_of_getElem? hi)
 ·have:=hq.2.1 (b,cs,t) (List.mem_of_getElem? hi);exact Below.heap_setCell _ _ _ _ (fun e=>this e.symm)
theorem XFr.went {r:List Tok} (h:XFr pb sz w0 w L R l G) (ht:Turn (·=pb) w w') (hp:Psr w' pb sz r):XFr pb sz w0 w' L R r G:=
 ⟨h.fr.went ht hp,G.move (fun b hlt hq=>⟨hq,ht.block b hlt (fun e=>by have h1:=hq.1;have h2:=h.lt;have e':b=pb:=e;omega)⟩) h.far⟩
theorem XFr.grown {i:Nat} {r r':Row} (h:XFr pb sz w0 w L R l G) (hi:R[i]?=some r) (hg:w.grownBy w' r.v.ownBlock) (hown:w'.ownsRow w0.heap.size r'.e r'.k r'.v r'.n r'.xs)
 (hb:r'.v.ownBlock=r.v.ownBlock\/∃g,r'.v.ownBlock=some g/\w.heap.size<=g):XFr pb sz w0 w' L (R.set i r') l G:=by
 refine⟨h.fr.grown hi hg hown hb,G.move (fun b hlt hq=>?_) h.far⟩
 have:=h.fr.off hi hb hlt ⟨hq.1,hq.2.2⟩
 exact⟨⟨hq.1,hq.2.1,this.1.2⟩,hg.block b hlt (fun e=>this.2 e.symm)⟩
theorem XFr.own {i:Nat} {r:Row} (h:XFr pb sz w0 w L R l G) (hi:R[i]?=some r):w.ownsRow w0.heap.size r.e r.k r.v r.n r.xs:=h.fr.own hi
theorem XFr.imp {G2:Far} (h:XFr pb sz w0 w L R l G) (k:∀Q w,G.P Q w->G2.P Q w):XFr pb sz w0 w L R l G2:=⟨h.fr,k _ _ h.far⟩
theorem XFr.add {C:Nat} (h:XFr pb sz w0 w L R l G) (G2:Far) (hC:w0.heap.size<=C) (hL:∀x∈L,x.1<C) (hR:∀g∈R.flatMap Row.blk,g<C) (h2:G2.P (C≤·) w):XFr pb sz w0 w L R l (G.and G2):=
 ⟨h.fr,h.far,G2.move (fun b _ hq=>⟨⟨Nat.le_trans hC hq,fun x hx e=>by have h1:=hL x hx;have h2:C<=b:=hq;omega,fun hm=>by have h1:=hR b hm;have h2:C<=b:=hq;omega⟩,rfl⟩) h2⟩
theorem XFr.bounds (h:XFr pb sz w0 w L R l G):(∀x∈L,x.1<w.heap.size)/\∀g∈R.flatMap Row.blk,g<w.heap.size:=by
 refine⟨fun x hx=>?_,fun g hg=>(h.fr.rows.mem_blk hg).2⟩;obtain⟨j,hj⟩:=List.mem_iff_getElem?.1 hx;obtain⟨b,cs,t⟩:=x;exact(Array.getElem?_eq_some_iff.1 (h.fr.fr.blk j hj)).1
theorem XFr.takes (S:XFr pb sz w0 w L R l G) (s:Bytes) {nb cap:Nat} {t:TypeId} {K:Ending->World->Prop} (hs:w.heap[nb]?=some (.cells #[.string ⟨s.toArray⟩] t (0,0))) (hc:1<=cap)
 (hyes:∀r w',tk s l=some r->Turn (·=pb) w w'->Hid (XFr pb sz w0 w' L R r G)->K (.returned (.bool true)) w') (hno:∀w',tk s l=none->Turn (·=pb) w w'->Hid (XFr pb sz w0 w' L R l G)->K (.returned (.bool false)) w'):
 Calls prog 109 #[.pointer (some ⟨pb,0,none⟩),.slice (some ⟨nb,0,none⟩) 1 cap] w K:=
 S.fr.takes s hs hc (fun r w' h1 h2 h3=>hyes r w' h1 h2 (S.went h2 h3.out.psr)) (fun w' h1 h2 h3=>hno w' h1 h2 (S.went h2 h3.out.psr))
theorem XFr.opt (S:XFr pb sz w0 w L R l G) (s:Bytes) {nb cap:Nat} {t:TypeId} {K:Ending->World->Prop} (hs:w.heap[nb]?=some (.cells #[.string ⟨s.toArray⟩] t (0,0))) (hc:1<=cap)
 (hok:∀w',Turn (·=pb) w w'->Hid (XFr pb sz w0 w' L R (optR s l).2 G)->K (.returned (.bool (optR s l).1)) w'):
 Calls prog 109 #[.pointer (some ⟨pb,0,none⟩),.slice (some ⟨nb,0,none⟩) 1 cap] w K:=by
 refine S.takes s hs hc (fun r w' h1 h2 h3=>?_) (fun w' h1 h2 h3=>?_)
 ·have:=hok w' h2;unfold optR at this;rw[h1]at this;exact this h3
 ·have:=hok w' h2;unfold optR at this;rw[h1]at this;exact this h3
theorem XFr.post {α β:Type} {f:FuncId} {args:Array Value} {Rep:World->α->Value->Prop} {Rep2:World->β->Value->Prop} {x:Res α} {y:Res β} {K:Ending->World->Prop} (S:XFr pb sz w0 w L R l G) (C:Calls prog f args w (Post pb sz Rep x w))
 (herr:∀p q,x=.err p q->y=.err p q) (hK:∀c w',Post pb sz Rep2 y w0 (.panicked c) w'->K (.panicked c) w')
 (hok:∀a r v w',x=.ok a r->Rep w' a v->Turn (·=pb) w w'->Hid (XFr pb sz w0 w' L R r G)->K (.returned v) w'):Calls prog f args w K:=
 S.fr.post C herr hK (fun a r v w' h1 h2 h3 h4=>hok a r v w' h1 h2 h3 (S.went h3 h4.out.psr))
theorem XFr.postG {α β:Type} {f:FuncId} {args:Array Value} {Rep:World->α->Value->Prop} {Rep2:World->β->Value->Prop} {x:Res α} {y:Res β} {K:Ending->World->Prop} (S:XFr pb sz w0 w L R l G) (C:Calls prog f args w (Post pb sz Rep x w))
 (herr:∀p q,x=.err p q->y=.err p q) (hK:∀c w',Post pb sz Rep2 y w0 (.panicked c) w'->K (.panicked c) w')
 (hok:∀a r v w',x=.ok a r->Rep w' a v->Turn (·=pb) w w'->Hid (∀G2:Far,G2.P (w.heap.size≤·) w'->XFr pb sz w0 w' L R r (G.and G2))->K (.returned v) w'):Calls prog f args w K:=
 S.post C herr hK (fun a r v w' h1 h2 h3 h4=>hok a r v w' h1 h2 h3 (fun G2 hg=>h4.out.add G2 S.size S.bounds.1 S.bounds.2 hg))
theorem XFr.stop {β:Type} {Rep2:World->β->Value->Prop} {y:Res β} {K:Ending->World->Prop} (S:XFr pb sz w0 w L R l G) (q:Int) (hy:y=stopR sz l q) (hK:∀c w',Post pb sz Rep2 y w0 (.panicked c) w'->K (.panicked c) w'):
 Calls prog 54 #[.pointer (some ⟨pb,0,none⟩),.int .i64 q] w K:=S.fr.stop q hy hK
theorem XFr.wants {β:Type} {Rep2:World->β->Value->Prop} {y:Res β} {K:Ending->World->Prop} (S:XFr pb sz w0 w L R l G) (ws:List Bytes) {nb n cap:Nat} {cs:Array Value} {t:TypeId}
 (hs:w.heap[nb]?=some (.cells cs t (0,0))) (hcs:cs=(strVals ws).toArray) (ht:t≠115) (hn:n=ws.length) (hc:n<=cap) (hl:n<=1000000) (herr:∀p q,wantsR sz ws l=.err p q->y=.err p q) (hK:∀c w',Post pb sz Rep2 y w0 (.panicked c) w'->K (.panicked c) w')
 (hok:∀r w',wantsR sz ws l=.ok () r->Turn (·=pb) w w'->Hid (XFr pb sz w0 w' L R r G)->K (.returned (.tuple #[])) w'):Calls prog 111 #[.pointer (some ⟨pb,0,none⟩),.slice (some ⟨nb,0,none⟩) n cap] w K:=
 S.fr.wants ws hs hcs ht hn hc hl herr hK (fun r w' h1 h2 h3=>hok r w' h1 h2 (S.went h2 h3.out.psr))
theorem XFr.cellT {i j:Nat} {r:Row} {b:Nat} {cs:Array Value} {t:TypeId} {v:Value} (h:XFr pb sz w0 w L R l G) (hi:R[i]?=some r) (hj:L[j]?=some (b,cs,t)) (o:Nat) (hv:cs[o]?=some v)
 (p:TurnW (fun k=>k=pb\/r.v.ownBlock=some k) w):p.w.cell? ⟨b,o,none⟩=some v:=h.fr.cellT hi hj o hv p
theorem XFr.done {α:Type} {Rep:World->α->Value->Prop} {y:Res α} {a:α} {v:Value} (S:XFr pb sz w0 w L R l G) (hy:y=.ok a l) (hv:XFr pb sz w0 w L R l G->Rep w a v):Post pb sz Rep y w0 (.returned v) w:=S.fr.fr.done hy (hv S)
theorem XFr.since (h:XFr pb sz w0 w L R l G):G.P (w0.heap.size≤·) w:=G.move (fun _ _ hq=>⟨hq.1,rfl⟩) h.far
end Go.Proofs.YtjmmbebkbkgefaaGreatDoor
namespace Go.Proofs.YtjmmbebkbkgefaaGreatDoor
open Go.RowKit Go.Sort Tryz
def chooseE (sz:Int) (d:Bool) (items:List Pk) (fr:List Bytes) (on:List Ex) (wh:Ex) (gr:List Ex) (so:List Srt) (l:List Tok):Res Sel:=(limitR sz l).map fun n=>⟨d,items,fr,on,wh,gr,so,n⟩
def chooseD (sz:Int) (d:Bool) (items:List Pk) (fr:List Bytes) (on:List Ex) (wh:Ex) (gr:List Ex) (l:List Tok):Res Sel:=(byR sz [111,114,100,101,114] (sortR sz) l).bind fun so l8=>chooseE sz d items fr on wh gr so l8
def chooseC (sz:Int) (d:Bool) (items:List Pk) (fr:List Bytes) (on:List Ex) (wh:Ex) (l:List Tok):Res Sel:=(byR sz [103,114,111,117,112] (refR sz) l).bind fun gr l7=>chooseD sz d items fr on wh gr l7
def chooseB (sz:Int) (d:Bool) (items:List Pk) (fr:List Bytes) (on:List Ex) (l:List Tok):Res Sel:=(whereR sz l).bind fun wh l6=>chooseC sz d items fr on wh l6
def chooseA (sz:Int) (d:Bool) (items:List Pk) (l:List Tok):Res Sel:=(wantsR sz [[102,114,111,109]] l).bind fun _ l3=>(nameR sz l3).bind fun nm l4=>(joinsR sz l4.length [nm] [] l4).bind fun fo l5=>chooseB sz d items fo.1 fo.2 l5
theorem chooseR_eq (sz:Int) (l:List Tok):chooseR sz l=(itemsR sz (optR [100,105,115,116,105,110,99,116] l).2).bind fun items l2=>chooseA sz (optR [100,105,115,116,105,110,99,116] l).1 items l2:=rfl
theorem Oe (w:Bytes) (l:List Tok):(optR w l).2.length<=l.length:=by
 unfold optR
 cases h:tk w l with
 | none=>exact Nat.le_refl _
 | some r=>have:=A2 h;simp only;omega
theorem Q7 (sz:Int) (l:List Tok):itemsR sz l=if(optR [42] l).1 then .ok [] (optR [42] l).2 else listR (itemR sz) (optR [42] l).2:=by
 unfold itemsR optR
 cases tk [42] l<;>rfl
theorem byR_opt {α:Type} (sz:Int) (w:Bytes) (read:List Tok->Res α) (l:List Tok):byR sz w read l=if(optR w l).1 then(wantsR sz [[98,121]] (optR w l).2).bind (fun _ l1=>listR read l1)else .ok [] (optR w l).2:=by
 unfold byR optR
 cases tk w l<;>rfl
theorem Th {α β:Type} (sz:Int) (read:List Tok->Res α) (l:List Tok) (f:List α->List Tok->Res β):(if true=true then(wantsR sz [[98,121]] l).bind (fun _ l1=>listR read l1)else .ok [] l).bind f=(wantsR sz [[98,121]] l).bind fun _ l1=>(listR read l1).bind f:=by
 rw[if_pos rfl]
 cases wantsR sz [[98,121]] l<;>rfl
theorem Ds (sz:Int) (f:Nat) (fr:List Bytes) (on:List Ex) (l:List Tok):joinsR sz (f+1) fr on l=match tk [106,111,105,110] l with
 | none=>.ok (fr,on) l
 | some r=>(nameR sz r).bind fun nm l1=>(wantsR sz [[111,110]] l1).bind fun _ l2=>(anyR sz l2).bind fun e l3=>joinsR sz f (fr++[nm]) (on++[e]) l3:=rfl
theorem Ik {sz:Int}:∀(f g:Nat) (fr:List Bytes) (on:List Ex) (l:List Tok),l.length<=f->l.length<=g->joinsR sz f fr on l=joinsR sz g fr on l
 | 0,0,_,_,l,_,_=>rfl
 | 0,g+1,_,_,l,h,_=>by
  have hl:l=[]:=List.eq_nil_of_length_eq_zero (by omega);subst hl;rfl
 | f+1,0,_,_,l,_,h=>by
  have hl:l=[]:=List.eq_nil_of_length_eq_zero (by omega);subst hl;rfl
 | f+1,g+1,fr,on,l,hf,hg=>by
  rw[Ds,Ds]
  cases h:tk [106,111,105,110] l with
  | none=>rfl
  | some r=>
   have h1:=A2 h;simp only
   cases h2:nameR sz r with
   | err p q=>rfl
   | ok nm l1=>
    have k1:=C9 h2;simp only[Res.bind]
    cases h3:wantsR sz [[111,110]] l1 with
    | err p q=>rfl
    | ok u l2=>
     have k2:=Bg h3;simp only
     cases h4:anyR sz l2 with
     | err p q=>rfl
     | ok e l3=>
      have k3:=Fj l2 e l3 h4;simp only;exact Ik f g _ _ l3 (by omega) (by omega)
theorem Q6 {β:Type} {sz:Int} {fr:List Bytes} {on:List Ex} {l r:List Tok} (h:tk [106,111,105,110] l=some r) {f:List Bytes×List Ex->List Tok->Res β}:
 (joinsR sz l.length fr on l).bind f=(nameR sz r).bind fun nm l1=>(wantsR sz [[111,110]] l1).bind fun _ l2=>(anyR sz l2).bind fun e l3=>(joinsR sz l3.length (fr++[nm]) (on++[e]) l3).bind f:=by
 have h1:=A2 h
 rw[h1,Ds,h]
 simp only
 cases h2:nameR sz r with
 | err p q=>rfl
 | ok nm l1=>
  have k1:=C9 h2;simp only[Res.bind]
  cases h3:wantsR sz [[111,110]] l1 with
  | err p q=>rfl
  | ok u l2=>
   have k2:=Bg h3;simp only
   cases h4:anyR sz l2 with
   | err p q=>rfl
   | ok e l3=>
    have k3:=Fj l2 e l3 h4;simp only;rw[Ik r.length l3.length _ _ l3 (by omega) (Nat.le_refl _)]
def farSx (v:Value) (l:List Ex):Far:=⟨fun Q w=>ExSl Q w v l,fun hq h=>A8 hq h⟩
theorem Ow {Q:Nat->Prop} {w:World}:∀{l:List Bytes},LIn strE Q w l (strVals l)
 | []=>rfl
 | _::_=>⟨[_],_,rfl,rfl,Ow⟩
def RSel (B:Nat) (w:World) (x:Sel) (v:Value):Prop:=∃ia ic fa fc oa oc wa wc ga gc sa sc,v=.agg #[.bool x.distinct,.slice ia x.items.length ic,.slice fa x.from_.length fc,.slice oa x.on.length oc,
 .int .i64 x.where_.op,.string ⟨x.where_.table.toArray⟩,.string ⟨x.where_.name.toArray⟩,.int .i64 x.where_.val.k,.int .i64 x.where_.val.n,.string x.where_.val.s,.slice wa x.where_.args.length wc,
 .slice ga x.group.length gc,.slice sa x.sort.length sc,.int .i64 x.limit]/\
 RSl pkE (B≤·) w (.slice ia x.items.length ic) x.items/\RSl strE (B≤·) w (.slice fa x.from_.length fc) x.from_/\RSl exE (B≤·) w (.slice oa x.on.length oc) x.on/\ExSl (B≤·) w (.slice wa x.where_.args.length wc) x.where_.args/\
 RSl exE (B≤·) w (.slice ga x.group.length gc) x.group/\RSl srtE (B≤·) w (.slice sa x.sort.length sc) x.sort
theorem Sp {B:Nat} {w:World} {d:Bool} {items:List Pk} {fr:List Bytes} {on:List Ex} {wop:Int} {wt wn:Bytes} {wv:V} {wargs:List Ex} {gr:List Ex} {so:List Srt} {n:Int} {ia fa oa wad ga sa:Option Addr} {ic fc oc wac gc sc:Nat} {acs:List Value}
 (h:((((((Far.top.and (farSl pkE (by decide) (.slice ia items.length ic) items)).and (farL exE on acs)).and (farSx (.slice wad wargs.length wac) wargs)).and (farSl exE (by decide) (.slice ga gr.length gc) gr)).and (farSl srtE (by decide) (.slice sa so.length sc) so))).P (B≤·) w)
 (h1:SlIn (B≤·) w (.slice fa fr.length fc) fr.length (strVals fr)) (h2:SlIn (B≤·) w (.slice oa on.length oc) on.length acs):
 RSel B w ⟨d,items,fr,on,.mk wop wt wn wv wargs,gr,so,n⟩ (.agg #[.bool d,.slice ia items.length ic,.slice fa fr.length fc,.slice oa on.length oc,.int .i64 wop,.string ⟨wt.toArray⟩,.string ⟨wn.toArray⟩,.int .i64 wv.k,.int .i64 wv.n,.string wv.s,.slice wad wargs.length wac,.slice ga gr.length gc,.slice sa so.length sc,.int .i64 n]):=
 ⟨ia,ic,fa,fc,oa,oc,wad,wac,ga,gc,sa,sc,rfl,h.1.1.1.1.2,⟨_,h1,Ow⟩,⟨_,h2,h.1.1.1.2⟩,h.1.1.2,h.1.2,h.2⟩
end Go.Proofs.YtjmmbebkbkgefaaGreatDoor
