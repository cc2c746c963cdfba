/- Part 6; the last part says what is proved. No condition. -/
import Derived.Test.YtjmmbebkbkgefaaGreatDoorB05
set_option linter.unusedVariables false
set_option linter.unusedSimpArgs false
set_option maxHeartbeats 4000000
set_option maxRecDepth 100000
namespace Go.Proofs.YtjmmbebkbkgefaaGreatDoor
open Go.RowKit Go.Sort Tryz
theorem I9 (pb:Nat) (sz:Int) (l:List Tok) (w:World) (h:Psr w pb sz l):Calls prog 125 #[.pointer (some ⟨pb,0,none⟩)] w (Post pb sz (RExF w.heap.size) (anyR sz l) w):=by
 have S0:=Lib.hid (PFr.start h);clear h;refine Co (C:=fun y=>Calls prog 125 _ w (Post pb sz (RExF w.heap.size) y w)) _ ?_;intro y HM0;unfold anyR at HM0;go_enter func125,ntmps125;go_wp2_with fail;refine PFr.post (PFr.alloc (S0.out)) (Yd pb sz 0 _ _ (by omega) ((PFr.alloc (S0.out))).psr) (fun p q h=>by rw[HM0.out,h];try rfl) (fun _ _ h=>⟨rfl,h⟩) ?_;intro a1 r1 v1 w1 h1 hv1 ht1 S1;have HM1:=HM0.out;rw[h1]at HM1;try(simp only[Res.bind,Res.map]at HM1)
 replace HM1:=Lib.hid HM1;clear h1 HM0;obtain⟨op,t,n,v,args⟩:=a1;obtain⟨ad,ac,rfl,hargs⟩:=Bw hv1;have HA:=Lib.hid hargs;have HQ:∀c,w.heap.size+1<=c->c≠w.heap.size:=fun c h e=>by omega
 clear hv1 hargs;rw[World.size_alloc]at HA;have F1:=S1.out.facts;simp only[St.Facts,cellFacts,apartFacts,and_true]at F1;go_wp2_with(with_reducible (refine Dj ?_));refine bodyPost_ret (v:=.agg #[.int .i64 op,.string ⟨t.toArray⟩,.string ⟨n.toArray⟩,.int .i64 v.k,.int .i64 v.n,.string v.s,.slice ad args.length ac]) (by simp[results,results125,go_sem,F1]) rfl ?_;exact PFr.done (PFr.set 0 (PFr.set 0 (PFr.set 0 (PFr.set 0 (PFr.set 0 (PFr.set 0 (PFr.set 0 (S1.out) rfl) rfl) rfl) rfl) rfl) rfl) rfl) HM1.out (Br (ExSl.mono (Q:=(w.heap.size+1≤·)) (by(repeat(refine Aq ?_ HQ));exact HA.out) (fun b hb=>Nat.le_of_succ_le hb)))
theorem Tp (pb:Nat) (sz:Int) (l:List Tok) (w:World) (h:Psr w pb sz l):Calls prog 126 #[.pointer (some ⟨pb,0,none⟩)] w (Post pb sz (RExF w.heap.size) (whereR sz l) w):=by
 have S0:=Lib.hid (PFr.start h);clear h;refine Co (C:=fun y=>Calls prog 126 _ w (Post pb sz (RExF w.heap.size) y w)) _ ?_;intro y HM0;unfold whereR at HM0;go_enter func126,ntmps126;go_wp2_with fail;refine PFr.takes (PFr.laid (PFr.alloc (S0.out))) [119,104,101,114,101] (Ao (by simp)) (by decide) ?_ ?_
 ·skip;intro r1 w1 hn ht1 S1;have HM1:=HM0.out;simp only[hn]at HM1;replace HM1:=Lib.hid HM1;clear HM0 hn;have hs1:w.heap.size<w1.heap.size:=S1.out.facts.1;go_wp2_with fail;refine PFr.post S1.out (I9 pb sz _ _ S1.out.psr) (fun p q h=>by rw[HM1.out,h];try rfl) (fun _ _ h=>⟨rfl,h⟩) ?_;intro a2 r2 v2 w2 h2 hv2 ht2 S2;have HM2:=HM1.out;rw[h2]at HM2;try(simp only[Res.bind,Res.map]at HM2)
  replace HM2:=Lib.hid HM2;clear h2 HM1;obtain⟨op,t,n,v,args⟩:=a2;obtain⟨ad,ac,rfl,hargs⟩:=Bw hv2;have HA:=Lib.hid hargs;have HQ:∀c,w1.heap.size<=c->c≠w.heap.size:=fun c h e=>by omega
  clear hv2 hargs;have F2:=S2.out.facts;simp only[St.Facts,cellFacts,apartFacts,and_true]at F2;go_wp2_with(with_reducible (refine Dj ?_));refine bodyPost_ret (v:=.agg #[.int .i64 op,.string ⟨t.toArray⟩,.string ⟨n.toArray⟩,.int .i64 v.k,.int .i64 v.n,.string v.s,.slice ad args.length ac]) (by simp[results,results126,go_sem,F2]) rfl ?_;exact PFr.done (PFr.set 0 (PFr.set 0 (PFr.set 0 (PFr.set 0 (PFr.set 0 (PFr.set 0 (PFr.set 0 (S2.out) rfl) rfl) rfl) rfl) rfl) rfl) rfl) HM2.out (Br (ExSl.mono (Q:=(w1.heap.size≤·)) (by(repeat(refine Aq ?_ HQ));exact HA.out) (fun b hb=>Nat.le_of_lt (Nat.lt_of_lt_of_le hs1 hb))))
 ·skip;intro w1 hn ht1 S1;have HM1:=HM0.out;simp only[hn]at HM1;replace HM1:=Lib.hid HM1;clear HM0 hn;have F1:=S1.out.facts;simp only[St.Facts,cellFacts,apartFacts,and_true]at F1;go_wp2_with(with_reducible (refine Dj ?_));refine bodyPost_ret (v:=.agg #[.int .i64 0,.string ⟨#[]⟩,.string ⟨#[]⟩,.int .i64 0,.int .i64 0,.string ⟨#[]⟩,.slice none 0 0]) (by simp[results,results126,go_sem,F1]) rfl ?_;exact PFr.done (PFr.set 0 (PFr.set 0 (PFr.set 0 (PFr.set 0 (PFr.set 0 (PFr.set 0 (PFr.set 0 (S1.out) rfl) rfl) rfl) rfl) rfl) rfl) rfl) HM1.out (Br (ExSl.nil _ _))
structure ElRep (α:Type) where
 k:Nat
 In:(Nat->Prop)->World->α->List Value->Prop
 val:List Value->Value
 len:∀{Q w a cs},In Q w a cs->cs.length=k
 ones:∀{Q w a cs},In Q w a cs->∀u∈cs,u.oneCell'=true
 move:∀{Q R:Nat->Prop} {w w':World} {a cs},(∀b,b<w.heap.size->Q b->R b/\w'.heap[b]?=w.heap[b]?)->In Q w a cs->In R w' a cs
def LIn {α:Type} (E:ElRep α) (Q:Nat->Prop) (w:World):List α->List Value->Prop
 | [],acs=>acs=[]
 | e::l,acs=>∃c1 c2,acs=c1++c2/\E.In Q w e c1/\LIn E Q w l c2
theorem LIn.len {α:Type} {E:ElRep α} {Q:Nat->Prop} {w:World}:∀{l:List α} {acs:List Value},LIn E Q w l acs->acs.length=l.length * E.k
 | [],acs,h=>by simp only[LIn]at h;subst h;simp
 | e::l,acs,h=>by
  obtain⟨c1,c2,rfl,h1,h2⟩:=h;have:=E.len h1;have:=LIn.len h2;simp only[List.length_append,List.length_cons,Nat.add_mul];omega
theorem LIn.move {α:Type} {E:ElRep α} {Q R:Nat->Prop} {w w':World} (hq:∀b,b<w.heap.size->Q b->R b/\w'.heap[b]?=w.heap[b]?):∀{l:List α} {acs:List Value},LIn E Q w l acs->LIn E R w' l acs
 | [],acs,h=>h
 | e::l,acs,h=>by
  obtain⟨c1,c2,rfl,k1,k2⟩:=h;exact⟨c1,c2,rfl,E.move hq k1,LIn.move hq k2⟩
theorem LIn.append {α:Type} {E:ElRep α} {Q:Nat->Prop} {w:World}:∀{l:List α} {acs:List Value} {m:List α} {bcs:List Value},LIn E Q w l acs->LIn E Q w m bcs->LIn E Q w (l++m) (acs++bcs)
 | [],acs,m,bcs,h,k=>by simp only[LIn]at h;subst h;exact k
 | e::l,acs,m,bcs,h,k=>by
  obtain⟨c1,c2,rfl,h1,h2⟩:=h;exact⟨c1,c2++bcs,by simp,h1,LIn.append h2 k⟩
theorem LIn.one {α:Type} {E:ElRep α} {Q:Nat->Prop} {w:World} {e:α} {cs:List Value} (h:E.In Q w e cs):LIn E Q w [e] cs:=⟨cs,[],by simp,h,rfl⟩
def RSl {α:Type} (E:ElRep α) (Q:Nat->Prop) (w:World) (v:Value) (l:List α):Prop:=∃acs,SlIn Q w v l.length acs/\LIn E Q w l acs
def RLst {α:Type} (E:ElRep α) (B:Nat) (w:World) (l:List α) (v:Value):Prop:=RSl E (B≤·) w v l
def REl {α:Type} (E:ElRep α) (B:Nat) (w:World) (a:α) (v:Value):Prop:=∃cs,v=E.val cs/\E.In (B≤·) w a cs
theorem Ad {α:Type} {E:ElRep α} (hk:0<E.k) {Q R:Nat->Prop} {w w':World} (hq:∀b,b<w.heap.size->Q b->R b/\w'.heap[b]?=w.heap[b]?) {v:Value} {l:List α} (h:RSl E Q w v l):RSl E R w' v l:=by
 obtain⟨acs,⟨ad,cap,e,hc,h1⟩,h2⟩:=h;refine⟨acs,⟨ad,cap,e,hc,fun hn=>?_⟩,LIn.move hq h2⟩;obtain⟨b,o,e2,k1,k2⟩:=h1 hn;have hl:=LIn.len h2;have hlt:=k2.lt (by
  intro e;rw[e]at hl;have:0<l.length * E.k:=Nat.mul_pos hn hk;simp at hl;omega)
 have:=hq b hlt k1;exact⟨b,o,e2,this.1,k2.same this.2⟩
def strE:ElRep Bytes where
 k:=1
 In _ _ s cs:=cs=[.string ⟨s.toArray⟩]
 val cs:=cs.headD undef
 len h:=by subst h;rfl
 ones h u hu:=by subst h;simp only[List.mem_singleton]at hu;subst hu;rfl
 move _ h:=h
def valE:ElRep V where
 k:=3
 In _ _ v cs:=cs=[.int .i64 v.k,.int .i64 v.n,.string v.s]
 val cs:=.agg cs.toArray
 len h:=by subst h;rfl
 ones h u hu:=by subst h;simp only[List.mem_cons,List.not_mem_nil,or_false]at hu;rcases hu with rfl|rfl|rfl<;>rfl
 move _ h:=h
def srtE:ElRep Srt where
 k:=2
 In _ _ s cs:=cs=[.int .i64 s.place,.bool s.down]
 val cs:=.agg cs.toArray
 len h:=by subst h;rfl
 ones h u hu:=by subst h;simp only[List.mem_cons,List.not_mem_nil,or_false]at hu;rcases hu with rfl|rfl<;>rfl
 move _ h:=h
def exE:ElRep Ex where
 k:=7
 In Q w e cs:=ExIn Q w e cs
 val cs:=.agg cs.toArray
 len h:=h.len
 ones h:=h.ones
 move hq h:=Ar hq _ _ h
def pkE:ElRep Pk where
 k:=8
 In Q w p cs:=∃c,cs=.int .i64 p.fn::c/\ExIn Q w p.arg c
 val cs:=.agg cs.toArray
 len h:=by obtain⟨c,rfl,h⟩:=h;simp[h.len]
 ones h u hu:=by
  obtain⟨c,rfl,h⟩:=h;rcases List.mem_cons.1 hu with rfl|hu
  ·rfl
  ·exact h.ones u hu
 move hq h:=by obtain⟨c,rfl,h⟩:=h;exact⟨c,rfl,Ar hq _ _ h⟩
def rowE:ElRep (List V) where
 k:=1
 In Q w r cs:=∃v,cs=[v]/\RSl valE Q w v r
 val cs:=cs.headD undef
 len h:=by obtain⟨v,rfl,_⟩:=h;rfl
 ones h u hu:=by
  obtain⟨v,rfl,acs,⟨ad,cap,rfl,_⟩,_⟩:=h;simp only[List.mem_singleton]at hu;subst hu;rfl
 move hq h:=by obtain⟨v,rfl,h⟩:=h;exact⟨v,rfl,Ad (by decide) hq h⟩
end Go.Proofs.YtjmmbebkbkgefaaGreatDoor
namespace Go
open Go.Sort Go.RowKit
theorem A9 {P:Program} {ops:Array Oper} {rest:List Oper} {o:Oper} {a:Act} {Q:Exit->Act->World->Prop} {W:World} (hgd:o.guard=none) (s x:Operand) (t:TypeId)
 (ho:o.op=.call {callee:=.builtin .append,args:=#[s,x],argTypes:=#[t,t]})
 (e:TypeId) (z:Value) (size bytes:Nat) (ht:P.underlying t=some (.slice e)) (hinfo:(P.info? e).map (fun i=>(i.zero,i.size,i.bytes))=some (some z,size,bytes)) (hzs:z.cells.size=size) (hsz:0<size)
 (base:Nat) (v:Value) (n:Nat) (xs:List Value) (hs:a.eval s=v) (hown:W.ownsRow base e size v n xs)
 (cs:Array Value) (m nb:Nat) (hm:cs.size=m * size) (hx:a.eval x=.slice (some ⟨nb,0,none⟩) m m) (hnb:W.heap.size=nb) (h1:∀u∈cs.toList,u.oneCell'=true)
 (hbytes:(n+m) * bytes<=140737488355328) (h63:n+m<=maxLen) (hbase:base<=W.heap.size)
 (h:∀v' w',w'.ownsRow base e size v' (n+m) (xs++cs.toList)->W.grownBy w' v.ownBlock->(v'.ownBlock=v.ownBlock\/∃g,v'.ownBlock=some g/\W.heap.size<=g)->wpList P ops Q rest (a.put o.dst v') w'):wpList P ops Q (o::rest) a (W.alloc (.cells cs e)):=by
 subst hnb
 obtain⟨i0,hi0,hz0,hz1,hz2⟩:=info_parts hinfo
 have hnews:∀j u,cs.toList[j]?=some u->(W.alloc (.cells cs e)).cell? ((⟨W.heap.size,0,none⟩:Addr).add j)=some u:=by
  intro j u hu;have e1:(⟨W.heap.size,0,none⟩:Addr).add j=⟨W.heap.size,j,none⟩:=by unfold Addr.add;split<;>simp_all
  rw[e1,World.cell?_alloc_at _ _ _ _ rfl];simpa using hu
 have hl:cs.toList.length=m * size:=by simpa using hm
 refine wpList_plain hgd fun K hK=>?_
 obtain⟨v',w',hr,h2,h3,h4⟩:=run_append_own (P:=P) (W.alloc (.cells cs e)) base t o.type e i0 z size bytes ht hi0 hz0 hz1 hz2 hzs hsz v n xs (hown.alloc _) ⟨W.heap.size,0,none⟩ m m cs.toList hl hnews h1 h63 hbytes (by simp;omega)
 subst hz1 hz2
 have hw:=Hi ht hi0 hz0 (hown.alloc _) hl hnews h1 h63 hbytes hr
 unfold Oper.wp execOp
 simp only[ho,resolve,invoke,builtin,Sem.run_bind,Sem.run_pure,Result.andThen_ok,List.map_toArray,List.map_cons,List.map_nil,hs,hx,hr]
 refine hK _ _ (h v' w' h2 ?_ (hw.imp id (fun e=>⟨_,e,by simp⟩)))
 exact⟨h3.os,h3.tape,h3.output,by have:=h3.size;simp at this;omega,fun k hk hne=>by
  rw[h3.block k (by simp;omega) hne,Below.heap_alloc _ _ _ hk]⟩
end Go
namespace Go.Proofs.YtjmmbebkbkgefaaGreatDoor
open Go.RowKit Go.Sort Tryz
def LRow {α:Type} (E:ElRep α) (e B:Nat) (w:World) (l:List α) (v:Value):Prop:=∃acs,w.ownsRow B e E.k v l.length acs/\LIn E (fun b=>B<=b/\v.ownBlock≠some b) w l acs
variable {α:Type} {E:ElRep α} {e B:Nat} {w w':World} {l:List α} {v:Value}
theorem LRow.turned {M:Nat->Prop} (h:LRow E e B w l v) (ht:Turn M w w') (hM:∀b,B<=b->¬M b):LRow E e B w' l v:=by
 obtain⟨acs,h1,h2⟩:=h;refine⟨acs,World.ownsRow.same h1 (fun g hg=>?_),LIn.move (fun b hb hq=>⟨hq,ht.block b hb (hM b hq.1)⟩) h2⟩;have:=World.ownsRow.lt h1 g hg;exact ht.block g this.2 (hM g this.1)
theorem LRow.kept (h:LRow E e B w l v) (hb:Below w.heap.size w w'):LRow E e B w' l v:=h.turned (Turn.of_below hb) (fun _ _ h=>h)
theorem LRow.slice (h:LRow E e B w l v):∃a cap,v=.slice a l.length cap:=by
 obtain⟨acs,h1,h2⟩:=h;obtain⟨a,cap,e,_⟩:=h1.slAt;exact⟨a,cap,e⟩
theorem LRow.done (hk:0<E.k) (h:LRow E e B w l v):RLst E B w l v:=by
 obtain⟨acs,h1,h2⟩:=h;exact⟨acs,h1.slIn,LIn.move (fun b _ hq=>⟨hq.1,rfl⟩) h2⟩
theorem LRow.one {a:α} {cs:List Value} (h:E.In (fun b=>B<=b/\b<w.heap.size) w a cs) (hB:B<=w.heap.size):LRow E e B (w.alloc (.cells cs.toArray e)) [a] (.slice (some ⟨w.heap.size,0,none⟩) 1 1):=by
 have hl:=E.len h;refine⟨cs,⟨by simpa using hl,.inr ⟨w.heap.size,1,cs.toArray,rfl,hB,World.alloc_heap_new _ _,Nat.le_refl _,by unfold maxLen;decide,by simpa using hl,?_⟩⟩,LIn.one (E.move (fun b hb hq=>⟨⟨hq.1,fun e=>?_⟩,Below.heap_alloc _ _ _ hb⟩) h)⟩
 ·rw[<- hl];simp[<- hl]
 ·simp only[Value.ownBlock,Option.some.injEq]at e;omega
theorem Kp {a:α} {cs:List Value} {C:Nat} (h:E.In (C≤·) w a cs) (hB:B<=C):E.In (fun b=>B<=b/\b<w.heap.size) w a cs:=
 E.move (R:=fun b=>B<=b/\b<w.heap.size) (fun b hb hq=>⟨⟨Nat.le_trans hB hq,hb⟩,rfl⟩) h
theorem LRow.add {a:α} {cs acs:List Value} {v':Value} {C:Nat} (hB:B<=C) (hC:∀g,v.ownBlock=some g->g<C) (h1:w.ownsRow B e E.k v l.length acs) (h2:LIn E (fun b=>B<=b/\v.ownBlock≠some b) w l acs) (h3:E.In (C≤·) w a cs)
 (k1:w'.ownsRow B e E.k v' (l.length+1) (acs++cs)) (k2:w.grownBy w' v.ownBlock) (k3:v'.ownBlock=v.ownBlock\/∃g,v'.ownBlock=some g/\w.heap.size<=g):LRow E e B w' (l++[a]) v':=by
 have key:∀b,b<w.heap.size->v.ownBlock≠some b->v'.ownBlock≠some b/\w'.heap[b]?=w.heap[b]?:=fun b hb hne=>by
  refine⟨?_,k2.block b hb (fun e=>hne e.symm |>.elim)⟩;rcases k3 with k3|⟨g,k3,hg⟩
  ·rw[k3];exact hne
  ·rw[k3];intro e;simp only[Option.some.injEq]at e;omega
 refine⟨acs++cs,by simpa using k1,LIn.append (LIn.move (fun b hb hq=>⟨⟨hq.1,(key b hb hq.2).1⟩,(key b hb hq.2).2⟩) h2) (LIn.one (E.move (fun b hb hq=>?_) h3))⟩
 have hq':C<=b:=hq
 have hne:v.ownBlock≠some b:=fun e=>by have:=hC b e;omega
 exact⟨⟨Nat.le_trans hB hq',(key b hb hne).1⟩,(key b hb hne).2⟩
theorem PFr.grown {pb:Nat} {sz:Int} {w0 w w':World} {l:List Tok} {v:Value} (h:PFr pb sz w0 w [] l) (hg:w.grownBy w' v.ownBlock) (hv:∀g,v.ownBlock=some g->w0.heap.size<=g):PFr pb sz w0 w' [] l:=
 ⟨h.lt,h.st.turned (Turn.of_grown hg) (fun k hk hm=>by have:=hv k hm;omega) (fun x hx=>by cases hx),(fun x hx=>by cases hx),h.psr.turned (Turn.of_grown hg) (fun k hk=>by have h1:=hv k hk;have h2:=h.lt;omega)⟩
section
variable {ops:Array Oper} {rest:List Oper} {o:Oper} {ac:Act} {Q:Exit->Act->World->Prop} {W:World}
theorem Gi {T:Nat} {u:Value} {cs:List Value} (hg:o.guard=none) (x:Operand) (ho:o.op=.buildSlice T 1 #[(0,x)]) (hx:ac.eval x=u)
 (hrun:(Instr.buildSlice T 1 #[(0,u)]).run prog W=.ok (.slice (some ⟨W.heap.size,0,none⟩) 1 1) (W.alloc (.cells cs.toArray e)))
 (h:wpList prog ops Q rest (ac.put o.dst (.slice (some ⟨W.heap.size,0,none⟩) 1 1)) (W.alloc (.cells cs.toArray e))):wpList prog ops Q (o::rest) ac W:=by
 refine wpList_plain hg fun K hK=>?_
 unfold Oper.wp execOp
 simp only[ho,List.map_toArray,List.map_cons,List.map_nil,hx,Sem.run_bind,hrun,Result.andThen_ok,Sem.run_pure]
 exact hK _ _ h
end
end Go.Proofs.YtjmmbebkbkgefaaGreatDoor
namespace Go.Proofs.YtjmmbebkbkgefaaGreatDoor
open Go.RowKit Go.Sort Tryz
theorem Hf {P:Program} {c:Code} {Q:Exit->Act->World->Prop} {a:Act} {w:World} (R:World->Prop) (h:R w) (k:∀W,R W->Code.wp P c Q a W):Code.wp P c Q a w:=k w h
theorem Bs {α:Type} (read:List Tok->Res α) (f:Nat) (acc:List α) (l:List Tok):moreR read (f+1) acc l=match tk [44] l with
 | some r=>(read r).bind fun a l1=>moreR read f (acc++[a]) l1
 | none=>.ok acc l:=rfl
theorem Ek {α:Type} {read:List Tok->Res α} (hr:∀l a r,read l=.ok a r->r.length<=l.length):∀(f g:Nat) (acc:List α) (l:List Tok),l.length<=f->l.length<=g->moreR read f acc l=moreR read g acc l
 | 0,0,acc,l,_,_=>rfl
 | 0,g+1,acc,l,h,_=>by
  have hl:l=[]:=List.eq_nil_of_length_eq_zero (by omega);subst hl;rfl
 | f+1,0,acc,l,_,h=>by
  have hl:l=[]:=List.eq_nil_of_length_eq_zero (by omega);subst hl;rfl
 | f+1,g+1,acc,l,hf,hg=>by
  rw[Bs,Bs]
  cases h:tk [44] l with
  | none=>rfl
  | some r=>
   have h1:=A2 h
   cases h2:read r with
   | err p q=>simp only[h2];rfl
   | ok a l1=>
    have h3:=hr r a l1 h2;simp only[h2,Res.bind];exact Ek hr f g _ l1 (by omega) (by omega)
theorem al:(prog.info? 9).map (fun i=>(i.zero,i.size,i.bytes))=some (some (.string ⟨#[]⟩),1,16):=by kernel_rfl
theorem Ti (s:ByteArray) (W:World):(Instr.buildSlice 39 1 #[(0,.string s)]).run prog W=.ok (.slice (some ⟨W.heap.size,0,none⟩) 1 1) (W.alloc (.cells #[.string s] 9)):=by kernel_rfl
theorem Sq {B:Nat} {w:World} {a:Pk} {v:Value} (h:REl pkE B w a v):∃x1 x2 x3 x4 x5 x6 x7 x8,v=.agg #[x1,x2,x3,x4,x5,x6,x7,x8]/\pkE.In (B≤·) w a [x1,x2,x3,x4,x5,x6,x7,x8]:=by
 obtain⟨cs,rfl,h⟩:=h;obtain⟨fn,op,t,n,v,args⟩:=a;obtain⟨c,rfl,a,acs,rfl,h1⟩:=h;exact⟨_,_,_,_,_,_,_,_,rfl,_,rfl,a,acs,rfl,h1⟩
theorem Ta:(prog.info? 70).map (fun i=>(i.zero,i.size,i.bytes))=some (some (.agg #[.int .i64 0,.int .i64 0,.string ⟨#[]⟩,.string ⟨#[]⟩,.int .i64 0,.int .i64 0,.string ⟨#[]⟩,.slice none 0 0]),8,104):=by kernel_rfl
theorem Ou (pb g:Nat) (sz:Int) (read:List Tok->Res Pk) (l:List Tok) (w:World) (h:Psr w pb sz l)
 (hfn:∀args w,(callFunc g args).run prog w=.ok (.enter g args) w) (hr:∀l a r,read l=.ok a r->r.length<=l.length)
 (HR:Hid (∀l' w',Turn (·=pb) w w'->Psr w' pb sz l'->Calls prog g #[.pointer (some ⟨pb,0,none⟩)] w' (Post pb sz (REl pkE w'.heap.size) (read l') w'))):
 Calls prog 181 #[.pointer (some ⟨pb,0,none⟩),.func (.func g) #[.pointer (some ⟨pb,0,none⟩)] #[]] w (Post pb sz (RLst pkE w.heap.size) (listR read l) w):=by
 have S0:=Lib.hid (PFr.start h)
 clear h
 refine Co (C:=fun y=>Calls prog 181 _ w (Post pb sz (RLst pkE w.heap.size) y w)) _ ?_
 intro y HM0
 unfold listR at HM0
 go_enter func181,ntmps181
 go_wp2_with fail
 refine PFr.post S0.out (HR.out l w (Turn.refl _ _) S0.out.psr) (fun p q h=>by rw[HM0.out,h];rfl) (fun _ _ h=>⟨rfl,h⟩) ?_
 intro a1 r1 v1 w1 h1 hv1 ht1 S1
 have HL1:=Lib.hid (hr _ _ _ h1)
 have HM1:Hid (y=moreR read r1.length [a1] r1):=by show _=_;rw[HM0.out,h1];rfl
 obtain⟨x11,x12,x13,x14,x15,x16,x17,x18,rfl,he1⟩:=Sq hv1
 have HE1:=Lib.hid he1
 have hs1:=Lib.hid ht1.size
 clear he1 ht1 HM0 h1
 go_wp2_with fail
 have HLR:=Lib.hid (LRow.one (E:=pkE) (e:=70) (w:=w1) (Kp (B:=w.heap.size) HE1.out (Nat.le_refl _)) hs1.out)
 have SA:=Lib.hid (S1.out.laid (o:=.cells #[x11,x12,x13,x14,x15,x16,x17,x18] 70))
 clear HE1 S1
 refine Hf (fun W=>PFr pb sz w W [] r1/\LRow pkE 70 w.heap.size W [a1] (.slice (some ⟨w1.heap.size,0,none⟩) 1 1)) ⟨SA.out,HLR.out⟩ ?_
 clear SA HLR
 rintro wa ⟨SA',HLR'⟩
 have SA:=Lib.hid SA'
 have HLR:=Lib.hid HLR'
 have HF:=Lib.hid S0.out.psr.few
 clear SA' HLR' hs1 S0
 go_loopw [5] (fun sv wr=>∃(acc:List Pk) (lr:List Tok),Hid (y=moreR read lr.length acc lr)/\Hid (acc.length+lr.length<=l.length+1)/\Hid (PFr pb sz w wr [] lr)/\Hid (LRow pkE 70 w.heap.size wr acc sv)) (fun _ wr=>psLeft pb wr)
 case atStart=>exact⟨[a1],r1,HM1.out,by show _<=_;have:=HL1.out;simp;omega,SA.out,HLR.out⟩
 case round=>
  clear HM1 HL1 SA HLR;obtain⟨acc,lr,HM,HL,S,HA⟩:=hrel;obtain⟨a0,cap0,rfl⟩:=HA.out.slice;have hmeas:=Bu S.out.psr;have HMS:=Lib.hid hmeas;clear hmeas;go_wp2_with fail;refine PFr.takes (PFr.laid (S.out)) [44] (Ao (by simp)) (by decide) ?_ ?_
  ·intro r2 w2 hn ht2 S2;have hlen:=Lib.hid (A2 hn);have HM2:Hid (y=(read r2).bind fun a l1=>moreR read l1.length (acc++[a]) l1):=by
    show _=_;rw[HM.out];obtain⟨f,hf⟩:∃f,lr.length=f+1:=⟨lr.length - 1,by have:=A2 hn;omega⟩;rw[hf,Bs,hn]
    cases hrd:read r2 with
    | err p q=>simp only[hrd];rfl
    | ok a l1=>
     have h1:=hr _ _ _ hrd;have h2:=A2 hn;simp only[hrd,Res.bind];exact Ek hr _ _ _ _ (by omega) (by omega)
   have HA2:=Lib.hid (((HA.out.kept ((Below.refl _ _).alloc (Nat.le_refl _) _))).turned ht2 (fun b hb e=>by have h1:=S2.out.lt;have h2:b=pb:=e;omega));clear HM HA S hn ht2;go_wp2_with fail;refine PFr.post S2.out (HR.out r2 w2 S2.out.turn S2.out.psr) (fun p q h=>by rw[HM2.out,h];rfl) (fun _ _ h=>⟨rfl,h⟩) ?_;intro a3 r3 v3 w3 h3 hv3 ht3 S3;have HL3:=Lib.hid (hr _ _ _ h3);have HM3:Hid (y=moreR read r3.length (acc++[a3]) r3):=by show _=_;rw[HM2.out,h3];rfl
   obtain⟨x31,x32,x33,x34,x35,x36,x37,x38,rfl,he3⟩:=Sq hv3;have HE3:=Lib.hid he3;have HA3:=HA2.out.turned ht3 (fun b hb e=>by have h1:=S2.out.lt;have h2:b=pb:=e;omega);obtain⟨acs,hown,hin⟩:=HA3;have HG:Hid (∀g,(Value.slice a0 acc.length cap0).ownBlock=some g->g<w2.heap.size):=fun g hg=>by
    obtain⟨acs2,h2,_⟩:=HA2.out;exact(World.ownsRow.lt h2 g hg).2
   have HO:=Lib.hid hown;have HI:=Lib.hid hin;clear hown hin he3 ht3 h3 HM2 HA2;go_wp2_with(at_builtin;go_must (refine A9 rfl _ _ 41 rfl 70 (.agg #[.int .i64 0,.int .i64 0,.string ⟨#[]⟩,.string ⟨#[]⟩,.int .i64 0,.int .i64 0,.string ⟨#[]⟩,.slice none 0 0]) 8 104 underlying41 Ta rfl (by decide) w.heap.size (.slice a0 acc.length cap0) acc.length acs rfl HO.out #[x31,x32,x33,x34,x35,x36,x37,x38] 1 w3.heap.size (by simp) rfl rfl (by simpa using(pkE).ones HE3.out) (by have h1:=HF.out;have h2:=HL.out;omega) (by have h1:=HF.out;have h2:=HL.out;simp[maxLen];omega) S3.out.size ?_));intro v4 w4 hown4 hg4 hw4;have HA4:Hid (LRow pkE 70 w.heap.size w4 (acc++[a3]) v4):=LRow.add S2.out.size HG.out HO.out HI.out HE3.out hown4 hg4 hw4;have S4:=Lib.hid (S3.out.grown hg4 (fun g hg=>(World.ownsRow.lt HO.out g hg).1));clear hown4 hg4 hw4 HO HI HE3 HG S3 S2;go_wp2_with fail;go_roundw
   case rel=>exact⟨acc++[a3],r3,HM3.out,by show _<=_;have h1:=HL.out;have h2:=hlen.out;have h3:=HL3.out;simp;omega,S4.out,HA4.out⟩
   case measure=>
    have h1:=HMS.out;have h2:=hlen.out;have h3:=HL3.out;rw[Bu S4.out.psr,h1];omega
  ·intro w2 hn ht2 S2;have HM2:Hid (y=.ok acc lr):=by
    show _=_;rw[HM.out]
    cases hf:lr.length with
    | zero=>rfl
    | succ f=>rw[Bs,hn]
   have HA2:=Lib.hid (((HA.out.kept ((Below.refl _ _).alloc (Nat.le_refl _) _))).turned ht2 (fun b hb e=>by have h1:=S2.out.lt;have h2:b=pb:=e;omega));clear HM HA S hn ht2;go_wp2_with fail;refine bodyPost_ret (v:=.slice a0 acc.length cap0) (by simp[results,results181,go_sem]) rfl ?_;exact PFr.done S2.out HM2.out (HA2.out.done (by decide))
theorem Sr {B:Nat} {w:World} {a:Ex} {v:Value} (h:REl exE B w a v):∃x1 x2 x3 x4 x5 x6 x7,v=.agg #[x1,x2,x3,x4,x5,x6,x7]/\exE.In (B≤·) w a [x1,x2,x3,x4,x5,x6,x7]:=by
 obtain⟨cs,rfl,h⟩:=h;obtain⟨op,t,n,v,args⟩:=a;obtain⟨a,acs,rfl,h1⟩:=h;exact⟨_,_,_,_,_,_,_,rfl,a,acs,rfl,h1⟩
theorem Kg:(prog.info? 27).map (fun i=>(i.zero,i.size,i.bytes))=some (some (.agg #[.int .i64 0,.string ⟨#[]⟩,.string ⟨#[]⟩,.int .i64 0,.int .i64 0,.string ⟨#[]⟩,.slice none 0 0]),7,96):=by kernel_rfl
theorem Ot (pb g:Nat) (sz:Int) (read:List Tok->Res Ex) (l:List Tok) (w:World) (h:Psr w pb sz l)
 (hfn:∀args w,(callFunc g args).run prog w=.ok (.enter g args) w) (hr:∀l a r,read l=.ok a r->r.length<=l.length)
 (HR:Hid (∀l' w',Turn (·=pb) w w'->Psr w' pb sz l'->Calls prog g #[.pointer (some ⟨pb,0,none⟩)] w' (Post pb sz (REl exE w'.heap.size) (read l') w'))):
 Calls prog 183 #[.pointer (some ⟨pb,0,none⟩),.func (.func g) #[.pointer (some ⟨pb,0,none⟩)] #[]] w (Post pb sz (RLst exE w.heap.size) (listR read l) w):=by
 have S0:=Lib.hid (PFr.start h)
 clear h
 refine Co (C:=fun y=>Calls prog 183 _ w (Post pb sz (RLst exE w.heap.size) y w)) _ ?_
 intro y HM0
 unfold listR at HM0
 go_enter func183,ntmps183
 go_wp2_with fail
 refine PFr.post S0.out (HR.out l w (Turn.refl _ _) S0.out.psr) (fun p q h=>by rw[HM0.out,h];rfl) (fun _ _ h=>⟨rfl,h⟩) ?_
 intro a1 r1 v1 w1 h1 hv1 ht1 S1
 have HL1:=Lib.hid (hr _ _ _ h1)
 have HM1:Hid (y=moreR read r1.length [a1] r1):=by show _=_;rw[HM0.out,h1];rfl
 obtain⟨x11,x12,x13,x14,x15,x16,x17,rfl,he1⟩:=Sr hv1
 have HE1:=Lib.hid he1
 have hs1:=Lib.hid ht1.size
 clear he1 ht1 HM0 h1
 go_wp2_with fail
 have HLR:=Lib.hid (LRow.one (E:=exE) (e:=27) (w:=w1) (Kp (B:=w.heap.size) HE1.out (Nat.le_refl _)) hs1.out)
 have SA:=Lib.hid (S1.out.laid (o:=.cells #[x11,x12,x13,x14,x15,x16,x17] 27))
 clear HE1 S1
 refine Hf (fun W=>PFr pb sz w W [] r1/\LRow exE 27 w.heap.size W [a1] (.slice (some ⟨w1.heap.size,0,none⟩) 1 1)) ⟨SA.out,HLR.out⟩ ?_
 clear SA HLR
 rintro wa ⟨SA',HLR'⟩
 have SA:=Lib.hid SA'
 have HLR:=Lib.hid HLR'
 have HF:=Lib.hid S0.out.psr.few
 clear SA' HLR' hs1 S0
 go_loopw [5] (fun sv wr=>∃(acc:List Ex) (lr:List Tok),Hid (y=moreR read lr.length acc lr)/\Hid (acc.length+lr.length<=l.length+1)/\Hid (PFr pb sz w wr [] lr)/\Hid (LRow exE 27 w.heap.size wr acc sv)) (fun _ wr=>psLeft pb wr)
 case atStart=>exact⟨[a1],r1,HM1.out,by show _<=_;have:=HL1.out;simp;omega,SA.out,HLR.out⟩
 case round=>
  clear HM1 HL1 SA HLR;obtain⟨acc,lr,HM,HL,S,HA⟩:=hrel;obtain⟨a0,cap0,rfl⟩:=HA.out.slice;have hmeas:=Bu S.out.psr;have HMS:=Lib.hid hmeas;clear hmeas;go_wp2_with fail;refine PFr.takes (PFr.laid (S.out)) [44] (Ao (by simp)) (by decide) ?_ ?_
  ·intro r2 w2 hn ht2 S2;have hlen:=Lib.hid (A2 hn);have HM2:Hid (y=(read r2).bind fun a l1=>moreR read l1.length (acc++[a]) l1):=by
    show _=_;rw[HM.out];obtain⟨f,hf⟩:∃f,lr.length=f+1:=⟨lr.length - 1,by have:=A2 hn;omega⟩;rw[hf,Bs,hn]
    cases hrd:read r2 with
    | err p q=>simp only[hrd];rfl
    | ok a l1=>
     have h1:=hr _ _ _ hrd;have h2:=A2 hn;simp only[hrd,Res.bind];exact Ek hr _ _ _ _ (by omega) (by omega)
   have HA2:=Lib.hid (((HA.out.kept ((Below.refl _ _).alloc (Nat.le_refl _) _))).turned ht2 (fun b hb e=>by have h1:=S2.out.lt;have h2:b=pb:=e;omega));clear HM HA S hn ht2;go_wp2_with fail;refine PFr.post S2.out (HR.out r2 w2 S2.out.turn S2.out.psr) (fun p q h=>by rw[HM2.out,h];rfl) (fun _ _ h=>⟨rfl,h⟩) ?_;intro a3 r3 v3 w3 h3 hv3 ht3 S3;have HL3:=Lib.hid (hr _ _ _ h3);have HM3:Hid (y=moreR read r3.length (acc++[a3]) r3):=by show _=_;rw[HM2.out,h3];rfl
   obtain⟨x31,x32,x33,x34,x35,x36,x37,rfl,he3⟩:=Sr hv3;have HE3:=Lib.hid he3;have HA3:=HA2.out.turned ht3 (fun b hb e=>by have h1:=S2.out.lt;have h2:b=pb:=e;omega);obtain⟨acs,hown,hin⟩:=HA3;have HG:Hid (∀g,(Value.slice a0 acc.length cap0).ownBlock=some g->g<w2.heap.size):=fun g hg=>by
    obtain⟨acs2,h2,_⟩:=HA2.out;exact(World.ownsRow.lt h2 g hg).2
   have HO:=Lib.hid hown;have HI:=Lib.hid hin;clear hown hin he3 ht3 h3 HM2 HA2;go_wp2_with(at_builtin;go_must (refine A9 rfl _ _ 25 rfl 27 (.agg #[.int .i64 0,.string ⟨#[]⟩,.string ⟨#[]⟩,.int .i64 0,.int .i64 0,.string ⟨#[]⟩,.slice none 0 0]) 7 96 underlying25 Kg rfl (by decide) w.heap.size (.slice a0 acc.length cap0) acc.length acs rfl HO.out #[x31,x32,x33,x34,x35,x36,x37] 1 w3.heap.size (by simp) rfl rfl (by simpa using(exE).ones HE3.out) (by have h1:=HF.out;have h2:=HL.out;omega) (by have h1:=HF.out;have h2:=HL.out;simp[maxLen];omega) S3.out.size ?_));intro v4 w4 hown4 hg4 hw4;have HA4:Hid (LRow exE 27 w.heap.size w4 (acc++[a3]) v4):=LRow.add S2.out.size HG.out HO.out HI.out HE3.out hown4 hg4 hw4;have S4:=Lib.hid (S3.out.grown hg4 (fun g hg=>(World.ownsRow.lt HO.out g hg).1));clear hown4 hg4 hw4 HO HI HE3 HG S3 S2;go_wp2_with fail;go_roundw
   case rel=>exact⟨acc++[a3],r3,HM3.out,by show _<=_;have h1:=HL.out;have h2:=hlen.out;have h3:=HL3.out;simp;omega,S4.out,HA4.out⟩
   case measure=>
    have h1:=HMS.out;have h2:=hlen.out;have h3:=HL3.out;rw[Bu S4.out.psr,h1];omega
  ·intro w2 hn ht2 S2;have HM2:Hid (y=.ok acc lr):=by
    show _=_;rw[HM.out]
    cases hf:lr.length with
    | zero=>rfl
    | succ f=>rw[Bs,hn]
   have HA2:=Lib.hid (((HA.out.kept ((Below.refl _ _).alloc (Nat.le_refl _) _))).turned ht2 (fun b hb e=>by have h1:=S2.out.lt;have h2:b=pb:=e;omega));clear HM HA S hn ht2;go_wp2_with fail;refine bodyPost_ret (v:=.slice a0 acc.length cap0) (by simp[results,results183,go_sem]) rfl ?_;exact PFr.done S2.out HM2.out (HA2.out.done (by decide))
theorem N5 {B:Nat} {w:World} {a:Srt} {v:Value} (h:REl srtE B w a v):v=.agg #[.int .i64 a.place,.bool a.down]/\srtE.In (B≤·) w a [.int .i64 a.place,.bool a.down]:=by
 obtain⟨cs,rfl,h⟩:=h;have h1:cs=[.int .i64 a.place,.bool a.down]:=h;subst h1;exact⟨rfl,rfl⟩
theorem Zs:(prog.info? 156).map (fun i=>(i.zero,i.size,i.bytes))=some (some (.agg #[.int .i64 0,.bool false]),2,16):=by kernel_rfl
theorem Oq (pb g:Nat) (sz:Int) (read:List Tok->Res Srt) (l:List Tok) (w:World) (h:Psr w pb sz l)
 (hfn:∀args w,(callFunc g args).run prog w=.ok (.enter g args) w) (hr:∀l a r,read l=.ok a r->r.length<=l.length)
 (HR:Hid (∀l' w',Turn (·=pb) w w'->Psr w' pb sz l'->Calls prog g #[.pointer (some ⟨pb,0,none⟩)] w' (Post pb sz (REl srtE w'.heap.size) (read l') w'))):
 Calls prog 185 #[.pointer (some ⟨pb,0,none⟩),.func (.func g) #[.pointer (some ⟨pb,0,none⟩)] #[]] w (Post pb sz (RLst srtE w.heap.size) (listR read l) w):=by
 have S0:=Lib.hid (PFr.start h)
 clear h
 refine Co (C:=fun y=>Calls prog 185 _ w (Post pb sz (RLst srtE w.heap.size) y w)) _ ?_
 intro y HM0
 unfold listR at HM0
 go_enter func185,ntmps185
 go_wp2_with fail
 refine PFr.post S0.out (HR.out l w (Turn.refl _ _) S0.out.psr) (fun p q h=>by rw[HM0.out,h];rfl) (fun _ _ h=>⟨rfl,h⟩) ?_
 intro a1 r1 v1 w1 h1 hv1 ht1 S1
 have HL1:=Lib.hid (hr _ _ _ h1)
 have HM1:Hid (y=moreR read r1.length [a1] r1):=by show _=_;rw[HM0.out,h1];rfl
 obtain⟨rfl,he1⟩:=N5 hv1
 have HE1:=Lib.hid he1
 have hs1:=Lib.hid ht1.size
 clear he1 ht1 HM0 h1
 go_wp2_with fail
 have HLR:=Lib.hid (LRow.one (E:=srtE) (e:=156) (w:=w1) (Kp (B:=w.heap.size) HE1.out (Nat.le_refl _)) hs1.out)
 have SA:=Lib.hid (S1.out.laid (o:=.cells #[.int .i64 a1.place,.bool a1.down] 156))
 clear HE1 S1
 refine Hf (fun W=>PFr pb sz w W [] r1/\LRow srtE 156 w.heap.size W [a1] (.slice (some ⟨w1.heap.size,0,none⟩) 1 1)) ⟨SA.out,HLR.out⟩ ?_
 clear SA HLR
 rintro wa ⟨SA',HLR'⟩
 have SA:=Lib.hid SA'
 have HLR:=Lib.hid HLR'
 have HF:=Lib.hid S0.out.psr.few
 clear SA' HLR' hs1 S0
 go_loopw [5] (fun sv wr=>∃(acc:List Srt) (lr:List Tok),Hid (y=moreR read lr.length acc lr)/\Hid (acc.length+lr.length<=l.length+1)/\Hid (PFr pb sz w wr [] lr)/\Hid (LRow srtE 156 w.heap.size wr acc sv)) (fun _ wr=>psLeft pb wr)
 case atStart=>exact⟨[a1],r1,HM1.out,by show _<=_;have:=HL1.out;simp;omega,SA.out,HLR.out⟩
 case round=>
  clear HM1 HL1 SA HLR;obtain⟨acc,lr,HM,HL,S,HA⟩:=hrel;obtain⟨a0,cap0,rfl⟩:=HA.out.slice;have hmeas:=Bu S.out.psr;have HMS:=Lib.hid hmeas;clear hmeas;go_wp2_with fail;refine PFr.takes (PFr.laid (S.out)) [44] (Ao (by simp)) (by decide) ?_ ?_
  ·intro r2 w2 hn ht2 S2;have hlen:=Lib.hid (A2 hn);have HM2:Hid (y=(read r2).bind fun a l1=>moreR read l1.length (acc++[a]) l1):=by
    show _=_;rw[HM.out];obtain⟨f,hf⟩:∃f,lr.length=f+1:=⟨lr.length - 1,by have:=A2 hn;omega⟩;rw[hf,Bs,hn]
    cases hrd:read r2 with
    | err p q=>simp only[hrd];rfl
    | ok a l1=>
     have h1:=hr _ _ _ hrd;have h2:=A2 hn;simp only[hrd,Res.bind];exact Ek hr _ _ _ _ (by omega) (by omega)
   have HA2:=Lib.hid (((HA.out.kept ((Below.refl _ _).alloc (Nat.le_refl _) _))).turned ht2 (fun b hb e=>by have h1:=S2.out.lt;have h2:b=pb:=e;omega));clear HM HA S hn ht2;go_wp2_with fail;refine PFr.post S2.out (HR.out r2 w2 S2.out.turn S2.out.psr) (fun p q h=>by rw[HM2.out,h];rfl) (fun _ _ h=>⟨rfl,h⟩) ?_;intro a3 r3 v3 w3 h3 hv3 ht3 S3;have HL3:=Lib.hid (hr _ _ _ h3);have HM3:Hid (y=moreR read r3.length (acc++[a3]) r3):=by show _=_;rw[HM2.out,h3];rfl
   obtain⟨rfl,he3⟩:=N5 hv3;have HE3:=Lib.hid he3;have HA3:=HA2.out.turned ht3 (fun b hb e=>by have h1:=S2.out.lt;have h2:b=pb:=e;omega);obtain⟨acs,hown,hin⟩:=HA3;have HG:Hid (∀g,(Value.slice a0 acc.length cap0).ownBlock=some g->g<w2.heap.size):=fun g hg=>by
    obtain⟨acs2,h2,_⟩:=HA2.out;exact(World.ownsRow.lt h2 g hg).2
   have HO:=Lib.hid hown;have HI:=Lib.hid hin;clear hown hin he3 ht3 h3 HM2 HA2;go_wp2_with(at_builtin;go_must (refine A9 rfl _ _ 42 rfl 156 (.agg #[.int .i64 0,.bool false]) 2 16 underlying42 Zs rfl (by decide) w.heap.size (.slice a0 acc.length cap0) acc.length acs rfl HO.out #[.int .i64 a3.place,.bool a3.down] 1 w3.heap.size (by simp) rfl rfl (by simpa using(srtE).ones HE3.out) (by have h1:=HF.out;have h2:=HL.out;omega) (by have h1:=HF.out;have h2:=HL.out;simp[maxLen];omega) S3.out.size ?_));intro v4 w4 hown4 hg4 hw4;have HA4:Hid (LRow srtE 156 w.heap.size w4 (acc++[a3]) v4):=LRow.add S2.out.size HG.out HO.out HI.out HE3.out hown4 hg4 hw4;have S4:=Lib.hid (S3.out.grown hg4 (fun g hg=>(World.ownsRow.lt HO.out g hg).1));clear hown4 hg4 hw4 HO HI HE3 HG S3 S2;go_wp2_with fail;go_roundw
   case rel=>exact⟨acc++[a3],r3,HM3.out,by show _<=_;have h1:=HL.out;have h2:=hlen.out;have h3:=HL3.out;simp;omega,S4.out,HA4.out⟩
   case measure=>
    have h1:=HMS.out;have h2:=hlen.out;have h3:=HL3.out;rw[Bu S4.out.psr,h1];omega
  ·intro w2 hn ht2 S2;have HM2:Hid (y=.ok acc lr):=by
    show _=_;rw[HM.out]
    cases hf:lr.length with
    | zero=>rfl
    | succ f=>rw[Bs,hn]
   have HA2:=Lib.hid (((HA.out.kept ((Below.refl _ _).alloc (Nat.le_refl _) _))).turned ht2 (fun b hb e=>by have h1:=S2.out.lt;have h2:b=pb:=e;omega));clear HM HA S hn ht2;go_wp2_with fail;refine bodyPost_ret (v:=.slice a0 acc.length cap0) (by simp[results,results185,go_sem]) rfl ?_;exact PFr.done S2.out HM2.out (HA2.out.done (by decide))
theorem Gm {α:Type} {E:ElRep α} {B:Nat} {w:World} {l:List α} {v:Value} (h:RLst E B w l v):∃a c,v=.slice a l.length c:=by
 obtain⟨acs,⟨a,c,e,_⟩,_⟩:=h;exact⟨a,c,e⟩
theorem Dx (pb:Nat) (sz:Int) (l:List Tok) (w:World) (h:Psr w pb sz l):
 Calls prog 214 #[.pointer (some ⟨pb,0,none⟩),.func (.func 125) #[.pointer (some ⟨pb,0,none⟩)] #[]] w (Post pb sz (RExF w.heap.size) (insideR sz (anyR sz) l) w):=by
 have S0:=Lib.hid (PFr.start h)
 clear h
 refine Co (C:=fun y=>Calls prog 214 _ w (Post pb sz (RExF w.heap.size) y w)) _ ?_
 intro y HM0
 unfold insideR at HM0
 go_enter func214,ntmps214
 go_wp2_with fail
 refine PFr.wants (PFr.laid (PFr.alloc (S0.out))) [[40]] (Ao (by simp)) rfl (by decide) rfl (by decide) (by decide) (fun p q h=>by rw[HM0.out,h];try rfl) (fun _ _ h=>⟨rfl,h⟩) ?_
 intro r1 w1 h1 ht1 S1
 have HM1:=HM0.out
 rw[h1]at HM1
 simp only[Res.bind]at HM1
 replace HM1:=Lib.hid HM1
 clear h1 ht1 HM0
 go_wp2_with fail
 refine PFr.post S1.out (I9 pb sz r1 w1 S1.out.psr) (fun p q h=>by rw[HM1.out,h];try rfl) (fun _ _ h=>⟨rfl,h⟩) ?_
 intro a2 r2 v2 w2 h2 hv2 ht2 S2
 have HM2:=HM1.out
 rw[h2]at HM2
 try(simp only[Res.bind,Res.map]at HM2)
 replace HM2:=Lib.hid HM2
 clear h2 HM1
 obtain⟨op,t,n,v,args⟩:=a2
 obtain⟨ad,ac,rfl,hargs⟩:=Bw hv2
 have HA:=Lib.hid hargs
 clear hv2 hargs
 have hs1:w.heap.size<=w1.heap.size:=S1.out.size
 have hs2:w.heap.size<w1.heap.size:=S1.out.facts.1
 have F2:=S2.out.facts
 simp only[St.Facts,cellFacts,apartFacts,and_true]at F2
 go_wp2_with fail
 refine PFr.wants (PFr.laid (PFr.alloc (S2.out))) [[41]] (Ao (by simp)) rfl (by decide) rfl (by decide) (by decide) (fun p q h=>by rw[HM2.out,h];try rfl) (fun _ _ h=>⟨rfl,h⟩) ?_
 intro r3 w3 h3 ht3 S3
 have HM3:=HM2.out
 rw[h3]at HM3
 replace HM3:=Lib.hid HM3
 have HA3:=Lib.hid (((HA.out.kept ((Below.refl _ _).alloc (Nat.le_refl _) _)).kept ((Below.refl _ _).alloc (Nat.le_refl _) _)).turned ht3 (fun b hb e=>by have:=S0.out.lt;have h1:b=pb:=e;have h2:w1.heap.size<=b:=hb;omega))
 clear HM2 h3 HA F2 ht2
 have HQ:∀c,w1.heap.size<=c->c≠w.heap.size:=fun c h e=>by omega
 have F3:=S3.out.facts
 simp only[St.Facts,cellFacts,apartFacts,and_true]at F3
 go_wp2_with fail
 refine bodyPost_ret (v:=.agg #[.int .i64 op,.string ⟨t.toArray⟩,.string ⟨n.toArray⟩,.int .i64 v.k,.int .i64 v.n,.string v.s,.slice ad args.length ac]) (by simp[results,results214,go_sem,F3]) rfl ?_
 exact PFr.done (PFr.set 1 (PFr.set 1 (PFr.set 1 (PFr.set 1 (PFr.set 1 (PFr.set 1 (PFr.set 1 (S3.out) rfl) rfl) rfl) rfl) rfl) rfl) rfl) HM3.out (Br (ExSl.mono (Q:=(w1.heap.size≤·)) (by(repeat(refine Aq ?_ HQ));exact HA3.out) (fun b hb=>Nat.le_trans hs1 hb)))
theorem L3 {α:Type} {read:List Tok->Res α} (hr:∀l a r,read l=.ok a r->r.length<=l.length):∀(f:Nat) (acc:List α) (l:List Tok) (a:List α) (r:List Tok),moreR read f acc l=.ok a r->r.length<=l.length
 | 0,acc,l,a,r,h=>by
  simp only[moreR,Res.ok.injEq]at h;rw[h.2];exact Nat.le_refl _
 | f+1,acc,l,a,r,h=>by
  rw[Bs]at h
  cases ht:tk [44] l with
  | none=>
   simp only[ht,Res.ok.injEq]at h;rw[h.2];exact Nat.le_refl _
  | some q=>
   have h1:=A2 ht;simp only[ht]at h
   cases hq:read q with
   | err p x=>rw[hq]at h;cases h
   | ok b l1=>
    have h2:=hr q b l1 hq;rw[hq]at h;have:=L3 hr f _ l1 a r h;omega
theorem U7 {α:Type} {read:List Tok->Res α} (hr:∀l a r,read l=.ok a r->r.length<=l.length) (l:List Tok) (a:List α) (r:List Tok) (h:listR read l=.ok a r):r.length<=l.length:=by
 unfold listR at h
 cases hq:read l with
 | err p x=>rw[hq]at h;cases h
 | ok b l1=>
  have h2:=hr l b l1 hq;rw[hq]at h;have:=L3 hr _ _ l1 a r h;omega
theorem O2 {α:Type} {sz:Int} {read:List Tok->Res α} (hr:∀l a r,read l=.ok a r->r.length<=l.length) (l:List Tok) (a:α) (r:List Tok) (h:insideR sz read l=.ok a r):r.length<=l.length:=by
 unfold insideR at h
 cases h1:wantsR sz [[40]] l with
 | err p x=>rw[h1]at h;cases h
 | ok u l1=>
  have k1:=Bg h1;rw[h1]at h;simp only[Res.bind]at h
  cases h2:read l1 with
  | err p x=>rw[h2]at h;cases h
  | ok b l2=>
   have k2:=hr _ _ _ h2;rw[h2]at h;simp only[Res.bind]at h
   cases h3:wantsR sz [[41]] l2 with
   | err p x=>rw[h3]at h;cases h
   | ok u l3=>
    have k3:=Bg h3;rw[h3]at h;simp only[Res.map,Res.ok.injEq]at h;rw[<- h.2];simp only[List.length_cons,List.length_nil]at k1 k3;omega
theorem Vx:En 184:=enters_of func184 (by kernel_rfl) rfl
theorem Post.mono {α:Type} {pb:Nat} {sz:Int} {Rep Rep2:World->α->Value->Prop} {x:Res α} {w w':World} {e:Ending} (h:Post pb sz Rep x w e w') (hm:∀a v,Rep w' a v->Rep2 w' a v):Post pb sz Rep2 x w e w':=by
 cases x with
 | ok a l=>obtain⟨v,h1,h2,h3⟩:=h;exact⟨v,h1,hm _ _ h2,h3⟩
 | err p q=>exact h
theorem Calls.post {α:Type} {f:Nat} {args:Array Value} {pb:Nat} {sz:Int} {Rep Rep2:World->α->Value->Prop} {x:Res α} {w:World} (h:Calls prog f args w (Post pb sz Rep x w)) (hm:∀w' a v,Rep w' a v->Rep2 w' a v):Calls prog f args w (Post pb sz Rep2 x w):=
 Calls.mono h fun _ _ h=>Post.mono h (fun a v=>hm _ a v)
theorem Xe (pb:Nat) (sz:Int) (l:List Tok) (w:World) (h:Psr w pb sz l):
 Calls prog 183 #[.pointer (some ⟨pb,0,none⟩),.func (.func 184) #[.pointer (some ⟨pb,0,none⟩)] #[]] w (Post pb sz (RLst exE w.heap.size) (listR (refR sz) l) w):=
 Ot pb 184 sz (refR sz) l w h Vx (fun l a r h=>by have:=N4 h;omega) (fun l' w' _ hp=>Calls.post (Sn pb sz l' w' hp) (fun w' a v h=>h))
theorem W4 (pb:Nat) (sz:Int) (l:List Tok) (w:World) (h:Psr w pb sz l):Calls prog 186 #[.pointer (some ⟨pb,0,none⟩)] w (Post pb sz (REl srtE w.heap.size) (sortR sz l) w):=by
 have S0:=Lib.hid (PFr.start h);clear h;refine Co (C:=fun y=>Calls prog 186 _ w (Post pb sz (REl srtE w.heap.size) y w)) _ ?_;intro y HM0;unfold sortR at HM0;go_enter func186,ntmps186;go_wp2_with fail;refine PFr.post (PFr.alloc (S0.out)) (Gn pb sz _ _ ((PFr.alloc (S0.out))).psr) (fun p q h=>by rw[HM0.out,h];try rfl) (fun _ _ h=>⟨rfl,h⟩) ?_;intro a1 r1 v1 w1 h1 hv1 ht1 S1;have HM1:=HM0.out;rw[h1]at HM1;try(simp only[Res.bind,Res.map]at HM1)
 replace HM1:=Lib.hid HM1;clear h1 HM0;obtain rfl:=hv1;have F1:=S1.out.facts;simp only[St.Facts,cellFacts,apartFacts,and_true]at F1;go_wp2_with fail;refine PFr.takes (PFr.laid (PFr.alloc (S1.out))) [97,115,99] (Ao (by simp)) (by decide) ?_ ?_
 ·skip;intro r2 w2 hn ht2 S2;have HM2:=HM1.out;simp only[hn]at HM2;replace HM2:=Lib.hid HM2;clear HM1 hn;have F2:=S2.out.facts;simp only[St.Facts,cellFacts,apartFacts,and_true]at F2;go_wp2_with fail;refine bodyPost_ret (v:=.agg #[.int .i64 a1,.bool false]) (by simp[results,results186,go_sem,F2]) rfl ?_;exact PFr.done (PFr.set 1 (PFr.set 1 (S2.out) rfl) rfl) HM2.out ⟨_,rfl,rfl⟩
 ·skip;intro w2 hn ht2 S2;have HM2:=HM1.out;simp only[hn]at HM2;replace HM2:=Lib.hid HM2;clear HM1 hn;have F2:=S2.out.facts;simp only[St.Facts,cellFacts,apartFacts,and_true]at F2;go_wp2_with fail;refine PFr.takes (PFr.laid (S2.out)) [100,101,115,99] (Ao (by simp)) (by decide) ?_ ?_
  ·skip;intro r3 w3 hn ht3 S3;have HM3:=HM2.out;simp only[hn]at HM3;replace HM3:=Lib.hid HM3;clear HM2 hn;have F3:=S3.out.facts;simp only[St.Facts,cellFacts,apartFacts,and_true]at F3;go_wp2_with fail;refine bodyPost_ret (v:=.agg #[.int .i64 a1,.bool true]) (by simp[results,results186,go_sem,F3]) rfl ?_;exact PFr.done (PFr.set 1 (PFr.set 1 (PFr.set 0 (S3.out) rfl) rfl) rfl) HM3.out ⟨_,rfl,rfl⟩
  ·skip;intro w3 hn ht3 S3;have HM3:=HM2.out;simp only[hn]at HM3;replace HM3:=Lib.hid HM3;clear HM2 hn;have F3:=S3.out.facts;simp only[St.Facts,cellFacts,apartFacts,and_true]at F3;go_wp2_with fail;refine bodyPost_ret (v:=.agg #[.int .i64 a1,.bool false]) (by simp[results,results186,go_sem,F3]) rfl ?_;exact PFr.done (PFr.set 1 (PFr.set 1 (PFr.set 0 (S3.out) rfl) rfl) rfl) HM3.out ⟨_,rfl,rfl⟩
theorem X4 (pb:Nat) (sz:Int) (l:List Tok) (w:World) (h:Psr w pb sz l):Calls prog 182 #[.pointer (some ⟨pb,0,none⟩)] w (Post pb sz (REl pkE w.heap.size) (itemR sz l) w):=by
 have S0:=Lib.hid (PFr.start h);clear h;refine Co (C:=fun y=>Calls prog 182 _ w (Post pb sz (REl pkE w.heap.size) y w)) _ ?_;intro y HM0;go_enter func182,ntmps182;go_wp2_with fail;go_loopw [7] (fun i wr=>∃k:Int,0<=k/\k<=5/\i=.int .i64 k/\Hid ((2<=k->tk [99,111,117,110,116] l=none)/\(3<=k->tk [115,117,109] l=none)/\(4<=k->tk [109,105,110] l=none)/\(5<=k->tk [109,97,120] l=none))/\
  Hid (PFr pb sz w wr [(w.heap.size+1,#[.string ⟨#[]⟩,.string ⟨#[99,111,117,110,116]⟩,.string ⟨#[115,117,109]⟩,.string ⟨#[109,105,110]⟩,.string ⟨#[109,97,120]⟩],9),(w.heap.size,#[.int .i64 0,.int .i64 0,.string ⟨#[]⟩,.string ⟨#[]⟩,.int .i64 0,.int .i64 0,.string ⟨#[]⟩,.slice none 0 0],70)] l)) (fun i _=>5 - (intOf i).toNat)
 case atStart=>exact⟨0,by omega,by omega,rfl,⟨fun h=>by omega,fun h=>by omega,fun h=>by omega,fun h=>by omega⟩,by
  have h1:=PFr.alloc (cs:=#[.string ⟨#[]⟩,.string ⟨#[99,111,117,110,116]⟩,.string ⟨#[115,117,109]⟩,.string ⟨#[109,105,110]⟩,.string ⟨#[109,97,120]⟩]) (t:=9) (PFr.alloc (cs:=#[.int .i64 0,.int .i64 0,.string ⟨#[]⟩,.string ⟨#[]⟩,.int .i64 0,.int .i64 0,.string ⟨#[]⟩,.slice none 0 0]) (t:=70) S0.out);rw[World.size_alloc]at h1;exact h1⟩
 case round=>
  clear S0;obtain⟨k,hk0,hk5,rfl,HN,S⟩:=hrel;have F:=S.out.facts;simp only[St.Facts,cellFacts,apartFacts,and_true]at F;obtain rfl|rfl|rfl|rfl|rfl|rfl:k=0\/k=1\/k=2\/k=3\/k=4\/k=5:=by omega
  ·go_wp2_with fail;go_roundw
   case rel=>exact⟨1,by omega,by omega,rfl,⟨fun h=>by omega,fun h=>by omega,fun h=>by omega,fun h=>by omega⟩,S.out⟩
   case measure=>simp[intOf]
  ·go_wp2_with fail;refine PFr.takes (PFr.laid (S.out)) [99,111,117,110,116] (Ao (by simp)) (by decide) ?_ ?_
   ·intro r1 w1 hn ht1 S1;have HM1:Hid (y=(wantsR sz [[40],[42],[41]] r1).map fun _=>⟨1,Ex.zero⟩):=by
     show _=_;rw[HM0.out];unfold itemR;simp only[hn]
    have hs1:w.heap.size+1<w1.heap.size:=S1.out.facts.1;clear hn ht1 HM0 HN F S;go_wp2_with fail;refine PFr.wants (PFr.laid (S1.out)) [[40],[42],[41]] (Ao (by simp)) rfl (by decide) rfl (by decide) (by decide) (fun p q h=>by rw[HM1.out,h];try rfl) (fun _ _ h=>⟨rfl,h⟩) ?_;intro r2 w2 h2 ht2 S2;have HM2:=HM1.out;rw[h2]at HM2;try(simp only[Res.map]at HM2)
    replace HM2:=Lib.hid HM2;clear h2 ht2 HM1;have F2:=S2.out.facts;simp only[St.Facts,cellFacts,apartFacts,and_true]at F2;go_wp2_with fail;refine bodyPost_ret (v:=.agg #[.int .i64 1,.int .i64 0,.string ⟨#[]⟩,.string ⟨#[]⟩,.int .i64 0,.int .i64 0,.string ⟨#[]⟩,.slice none 0 0]) (by simp[results,results182,go_sem,F2]) rfl ?_;exact PFr.done (PFr.set 1 (PFr.set 1 (PFr.set 1 (PFr.set 1 (PFr.set 1 (PFr.set 1 (PFr.set 1 (PFr.set 1 (S2.out) rfl) rfl) rfl) rfl) rfl) rfl) rfl) rfl) HM2.out ⟨[.int .i64 1,.int .i64 0,.string ⟨#[]⟩,.string ⟨#[]⟩,.int .i64 0,.int .i64 0,.string ⟨#[]⟩,.slice none 0 0],rfl,_,rfl,Bc (ExSl.nil _ _)⟩
   ·intro w1 hn ht1 S1;have HN1:Hid ((2<=(2:Int)->tk [99,111,117,110,116] l=none)/\(3<=(2:Int)->tk [115,117,109] l=none)/\(4<=(2:Int)->tk [109,105,110] l=none)/\(5<=(2:Int)->tk [109,97,120] l=none)):=⟨fun _=>hn,fun h=>by omega,fun h=>by omega,fun h=>by omega⟩;clear hn ht1 HN F S;go_wp2_with fail;go_roundw
    case rel=>exact⟨2,by omega,by omega,rfl,HN1.out,S1.out⟩
    case measure=>simp[intOf]
  ·go_wp2_with fail;refine PFr.takes (PFr.laid (S.out)) [115,117,109] (Ao (by simp)) (by decide) ?_ ?_
   ·intro r1 w1 hn ht1 S1;have HM1:Hid (y=(insideR sz (anyR sz) r1).map fun e=>⟨2,e⟩):=by
     show _=_;rw[HM0.out];unfold itemR;simp only[HN.out.1 (by omega),hn]
    have hs1:w.heap.size+1<w1.heap.size:=S1.out.facts.1;clear hn ht1 HM0 HN F S;go_wp2_with fail;refine PFr.post S1.out (Dx pb sz r1 w1 S1.out.psr) (fun p q h=>by rw[HM1.out,h];try rfl) (fun _ _ h=>⟨rfl,h⟩) ?_;intro a2 r2 v2 w2 h2 hv2 ht2 S2;have HM2:=HM1.out;rw[h2]at HM2;try(simp only[Res.bind,Res.map]at HM2)
    replace HM2:=Lib.hid HM2;clear h2 HM1;obtain⟨op,t,n,v,args⟩:=a2;obtain⟨ad,ac,rfl,hargs⟩:=Bw hv2;have HA:=Lib.hid hargs;clear hv2 hargs ht2;have F2:=S2.out.facts;simp only[St.Facts,cellFacts,apartFacts,and_true]at F2;go_wp2_with fail;have HQ:∀c,w1.heap.size<=c->c≠w.heap.size:=fun c h e=>by omega
    refine bodyPost_ret (v:=.agg #[.int .i64 2,.int .i64 op,.string ⟨t.toArray⟩,.string ⟨n.toArray⟩,.int .i64 v.k,.int .i64 v.n,.string v.s,.slice ad args.length ac]) (by simp[results,results182,go_sem,F2]) rfl ?_;exact PFr.done (PFr.set 1 (PFr.set 1 (PFr.set 1 (PFr.set 1 (PFr.set 1 (PFr.set 1 (PFr.set 1 (PFr.set 1 (S2.out) rfl) rfl) rfl) rfl) rfl) rfl) rfl) rfl) HM2.out ⟨[.int .i64 2,.int .i64 op,.string ⟨t.toArray⟩,.string ⟨n.toArray⟩,.int .i64 v.k,.int .i64 v.n,.string v.s,.slice ad args.length ac],rfl,_,rfl,Bc (ExSl.mono (Q:=(w1.heap.size≤·)) (by(repeat(refine Aq ?_ HQ));exact HA.out) (fun b hb=>by have hb':w1.heap.size<=b:=hb;show w.heap.size<=b;omega))⟩
   ·intro w1 hn ht1 S1;have HN1:Hid ((2<=(3:Int)->tk [99,111,117,110,116] l=none)/\(3<=(3:Int)->tk [115,117,109] l=none)/\(4<=(3:Int)->tk [109,105,110] l=none)/\(5<=(3:Int)->tk [109,97,120] l=none)):=⟨fun _=>HN.out.1 (by omega),fun _=>hn,fun h=>by omega,fun h=>by omega⟩;clear hn ht1 HN F S;go_wp2_with fail;go_roundw
    case rel=>exact⟨3,by omega,by omega,rfl,HN1.out,S1.out⟩
    case measure=>simp[intOf]
  ·go_wp2_with fail;refine PFr.takes (PFr.laid (S.out)) [109,105,110] (Ao (by simp)) (by decide) ?_ ?_
   ·intro r1 w1 hn ht1 S1;have HM1:Hid (y=(insideR sz (anyR sz) r1).map fun e=>⟨3,e⟩):=by
     show _=_;rw[HM0.out];unfold itemR;simp only[HN.out.1 (by omega),HN.out.2.1 (by omega),hn]
    have hs1:w.heap.size+1<w1.heap.size:=S1.out.facts.1;clear hn ht1 HM0 HN F S;go_wp2_with fail;refine PFr.post S1.out (Dx pb sz r1 w1 S1.out.psr) (fun p q h=>by rw[HM1.out,h];try rfl) (fun _ _ h=>⟨rfl,h⟩) ?_;intro a2 r2 v2 w2 h2 hv2 ht2 S2;have HM2:=HM1.out;rw[h2]at HM2;try(simp only[Res.bind,Res.map]at HM2)
    replace HM2:=Lib.hid HM2;clear h2 HM1;obtain⟨op,t,n,v,args⟩:=a2;obtain⟨ad,ac,rfl,hargs⟩:=Bw hv2;have HA:=Lib.hid hargs;clear hv2 hargs ht2;have F2:=S2.out.facts;simp only[St.Facts,cellFacts,apartFacts,and_true]at F2;go_wp2_with fail;have HQ:∀c,w1.heap.size<=c->c≠w.heap.size:=fun c h e=>by omega
    refine bodyPost_ret (v:=.agg #[.int .i64 3,.int .i64 op,.string ⟨t.toArray⟩,.string ⟨n.toArray⟩,.int .i64 v.k,.int .i64 v.n,.string v.s,.slice ad args.length ac]) (by simp[results,results182,go_sem,F2]) rfl ?_;exact PFr.done (PFr.set 1 (PFr.set 1 (PFr.set 1 (PFr.set 1 (PFr.set 1 (PFr.set 1 (PFr.set 1 (PFr.set 1 (S2.out) rfl) rfl) rfl) rfl) rfl) rfl) rfl) rfl) HM2.out ⟨[.int .i64 3,.int .i64 op,.string ⟨t.toArray⟩,.string ⟨n.toArray⟩,.int .i64 v.k,.int .i64 v.n,.string v.s,.slice ad args.length ac],rfl,_,rfl,Bc (ExSl.mono (Q:=(w1.heap.size≤·)) (by(repeat(refine Aq ?_ HQ));exact HA.out) (fun b hb=>by have hb':w1.heap.size<=b:=hb;show w.heap.size<=b;omega))⟩
   ·intro w1 hn ht1 S1;have HN1:Hid ((2<=(4:Int)->tk [99,111,117,110,116] l=none)/\(3<=(4:Int)->tk [115,117,109] l=none)/\(4<=(4:Int)->tk [109,105,110] l=none)/\(5<=(4:Int)->tk [109,97,120] l=none)):=⟨fun _=>HN.out.1 (by omega),fun _=>HN.out.2.1 (by omega),fun _=>hn,fun h=>by omega⟩;clear hn ht1 HN F S;go_wp2_with fail;go_roundw
    case rel=>exact⟨4,by omega,by omega,rfl,HN1.out,S1.out⟩
    case measure=>simp[intOf]
  ·go_wp2_with fail;refine PFr.takes (PFr.laid (S.out)) [109,97,120] (Ao (by simp)) (by decide) ?_ ?_
   ·intro r1 w1 hn ht1 S1;have HM1:Hid (y=(insideR sz (anyR sz) r1).map fun e=>⟨4,e⟩):=by
     show _=_;rw[HM0.out];unfold itemR;simp only[HN.out.1 (by omega),HN.out.2.1 (by omega),HN.out.2.2.1 (by omega),hn]
    have hs1:w.heap.size+1<w1.heap.size:=S1.out.facts.1;clear hn ht1 HM0 HN F S;go_wp2_with fail;refine PFr.post S1.out (Dx pb sz r1 w1 S1.out.psr) (fun p q h=>by rw[HM1.out,h];try rfl) (fun _ _ h=>⟨rfl,h⟩) ?_;intro a2 r2 v2 w2 h2 hv2 ht2 S2;have HM2:=HM1.out;rw[h2]at HM2;try(simp only[Res.bind,Res.map]at HM2)
    replace HM2:=Lib.hid HM2;clear h2 HM1;obtain⟨op,t,n,v,args⟩:=a2;obtain⟨ad,ac,rfl,hargs⟩:=Bw hv2;have HA:=Lib.hid hargs;clear hv2 hargs ht2;have F2:=S2.out.facts;simp only[St.Facts,cellFacts,apartFacts,and_true]at F2;go_wp2_with fail;have HQ:∀c,w1.heap.size<=c->c≠w.heap.size:=fun c h e=>by omega
    refine bodyPost_ret (v:=.agg #[.int .i64 4,.int .i64 op,.string ⟨t.toArray⟩,.string ⟨n.toArray⟩,.int .i64 v.k,.int .i64 v.n,.string v.s,.slice ad args.length ac]) (by simp[results,results182,go_sem,F2]) rfl ?_;exact PFr.done (PFr.set 1 (PFr.set 1 (PFr.set 1 (PFr.set 1 (PFr.set 1 (PFr.set 1 (PFr.set 1 (PFr.set 1 (S2.out) rfl) rfl) rfl) rfl) rfl) rfl) rfl) rfl) HM2.out ⟨[.int .i64 4,.int .i64 op,.string ⟨t.toArray⟩,.string ⟨n.toArray⟩,.int .i64 v.k,.int .i64 v.n,.string v.s,.slice ad args.length ac],rfl,_,rfl,Bc (ExSl.mono (Q:=(w1.heap.size≤·)) (by(repeat(refine Aq ?_ HQ));exact HA.out) (fun b hb=>by have hb':w1.heap.size<=b:=hb;show w.heap.size<=b;omega))⟩
   ·intro w1 hn ht1 S1;have HN1:Hid ((2<=(5:Int)->tk [99,111,117,110,116] l=none)/\(3<=(5:Int)->tk [115,117,109] l=none)/\(4<=(5:Int)->tk [109,105,110] l=none)/\(5<=(5:Int)->tk [109,97,120] l=none)):=⟨fun _=>HN.out.1 (by omega),fun _=>HN.out.2.1 (by omega),fun _=>HN.out.2.2.1 (by omega),fun _=>hn⟩;clear hn ht1 HN F S;go_wp2_with fail;go_roundw
    case rel=>exact⟨5,by omega,by omega,rfl,HN1.out,S1.out⟩
    case measure=>simp[intOf]
  ·have HM1:Hid (y=(anyR sz l).map fun e=>⟨0,e⟩):=by
    show _=_;rw[HM0.out];unfold itemR;simp only[HN.out.1 (by omega),HN.out.2.1 (by omega),HN.out.2.2.1 (by omega),HN.out.2.2.2 (by omega)]
   have S1:=S;have hs1:w.heap.size+1<wr.heap.size:=S1.out.facts.1;clear HM0 HN F S;go_wp2_with fail;refine PFr.post S1.out (I9 pb sz l wr S1.out.psr) (fun p q h=>by rw[HM1.out,h];try rfl) (fun _ _ h=>⟨rfl,h⟩) ?_;intro a2 r2 v2 w2 h2 hv2 ht2 S2;have HM2:=HM1.out;rw[h2]at HM2;try(simp only[Res.bind,Res.map]at HM2)
   replace HM2:=Lib.hid HM2;clear h2 HM1;obtain⟨op,t,n,v,args⟩:=a2;obtain⟨ad,ac,rfl,hargs⟩:=Bw hv2;have HA:=Lib.hid hargs;clear hv2 hargs ht2;have F2:=S2.out.facts;simp only[St.Facts,cellFacts,apartFacts,and_true]at F2;go_wp2_with fail;have HQ:∀c,wr.heap.size<=c->c≠w.heap.size:=fun c h e=>by omega
   refine bodyPost_ret (v:=.agg #[.int .i64 0,.int .i64 op,.string ⟨t.toArray⟩,.string ⟨n.toArray⟩,.int .i64 v.k,.int .i64 v.n,.string v.s,.slice ad args.length ac]) (by simp[results,results182,go_sem,F2]) rfl ?_;exact PFr.done (PFr.set 1 (PFr.set 1 (PFr.set 1 (PFr.set 1 (PFr.set 1 (PFr.set 1 (PFr.set 1 (PFr.set 1 (S2.out) rfl) rfl) rfl) rfl) rfl) rfl) rfl) rfl) HM2.out ⟨[.int .i64 0,.int .i64 op,.string ⟨t.toArray⟩,.string ⟨n.toArray⟩,.int .i64 v.k,.int .i64 v.n,.string v.s,.slice ad args.length ac],rfl,_,rfl,Bc (ExSl.mono (Q:=(wr.heap.size≤·)) (by(repeat(refine Aq ?_ HQ));exact HA.out) (fun b hb=>by have hb':wr.heap.size<=b:=hb;show w.heap.size<=b;omega))⟩
end Go.Proofs.YtjmmbebkbkgefaaGreatDoor
