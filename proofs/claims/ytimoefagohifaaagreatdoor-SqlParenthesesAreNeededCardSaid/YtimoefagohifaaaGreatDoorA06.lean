/- Laws that the last part needs. No condition. -/
import Derived.Test.YtimoefagohifaaaGreatDoorA05
set_option maxHeartbeats 4000000
set_option maxRecDepth 100000
namespace Go.Proofs.YtimoefagohifaaaGreatDoor
open Go.RowKit Go.Sort Tryz
theorem Ha (pb:Nat) (sz:Int) (l:List Tok) (w:World) (h:Psr w pb sz l):Calls prog 138 #[.pointer (O pb)] w (Post pb sz (RExF w.heap.size) (anyR sz l) w):=by
 have S:=tm (PFr.start h);clear h;refine Bt (C:=fun y=>Calls prog 138 _ w (Post pb sz (RExF w.heap.size) y w)) _ ?_;intro y HM;unfold anyR at HM;go_enter func138,ntmps138;go_wp2_with fail;refine PFr.post (PFr.alloc (S.out)) (dl pb sz 0 _ _ acw ((PFr.alloc (S.out))).psr) (fun p q h=>by rw[HM.out,h];try rfl) (fun _ _ h=>⟨rfl,h⟩) ?_;intro a r v1 w1 h1 hv ht S;refine z52 ?_;intro HM;clear h1;obtain⟨op,t,n,v,args⟩:=a;obtain⟨ad,ac,rfl,hargs⟩:=Bm hv;have HA:=tm hargs;have HQ:∀c,w.heap.size+1<=c->c≠w.heap.size:=fun c h e=>by omega
 clear hv hargs;rw[ug]at HA;refine z1076 ?_;intro F;refine z1203 ?_;refine ue (v:=.agg #[U op,.string (Y t),.string (Y n),U v.k,U v.n,.string v.s,.slice ad args.length ac]) (by simp[results,results138,go_sem,F]) rfl ?_;exact li
theorem where_any (pb:Nat) (sz:Int) (l:List Tok) (w:World) (h:Psr w pb sz l):Calls prog 139 #[.pointer (O pb)] w (Post pb sz (RExF w.heap.size) (whereR sz l) w):=by
 have S:=tm (PFr.start h);clear h;refine Bt (C:=fun y=>Calls prog 139 _ w (Post pb sz (RExF w.heap.size) y w)) _ ?_;intro y HM;unfold whereR at HM;go_enter func139,ntmps139;go_wp2_with fail;refine PFr.takes (PFr.laid (PFr.alloc (S.out))) [119,104,101,114,101] (blk_at acx) acy ?_ ?_
 ·skip;intro r w1 hn ht S;refine z128 ?_;clear hn;intro HM;have hs:w.heap.size<w1.heap.size:=S.out.facts.1;go_wp2_with fail;refine PFr.post S.out (Ha pb sz _ _ S.out.psr) (fun p q h=>by rw[HM.out,h];try rfl) (fun _ _ h=>⟨rfl,h⟩) ?_;intro a r v2 w2 h2 hv ht S;refine z61 ?_;clear h2;intro HM;obtain⟨op,t,n,v,args⟩:=a;obtain⟨ad,ac,rfl,hargs⟩:=Bm hv;have HA:=tm hargs;have HQ:∀c,w1.heap.size<=c->c≠w.heap.size:=fun c h e=>by omega
  clear hv hargs;refine z1076 ?_;intro F;refine z1203 ?_;refine ue (v:=.agg #[U op,.string (Y t),.string (Y n),U v.k,U v.n,.string v.s,.slice ad args.length ac]) (by simp[results,results139,go_sem,F]) rfl ?_;exact PFr.done (PFr.set 0 (PFr.set 0 (PFr.set 0 (PFr.set 0 (PFr.set 0 (PFr.set 0 (PFr.set 0 (S.out) rfl) rfl) rfl) rfl) rfl) rfl) rfl) HM.out (rEx_mk (ExSl.mono (Q:=(w1.heap.size≤·)) (by(repeat(refine A2 ?_ HQ));exact HA.out) (fun b hb=>yq (vw hs hb))))
 ·skip;intro w1 hn ht S;refine z128 ?_;clear hn;intro HM;refine z1076 ?_;intro F;refine z1203 ?_;refine ue (v:=.agg #[U 0,eS,eS,U 0,U 0,eS,eL]) (by simp[results,results139,go_sem,F]) rfl ?_;exact mu
structure ElRep (α:Type) where
 k:Nat
 In:(Nat->Prop)->World->α->List Value->Prop
 val:List Value->Value
 len:∀{Q w a cs},In Q w a cs->cs.length=k
 ones:∀{Q w a cs},In Q w a cs->∀u∈cs,u.oneCell'=true
 move:∀{Q R:Nat->Prop} {w w':World} {a cs},(∀b,b<w.heap.size->Q b->R b/\w'.heap[b]?=w.heap[b]?)->In Q w a cs->In R w' a cs
def LIn {α:Type} (E:ElRep α) (Q:Nat->Prop) (w:World):List α->List Value->Prop
 | [],acs=>acs=[]
 | e::l,acs=>∃c1 c2,acs=c1++c2/\E.In Q w e c1/\LIn E Q w l c2
theorem LIn.len {α:Type} {E:ElRep α} {Q:Nat->Prop} {w:World}:∀{l:List α} {acs:List Value},LIn E Q w l acs->acs.length=l.length * E.k
 | [],acs,h=>by simp only[LIn]at h;subst h;simp
 | e::l,acs,h=>by
  obtain⟨c1,c2,rfl,h1,h2⟩:=h;have:=E.len h1;have:=LIn.len h2;simp only[ua,tw,acf];omega
theorem LIn.move {α:Type} {E:ElRep α} {Q R:Nat->Prop} {w w':World} (hq:∀b,b<w.heap.size->Q b->R b/\w'.heap[b]?=w.heap[b]?):∀{l:List α} {acs:List Value},LIn E Q w l acs->LIn E R w' l acs
 | [],acs,h=>h
 | e::l,acs,h=>by
  obtain⟨c1,c2,rfl,k1,k2⟩:=h;exact⟨c1,c2,rfl,E.move hq k1,LIn.move hq k2⟩
theorem LIn.append {α:Type} {E:ElRep α} {Q:Nat->Prop} {w:World}:∀{l:List α} {acs:List Value} {m:List α} {bcs:List Value},LIn E Q w l acs->LIn E Q w m bcs->LIn E Q w (l++m) (acs++bcs)
 | [],acs,m,bcs,h,k=>by simp only[LIn]at h;subst h;exact k
 | e::l,acs,m,bcs,h,k=>by
  obtain⟨c1,c2,rfl,h1,h2⟩:=h;exact⟨c1,c2++bcs,by simp,h1,LIn.append h2 k⟩
theorem LIn.one {α:Type} {E:ElRep α} {Q:Nat->Prop} {w:World} {e:α} {cs:List Value} (h:E.In Q w e cs):LIn E Q w [e] cs:=⟨cs,[],by simp,h,rfl⟩
def RSl {α:Type} (E:ElRep α) (Q:Nat->Prop) (w:World) (v:Value) (l:List α):Prop:=∃acs,SlIn Q w v l.length acs/\LIn E Q w l acs
def RLst {α:Type} (E:ElRep α) (B:Nat) (w:World) (l:List α) (v:Value):Prop:=RSl E (B≤·) w v l
def REl {α:Type} (E:ElRep α) (B:Nat) (w:World) (a:α) (v:Value):Prop:=∃cs,v=E.val cs/\E.In (B≤·) w a cs
theorem rSl_move {α:Type} {E:ElRep α} (hk:0<E.k) {Q R:Nat->Prop} {w w':World} (hq:∀b,b<w.heap.size->Q b->R b/\w'.heap[b]?=w.heap[b]?) {v:Value} {l:List α} (h:RSl E Q w v l):RSl E R w' v l:=by
 obtain⟨acs,⟨ad,cap,e,hc,h1⟩,h2⟩:=h;refine⟨acs,⟨ad,cap,e,hc,fun hn=>?_⟩,LIn.move hq h2⟩;obtain⟨b,o,e2,k1,k2⟩:=h1 hn;have hl:=LIn.len h2;have hlt:=k2.lt (by
  intro e;rw[e]at hl;have:0<l.length * E.k:=Nat.mul_pos hn hk;simp at hl;omega)
 have:=hq b hlt k1;exact⟨b,o,e2,this.1,k2.same this.2⟩
def strE:ElRep Bytes where
 k:=1
 In _ _ s cs:=cs=[.string (Y s)]
 val cs:=cs.headD undef
 len h:=by subst h;rfl
 ones h u hu:=by subst h;simp only[vh]at hu;subst hu;rfl
 move _ h:=h
def valE:ElRep V where
 k:=3
 In _ _ v cs:=cs=[U v.k,U v.n,.string v.s]
 val cs:=.agg cs.toArray
 len h:=by subst h;rfl
 ones h u hu:=by subst h;simp only[uw,vl,xp]at hu;rcases hu with rfl|rfl|rfl<;>rfl
 move _ h:=h
def srtE:ElRep Srt where
 k:=2
 In _ _ s cs:=cs=[U s.place,.bool s.down]
 val cs:=.agg cs.toArray
 len h:=by subst h;rfl
 ones h u hu:=by subst h;simp only[uw,vl,xp]at hu;rcases hu with rfl|rfl<;>rfl
 move _ h:=h
def exE:ElRep Ex where
 k:=7
 In Q w e cs:=ExIn Q w e cs
 val cs:=.agg cs.toArray
 len h:=h.len
 ones h:=h.ones
 move hq h:=Bj hq _ _ h
def pkE:ElRep Pk where
 k:=8
 In Q w p cs:=∃c,cs=U p.fn::c/\ExIn Q w p.arg c
 val cs:=.agg cs.toArray
 len h:=by obtain⟨c,rfl,h⟩:=h;simp[h.len]
 ones h u hu:=ah2
 move hq h:=by obtain⟨c,rfl,h⟩:=h;exact⟨c,rfl,Bj hq _ _ h⟩
def rowE:ElRep (List V) where
 k:=1
 In Q w r cs:=∃v,cs=[v]/\RSl valE Q w v r
 val cs:=cs.headD undef
 len h:=by obtain⟨v,rfl,_⟩:=h;rfl
 ones h u hu:=by
  obtain⟨v,rfl,acs,⟨ad,cap,rfl,_⟩,_⟩:=h;simp only[vh]at hu;subst hu;rfl
 move hq h:=by obtain⟨v,rfl,h⟩:=h;exact⟨v,rfl,rSl_move acy hq h⟩
end Go.Proofs.YtimoefagohifaaaGreatDoor
namespace Go
open Go.Sort Go.RowKit
theorem wpList_append_newq {P:Program} {ops:Array Oper} {rest:List Oper} {o:Oper} {a:Act} {Q:Exit->Act->World->Prop} {W:World} (hgd:o.guard=none) (s x:Operand) (t:TypeId) (ho:o.op=.call {callee:=.builtin .append,args:=#[s,x],argTypes:=#[t,t]}) (e:TypeId) (z:Value) (size bytes:Nat) (ht:P.underlying t=some (.slice e)) (hinfo:(P.info? e).map (fun i=>(i.zero,i.size,i.bytes))=some (some z,size,bytes)) (hzs:z.cells.size=size) (hsz:0<size) (base:Nat) (v:Value) (n:Nat) (xs:List Value) (hs:a.eval s=v) (hown:W.ownsRow base e size v n xs) (cs:Array Value) (m nb:Nat) (hm:cs.size=m * size) (hx:a.eval x=.slice (O nb) m m) (hnb:W.heap.size=nb) (h1:∀u∈cs.toList,u.oneCell'=true) (hbytes:(n+m) * bytes<=140737488355328) (h63:n+m<=maxLen) (hbase:base<=W.heap.size) (h:∀v' w',w'.ownsRow base e size v' (n+m) (xs++cs.toList)->W.grownBy w' v.ownBlock->(v'.ownBlock=v.ownBlock\/∃g,v'.ownBlock=some g/\W.heap.size<=g)->wpList P ops Q rest (a.put o.dst v') w'):wpList P ops Q (o::rest) a (W.alloc (.cells cs e)):=by
 subst hnb;obtain⟨i0,hi,hz,hz1,hz2⟩:=ab2 hinfo;have hnews:∀j u,cs.toList[j]?=some u->(W.alloc (.cells cs e)).cell? ((⟨W.heap.size,0,none⟩:Addr).add j)=some u:=z93;have hl:cs.toList.length=m * size:=by simpa using hm
 refine aa8 hgd fun K hK=>?_;obtain⟨v',w',hr,h2,h3,h4⟩:=run_append_own (P:=P) (W.alloc (.cells cs e)) base t o.type e i0 z size bytes ht hi hz hz1 hz2 hzs hsz v n xs (hown.alloc _) ⟨W.heap.size,0,none⟩ m m cs.toList hl hnews h1 h63 hbytes (by simp;omega);subst hz1 hz2;have hw:=Ip ht hi hz (hown.alloc _) hl hnews h1 h63 hbytes hr;unfold Oper.wp execOp;simp only[ho,resolve,invoke,builtin,Sem.run_bind,Sem.run_pure,Result.andThen_ok,zz,yp,aad,hs,hx,hr];refine hK _ _ (h v' w' h2 ?_ (hw.imp id (fun e=>⟨_,e,by simp⟩)));exact z123
end Go
namespace Go.Proofs.YtimoefagohifaaaGreatDoor
open Go.RowKit Go.Sort Tryz
section
def LRow {α:Type} (E:ElRep α) (e B:Nat) (w:World) (l:List α) (v:Value):Prop:=∃acs,w.ownsRow B e E.k v l.length acs/\LIn E (fun b=>B<=b/\v.ownBlock≠some b) w l acs
variable {α:Type} {E:ElRep α} {e B:Nat} {w w':World} {l:List α} {v:Value}
theorem LRow.turned {M:Nat->Prop} (h:LRow E e B w l v) (ht:Turn M w w') (hM:∀b,B<=b->¬M b):LRow E e B w' l v:=by
 obtain⟨acs,h1,h2⟩:=h;refine⟨acs,World.ownsRow.same h1 (fun g hg=>?_),LIn.move (fun b hb hq=>⟨hq,ht.block b hb (hM b hq.1)⟩) h2⟩;have:=vx h1 g hg;exact ht.block g this.2 (hM g this.1)
theorem LRow.kept (h:LRow E e B w l v) (hb:Below w.heap.size w w'):LRow E e B w' l v:=h.turned (Turn.of_below hb) (fun _ _ h=>h)
theorem LRow.slice (h:LRow E e B w l v):∃a cap,v=.slice a l.length cap:=by
 obtain⟨acs,h1,h2⟩:=h;obtain⟨a,cap,e,_⟩:=h1.slAt;exact⟨a,cap,e⟩
theorem LRow.done (_hk:0<E.k) (h:LRow E e B w l v):RLst E B w l v:=by
 obtain⟨acs,h1,h2⟩:=h;exact⟨acs,h1.slIn,LIn.move (fun b _ hq=>⟨hq.1,rfl⟩) h2⟩
theorem LRow.one {a:α} {cs:List Value} (h:E.In (fun b=>B<=b/\b<w.heap.size) w a cs) (hB:B<=w.heap.size):LRow E e B (w.alloc (.cells cs.toArray e)) [a] (.slice (O w.heap.size) 1 1):=by
 have hl:=E.len h;refine⟨cs,⟨by simpa using hl,.inr ⟨w.heap.size,1,cs.toArray,rfl,hB,World.alloc_heap_new _ _,tu _,by unfold maxLen;decide,by simpa using hl,?_⟩⟩,LIn.one (E.move (fun b hb hq=>⟨⟨hq.1,fun e=>?_⟩,xe _ _ _ hb⟩) h)⟩
 ·rw[<- hl];simp
 ·simp only[Value.ownBlock,uz]at e;omega
theorem E2 {a:α} {cs:List Value} {C:Nat} (h:E.In (C≤·) w a cs) (hB:B<=C):E.In (fun b=>B<=b/\b<w.heap.size) w a cs:=
 E.move (R:=fun b=>B<=b/\b<w.heap.size) (fun _b hb hq=>⟨⟨vj hB hq,hb⟩,rfl⟩) h
theorem LRow.add {a:α} {cs acs:List Value} {v':Value} {C:Nat} (hB:B<=C) (hC:∀g,v.ownBlock=some g->g<C) (_h1:w.ownsRow B e E.k v l.length acs) (h2:LIn E (fun b=>B<=b/\v.ownBlock≠some b) w l acs) (h3:E.In (C≤·) w a cs) (k1:w'.ownsRow B e E.k v' (l.length+1) (acs++cs)) (k2:w.grownBy w' v.ownBlock) (k3:v'.ownBlock=v.ownBlock\/∃g,v'.ownBlock=some g/\w.heap.size<=g):LRow E e B w' (l++[a]) v':=by
 have key:∀b,b<w.heap.size->v.ownBlock≠some b->v'.ownBlock≠some b/\w'.heap[b]?=w.heap[b]?:=fun b hb hne=>by
  refine⟨?_,k2.block b hb (fun e=>hne e.symm |>.elim)⟩;rcases k3 with k3|⟨g,k3,hg⟩
  ·rw[k3];exact hne
  ·rw[k3];intro e;simp only[uz]at e;omega
 refine⟨acs++cs,by simpa using k1,LIn.append (LIn.move (fun b hb hq=>⟨⟨hq.1,(key b hb hq.2).1⟩,(key b hb hq.2).2⟩) h2) (LIn.one (E.move (fun b hb hq=>?_) h3))⟩;have hq':C<=b:=hq;have hne:v.ownBlock≠some b:=fun e=>by have:=hC b e;omega
 exact⟨⟨vj hB hq',(key b hb hne).1⟩,(key b hb hne).2⟩
theorem PFr.grown {pb:Nat} {sz:Int} {w0 w w':World} {l:List Tok} {v:Value} (h:PFr pb sz w0 w [] l) (hg:w.grownBy w' v.ownBlock) (hv:∀g,v.ownBlock=some g->w0.heap.size<=g):PFr pb sz w0 w' [] l:=
 ⟨h.lt,h.st.turned (Turn.of_grown hg) (fun k hk hm=>by have:=hv k hm;omega) (fun x hx=>by cases hx),(fun x hx=>by cases hx),h.psr.turned (Turn.of_grown hg) (fun k hk=>by have h1:=hv k hk;have h2:=h.lt;omega)⟩
section
variable {ops:Array Oper} {rest:List Oper} {o:Oper} {ac:Act} {Q:Exit->Act->World->Prop} {W:World}
theorem Bx {T:Nat} {u:Value} {cs:List Value} (hg:o.guard=none) (x:Operand) (ho:o.op=.buildSlice T 1 #[(0,x)]) (hx:ac.eval x=u) (hrun:(Instr.buildSlice T 1 #[(0,u)]).run prog W=.ok (.slice (O W.heap.size) 1 1) (W.alloc (.cells cs.toArray e))) (h:wpList prog ops Q rest (ac.put o.dst (.slice (O W.heap.size) 1 1)) (W.alloc (.cells cs.toArray e))):wpList prog ops Q (o::rest) ac W:=by
 refine aa8 hg fun K hK=>?_;unfold Oper.wp execOp;simp only[ho,zz,yp,aad,hx,Sem.run_bind,hrun,Result.andThen_ok,Sem.run_pure];exact hK _ _ h
end
end
theorem Ce {P:Program} {c:Code} {Q:Exit->Act->World->Prop} {a:Act} {w:World} (R:World->Prop) (h:R w) (k:∀W,R W->Code.wp P c Q a W):Code.wp P c Q a w:=k w h
theorem Ci {α:Type} (read:List Tok->Res α) (f:Nat) (acc:List α) (l:List Tok):moreR read (f+1) acc l=match tk [44] l with
 | some r=>(read r).bind fun a l1=>moreR read f (acc++[a]) l1
 | none=>.ok acc l:=rfl
theorem Hp {α:Type} {read:List Tok->Res α} (hr:∀l a r,read l=.ok a r->r.length<=l.length):∀(f g:Nat) (acc:List α) (l:List Tok),l.length<=f->l.length<=g->moreR read f acc l=moreR read g acc l
 | 0,0,acc,l,_,_=>rfl
 | 0,g+1,acc,l,h,_=>by exact z99
 | f+1,0,acc,l,_,h=>by exact z99
 | f+1,g+1,acc,l,hf,hg=>by
  rw[Ci,Ci]
  cases h:tk [44] l with
  | none=>rfl
  | some r=>
   have h1:=A5 h
   cases h2:read r with
   | err p q=>simp only[h2];rfl
   | ok a l1=>
    have h3:=hr r a l1 h2;simp only[h2,Res.bind];exact Hp hr f g _ l1 acw acw
theorem Pc {B:Nat} {w:World} {a:Bytes} {v:Value} (h:REl strE B w a v):v=.string (Y a)/\strE.In (B≤·) w a [.string (Y a)]:=by
 obtain⟨cs,rfl,h⟩:=h;have h1:cs=[.string (Y a)]:=h;subst h1;exact⟨rfl,rfl⟩
theorem info9:(prog.info? 9).map (fun i=>(i.zero,i.size,i.bytes))=some (some eS,1,16):=acz
theorem N8 (s:ByteArray) (W:World):(Instr.buildSlice 38 1 #[(0,.string s)]).run prog W=.ok (.slice (O W.heap.size) 1 1) (W.alloc (.cells #[.string s] 9)):=acz
theorem Qb (pb g:Nat) (sz:Int) (read:List Tok->Res Bytes) (l:List Tok) (w:World) (h:Psr w pb sz l) (hfn:∀args w,(callFunc g args).run prog w=.ok (.enter g args) w) (hr:∀l a r,read l=.ok a r->r.length<=l.length) (HR:Hid (∀l' w',Turn (·=pb) w w'->Psr w' pb sz l'->Calls prog g #[.pointer (O pb)] w' (Post pb sz (REl strE w'.heap.size) (read l') w'))):Calls prog 128 #[.pointer (O pb),.func (.func g) #[.pointer (O pb)] #[]] w (Post pb sz (RLst strE w.heap.size) (listR read l) w):=by
 have S0:=tm (PFr.start h);clear h;refine Bt (C:=fun y=>Calls prog 128 _ w (Post pb sz (RLst strE w.heap.size) y w)) _ ?_;intro y HM0;unfold listR at HM0;go_enter func128,ntmps128;refine z13k4 ?_;intro _ _ _ _ a1 r1 v1 w1 h1 hv ht S1 HL1 HM1;obtain⟨rfl,he⟩:=Pc hv;have HE:=tm he;have hs:=tm ht.size;clear he ht HM0 h1;go_wp2_with fail;have HLR:=tm (LRow.one (E:=strE) (e:=9) (w:=w1) (E2 (B:=w.heap.size) HE.out (tu _)) hs.out);have SA:=tm (S1.out.laid (o:=.cells #[.string (Y a1)] 9));clear HE S1;refine Ce (fun W=>PFr pb sz w W [] r1/\LRow strE 9 w.heap.size W [a1] (.slice (O w1.heap.size) 1 1)) ⟨SA.out,HLR.out⟩ ?_;clear SA HLR hs;refine z81 ?_;clear S0;intro wa SA HLR HF;go_loopw [5] (fun sv wr=>∃(acc:List Bytes) (lr:List Tok),Hid (y=moreR read lr.length acc lr)/\Hid (acc.length+lr.length<=l.length+1)/\Hid (PFr pb sz w wr [] lr)/\Hid (LRow strE 9 w.heap.size wr acc sv)) (fun _ wr=>psLeft pb wr)
 case atStart=>exact⟨[a1],r1,HM1.out,by show _<=_;have:=HL1.out;simp;omega,SA.out,HLR.out⟩
 case round=>
  clear HM1 HL1 SA HLR;obtain⟨acc,lr,HM,HL,S,HA⟩:=hrel;obtain⟨a0,cap,rfl⟩:=HA.out.slice;have hmeas:=Bf S.out.psr;have HMS:=tm hmeas;clear hmeas;go_wp2_with fail;refine PFr.takes (PFr.laid (S.out)) [44] (blk_at acx) acy ?_ ?_
  ·clear S;refine z1005k2 ?_;clear HM HA;intro _ _ r2 w2 S2 hlen HM2 HA2 a3 r3 v3 w3 h3 hv ht S3 HL3 HM3;obtain⟨rfl,he⟩:=Pc hv;clear h3 HM2;refine z54 ?_;clear he ht HA2;intro HE acs HG HO HI;go_wp2_with(at_builtin;go_must (refine wpList_append_newq rfl _ _ 38 rfl 9 eS 1 16 underlying38 info9 rfl acy w.heap.size (.slice a0 acc.length cap) acc.length acs rfl HO.out #[.string (Y a3)] 1 w3.heap.size acx rfl rfl (by simpa using(strE).ones HE.out) (by have h1:=HF.out;have h2:=HL.out;omega) (by have h1:=HF.out;have h2:=HL.out;simp[maxLen];omega) S3.out.size ?_));intro v4 w4 hown4 hg4 hw;have HA4:Hid (LRow strE 9 w.heap.size w4 (acc++[a3]) v4):=LRow.add S2.out.size HG.out HO.out HI.out HE.out hown4 hg4 hw;exact L2
  ·clear S;refine z12 ?_;clear HM HA;intro w2 S2 HM2 HA2;refine ue (v:=.slice a0 acc.length cap) (by simp[results,results128,go_sem]) rfl ?_;exact m8
theorem Pe {B:Nat} {w:World} {a:List V} {v:Value} (h:REl rowE B w a v):∃ad n c,v=.slice ad n c/\rowE.In (B≤·) w a [.slice ad n c]:=by
 obtain⟨cs,rfl,h⟩:=h;obtain⟨v,rfl,h⟩:=h;obtain⟨acs,⟨ad,cap,rfl,h1⟩,h2⟩:=h;exact⟨ad,_,cap,rfl,_,rfl,acs,⟨ad,cap,rfl,h1⟩,h2⟩
theorem info84:(prog.info? 84).map (fun i=>(i.zero,i.size,i.bytes))=some (some eL,1,24):=acz
theorem Qa (pb cb g:Nat) (sz:Int) (read:List Tok->Res (List V)) (l:List Tok) (w:World) (h:Psr w pb sz l) (hfn:∀args w,(callFunc g args).run prog w=.ok (.enter g args) w) (hr:∀l a r,read l=.ok a r->r.length<=l.length) (HR:Hid (∀l' w',Turn (·=pb) w w'->Psr w' pb sz l'->Calls prog g #[.pointer (O cb)] w' (Post pb sz (REl rowE w'.heap.size) (read l') w'))):Calls prog 130 #[.pointer (O pb),.func (.func g) #[] #[.pointer (O cb)]] w (Post pb sz (RLst rowE w.heap.size) (listR read l) w):=by
 have S0:=tm (PFr.start h);clear h;refine Bt (C:=fun y=>Calls prog 130 _ w (Post pb sz (RLst rowE w.heap.size) y w)) _ ?_;intro y HM0;unfold listR at HM0;go_enter func130,ntmps130;refine z13k4 ?_;intro _ _ _ _ a1 r1 v1 w1 h1 hv ht S1 HL1 HM1;obtain⟨ad,n,c,rfl,he⟩:=Pe hv;have HE:=tm he;have hs:=tm ht.size;clear he ht HM0 h1;go_wp2_with fail;have HLR:=tm (LRow.one (E:=rowE) (e:=84) (w:=w1) (E2 (B:=w.heap.size) HE.out (tu _)) hs.out);have SA:=tm (S1.out.laid (o:=.cells #[.slice ad n c] 84));clear HE S1;refine Ce (fun W=>PFr pb sz w W [] r1/\LRow rowE 84 w.heap.size W [a1] (.slice (O w1.heap.size) 1 1)) ⟨SA.out,HLR.out⟩ ?_;clear SA HLR hs;refine z81 ?_;clear S0;intro wa SA HLR HF;go_loopw [5] (fun sv wr=>∃(acc:List (List V)) (lr:List Tok),Hid (y=moreR read lr.length acc lr)/\Hid (acc.length+lr.length<=l.length+1)/\Hid (PFr pb sz w wr [] lr)/\Hid (LRow rowE 84 w.heap.size wr acc sv)) (fun _ wr=>psLeft pb wr)
 case atStart=>exact⟨[a1],r1,HM1.out,by show _<=_;have:=HL1.out;simp;omega,SA.out,HLR.out⟩
 case round=>
  clear HM1 HL1 SA HLR;obtain⟨acc,lr,HM,HL,S,HA⟩:=hrel;obtain⟨a0,cap,rfl⟩:=HA.out.slice;have hmeas:=Bf S.out.psr;have HMS:=tm hmeas;clear hmeas;go_wp2_with fail;refine PFr.takes (PFr.laid (S.out)) [44] (blk_at acx) acy ?_ ?_
  ·clear S;refine z1005k2 ?_;clear HM HA;intro _ _ r2 w2 S2 hlen HM2 HA2 a3 r3 v3 w3 h3 hv ht S3 HL3 HM3;obtain⟨ad,n,c,rfl,he⟩:=Pe hv;clear h3 HM2;refine z54 ?_;clear he ht HA2;intro HE acs HG HO HI;go_wp2_with(at_builtin;go_must (refine wpList_append_newq rfl _ _ 39 rfl 84 eL 1 24 underlying39 info84 rfl acy w.heap.size (.slice a0 acc.length cap) acc.length acs rfl HO.out #[.slice ad n c] 1 w3.heap.size acx rfl rfl (by simpa using(rowE).ones HE.out) (by have h1:=HF.out;have h2:=HL.out;omega) (by have h1:=HF.out;have h2:=HL.out;simp[maxLen];omega) S3.out.size ?_));intro v4 w4 hown4 hg4 hw;have HA4:Hid (LRow rowE 84 w.heap.size w4 (acc++[a3]) v4):=LRow.add S2.out.size HG.out HO.out HI.out HE.out hown4 hg4 hw;exact L2
  ·clear S;refine z12 ?_;clear HM HA;intro w2 S2 HM2 HA2;refine ue (v:=.slice a0 acc.length cap) (by simp[results,results130,go_sem]) rfl ?_;exact m8
theorem Pb {B:Nat} {w:World} {a:V} {v:Value} (h:REl valE B w a v):v=.agg #[U a.k,U a.n,.string a.s]/\valE.In (B≤·) w a [U a.k,U a.n,.string a.s]:=by
 obtain⟨cs,rfl,h⟩:=h;have h1:cs=[U a.k,U a.n,.string a.s]:=h;subst h1;exact⟨rfl,rfl⟩
theorem oy:(prog.info? 42).map (fun i=>(i.zero,i.size,i.bytes))=some (some (.agg #[U 0,U 0,eS]),3,32):=acz
theorem P9 (pb g:Nat) (sz:Int) (read:List Tok->Res V) (l:List Tok) (w:World) (h:Psr w pb sz l) (hfn:∀args w,(callFunc g args).run prog w=.ok (.enter g args) w) (hr:∀l a r,read l=.ok a r->r.length<=l.length) (HR:Hid (∀l' w',Turn (·=pb) w w'->Psr w' pb sz l'->Calls prog g #[.pointer (O pb)] w' (Post pb sz (REl valE w'.heap.size) (read l') w'))):Calls prog 134 #[.pointer (O pb),.func (.func g) #[.pointer (O pb)] #[]] w (Post pb sz (RLst valE w.heap.size) (listR read l) w):=by
 have S0:=tm (PFr.start h);clear h;refine Bt (C:=fun y=>Calls prog 134 _ w (Post pb sz (RLst valE w.heap.size) y w)) _ ?_;intro y HM0;unfold listR at HM0;go_enter func134,ntmps134;refine z13k4 ?_;intro _ _ _ _ a1 r1 v1 w1 h1 hv ht S1 HL1 HM1;obtain⟨rfl,he⟩:=Pb hv;have HE:=tm he;have hs:=tm ht.size;clear he ht HM0 h1;go_wp2_with fail;have HLR:=tm (LRow.one (E:=valE) (e:=42) (w:=w1) (E2 (B:=w.heap.size) HE.out (tu _)) hs.out);have SA:=tm (S1.out.laid (o:=.cells #[U a1.k,U a1.n,.string a1.s] 42));clear HE S1;refine Ce (fun W=>PFr pb sz w W [] r1/\LRow valE 42 w.heap.size W [a1] (.slice (O w1.heap.size) 1 1)) ⟨SA.out,HLR.out⟩ ?_;clear SA HLR hs;refine z81 ?_;clear S0;intro wa SA HLR HF;go_loopw [5] (fun sv wr=>∃(acc:List V) (lr:List Tok),Hid (y=moreR read lr.length acc lr)/\Hid (acc.length+lr.length<=l.length+1)/\Hid (PFr pb sz w wr [] lr)/\Hid (LRow valE 42 w.heap.size wr acc sv)) (fun _ wr=>psLeft pb wr)
 case atStart=>exact⟨[a1],r1,HM1.out,by show _<=_;have:=HL1.out;simp;omega,SA.out,HLR.out⟩
 case round=>
  clear HM1 HL1 SA HLR;obtain⟨acc,lr,HM,HL,S,HA⟩:=hrel;obtain⟨a0,cap,rfl⟩:=HA.out.slice;have hmeas:=Bf S.out.psr;have HMS:=tm hmeas;clear hmeas;go_wp2_with fail;refine PFr.takes (PFr.laid (S.out)) [44] (blk_at acx) acy ?_ ?_
  ·clear S;refine z1005k2 ?_;clear HM HA;intro _ _ r2 w2 S2 hlen HM2 HA2 a3 r3 v3 w3 h3 hv ht S3 HL3 HM3;obtain⟨rfl,he⟩:=Pb hv;clear h3 HM2;refine z54 ?_;clear he ht HA2;intro HE acs HG HO HI;go_wp2_with(at_builtin;go_must (refine wpList_append_newq rfl _ _ 83 rfl 42 (.agg #[U 0,U 0,eS]) 3 32 underlying83 oy rfl acy w.heap.size (.slice a0 acc.length cap) acc.length acs rfl HO.out #[U a3.k,U a3.n,.string a3.s] 1 w3.heap.size acx rfl rfl (by simpa using(valE).ones HE.out) (by have h1:=HF.out;have h2:=HL.out;omega) (by have h1:=HF.out;have h2:=HL.out;simp[maxLen];omega) S3.out.size ?_));intro v4 w4 hown4 hg4 hw;have HA4:Hid (LRow valE 42 w.heap.size w4 (acc++[a3]) v4):=LRow.add S2.out.size HG.out HO.out HI.out HE.out hown4 hg4 hw;exact L2
  ·clear S;refine z12 ?_;clear HM HA;intro w2 S2 HM2 HA2;refine ue (v:=.slice a0 acc.length cap) (by simp[results,results134,go_sem]) rfl ?_;exact m8
theorem Vg {B:Nat} {w:World} {a:Pk} {v:Value} (h:REl pkE B w a v):∃x1 x2 x3 x4 x5 x6 x7 x8,v=.agg #[x1,x2,x3,x4,x5,x6,x7,x8]/\pkE.In (B≤·) w a [x1,x2,x3,x4,x5,x6,x7,x8]:=by
 obtain⟨cs,rfl,h⟩:=h;obtain⟨fn,op,t,n,v,args⟩:=a;obtain⟨c,rfl,a,acs,rfl,h1⟩:=h;exact⟨_,_,_,_,_,_,_,_,rfl,_,rfl,a,acs,rfl,h1⟩
theorem jo:(prog.info? 132).map (fun i=>(i.zero,i.size,i.bytes))=some (some (.agg #[U 0,U 0,eS,eS,U 0,U 0,eS,eL]),8,104):=acz
theorem P0 (pb g:Nat) (sz:Int) (read:List Tok->Res Pk) (l:List Tok) (w:World) (h:Psr w pb sz l) (hfn:∀args w,(callFunc g args).run prog w=.ok (.enter g args) w) (hr:∀l a r,read l=.ok a r->r.length<=l.length) (HR:Hid (∀l' w',Turn (·=pb) w w'->Psr w' pb sz l'->Calls prog g #[.pointer (O pb)] w' (Post pb sz (REl pkE w'.heap.size) (read l') w'))):Calls prog 189 #[.pointer (O pb),.func (.func g) #[.pointer (O pb)] #[]] w (Post pb sz (RLst pkE w.heap.size) (listR read l) w):=by
 have S0:=tm (PFr.start h);clear h;refine Bt (C:=fun y=>Calls prog 189 _ w (Post pb sz (RLst pkE w.heap.size) y w)) _ ?_;intro y HM0;unfold listR at HM0;go_enter func189,ntmps189;refine z13k4 ?_;intro _ _ _ _ a1 r1 v1 w1 h1 hv ht S1 HL1 HM1;obtain⟨x,x1,x2,x3,x4,x5,x6,x7,rfl,he⟩:=Vg hv;have HE:=tm he;have hs:=tm ht.size;clear he ht HM0 h1;go_wp2_with fail;have HLR:=tm (LRow.one (E:=pkE) (e:=132) (w:=w1) (E2 (B:=w.heap.size) HE.out (tu _)) hs.out);have SA:=tm (S1.out.laid (o:=.cells #[x,x1,x2,x3,x4,x5,x6,x7] 132));clear HE S1;refine Ce (fun W=>PFr pb sz w W [] r1/\LRow pkE 132 w.heap.size W [a1] (.slice (O w1.heap.size) 1 1)) ⟨SA.out,HLR.out⟩ ?_;clear SA HLR hs;refine z81 ?_;clear S0;intro wa SA HLR HF;go_loopw [5] (fun sv wr=>∃(acc:List Pk) (lr:List Tok),Hid (y=moreR read lr.length acc lr)/\Hid (acc.length+lr.length<=l.length+1)/\Hid (PFr pb sz w wr [] lr)/\Hid (LRow pkE 132 w.heap.size wr acc sv)) (fun _ wr=>psLeft pb wr)
 case atStart=>exact⟨[a1],r1,HM1.out,by show _<=_;have:=HL1.out;simp;omega,SA.out,HLR.out⟩
 case round=>
  clear HM1 HL1 SA HLR;obtain⟨acc,lr,HM,HL,S,HA⟩:=hrel;obtain⟨a0,cap,rfl⟩:=HA.out.slice;have hmeas:=Bf S.out.psr;have HMS:=tm hmeas;clear hmeas;go_wp2_with fail;refine PFr.takes (PFr.laid (S.out)) [44] (blk_at acx) acy ?_ ?_
  ·clear S;refine z1005k2 ?_;clear HM HA;intro _ _ r2 w2 S2 hlen HM2 HA2 a3 r3 v3 w3 h3 hv ht S3 HL3 HM3;obtain⟨x,x1,x2,x3,x4,x5,x6,x7,rfl,he⟩:=Vg hv;clear h3 HM2;refine z54 ?_;clear he ht HA2;intro HE acs HG HO HI;go_wp2_with(at_builtin;go_must (refine wpList_append_newq rfl _ _ 45 rfl 132 (.agg #[U 0,U 0,eS,eS,U 0,U 0,eS,eL]) 8 104 underlying45 jo rfl acy w.heap.size (.slice a0 acc.length cap) acc.length acs rfl HO.out #[x,x1,x2,x3,x4,x5,x6,x7] 1 w3.heap.size acx rfl rfl (by simpa using(pkE).ones HE.out) (by have h1:=HF.out;have h2:=HL.out;omega) (by have h1:=HF.out;have h2:=HL.out;simp[maxLen];omega) S3.out.size ?_));intro v4 w4 hown4 hg4 hw;have HA4:Hid (LRow pkE 132 w.heap.size w4 (acc++[a3]) v4):=LRow.add S2.out.size HG.out HO.out HI.out HE.out hown4 hg4 hw;exact L2
  ·clear S;refine z12 ?_;clear HM HA;intro w2 S2 HM2 HA2;refine ue (v:=.slice a0 acc.length cap) (by simp[results,results189,go_sem]) rfl ?_;exact m8
theorem Vh {B:Nat} {w:World} {a:Ex} {v:Value} (h:REl exE B w a v):∃x1 x2 x3 x4 x5 x6 x7,v=.agg #[x1,x2,x3,x4,x5,x6,x7]/\exE.In (B≤·) w a [x1,x2,x3,x4,x5,x6,x7]:=by
 obtain⟨cs,rfl,h⟩:=h;obtain⟨op,t,n,v,args⟩:=a;obtain⟨a,acs,rfl,h1⟩:=h;exact⟨_,_,_,_,_,_,_,rfl,a,acs,rfl,h1⟩
theorem Nx:(prog.info? 44).map (fun i=>(i.zero,i.size,i.bytes))=some (some (.agg #[U 0,eS,eS,U 0,U 0,eS,eL]),7,96):=acz
theorem Pz (pb g:Nat) (sz:Int) (read:List Tok->Res Ex) (l:List Tok) (w:World) (h:Psr w pb sz l) (hfn:∀args w,(callFunc g args).run prog w=.ok (.enter g args) w) (hr:∀l a r,read l=.ok a r->r.length<=l.length) (HR:Hid (∀l' w',Turn (·=pb) w w'->Psr w' pb sz l'->Calls prog g #[.pointer (O pb)] w' (Post pb sz (REl exE w'.heap.size) (read l') w'))):Calls prog 191 #[.pointer (O pb),.func (.func g) #[.pointer (O pb)] #[]] w (Post pb sz (RLst exE w.heap.size) (listR read l) w):=by
 have S0:=tm (PFr.start h);clear h;refine Bt (C:=fun y=>Calls prog 191 _ w (Post pb sz (RLst exE w.heap.size) y w)) _ ?_;intro y HM0;unfold listR at HM0;go_enter func191,ntmps191;refine z13k4 ?_;intro _ _ _ _ a1 r1 v1 w1 h1 hv ht S1 HL1 HM1;obtain⟨x,x1,x2,x3,x4,x5,x6,rfl,he⟩:=Vh hv;have HE:=tm he;have hs:=tm ht.size;clear he ht HM0 h1;go_wp2_with fail;have HLR:=tm (LRow.one (E:=exE) (e:=44) (w:=w1) (E2 (B:=w.heap.size) HE.out (tu _)) hs.out);have SA:=tm (S1.out.laid (o:=.cells #[x,x1,x2,x3,x4,x5,x6] 44));clear HE S1;refine Ce (fun W=>PFr pb sz w W [] r1/\LRow exE 44 w.heap.size W [a1] (.slice (O w1.heap.size) 1 1)) ⟨SA.out,HLR.out⟩ ?_;clear SA HLR hs;refine z81 ?_;clear S0;intro wa SA HLR HF;go_loopw [5] (fun sv wr=>∃(acc:List Ex) (lr:List Tok),Hid (y=moreR read lr.length acc lr)/\Hid (acc.length+lr.length<=l.length+1)/\Hid (PFr pb sz w wr [] lr)/\Hid (LRow exE 44 w.heap.size wr acc sv)) (fun _ wr=>psLeft pb wr)
 case atStart=>exact⟨[a1],r1,HM1.out,by show _<=_;have:=HL1.out;simp;omega,SA.out,HLR.out⟩
 case round=>
  clear HM1 HL1 SA HLR;obtain⟨acc,lr,HM,HL,S,HA⟩:=hrel;obtain⟨a0,cap,rfl⟩:=HA.out.slice;have hmeas:=Bf S.out.psr;have HMS:=tm hmeas;clear hmeas;go_wp2_with fail;refine PFr.takes (PFr.laid (S.out)) [44] (blk_at acx) acy ?_ ?_
  ·clear S;refine z1005k2 ?_;clear HM HA;intro _ _ r2 w2 S2 hlen HM2 HA2 a3 r3 v3 w3 h3 hv ht S3 HL3 HM3;obtain⟨x,x1,x2,x3,x4,x5,x6,rfl,he⟩:=Vh hv;clear h3 HM2;refine z54 ?_;clear he ht HA2;intro HE acs HG HO HI;go_wp2_with(at_builtin;go_must (refine wpList_append_newq rfl _ _ 40 rfl 44 (.agg #[U 0,eS,eS,U 0,U 0,eS,eL]) 7 96 underlying40 Nx rfl acy w.heap.size (.slice a0 acc.length cap) acc.length acs rfl HO.out #[x,x1,x2,x3,x4,x5,x6] 1 w3.heap.size acx rfl rfl (by simpa using(exE).ones HE.out) (by have h1:=HF.out;have h2:=HL.out;omega) (by have h1:=HF.out;have h2:=HL.out;simp[maxLen];omega) S3.out.size ?_));intro v4 w4 hown4 hg4 hw;have HA4:Hid (LRow exE 44 w.heap.size w4 (acc++[a3]) v4):=LRow.add S2.out.size HG.out HO.out HI.out HE.out hown4 hg4 hw;exact L2
  ·clear S;refine z12 ?_;clear HM HA;intro w2 S2 HM2 HA2;refine ue (v:=.slice a0 acc.length cap) (by simp[results,results191,go_sem]) rfl ?_;exact m8
theorem Pd {B:Nat} {w:World} {a:Srt} {v:Value} (h:REl srtE B w a v):v=.agg #[U a.place,.bool a.down]/\srtE.In (B≤·) w a [U a.place,.bool a.down]:=by
 obtain⟨cs,rfl,h⟩:=h;have h1:cs=[U a.place,.bool a.down]:=h;subst h1;exact⟨rfl,rfl⟩
theorem jm:(prog.info? 162).map (fun i=>(i.zero,i.size,i.bytes))=some (some (.agg #[U 0,.bool false]),2,16):=acz
theorem Py (pb g:Nat) (sz:Int) (read:List Tok->Res Srt) (l:List Tok) (w:World) (h:Psr w pb sz l) (hfn:∀args w,(callFunc g args).run prog w=.ok (.enter g args) w) (hr:∀l a r,read l=.ok a r->r.length<=l.length) (HR:Hid (∀l' w',Turn (·=pb) w w'->Psr w' pb sz l'->Calls prog g #[.pointer (O pb)] w' (Post pb sz (REl srtE w'.heap.size) (read l') w'))):Calls prog 193 #[.pointer (O pb),.func (.func g) #[.pointer (O pb)] #[]] w (Post pb sz (RLst srtE w.heap.size) (listR read l) w):=by
 have S0:=tm (PFr.start h);clear h;refine Bt (C:=fun y=>Calls prog 193 _ w (Post pb sz (RLst srtE w.heap.size) y w)) _ ?_;intro y HM0;unfold listR at HM0;go_enter func193,ntmps193;refine z13k4 ?_;intro _ _ _ _ a1 r1 v1 w1 h1 hv ht S1 HL1 HM1;obtain⟨rfl,he⟩:=Pd hv;have HE:=tm he;have hs:=tm ht.size;clear he ht HM0 h1;go_wp2_with fail;have HLR:=tm (LRow.one (E:=srtE) (e:=162) (w:=w1) (E2 (B:=w.heap.size) HE.out (tu _)) hs.out);have SA:=tm (S1.out.laid (o:=.cells #[U a1.place,.bool a1.down] 162));clear HE S1;refine Ce (fun W=>PFr pb sz w W [] r1/\LRow srtE 162 w.heap.size W [a1] (.slice (O w1.heap.size) 1 1)) ⟨SA.out,HLR.out⟩ ?_;clear SA HLR hs;refine z81 ?_;clear S0;intro wa SA HLR HF;go_loopw [5] (fun sv wr=>∃(acc:List Srt) (lr:List Tok),Hid (y=moreR read lr.length acc lr)/\Hid (acc.length+lr.length<=l.length+1)/\Hid (PFr pb sz w wr [] lr)/\Hid (LRow srtE 162 w.heap.size wr acc sv)) (fun _ wr=>psLeft pb wr)
 case atStart=>exact⟨[a1],r1,HM1.out,by show _<=_;have:=HL1.out;simp;omega,SA.out,HLR.out⟩
 case round=>
  clear HM1 HL1 SA HLR;obtain⟨acc,lr,HM,HL,S,HA⟩:=hrel;obtain⟨a0,cap,rfl⟩:=HA.out.slice;have hmeas:=Bf S.out.psr;have HMS:=tm hmeas;clear hmeas;go_wp2_with fail;refine PFr.takes (PFr.laid (S.out)) [44] (blk_at acx) acy ?_ ?_
  ·clear S;refine z1005k2 ?_;clear HM HA;intro _ _ r2 w2 S2 hlen HM2 HA2 a3 r3 v3 w3 h3 hv ht S3 HL3 HM3;obtain⟨rfl,he⟩:=Pd hv;clear h3 HM2;refine z54 ?_;clear he ht HA2;intro HE acs HG HO HI;go_wp2_with(at_builtin;go_must (refine wpList_append_newq rfl _ _ 46 rfl 162 (.agg #[U 0,.bool false]) 2 16 underlying46 jm rfl acy w.heap.size (.slice a0 acc.length cap) acc.length acs rfl HO.out #[U a3.place,.bool a3.down] 1 w3.heap.size acx rfl rfl (by simpa using(srtE).ones HE.out) (by have h1:=HF.out;have h2:=HL.out;omega) (by have h1:=HF.out;have h2:=HL.out;simp[maxLen];omega) S3.out.size ?_));intro v4 w4 hown4 hg4 hw;have HA4:Hid (LRow srtE 162 w.heap.size w4 (acc++[a3]) v4):=LRow.add S2.out.size HG.out HO.out HI.out HE.out hown4 hg4 hw;exact L2
  ·clear S;refine z12 ?_;clear HM HA;intro w2 S2 HM2 HA2;refine ue (v:=.slice a0 acc.length cap) (by simp[results,results193,go_sem]) rfl ?_;exact m8
end Go.Proofs.YtimoefagohifaaaGreatDoor
