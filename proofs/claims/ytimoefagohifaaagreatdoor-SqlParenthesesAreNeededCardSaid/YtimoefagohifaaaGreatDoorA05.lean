/- Laws that the last part needs. No condition. -/
import Derived.Test.YtimoefagohifaaaGreatDoorA04
set_option maxHeartbeats 4000000
set_option maxRecDepth 100000
namespace Go.Proofs.YtimoefagohifaaaGreatDoor
open Go.RowKit Go.Sort Tryz
theorem PFr.wants {β:Type} {pb:Nat} {sz:Int} {w0 w:World} {L:List Blk} {l:List Tok} {Rep2:World->β->Value->Prop} {y:Res β} {K:Ending->World->Prop} (S:PFr pb sz w0 w L l) (ws:List Bytes) {nb n cap:Nat} {cs:Array Value} {t:TypeId} (hs:w.heap[nb]?=some (.cells cs t (0,0))) (hcs:cs=(strVals ws).toArray) (ht:t≠114) (hn:n=ws.length) (hc:n<=cap) (hl:n<=1000000) (herr:∀p q,wantsR sz ws l=.err p q->y=.err p q) (hK:∀c w',Post pb sz Rep2 y w0 (.panicked c) w'->K (.panicked c) w') (hok:∀r w',wantsR sz ws l=.ok () r->Turn (·=pb) w w'->Hid (PFr pb sz w0 w' L r)->K (.returned (.tuple #[])) w'):Calls prog 124 #[.pointer (O pb),.slice (O nb) n cap] w K:=by
 subst hn hcs;refine S.post (V1 pb sz ws _ l w S.psr ⟨_,cap,rfl,hc,fun _=>⟨nb,0,rfl,?_,fun j u hu=>?_⟩⟩ hl) herr hK ?_
 ·rintro rfl;obtain⟨v,h,_⟩:=S.psr.blk;rw[h]at hs;simp only[uz,Obj.cells.injEq]at hs;exact ht hs.2.1.symm
 ·simp only[World.cell?,hs,xr];simpa using hu
 ·rintro⟨⟩ r v w' hx rfl ht' S';exact hok r w' hx ht' S'
theorem primary_any (pb:Nat) (sz:Int) (l:List Tok) (w:World) (h:Psr w pb sz l) (IH:∀l' w',l'.length<l.length->Psr w' pb sz l'->Calls prog 188 #[.pointer (O pb),U 0] w' (Post pb sz (RExF w'.heap.size) (exprR sz 0 l') w')):Calls prog 230 #[.pointer (O pb)] w (Post pb sz (RExF w.heap.size) (exprR sz 6 l) w):=by
 have S:=tm (PFr.start h);have IH:=tm IH;clear h;refine Bt (C:=fun y=>Calls prog 230 _ w (Post pb sz (RExF w.heap.size) y w)) _ ?_;intro y HM;rw[exprR_prim]at HM;go_enter func230,ntmps230;go_wp2_with fail;refine PFr.takes (PFr.laid (PFr.alloc (S.out))) [40] (blk_at acx) acy ?_ ?_
 ·intro r1 w1 hn _ S1;have hlen:=A5 hn;refine z128 ?_;clear hn;intro HM;go_wp2_with fail;refine PFr.post S1.out (IH.out r1 w1 acw S1.out.psr) (fun p q h=>by rw[HM.out,h];try rfl) (fun _ _ h=>⟨rfl,h⟩) ?_;intro a2 r2 v2 w2 h2 hv ht S2;refine z61 ?_;clear h2;intro HM;obtain⟨op,t,n,v,args⟩:=a2;obtain⟨ad,ac,rfl,hargs⟩:=Bm hv;have HA:=tm hargs;clear hv hargs IH;have hs:w.heap.size<=w1.heap.size:=S1.out.size;have hs2:w.heap.size<w1.heap.size:=S1.out.facts.1;have F:=S2.out.facts;refine z25 ?_;clear F;intro F;go_wp2_with fail;refine PFr.wants (PFr.laid (PFr.alloc (S2.out))) [[41]] (blk_at acx) rfl acy rfl acy acy (fun p q h=>by rw[HM.out,h];try rfl) (fun _ _ h=>⟨rfl,h⟩) ?_;intro r3 w3 h3 ht3 S3;replace HM:=HM.out;rw[h3]at HM;replace HM:=tm HM;have HA3:=tm (((HA.out.kept ((uj _ _).alloc (tu _) _)).kept ((uj _ _).alloc (tu _) _)).turned ht3 (fun b hb e=>by have:=S.out.lt;have h1:b=pb:=e;have h2:w1.heap.size<=b:=hb;omega));clear h3 HA F ht;have HQ:∀c,w1.heap.size<=c->c≠w.heap.size:=fun c h e=>by omega
  have F:=S3.out.facts;refine z25 ?_;clear F;intro F;go_wp2_with fail;refine ue (v:=.agg #[U op,.string (Y t),.string (Y n),U v.k,U v.n,.string v.s,.slice ad args.length ac]) (by simp[results,results230,go_sem,F]) rfl ?_;exact m0
 ·skip;intro w1 hn ht S;refine z128 ?_;clear hn;intro HM;clear IH;have hs:w.heap.size<=w1.heap.size:=S.out.size;have hlt:=S.out.psr.lt;refine z1076 ?_;intro F;by_cases hh:headIs 2 l=true
  ·obtain⟨t,q,rfl⟩:∃t q,l=t::q:=by
    cases l with
    | nil=>cases hh
    | cons t q=>exact⟨t,q,rfl⟩
   refine m6 ?_;intro b o cap H G t0;have hk:t.kind=2:=by simpa[headIs]using hh
   rw[hk]at t0;have hc:1<=cap:=by have:=H.cap1;omega
   replace HM:Hid (y=refR sz (t::q)):=by show _=_;rw[HM.out,if_pos hh]
   clear H hh;go_wp2_with fail;refine PFr.post S.out (Vd pb sz _ _ S.out.psr) (fun p q h=>by rw[HM.out,h];try rfl) (fun _ _ h=>⟨rfl,h⟩) ?_;intro a3 r3 v3 w3 h3 hv ht S;replace HM:=HM.out;rw[h3]at HM;refine qy ?_;clear HM;intro HM;clear h3;obtain⟨op,tt,n,v,args⟩:=a3;obtain⟨ad,ac,rfl,hargs⟩:=Bm hv;have HA:=tm hargs;have HQ:∀c,w1.heap.size<=c->c≠w.heap.size:=fun c h e=>by have:=F.1;omega
   clear hv hargs F G t0;refine z1003 ?_;intro F;refine ue (v:=.agg #[U op,.string (Y tt),.string (Y n),U v.k,U v.n,.string v.s,.slice ad args.length ac]) (by simp[results,results230,go_sem,F]) rfl ?_;exact PFr.done (PFr.set 0 (PFr.set 0 (PFr.set 0 (PFr.set 0 (PFr.set 0 (PFr.set 0 (PFr.set 0 (S.out) rfl) rfl) rfl) rfl) rfl) rfl) rfl) HM.out (rEx_mk (ExSl.mono (Q:=(w1.heap.size≤·)) (by(repeat(refine A2 ?_ HQ));exact HA.out) (fun b hb=>vj hs hb)))
  ·replace HM:Hid (y=(literalR sz l).map valEx):=by show _=_;rw[HM.out,if_neg hh]
   have HH:=tm hh;clear hh;have fin:∀K,(∀a r v w',literalR sz l=.ok a r->RVal w' a v->Turn (·=pb) w1 w'->Hid (PFr pb sz w w' [(w.heap.size,#[U 0,eS,eS,U 0,U 0,eS,eL],44)] r)->K (.returned v) w')->(∀c w',Post pb sz (RExF w.heap.size) y w (.panicked c) w'->K (.panicked c) w')->Calls prog 135 #[.pointer (O pb)] w1 K:=fun K h1 h2=>
    PFr.post S.out (Gr pb sz _ _ S.out.psr) (fun p q h=>by rw[HM.out,h];try rfl) h2 h1
   have FIN:=tm fin;clear fin
   cases l with
   | nil=>
    obtain⟨a,cap,h1⟩:=S.out.psr.nil;have G:=Al h1 [.slice a 0 cap,U sz] 0 (fun j=>acx);simp only[cellFacts,uo]at G;clear h1;go_wp2_with fail;refine FIN.out _ ?_ (fun _ _ h=>⟨rfl,h⟩);intro a3 r3 v3 w3 h3 hv ht S;replace HM:=HM.out;rw[h3]at HM;refine qy ?_;clear HM;intro HM;clear h3;obtain rfl:=hv;clear F G;exact ah8
   | cons t q=>
    refine m6 ?_;intro b o cap H G t0;have hk:(t.kind==2)=false:=by have:=HH.out;simpa[headIs]using this
    have hc:1<=cap:=by have:=H.cap1;omega
    clear H HH;generalize t.kind=tkk at *;go_wp2_with fail;refine FIN.out _ ?_ (fun _ _ h=>⟨rfl,h⟩);intro a3 r3 v3 w3 h3 hv ht S;replace HM:=HM.out;rw[h3]at HM;refine qy ?_;clear HM;intro HM;clear h3;obtain rfl:=hv;clear F G t0;exact ah8
theorem Psr.ops {w:World} {pb:Nat} {sz:Int} {l:List Tok} (h:Psr w pb sz l) (s:Bytes) (hs:s.length<=4000):∃mb,∀w',w.heap.size<=w'.heap.size->(∀k,k<pb->w'.heap[k]?=w.heap[k]?) ->
 w'.cell? ⟨0,0,none⟩=some (.map (some mb))/\(Instr.lookup 213 (.map (some mb)) (.string (Y s)) false).run prog w'=.ok (.agg #[U (opPair s).1,U (opPair s).2]) w'/\
  (Instr.lookup 213 (.map (some mb)) (.string (Y s)) true).run prog w'=.ok (.tuple #[.agg #[U (opPair s).1,U (opPair s).2],.bool (opOf s).isSome]) w':=by
 obtain⟨mb,es,clock,h1,h2,h3,h4⟩:=h.env.ops
 have hlo:=h.env.lo
 refine⟨mb,fun w' hsz hk=>?_⟩
 have hb:w'.heap[mb]?=some (.map es clock):=by rw[hk mb h1];exact h3
 have hl:s.length<=maxLen:=vj hs acy
 exact⟨by rw[aau (a:=⟨0,0,none⟩) (hk 0 acw)];exact h2,Xe hb h4 s hl,Nn hb h4 s hl⟩
theorem PFr.done2 {pb:Nat} {sz:Int} {w0 w:World} {L:List Blk} {l:List Tok} {α:Type} {Rep:World->α->Value->Prop} {y:Res α} {a:α} {v:Value} (S:PFr pb sz w0 w L l) (hy:y=.ok a l) (hv:PFr pb sz w0 w L l->Rep w a v):Post pb sz Rep y w0 (.returned v) w:=S.done hy (hv S)
theorem Psr.sees_len {w:World} {pb:Nat} {sz:Int} {l:List Tok} (h:Psr w pb sz l):(seesWord l).length<=4000:=by
 cases l with
 | nil=>simp[seesWord]
 | cons t r=>
  simp only[seesWord];split
  ·exact(h.fine t acx).2.2
  ·simp
theorem opPair_nil:opPair []=(0,0):=ac0
theorem ch:opOf []=none:=ac0
theorem C7 {l:List Tok} (h:seesWord l≠[]):tk (seesWord l) l=some l.tail:=by
 cases l with
 | nil=>exact absurd rfl h
 | cons t r=>
  simp only[seesWord]at h ⊢;by_cases hk:t.kind=1\/t.kind=5
  ·rw[if_pos hk];simp[tk,hk]
  ·rw[if_neg hk]at h;exact absurd rfl h
theorem PFr.sees {pb:Nat} {sz:Int} {w0 w:World} {L:List Blk} {l:List Tok} {K:Ending->World->Prop} (S:PFr pb sz w0 w L l) (hok:∀w' b,Below w.heap.size w w'->Hid (PFr pb sz w0 w' L l)->K (.returned (.tuple #[.string ⟨(seesWord l).toArray⟩,.bool b])) w'):Calls prog 184 #[.pointer (O pb),eL] w K:=by
 refine tp (Kq [] _ pb sz l w S.psr ⟨none,0,rfl,tu _,fun h=>absurd h acx⟩ acx) ?_;rintro e w' ⟨rfl,hb⟩;exact hok w' _ hb (S.kept hb)
theorem Ik {Q:Nat->Prop} {w:World} {e:Ex} {cs:List Value} {b:Nat} {t:TypeId} {fr:Nat×Nat} (h:ExIn Q w e cs) (hb:w.heap[b]?=some (.cells cs.toArray t fr)) (hQ:Q b):ExSl Q w (.slice (O b) 1 1) [e]:=
 Qt (l:=[e]) (ExsIn.one h) hb hQ
theorem Qs {Q:Nat->Prop} {w:World} {e d:Ex} {cs ds:List Value} {b:Nat} {t:TypeId} {fr:Nat×Nat} (h:ExIn Q w e cs) (k:ExIn Q w d ds) (hb:w.heap[b]?=some (.cells (cs++ds).toArray t fr)) (hQ:Q b):ExSl Q w (.slice (O b) 2 2) [e,d]:=
 Qt (l:=[e,d]) (ExsIn.append (ExsIn.one h) (ExsIn.one k)) hb hQ
theorem J2 (a b c d e f g:Value) (w:World):(Instr.buildSlice 40 1 #[(0,.agg #[a,b,c,d,e,f,g])]).run prog w=.ok (.slice (O w.heap.size) 1 1) (w.alloc (.cells #[a,b,c,d,e,f,g] 44)):=acz
theorem ij (a b c d e f g a' b' c' d' e' f' g':Value) (w:World):(Instr.buildSlice 40 2 #[(0,.agg #[a,b,c,d,e,f,g]),(1,.agg #[a',b',c',d',e',f',g'])]).run prog w=.ok (.slice (O w.heap.size) 2 2) (w.alloc (.cells #[a,b,c,d,e,f,g,a',b',c',d',e',f',g'] 44)):=acz
section
variable {ops:Array Oper} {rest:List Oper} {o:Oper} {a:Act} {w:World} {Q:Exit->Act->World->Prop}
def Held (p:Prop):Prop:=p
theorem hold {fn:Func} {R:Ending->World->Prop} (h:Held (bodyPost prog fn R .ret a w)):bodyPost prog fn R .ret a w:=h
theorem mn {t:TypeId} {x y:Operand} (_ho:o.op=.store t x y) (h:Held (wpList prog ops Q (o::rest) a w)):wpList prog ops Q (o::rest) a w:=h
theorem wpList_id (h:wpList prog ops Q (o::rest) a w):wpList prog ops Q (o::rest) a w:=h
theorem wpList_bs1 (hg:o.guard=none) (x:Operand) (ho:o.op=.buildSlice 40 1 #[(0,x)]) (c1 c2 c3 c4 c5 c6 c7:Value) (hx:a.eval x=.agg #[c1,c2,c3,c4,c5,c6,c7]) (h:wpList prog ops Q rest (a.put o.dst (.slice (O w.heap.size) 1 1)) (w.alloc (.cells #[c1,c2,c3,c4,c5,c6,c7] 44))):wpList prog ops Q (o::rest) a w:=by
 refine aa8 hg fun K hK=>?_;unfold Oper.wp execOp;simp only[ho,zz,yp,aad,hx,Sem.run_bind,J2,Result.andThen_ok,Sem.run_pure];exact hK _ _ h
theorem Kf (hg:o.guard=none) (x y:Operand) (ho:o.op=.buildSlice 40 2 #[(0,x),(1,y)]) (c1 c2 c3 c4 c5 c6 c7 d1 d2 d3 d4 d5 d6 d7:Value) (hx:a.eval x=.agg #[c1,c2,c3,c4,c5,c6,c7]) (hy:a.eval y=.agg #[d1,d2,d3,d4,d5,d6,d7]) (h:wpList prog ops Q rest (a.put o.dst (.slice (O w.heap.size) 2 2)) (w.alloc (.cells #[c1,c2,c3,c4,c5,c6,c7,d1,d2,d3,d4,d5,d6,d7] 44))):wpList prog ops Q (o::rest) a w:=by
 refine aa8 hg fun K hK=>?_;unfold Oper.wp execOp;simp only[ho,zz,yp,aad,hx,hy,Sem.run_bind,ij,Result.andThen_ok,Sem.run_pure];exact hK _ _ h
end
def ExprBelow (pb:Nat) (sz:Int) (n:Nat):Prop:=∀(lev:Nat) (l:List Tok) (w:World),lev<=6->exprFuel lev l<=n->Psr w pb sz l ->
 Calls prog 188 #[.pointer (O pb),U (lev:Int)] w (Post pb sz (RExF w.heap.size) (exprR sz lev l) w)
theorem X2 (pb:Nat) (sz:Int) (n:Nat) (IH:ExprBelow pb sz n) (l:List Tok) (hf:exprFuel 6 l<=n+1) (w:World) (h:Psr w pb sz l):Calls prog 188 #[.pointer (O pb),U 6] w (Post pb sz (RExF w.heap.size) (exprR sz 6 l) w):=by
 have S:=tm (PFr.start h);have IH:=tm IH;clear h;refine Bt (C:=fun y=>Calls prog 188 _ w (Post pb sz (RExF w.heap.size) y w)) _ ?_;intro y HM;go_enter func188,ntmps188;go_wp2_with fail;refine PFr.post (PFr.alloc (S.out)) (primary_any pb sz _ _ ((PFr.alloc (S.out))).psr (fun l' w' hl hp=>IH.out 0 l' w' acw (by unfold exprFuel at hf ⊢;omega) hp)) (fun p q h=>by rw[HM.out,h];try rfl) (fun _ _ h=>⟨rfl,h⟩) ?_;intro a r v1 w1 h1 hv ht S;refine z52 ?_;intro HM;clear h1;obtain⟨op,t,n,v,args⟩:=a;obtain⟨ad,ac,rfl,hargs⟩:=Bm hv;have HA:=tm hargs;have HQ:∀c,w.heap.size+1<=c->c≠w.heap.size:=fun c h e=>by omega
 clear hv hargs IH;rw[ug]at HA;refine z1003 ?_;intro F;refine ue (v:=.agg #[U op,.string (Y t),.string (Y n),U v.k,U v.n,.string v.s,.slice ad args.length ac]) (by simp[results,results188,go_sem,F]) rfl ?_;exact li
theorem dk (pb:Nat) (sz:Int) (n:Nat) (IH:ExprBelow pb sz n) (l:List Tok) (hf:exprFuel 2 l<=n+1) (w:World) (h:Psr w pb sz l):Calls prog 188 #[.pointer (O pb),U 2] w (Post pb sz (RExF w.heap.size) (exprR sz 2 l) w):=by
 have S:=tm (PFr.start h);have IH2:Hid (∀l' w',exprFuel 2 l'<=n->Psr w' pb sz l'->Calls prog 188 #[.pointer (O pb),U 2] w' (Post pb sz (RExF w'.heap.size) (exprR sz 2 l') w')):=fun l' w' h1 h2=>IH 2 l' w' acw h1 h2;have IH3:Hid (∀l' w',exprFuel 3 l'<=n->Psr w' pb sz l'->Calls prog 188 #[.pointer (O pb),U 3] w' (Post pb sz (RExF w'.heap.size) (exprR sz 3 l') w')):=fun l' w' h1 h2=>IH 3 l' w' acw h1 h2;clear h IH;refine Bt (C:=fun y=>Calls prog 188 _ w (Post pb sz (RExF w.heap.size) y w)) _ ?_;intro y HM;rw[exprR_not]at HM;go_enter func188,ntmps188;go_wp2_with fail;refine PFr.takes (PFr.laid (PFr.alloc (S.out))) [110,111,116] (blk_at acx) acy ?_ ?_
 ·intro r w1 hn _ S;have hlen:=A5 hn;refine z128 ?_;clear hn;intro HM;have hs:w.heap.size<w1.heap.size:=S.out.facts.1;go_wp2_with fail;refine PFr.post S.out (IH2.out r w1 (by unfold exprFuel at hf ⊢;omega) S.out.psr) (fun p q h=>by rw[HM.out,h];try rfl) (fun _ _ h=>⟨rfl,h⟩) ?_;intro a2 r v2 w2 h2 hv ht S;refine z61 ?_;clear h2;intro HM;obtain⟨op,t,nm,v,args⟩:=a2;obtain⟨ad,ac,rfl,hargs⟩:=Bm hv;have HA:=tm hargs;have hs2:w1.heap.size<=w2.heap.size:=ht.size;have HS:=tm (And.intro hs hs2);clear hv hargs IH2 IH3 hf hs hs2 hlen ht;refine z1076 ?_;intro F;go_wp2_with(first|(with_reducible (refine wpList_id ?_);refine wpList_bs1 rfl _ rfl _ _ _ _ _ _ _ rfl ?_)|(with_reducible (refine hold ?_)));obtain⟨hs,hs2⟩:=HS.out;have HQ:∀c,w.heap.size<c->c≠w.heap.size:=fun c h e=>by omega
  refine ue (v:=.agg #[U 14,eS,eS,U 0,U 0,eS,.slice (O w2.heap.size) 1 1]) (by simp[results,results188,go_sem,F]) rfl ?_;refine PFr.done (PFr.laid (PFr.set 0 (PFr.set 0 (PFr.set 0 (PFr.set 0 (PFr.set 0 (PFr.set 0 (PFr.set 0 (S.out) rfl) rfl) rfl) rfl) rfl) rfl) rfl)) HM.out (rEx_mk (ExSl.mono (Q:=(w.heap.size<·)) (Ik (Bc (a:=.slice ad args.length ac) ?_) (blk_at acx) (by show w.heap.size<w2.heap.size;omega)) (fun b hb=>yq hb)));refine A9 ?_;repeat(refine A2 ?_ HQ)
  exact HA.out.mono (fun b hb=>vw hs hb)
 ·skip;intro w1 hn ht S;refine z128 ?_;clear hn;intro HM;have hs:w.heap.size<w1.heap.size:=S.out.facts.1;go_wp2_with fail;refine PFr.post S.out (IH3.out l w1 (by unfold exprFuel at hf ⊢;omega) S.out.psr) (fun p q h=>by rw[HM.out,h];try rfl) (fun _ _ h=>⟨rfl,h⟩) ?_;intro a2 r v2 w2 h2 hv ht S;refine z61 ?_;clear h2;intro HM;obtain⟨op,t,nm,v,args⟩:=a2;obtain⟨ad,ac,rfl,hargs⟩:=Bm hv;have HA:=tm hargs;have HQ:∀c,w.heap.size<c->c≠w.heap.size:=fun c h e=>by omega
  clear hv hargs IH2 IH3 hf;refine z1003 ?_;intro F;refine z112 ?_;exact PFr.done (PFr.set 0 (PFr.set 0 (PFr.set 0 (PFr.set 0 (PFr.set 0 (PFr.set 0 (PFr.set 0 (S.out) rfl) rfl) rfl) rfl) rfl) rfl) rfl) HM.out (rEx_mk (ExSl.mono (Q:=(w.heap.size<·)) (by(repeat(refine A2 ?_ HQ));exact HA.out.mono (fun b hb=>vw hs hb)) (fun b hb=>yq hb)))
theorem Db {M:Nat->Prop} {R:PanicR} {P:Program} {Q:Exit->Act->World->Prop} {o:Oper} {a:Act} {w0 wc:World} {l:List Oper} {tail:List Oper} {k:Nat} {r:List (Nat×Bool)} (hk:l[k]?=some o) (hw:Region.wanted o (yielded l.toArray a.tmps)=true) (ty:TypeId) (x:Operand) (ho:o.op=.load ty x)
 (g:Nat) (hx:a.eval x=.pointer (O g)) (t:TypeId) (cs:Array Value) (fr:Nat×Nat) (d:TypeDesc) (hg:∀p:TurnW M w0,p.w.heap[g]?=some (.cells cs t fr))
 (hu:P.underlying ty=some d) (hd:(match d with|.struct _|.array _ _=>true|_=>false)=true) (hi:(P.info? ty).map (·.size)=some cs.size)
 (h:wpMP P l.toArray M w0 R Q tail r (a.put o.dst (.agg cs)) wc):wpMP P l.toArray M w0 R Q tail ((k,false)::r) a wc:=
 wpM_mildP hk (fun K hK=>by rw[if_pos hw];exact Gp ty x ho g hx t cs fr d hg hu hd hi (hK _ h))
theorem Fe (a b c d e f g:Value):(prog.info? 44).map (·.size)=some (#[a,b,c,d,e,f,g]:Array Value).size:=by
 have:(prog.info? 44).map (·.size)=some 7:=acz;rw[this];rfl
theorem Qp (a b:Int) (w:World):(Instr.field 215 (.agg #[U a,U b]) 0).run prog w=.ok (U a) w:=acz
theorem Mz (a b:Int) (w:World):(Instr.field 215 (.agg #[U a,U b]) 1).run prog w=.ok (U b) w:=acz
theorem Ei {Q:Nat->Prop} {w:World} {v:Value} {l:List Ex} {b:Nat} {cs:Array Value} (h:ExSl Q w v l) (hq:∀c,Q c->c≠b):ExSl Q (w.setRow b cs) v l:=
 h.turned (M:=(·=b)) ((Turn.refl _ w).setRow (.inl rfl)) hq
theorem K3 {s:Bytes} (h:(opPair s).2=3):s≠[]:=by
 rintro rfl;rw[opPair_nil]at h;exact absurd h acy
theorem expr_cmp (pb:Nat) (sz:Int) (n:Nat) (IH:ExprBelow pb sz n) (l:List Tok) (hf:exprFuel 3 l<=n+1) (w:World) (h:Psr w pb sz l):Calls prog 188 #[.pointer (O pb),U 3] w (Post pb sz (RExF w.heap.size) (exprR sz 3 l) w):=by
 have S:=tm (PFr.start h);have IH4:Hid (∀l' w',exprFuel 4 l'<=n->Psr w' pb sz l'->Calls prog 188 #[.pointer (O pb),U 4] w' (Post pb sz (RExF w'.heap.size) (exprR sz 4 l') w')):=fun l' w' h1 h2=>IH 4 l' w' acw h1 h2;clear h IH;refine Bt (C:=fun y=>Calls prog 188 _ w (Post pb sz (RExF w.heap.size) y w)) _ ?_;intro y HM;rw[exprR_cmp]at HM;have HF:=tm hf;clear hf;go_enter func188,ntmps188;go_wp2_with fail;refine PFr.post (PFr.alloc (S.out)) (IH4.out l _ (by have:=HF.out;unfold exprFuel at this ⊢;omega) ((PFr.alloc (S.out))).psr) (fun p q h=>by rw[HM.out,h];try rfl) (fun _ _ h=>⟨rfl,h⟩) ?_;intro e1 r1 v1 w1 h1 hv ht S1;have hlen:=Cn acw h1;replace HM:=HM.out;rw[h1]at HM;simp only[Res.bind]at HM;replace HM:=tm HM;clear h1;obtain⟨op,t,nm,v,args⟩:=e1;obtain⟨ad,ac,rfl,hargs⟩:=Bm hv;rw[ug]at hargs;have hs:w.heap.size<w1.heap.size:=S1.out.facts.1;have HA:Hid (ExSl (fun b=>w.heap.size<b/\b<w1.heap.size) w1 (.slice ad args.length ac) args):=by
  obtain⟨acs,⟨ad',cap,e,hc,k1⟩,k2⟩:=hargs;refine Bi (Q:=(w.heap.size+1≤·)) (fun b hb k=>⟨⟨k,hb⟩,rfl⟩) ⟨acs,⟨ad',cap,e,hc,k1⟩,k2⟩
 have HS:=tm hs;have HL:=tm hlen;clear hv hargs hlen hs ht;have F:=S1.out.facts;refine z25 ?_;clear F;intro F;go_wp2_with fail;refine PFr.sees (PFr.alloc (S1.out)) ?_;intro w2 bb hb2 S2;have HA2:=tm ((A9 (o:=.cells #[U op,.string (Y t),.string (Y nm),U v.k,U v.n,.string v.s,.slice ad args.length ac] 44) HA.out).kept hb2);obtain⟨mb,hops⟩:=S2.out.psr.ops (seesWord r1) S2.out.psr.sees_len;obtain⟨m,m1,_⟩:=hops w2 (tu _) (fun _ _=>rfl);have HOPS:=tm hops;have HNE:=tm (K3 (s:=seesWord r1));clear hops HA hb2 F;obtain⟨sw,hsw⟩:∃sw,seesWord r1=sw:=⟨_,rfl⟩;have HSW:=tm hsw;rw[hsw]at HM HNE HOPS m1 ⊢;obtain⟨pr,hpr⟩:∃pr,opPair sw=pr:=⟨_,rfl⟩;rw[hpr]at HM HNE HOPS m1;obtain⟨po,pl⟩:=pr;simp only at HM HNE HOPS m1;clear hsw hpr;have g:=fun w=>Qp po pl w;have g1:=fun w=>Mz po pl w;have F:=S2.out.facts;refine z25 ?_;clear F;intro F;by_cases h3:pl=3
 ·subst h3;replace HM:Hid (y=(exprR sz 4 r1.tail).map fun e2=>opEx po [.mk op t nm v args,e2]):=by show _=_;rw[HM.out,if_pos rfl]
  have hne:=HNE.out rfl;go_wp2_with fail;refine PFr.takes (PFr.laid (S2.out)) sw (blk_at acx) acy ?_ ?_
  ·intro r w3 hn ht S3;have hr:r=r1.tail:=by
    have:=C7 (l:=r1) (by rw[HSW.out];exact hne);exact pz
   subst hr;have HA3:=tm ((A9 HA2.out).turned ht (fun b hb e=>by have h1:=S.out.lt;have h2:b=pb:=e;have h3:=hb.1;omega));have y0:∀p:TurnW (·=pb) w3,p.w.cell? ⟨0,0,none⟩=some (.map (some mb))/\(Instr.lookup 213 (.map (some mb)) (.string (Y sw)) false).run prog p.w=.ok (.agg #[U po,U 3]) p.w:=fun p=>by
    have hb:∀k,k<pb->p.w.heap[k]?=w2.heap[k]?:=fun k hk=>by
     have h1:=S2.out.psr.lt;rw[p.h.block k (by have:=S3.out.psr.lt;omega) acw,ht.block k (by simp;omega) acw];exact xe _ _ _ acw
    exact ahb
   have y1:=fun p=>(y0 p).1;have y2:=fun p=>(y0 p).2;have HB:Hid (∀p:TurnW (·=pb) w3,p.w.heap[w1.heap.size]?=some (.cells #[U op,.string (Y t),.string (Y nm),U v.k,U v.n,.string v.s,.slice ad args.length ac] 44 (0,0))):=fun p=>Ck p (S3.out.blk 0 rfl) (by have h1:=S.out.lt;have h2:=HS.out;omega);have hlen2:r1.tail.length<=r1.length:=acx;clear hn ht HA2 HOPS HNE HSW m m1 F S2 y0;go_wp2_with fail;refine Av (·=pb) (fun c w'=>Post pb sz (RExF w.heap.size) y w (.panicked c) w') (fun _ _ _ hd h=>⟨hd,h⟩) 9 [(0,false),(1,false),(2,false),(3,false),(4,false),(5,false),(6,true),(7,true),(8,false)] acz acz ?_;refine adr ?_;refine Db rfl rfl 44 (.tmp 5) rfl w1.heap.size rfl 44 _ (0,0) _ HB.out underlying44 rfl (Fe _ _ _ _ _ _ _) ?_;refine adr ?_;refine acm rfl rfl ?_;intro w4 hb4 ht;have S4:=tm (S3.out.kept hb4);have HA4:=tm (HA3.out.kept hb4);have HT:=tm ht;clear hb4 ht y1 y2 HB HA3 S3;go_wp2_with fail;refine PFr.post S4.out (IH4.out r1.tail w4 (by have h1:=HF.out;have h2:=HL.out;unfold exprFuel at h1 ⊢;omega) S4.out.psr) (fun p q h=>by rw[HM.out,h];try rfl) (fun _ _ h=>h) ?_;intro a5 r v5 w5 h5 hv ht S5;replace HM:=HM.out;rw[h5]at HM;refine qy ?_;clear HM;intro HM;clear h5;obtain⟨op2,t2,nm2,vv,args2⟩:=a5;obtain⟨ad2,ac2,rfl,hargs2⟩:=Bm hv;have HA5:=tm (HA4.out.turned ht (fun b hb e=>by have h1:=S.out.lt;have h2:b=pb:=e;have h3:=hb.1;omega));have hs:w1.heap.size<w4.heap.size:=S4.out.facts.1
   have HB5:Hid (ExSl (w.heap.size<·) w5 (.slice ad2 args2.length ac2) args2):=hargs2.mono (fun b hb=>by have:=HS.out;have hb':w4.heap.size<=b:=hb;omega);replace HT:=tm (HT.out.trans ht (fun _ _ h=>h));clear hv hargs2 ht HA4 S4 hs;go_wp2_with fail;refine⟨HT.out,?_⟩;refine acm rfl rfl ?_;intro w6 hb6 ht;have S:=tm (PFr.alloc (cs:=#[U op,.string (Y t),.string (Y nm),U v.k,U v.n,.string v.s,.slice ad args.length ac,U op2,.string (Y t2),.string (Y nm2),U vv.k,U vv.n,.string vv.s,.slice ad2 args2.length ac2]) (t:=44) (S5.out.kept hb6));refine z67 ?_;intro HA6 HB6;have HG:Hid (w.heap.size<w6.heap.size):=vw HS.out (vj (yq S5.out.facts.1) hb6.size);clear hb6 HA5 HB5 S5 HT;refine Kf rfl _ _ rfl _ _ _ _ _ _ _ _ _ _ _ _ _ _ rfl rfl ?_;refine⟨ht.step ((uj _ _).alloc (tu _) _),?_⟩;clear ht;refine adr ?_;refine B8 ?_;intro w7 hb7 _;replace S:=tm (S.out.kept hb7);have HA7:=tm (HA6.out.kept hb7);have HB7:=tm (HB6.out.kept hb7);clear hb7 HA6 HB6;refine z1076 ?_;intro F;refine z279 ?_;refine z1203 ?_;have HQ:∀c,w.heap.size<c->c≠w.heap.size:=fun c h e=>by omega
   refine ue (v:=.agg #[U po,eS,eS,U 0,U 0,eS,.slice (O w6.heap.size) 2 2]) (by simp[results,results188,go_sem,F]) rfl ?_;refine PFr.done2 (PFr.set 2 (PFr.set 2 (PFr.set 2 (PFr.set 2 (PFr.set 2 (PFr.set 2 (PFr.set 2 (S.out) rfl) rfl) rfl) rfl) rfl) rfl) rfl) HM.out (fun SF=>rEx_mk (ExSl.mono (Q:=(w.heap.size<·)) (Qs (Bc (a:=.slice ad args.length ac) ?_) (Bc (a:=.slice ad2 args2.length ac2) ?_) (SF.blk 0 rfl) HG.out) (fun b hb=>yq hb)))
   ·repeat(refine A2 ?_ HQ)
    exact HA7.out.mono (fun b hb=>hb.1)
   ·repeat(refine A2 ?_ HQ)
    exact HB7.out
  ·intro w3 hn _ _;have:=C7 (l:=r1) (by rw[HSW.out];exact hne);rw[HSW.out,hn]at this
   cases this
 ·replace HM:Hid (y=isNullR sz (.mk op t nm v args) r1):=by show _=_;rw[HM.out,if_neg h3]
  have k3:(pl==3)=false:=by simpa using h3
  have HGS:=tm (show w1.heap.size<w2.heap.size from F.1);unfold isNullR at HM;clear HOPS HNE HSW;go_wp2_with fail;refine PFr.takes (PFr.laid (S2.out)) [105,115] (blk_at acx) acy ?_ ?_
  ·skip;intro r w3 hn ht S3;refine z128 ?_;clear hn;intro HM;have HA3:=tm ((A9 HA2.out).turned ht (fun b hb e=>by have h1:=S.out.lt;have h2:b=pb:=e;have h3:=hb.1;omega));clear F HA2 ht m m1 g g1 k3 S2 HGS;go_wp2_with fail;refine PFr.takes (PFr.laid (S3.out)) [110,111,116] (blk_at acx) acy ?_ ?_
   ·skip;intro r w4 hn ht S4;refine z128 ?_;clear hn;intro HM;have HA4:=tm ((A9 HA3.out).turned ht (fun b hb e=>by have h1:=S.out.lt;have h2:b=pb:=e;have h3:=hb.1;omega));clear HA3 ht S3;refine z10k2 ?_;clear HA4 S4;intro _ _ r w5 HM HQ HQ1 HG5 w6 HA6 S F HG6;go_wp2_with(first|(with_reducible (refine wpList_id ?_);refine wpList_bs1 rfl _ rfl _ _ _ _ _ _ _ rfl ?_)|(with_reducible (refine wpList_id ?_);refine mn rfl ?_)|(with_reducible (refine hold ?_)));have Sa:=tm (PFr.alloc S.out (cs:=#[U 15,eS,eS,U 0,U 0,eS,.slice (O w5.heap.size) 1 1]) (t:=44));have HAa:=tm (A9 (o:=.cells #[U 15,eS,eS,U 0,U 0,eS,.slice (O w5.heap.size) 1 1] 44) HA6.out);refine ur rfl 44 (.tmp 5) (.tmp 68) rfl w1.heap.size _ rfl rfl 44 _ (Sa.out.blk 2 rfl) (Fe _ _ _ _ _ _ _) rfl (by simp[Value.oneCell']) ?_;refine Hh (fun W=>PFr pb sz w W _ _/\ExSl _ W _ _) ⟨PFr.row 2 _ Sa.out rfl,Ei HAa.out HQ1.out⟩ ?_;clear S;rintro w7 ⟨S,HA1⟩;replace S:=tm S;have HA7:=tm HA1;clear HA1 F HA6 Sa HAa;simp only[ub,ui]at S;refine z1076 ?_;intro F;refine z1203 ?_;refine ue (v:=.agg #[U 14,eS,eS,U 0,U 0,eS,.slice (O w6.heap.size) 1 1]) (by simp[results,results188,go_sem,F]) rfl ?_
    refine PFr.done2 (PFr.set 3 (PFr.set 3 (PFr.set 3 (PFr.set 3 (PFr.set 3 (PFr.set 3 (PFr.set 3 (S.out) rfl) rfl) rfl) rfl) rfl) rfl) rfl) HM.out (fun SF=>rEx_mk (ExSl.mono (Q:=(w.heap.size<·)) (Ik (Bc (Ik (Bc (a:=.slice ad args.length ac) ?_) (SF.blk 1 rfl) ?_)) (SF.blk 0 rfl) ?_) (fun b hb=>yq hb)))
    ·refine ExSl.mono (Q:=fun b=>w.heap.size<b/\b<w1.heap.size) ?_ (fun b hb=>hb.1);repeat(refine A2 ?_ HQ.out)
     exact HA7.out
    ·exact abl HS.out HG5.out
    ·exact abl HS.out HG6.out
   ·skip;intro w4 hn ht S4;refine z128 ?_;clear hn;intro HM;have HA4:=tm ((A9 HA3.out).turned ht (fun b hb e=>by have h1:=S.out.lt;have h2:b=pb:=e;have h3:=hb.1;omega));clear HA3 ht S3;refine z10k2 ?_;clear HA4 S4;intro _ _ r w5 HM HQ HQ1 HG5 w6 HA6 S F HG6;refine z1203 ?_;refine ue (v:=.agg #[U 15,eS,eS,U 0,U 0,eS,.slice (O w5.heap.size) 1 1]) (by simp[results,results188,go_sem,F]) rfl ?_;refine PFr.done2 (PFr.set 2 (PFr.set 2 (PFr.set 2 (PFr.set 2 (PFr.set 2 (PFr.set 2 (PFr.set 2 (S.out) rfl) rfl) rfl) rfl) rfl) rfl) rfl) HM.out (fun SF=>rEx_mk (ExSl.mono (Q:=(w.heap.size<·)) (Ik (Bc (a:=.slice ad args.length ac) ?_) (SF.blk 0 rfl) ?_) (fun b hb=>yq hb)))
    ·refine ExSl.mono (Q:=fun b=>w.heap.size<b/\b<w1.heap.size) ?_ (fun b hb=>hb.1);repeat(refine A2 ?_ HQ.out)
     exact HA6.out
    ·exact abl HS.out HG5.out
  ·skip;intro w3 hn ht S3;refine z128 ?_;clear hn;intro HM;have HA3:=tm ((A9 HA2.out).turned ht (fun b hb e=>by have h1:=S.out.lt;have h2:b=pb:=e;have h3:=hb.1;omega));clear F HA2 ht m m1 g g1 k3 S2 HGS;have F:=S3.out.facts;refine z25 ?_;clear F;intro F;refine z1203 ?_;have hs:=HS.out;have HQ:∀c,(w.heap.size<c/\c<w1.heap.size)->c≠w.heap.size:=fun c h e=>by omega
   refine z112 ?_;exact PFr.done (PFr.set 1 (PFr.set 1 (PFr.set 1 (PFr.set 1 (PFr.set 1 (PFr.set 1 (PFr.set 1 (S3.out) rfl) rfl) rfl) rfl) rfl) rfl) rfl) HM.out (rEx_mk (ExSl.mono (Q:=fun b=>w.heap.size<b/\b<w1.heap.size) (by(repeat(refine A2 ?_ HQ));exact HA3.out) (fun b hb=>yq hb.1)))
def psLeft (pb:Nat) (w:World):Nat:=match w.heap[pb]? with
 | some (.cells cs _ _)=>(match (cs[0]?:Option Value)with
  | some (Value.slice _ n _)=>n
  | _=>0)
 | _=>0
theorem Bf {w:World} {pb:Nat} {sz:Int} {l:List Tok} (h:Psr w pb sz l):psLeft pb w=l.length:=by
 obtain⟨v,h1,a,cap,rfl,_⟩:=h.blk;unfold psLeft;rw[h1];simp
theorem PFr.sub {pb:Nat} {sz:Int} {w0 w:World} {L L':List Blk} {l:List Tok} (h:PFr pb sz w0 w L l) (hs:L'.Sublist L):PFr pb sz w0 w L' l:=
 ⟨h.lt,⟨h.st.turn,fun x hx=>h.st.own x (hs.subset hx),h.st.apart.sublist (hs.map _)⟩,fun x hx=>h.own x (hs.subset hx),h.psr⟩
theorem T8 (pb:Nat) (sz:Int) (n:Nat) (IH:ExprBelow pb sz n) (lev:Nat) (h6:lev<6) (h2:lev≠2) (h3:lev≠3) (l:List Tok) (hf:exprFuel lev l<=n+1) (w:World) (h:Psr w pb sz l):Calls prog 188 #[.pointer (O pb),U (lev:Int)] w (Post pb sz (RExF w.heap.size) (exprR sz lev l) w):=by
 have S0:=tm (PFr.start h);have IHn:Hid (∀l' w',exprFuel (lev+1) l'<=n->Psr w' pb sz l'->Calls prog 188 #[.pointer (O pb),U ((lev:Int)+1)] w' (Post pb sz (RExF w'.heap.size) (exprR sz (lev+1) l') w')):=fun l' w' h1 h2=>by
  have:=IH (lev+1) l' w' acw h1 h2;rw[Int.natCast_add]at this;exact this
 clear h IH;refine Bt (C:=fun y=>Calls prog 188 _ w (Post pb sz (RExF w.heap.size) y w)) _ ?_;intro y HM0;rw[exprR_chain sz lev l h6 h2 h3]at HM0;have HF:=tm hf;have H:=tm h6;have k2:((lev:Int)==2)=false:=by simp;omega
 have k3:((lev:Int)==3)=false:=by simp;omega
 have k6:((lev:Int)==6)=false:=by simp;omega
 have hw:wrap64 ((lev:Int)+1)=(lev:Int)+1:=IntWalk.wrap64_in _ ⟨by omega,by omega⟩;clear hf h2 h3;go_enter func188,ntmps188;go_wp2_with fail;refine PFr.post (PFr.alloc (S0.out)) (IHn.out l _ (by have h1:=HF.out;have h2:=H.out;unfold exprFuel at h1 ⊢;omega) ((PFr.alloc (S0.out))).psr) (fun p q h=>by rw[HM0.out,h];try rfl) (fun _ _ h=>⟨rfl,h⟩) ?_;intro e1 r v1 w1 h1 hv ht S1;have hlen:=Cn (by have:=H.out;omega) h1;have HM1:=HM0.out;rw[h1]at HM1;simp only[Res.bind]at HM1;replace HM1:=tm HM1;clear HM0 h1;obtain⟨op,t,nm,v,args⟩:=e1;obtain⟨ad,ac,rfl,hargs⟩:=Bm hv;rw[ug]at hargs;have hs:w.heap.size<w1.heap.size:=S1.out.facts.1;have HA:Hid (ExSl (fun b=>w.heap.size<b/\b≠w1.heap.size) w1 (.slice ad args.length ac) args):=by
  refine Bi (Q:=(w.heap.size+1≤·)) (fun b hb k=>⟨⟨k,Nat.ne_of_lt hb⟩,rfl⟩) hargs
 have HS:=tm hs;have HL:=tm hlen;clear hv hargs hlen hs ht;have F1:=fx_ S1.out.facts;go_wp2_with fail;have SA:=tm (PFr.alloc S1.out (cs:=#[U op,.string (Y t),.string (Y nm),U v.k,U v.n,.string v.s,.slice ad args.length ac]) (t:=44));have HAA:=tm (A9 (o:=.cells #[U op,.string (Y t),.string (Y nm),U v.k,U v.n,.string v.s,.slice ad args.length ac] 44) HA.out);clear F1 S1 HA;go_loopw [] (fun wr=>∃(op:Int) (t nm:Bytes) (v:V) (args:List Ex) (ad:Option Addr) (ac:Nat) (lr:List Tok),Hid (y=chainR sz lev (.mk op t nm v args) lr)/\Hid (lr.length+1<=l.length)/\
  Hid (PFr pb sz w wr [(w1.heap.size,#[U op,.string (Y t),.string (Y nm),U v.k,U v.n,.string v.s,.slice ad args.length ac],44),(w.heap.size,#[U 0,eS,eS,U 0,U 0,eS,eL],44)] lr)/\
  Hid (ExSl (fun b=>w.heap.size<b/\b≠w1.heap.size) wr (.slice ad args.length ac) args)) (fun wr=>psLeft pb wr)
 case atStart=>exact⟨op,t,nm,v,args,ad,ac,r,HM1.out,HL.out,SA.out,HAA.out⟩
 case round=>
  clear HM1 HL SA HAA;obtain⟨op,t,nm,v,args,ad,ac,lr,HM,HL,S,HA⟩:=hrel;have F:=fx_ S.out.facts;go_wp2_with fail;refine PFr.sees S.out ?_;intro w2 bb hb2 S2;have HA2:=tm (HA.out.kept hb2);obtain⟨mb,hops⟩:=S2.out.psr.ops (seesWord lr) S2.out.psr.sees_len;obtain⟨m,_,m1⟩:=hops w2 (tu _) (fun _ _=>rfl);have hst:y=_:=HM.out.trans (I1 sz lev _ lr H.out);have hmeas:=Bf S.out.psr;have HMS:=tm hmeas;have HNE:Hid ((opOf (seesWord lr)).isSome=true->seesWord lr≠[]):=fun h e=>by rw[e,ch]at h;cases h
  clear hops hb2 F S HA HM hmeas;unfold opPair at m1;obtain⟨sw,hsw⟩:∃sw,seesWord lr=sw:=⟨_,rfl⟩;have HSW:=tm hsw;rw[hsw]at hst HNE m1 ⊢;clear hsw;have F:=fx_ S2.out.facts;have fin:Hid (y=.ok (.mk op t nm v args) lr)->∀W,Hid (PFr pb sz w W [(w1.heap.size,#[U op,.string (Y t),.string (Y nm),U v.k,U v.n,.string v.s,.slice ad args.length ac],44),(w.heap.size,#[U 0,eS,eS,U 0,U 0,eS,eL],44)] lr)->Hid (ExSl (fun b=>w.heap.size<b/\b≠w1.heap.size) W (.slice ad args.length ac) args)->True:=fun _ _ _ _=>trivial;clear fin
  cases hop:opOf sw with
  | none=>
   rw[hop]at hst m1;simp only[Option.getD_none,abw]at hst m1;have HM2:=tm hst;exact z45
  | some pr=>
   obtain⟨po,lv⟩:=pr;rw[hop]at hst m1;simp only[zy,Option.isSome_some]at hst m1;by_cases hlv:lv=(lev:Int)
   ·subst hlv;have HM2:Hid (y=(exprR sz (lev+1) lr.tail).bind fun e2 l2=>chainR sz lev (opEx po [.mk op t nm v args,e2]) l2):=by show _=_;rw[hst];simp only[ne_eq,aag,wy]
    have hne:=HNE.out (by rw[hop];rfl);have kl:((lev:Int) != (lev:Int))=false:=acx;have HSZ:=tm F.1;clear hst HNE hop;go_wp2_with fail;refine PFr.takes (PFr.laid (PFr.alloc (S2.out))) sw (blk_at acx) acy ?_ ?_
    ·intro r w3 hn ht S3;have hr:r=lr.tail:=by
      have:=C7 (l:=lr) (by rw[HSW.out];exact hne);exact pz
     subst hr;have hlr:lr≠[]:=by rintro rfl;exact hne (HSW.out▸rfl)
     have hlen2:lr.tail.length+1=lr.length:=by
      cases lr with
      | nil=>exact absurd rfl hlr
      | cons x xs=>simp
     have HA3:=tm ((A9 (A9 HA2.out)).turned ht (fun b hb e=>by have h1:=S0.out.lt;have h2:b=pb:=e;have h3:=hb.1;omega));have hx:w.heap.size<w2.heap.size:=abl HS.out HSZ.out;have HB1:∀p:TurnW (·=pb) w3,p.w.cell? ⟨w2.heap.size,0,none⟩=some (U po):=fun p=>Bq p (S3.out.facts.2.1.1.1) (by have h1:=S0.out.lt;omega);have HB:Hid (∀p:TurnW (·=pb) w3,p.w.heap[w1.heap.size]?=some (.cells #[U op,.string (Y t),.string (Y nm),U v.k,U v.n,.string v.s,.slice ad args.length ac] 44 (0,0))):=fun p=>Ck p (S3.out.blk 1 rfl) (by have h1:=S0.out.lt;have h2:=HS.out;omega);clear hn ht HA2 HSW m m1 F S2 hne hlr;go_wp2_with fail;refine Av (·=pb) (fun c w'=>Post pb sz (RExF w.heap.size) y w (.panicked c) w') (fun _ _ _ hd h=>⟨hd,h⟩) 9 [(0,false),(1,false),(2,false),(3,false),(4,false),(5,false),(6,true),(7,true),(8,false)] acz acz ?_;refine adr ?_;refine Db rfl rfl 44 (.tmp 9) rfl w1.heap.size rfl 44 _ (0,0) _ HB.out underlying44 rfl (Fe _ _ _ _ _ _ _) ?_;refine adr ?_;refine acm rfl rfl ?_;intro w4 hb4 ht;have S4:=tm (S3.out.kept hb4);have HA4:=tm (HA3.out.kept hb4);have HT:=tm ht;have HX:=tm hx;clear hb4 ht HB1 HB HA3 S3 hx;go_wp2_with fail;refine PFr.post S4.out (IHn.out lr.tail w4 (by have h1:=HF.out;have h2:=HL.out;have h3:=H.out;unfold exprFuel at h1 ⊢;omega) S4.out.psr) (fun p q h=>by rw[HM2.out,h];try rfl) (fun _ _ h=>h) ?_;intro a r v5 w5 h5 hv ht S5;have hlen5:=Cn (by have:=H.out;omega) h5;have HM5:=HM2.out;rw[h5]at HM5;simp only[Res.bind]at HM5
     replace HM5:=tm HM5;clear HM2 h5;obtain⟨op2,t2,nm2,vv,args2⟩:=a;obtain⟨ad2,ac2,rfl,hargs2⟩:=Bm hv;have HA5:=tm (HA4.out.turned ht (fun b hb e=>by have h1:=S0.out.lt;have h2:b=pb:=e;have h3:=hb.1;omega));have hs:w2.heap.size<w4.heap.size:=S4.out.facts.1;have HB5:Hid (ExSl (fun b=>w.heap.size<b/\b≠w1.heap.size) w5 (.slice ad2 args2.length ac2) args2):=hargs2.mono (fun b hb=>by have h1:=HS.out;have h2:=HSZ.out;have hb':w4.heap.size<=b:=hb;exact⟨by omega,by omega⟩);replace HT:=tm (HT.out.trans ht (fun _ _ h=>h));clear hv hargs2 ht HA4 S4 hs;go_wp2_with fail;refine⟨HT.out,?_⟩;refine acm rfl rfl ?_;intro w6 hb6 ht;have S6:=tm (PFr.alloc (cs:=#[U op,.string (Y t),.string (Y nm),U v.k,U v.n,.string v.s,.slice ad args.length ac,U op2,.string (Y t2),.string (Y nm2),U vv.k,U vv.n,.string vv.s,.slice ad2 args2.length ac2]) (t:=44) (S5.out.kept hb6));refine z67 ?_;intro HA6 HB6;have HG:Hid (w2.heap.size<w6.heap.size):=vw S5.out.facts.1 hb6.size;clear hb6 HA5 HB5 S5 HT;refine Kf rfl _ _ rfl _ _ _ _ _ _ _ _ _ _ _ _ _ _ rfl rfl ?_;refine⟨ht.step ((uj _ _).alloc (tu _) _),?_⟩;clear ht;refine adr ?_;refine B8 ?_;intro w7 hb7 _;have S7:=tm (S6.out.kept hb7);have HA7:=tm (HA6.out.kept hb7);have HB7:=tm (HB6.out.kept hb7);have HQ1:Hid (∀c,(w.heap.size<c/\c≠w1.heap.size)->c≠w1.heap.size):=fun c h=>h.2;clear hb7 HA6 HB6 S6;refine z279 ?_
     refine ur rfl 44 (.tmp 9) (.tmp 110) rfl w1.heap.size _ rfl rfl 44 _ (S7.out.blk 2 rfl) (Fe _ _ _ _ _ _ _) rfl (by simp[Value.oneCell']) ?_;refine Hh (fun W=>PFr pb sz w W _ _/\ExSl _ W _ _/\ExSl _ W _ _) ⟨PFr.row 2 _ S7.out rfl,Ei HA7.out HQ1.out,Ei HB7.out HQ1.out⟩ ?_;rintro w8 ⟨S9,HA1,HB2⟩;dsimp only[Act.put];have S8:=tm S9;have HA8:=tm HA1;have HB8:=tm HB2;clear S9 HA1 HB2 S7 HA7 HB7;simp only[ub,ui]at S8;go_wp2_with fail;go_roundw
     case rel=>
      refine⟨po,[],[],V.null,[.mk op t nm v args,.mk op2 t2 nm2 vv args2],some ⟨w6.heap.size,0,none⟩,2,r,HM5.out,?_,S8.out.sub (List.Sublist.cons _ (List.Sublist.cons _ (List.Sublist.refl _))),?_⟩
      ·have h1:=HL.out;show r.length+1<=l.length;omega
      ·exact Qs (Bc HA8.out) (Bc HB8.out) (S8.out.blk 0 rfl) (by have h1:=HG.out;have h2:=HS.out;have h3:=HSZ.out;exact⟨by omega,by omega⟩)
     case measure=>
      have h1:=HMS.out;rw[Bf S8.out.psr,h1];omega
    ·intro w3 hn _ _;have:=C7 (l:=lr) (by rw[HSW.out];exact hne);rw[HSW.out,hn]at this
     cases this
   ·have HM2:Hid (y=.ok (.mk op t nm v args) lr):=by show _=_;rw[hst];simp only[ne_eq,hlv,abg,if_true]
    have kl:(lv != (lev:Int))=true:=by simpa using hlv
    exact z45
theorem Lf (pb:Nat) (sz:Int):∀n,ExprBelow pb sz n
 | 0=>fun lev l w h1 h2 _=>by unfold exprFuel at h2;omega
 | n+1=>fun lev l w h1 h2 h=>by
  have ih:=Lf pb sz n;by_cases e2:lev=2
  ·subst e2;exact dk pb sz n ih l h2 w h
  ·by_cases e3:lev=3
   ·subst e3;exact expr_cmp pb sz n ih l h2 w h
   ·by_cases e6:lev=6
    ·subst e6;exact X2 pb sz n ih l h2 w h
    ·exact T8 pb sz n ih lev acw e2 e3 l h2 w h
theorem dl (pb:Nat) (sz:Int) (lev:Nat) (l:List Tok) (w:World) (hl:lev<=6) (h:Psr w pb sz l):
 Calls prog 188 #[.pointer (O pb),U (lev:Int)] w (Post pb sz (RExF w.heap.size) (exprR sz lev l) w):=Lf pb sz _ lev l w hl (tu _) h
end Go.Proofs.YtimoefagohifaaaGreatDoor
