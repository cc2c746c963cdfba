/- Part 5; the last part says what is proved. No condition. -/
import Derived.Test.YtjmmbebkbkgefaaGreatDoorB04
set_option linter.unusedVariables false
set_option linter.unusedSimpArgs false
set_option maxHeartbeats 4000000
set_option maxRecDepth 100000
namespace Go.Proofs.YtjmmbebkbkgefaaGreatDoor
open Go.RowKit Go.Sort Tryz
theorem PFr.wants {β:Type} {pb:Nat} {sz:Int} {w0 w:World} {L:List Blk} {l:List Tok} {Rep2:World->β->Value->Prop} {y:Res β} {K:Ending->World->Prop} (S:PFr pb sz w0 w L l) (ws:List Bytes) {nb n cap:Nat} {cs:Array Value} {t:TypeId}
 (hs:w.heap[nb]?=some (.cells cs t (0,0))) (hcs:cs=(strVals ws).toArray) (ht:t≠115) (hn:n=ws.length) (hc:n<=cap) (hl:n<=1000000) (herr:∀p q,wantsR sz ws l=.err p q->y=.err p q) (hK:∀c w',Post pb sz Rep2 y w0 (.panicked c) w'->K (.panicked c) w')
 (hok:∀r w',wantsR sz ws l=.ok () r->Turn (·=pb) w w'->Hid (PFr pb sz w0 w' L r)->K (.returned (.tuple #[])) w'):Calls prog 111 #[.pointer (some ⟨pb,0,none⟩),.slice (some ⟨nb,0,none⟩) n cap] w K:=by
 subst hn hcs
 refine S.post (Tq pb sz ws _ l w S.psr ⟨_,cap,rfl,hc,fun _=>⟨nb,0,rfl,?_,fun j u hu=>?_⟩⟩ hl) herr hK ?_
 ·rintro rfl;obtain⟨v,h1,_⟩:=S.psr.blk;rw[h1]at hs;simp only[Option.some.injEq,Obj.cells.injEq]at hs;exact ht hs.2.1.symm
 ·simp only[World.cell?,hs,Nat.zero_add];simpa using hu
 ·rintro⟨⟩ r v w' hx rfl ht' S';exact hok r w' hx ht' S'
theorem primary_any (pb:Nat) (sz:Int) (l:List Tok) (w:World) (h:Psr w pb sz l)
 (IH:∀l' w',l'.length<l.length->Psr w' pb sz l'->Calls prog 180 #[.pointer (some ⟨pb,0,none⟩),.int .i64 0] w' (Post pb sz (RExF w'.heap.size) (exprR sz 0 l') w')):
 Calls prog 213 #[.pointer (some ⟨pb,0,none⟩)] w (Post pb sz (RExF w.heap.size) (exprR sz 6 l) w):=by
 have S0:=Lib.hid (PFr.start h)
 have IH:=Lib.hid IH
 clear h
 refine Co (C:=fun y=>Calls prog 213 _ w (Post pb sz (RExF w.heap.size) y w)) _ ?_
 intro y HM0
 rw[exprR_prim]at HM0
 go_enter func213,ntmps213
 go_wp2_with fail
 refine PFr.takes (PFr.laid (PFr.alloc (S0.out))) [40] (Ao (by simp)) (by decide) ?_ ?_
 ·intro r1 w1 hn _ S1;have hlen:=A2 hn;have HM1:=HM0.out;simp only[hn]at HM1;replace HM1:=Lib.hid HM1;clear HM0 hn;go_wp2_with fail;refine PFr.post S1.out (IH.out r1 w1 (by omega) S1.out.psr) (fun p q h=>by rw[HM1.out,h];try rfl) (fun _ _ h=>⟨rfl,h⟩) ?_;intro a2 r2 v2 w2 h2 hv2 ht2 S2;have HM2:=HM1.out;rw[h2]at HM2;try(simp only[Res.bind,Res.map]at HM2)
  replace HM2:=Lib.hid HM2;clear h2 HM1;obtain⟨op,t,n,v,args⟩:=a2;obtain⟨ad,ac,rfl,hargs⟩:=Bw hv2;have HA:=Lib.hid hargs;clear hv2 hargs IH;have hs1:w.heap.size<=w1.heap.size:=S1.out.size;have hs2:w.heap.size<w1.heap.size:=S1.out.facts.1;have F2:=S2.out.facts;simp only[St.Facts,cellFacts,apartFacts,and_true]at F2;go_wp2_with fail;refine PFr.wants (PFr.laid (PFr.alloc (S2.out))) [[41]] (Ao (by simp)) rfl (by decide) rfl (by decide) (by decide) (fun p q h=>by rw[HM2.out,h];try rfl) (fun _ _ h=>⟨rfl,h⟩) ?_;intro r3 w3 h3 ht3 S3;have HM3:=HM2.out;rw[h3]at HM3;replace HM3:=Lib.hid HM3;have HA3:=Lib.hid (((HA.out.kept ((Below.refl _ _).alloc (Nat.le_refl _) _)).kept ((Below.refl _ _).alloc (Nat.le_refl _) _)).turned ht3 (fun b hb e=>by have:=S0.out.lt;have h1:b=pb:=e;have h2:w1.heap.size<=b:=hb;omega));clear HM2 h3 HA F2 ht2;have HQ:∀c,w1.heap.size<=c->c≠w.heap.size:=fun c h e=>by omega
  have F3:=S3.out.facts;simp only[St.Facts,cellFacts,apartFacts,and_true]at F3;go_wp2_with fail;refine bodyPost_ret (v:=.agg #[.int .i64 op,.string ⟨t.toArray⟩,.string ⟨n.toArray⟩,.int .i64 v.k,.int .i64 v.n,.string v.s,.slice ad args.length ac]) (by simp[results,results213,go_sem,F3]) rfl ?_;exact PFr.done (PFr.set 1 (PFr.set 1 (PFr.set 1 (PFr.set 1 (PFr.set 1 (PFr.set 1 (PFr.set 1 (S3.out) rfl) rfl) rfl) rfl) rfl) rfl) rfl) HM3.out (Br (ExSl.mono (Q:=(w1.heap.size≤·)) (by(repeat(refine Aq ?_ HQ));exact HA3.out) (fun b hb=>Nat.le_trans hs1 hb)))
 ·skip;intro w1 hn ht1 S1;have HM1:=HM0.out;simp only[hn]at HM1;replace HM1:=Lib.hid HM1;clear HM0 hn;clear IH;have hs1:w.heap.size<=w1.heap.size:=S1.out.size;have hlt1:=S1.out.psr.lt;have F1:=S1.out.facts;simp only[St.Facts,cellFacts,apartFacts,and_true]at F1;by_cases hh:headIs 2 l=true
  ·obtain⟨t,q,rfl⟩:∃t q,l=t::q:=by
    cases l with
    | nil=>cases hh
    | cons t q=>exact⟨t,q,rfl⟩
   obtain⟨b,o,cap,H⟩:=S1.out.psr.head;have G:=Am H.blk [.slice (some ⟨b,o,none⟩) (q.length+1) cap,.int .i64 sz] 0 (fun j=>by simp);simp only[cellFacts,and_true]at G;have t0:=H.c0;have hk:t.kind=2:=by simpa[headIs]using hh
   rw[hk]at t0;have hc1:1<=cap:=by have:=H.cap1;omega
   have HM2:Hid (y=refR sz (t::q)):=by show _=_;rw[HM1.out,if_pos hh]
   clear H HM1 hh;go_wp2_with fail;refine PFr.post S1.out (Sn pb sz _ _ S1.out.psr) (fun p q h=>by rw[HM2.out,h];try rfl) (fun _ _ h=>⟨rfl,h⟩) ?_;intro a3 r3 v3 w3 h3 hv3 ht3 S3;have HM3:=HM2.out;rw[h3]at HM3;try(simp only[Res.bind,Res.map]at HM3)
   replace HM3:=Lib.hid HM3;clear h3 HM2;obtain⟨op,tt,n,v,args⟩:=a3;obtain⟨ad,ac,rfl,hargs⟩:=Bw hv3;have HA:=Lib.hid hargs;have HQ:∀c,w1.heap.size<=c->c≠w.heap.size:=fun c h e=>by have:=F1.1;omega
   clear hv3 hargs F1 G t0;have F3:=S3.out.facts;simp only[St.Facts,cellFacts,apartFacts,and_true]at F3;go_wp2_with fail;refine bodyPost_ret (v:=.agg #[.int .i64 op,.string ⟨tt.toArray⟩,.string ⟨n.toArray⟩,.int .i64 v.k,.int .i64 v.n,.string v.s,.slice ad args.length ac]) (by simp[results,results213,go_sem,F3]) rfl ?_;exact PFr.done (PFr.set 0 (PFr.set 0 (PFr.set 0 (PFr.set 0 (PFr.set 0 (PFr.set 0 (PFr.set 0 (S3.out) rfl) rfl) rfl) rfl) rfl) rfl) rfl) HM3.out (Br (ExSl.mono (Q:=(w1.heap.size≤·)) (by(repeat(refine Aq ?_ HQ));exact HA.out) (fun b hb=>Nat.le_trans hs1 hb)))
  ·have HM2:Hid (y=(literalR sz l).map valEx):=by show _=_;rw[HM1.out,if_neg hh]
   have HH:=Lib.hid hh;clear HM1 hh;have fin:∀K,(∀a r v w',literalR sz l=.ok a r->RVal w' a v->Turn (·=pb) w1 w'->Hid (PFr pb sz w w' [(w.heap.size,#[.int .i64 0,.string ⟨#[]⟩,.string ⟨#[]⟩,.int .i64 0,.int .i64 0,.string ⟨#[]⟩,.slice none 0 0],27)] r)->K (.returned v) w')->(∀c w',Post pb sz (RExF w.heap.size) y w (.panicked c) w'->K (.panicked c) w')->Calls prog 122 #[.pointer (some ⟨pb,0,none⟩)] w1 K:=fun K h1 h2=>
    PFr.post S1.out (Oo pb sz _ _ S1.out.psr) (fun p q h=>by rw[HM2.out,h];try rfl) h2 h1
   have FIN:=Lib.hid fin;clear fin
   cases l with
   | nil=>
    obtain⟨a,cap,h1⟩:=S1.out.psr.nil;have G:=Am h1 [.slice a 0 cap,.int .i64 sz] 0 (fun j=>by simp);simp only[cellFacts,and_true]at G;clear h1;go_wp2_with fail;refine FIN.out _ ?_ (fun _ _ h=>⟨rfl,h⟩);intro a3 r3 v3 w3 h3 hv3 ht3 S3;have HM3:=HM2.out;rw[h3]at HM3;try(simp only[Res.bind,Res.map]at HM3)
    replace HM3:=Lib.hid HM3;clear h3 HM2;obtain rfl:=hv3;clear F1 G;have F3:=S3.out.facts;simp only[St.Facts,cellFacts,apartFacts,and_true]at F3;go_wp2_with fail;refine bodyPost_ret (v:=.agg #[.int .i64 2,.string ⟨#[]⟩,.string ⟨#[]⟩,.int .i64 a3.k,.int .i64 a3.n,.string a3.s,.slice none 0 0]) (by simp[results,results213,go_sem,F3]) rfl ?_;exact PFr.done (PFr.set 0 (PFr.set 0 (PFr.set 0 (PFr.set 0 (PFr.set 0 (PFr.set 0 (PFr.set 0 (S3.out) rfl) rfl) rfl) rfl) rfl) rfl) rfl) HM3.out (Br (ExSl.nil _ _))
   | cons t q=>
    obtain⟨b,o,cap,H⟩:=S1.out.psr.head;have G:=Am H.blk [.slice (some ⟨b,o,none⟩) (q.length+1) cap,.int .i64 sz] 0 (fun j=>by simp);simp only[cellFacts,and_true]at G;have t0:=H.c0;have hk:(t.kind==2)=false:=by have:=HH.out;simpa[headIs]using this
    have hc1:1<=cap:=by have:=H.cap1;omega
    clear H HH;generalize t.kind=tkk at *;go_wp2_with fail;refine FIN.out _ ?_ (fun _ _ h=>⟨rfl,h⟩);intro a3 r3 v3 w3 h3 hv3 ht3 S3;have HM3:=HM2.out;rw[h3]at HM3;try(simp only[Res.bind,Res.map]at HM3)
    replace HM3:=Lib.hid HM3;clear h3 HM2;obtain rfl:=hv3;clear F1 G t0;have F3:=S3.out.facts;simp only[St.Facts,cellFacts,apartFacts,and_true]at F3;go_wp2_with fail;refine bodyPost_ret (v:=.agg #[.int .i64 2,.string ⟨#[]⟩,.string ⟨#[]⟩,.int .i64 a3.k,.int .i64 a3.n,.string a3.s,.slice none 0 0]) (by simp[results,results213,go_sem,F3]) rfl ?_;exact PFr.done (PFr.set 0 (PFr.set 0 (PFr.set 0 (PFr.set 0 (PFr.set 0 (PFr.set 0 (PFr.set 0 (S3.out) rfl) rfl) rfl) rfl) rfl) rfl) rfl) HM3.out (Br (ExSl.nil _ _))
end Go.Proofs.YtjmmbebkbkgefaaGreatDoor
namespace Go.Proofs.YtjmmbebkbkgefaaGreatDoor
open Go.RowKit Go.Sort Tryz
theorem Psr.ops {w:World} {pb:Nat} {sz:Int} {l:List Tok} (h:Psr w pb sz l) (s:Bytes) (hs:s.length<=4000):∃mb,∀w',w.heap.size<=w'.heap.size->(∀k,k<pb->w'.heap[k]?=w.heap[k]?) ->
 w'.cell? ⟨0,0,none⟩=some (.map (some mb))/\(Instr.lookup 244 (.map (some mb)) (.string ⟨s.toArray⟩) false).run prog w'=.ok (.agg #[.int .i64 (opPair s).1,.int .i64 (opPair s).2]) w'/\
  (Instr.lookup 244 (.map (some mb)) (.string ⟨s.toArray⟩) true).run prog w'=.ok (.tuple #[.agg #[.int .i64 (opPair s).1,.int .i64 (opPair s).2],.bool (opOf s).isSome]) w':=by
 obtain⟨mb,es,clock,h1,h2,h3,h4⟩:=h.env.ops
 have hlo:=h.env.lo
 refine⟨mb,fun w' hsz hk=>?_⟩
 have hb:w'.heap[mb]?=some (.map es clock):=by rw[hk mb h1];exact h3
 have hl:s.length<=maxLen:=Nat.le_trans hs (by decide)
 exact⟨by rw[World.cell?_of_block (a:=⟨0,0,none⟩) (hk 0 (by omega))];exact h2,U0 hb h4 s hl,Mx hb h4 s hl⟩
theorem PFr.done2 {pb:Nat} {sz:Int} {w0 w:World} {L:List Blk} {l:List Tok} {α:Type} {Rep:World->α->Value->Prop} {y:Res α} {a:α} {v:Value} (S:PFr pb sz w0 w L l) (hy:y=.ok a l) (hv:PFr pb sz w0 w L l->Rep w a v):Post pb sz Rep y w0 (.returned v) w:=S.done hy (hv S)
theorem Psr.sees_len {w:World} {pb:Nat} {sz:Int} {l:List Tok} (h:Psr w pb sz l):(seesWord l).length<=4000:=by
 cases l with
 | nil=>simp[seesWord]
 | cons t r=>
  simp only[seesWord];split
  ·exact(h.fine t (by simp)).2.2
  ·simp
theorem opPair_nil:opPair []=(0,0):=by decide+kernel
theorem Xr:opOf []=none:=by decide+kernel
theorem Fo {l:List Tok} (h:seesWord l≠[]):tk (seesWord l) l=some l.tail:=by
 cases l with
 | nil=>exact absurd rfl h
 | cons t r=>
  simp only[seesWord]at h ⊢;by_cases hk:t.kind=1\/t.kind=5
  ·rw[if_pos hk];simp[tk,hk]
  ·rw[if_neg hk]at h;exact absurd rfl h
theorem PFr.sees {pb:Nat} {sz:Int} {w0 w:World} {L:List Blk} {l:List Tok} {K:Ending->World->Prop} (S:PFr pb sz w0 w L l)
 (hok:∀w' b,Below w.heap.size w w'->Hid (PFr pb sz w0 w' L l)->K (.returned (.tuple #[.string ⟨(seesWord l).toArray⟩,.bool b])) w'):Calls prog 176 #[.pointer (some ⟨pb,0,none⟩),.slice none 0 0] w K:=by
 refine Calls.mono (Ny [] _ pb sz l w S.psr ⟨none,0,rfl,Nat.le_refl _,fun h=>absurd h (by simp)⟩ (by simp)) ?_
 rintro e w' ⟨rfl,hb⟩
 exact hok w' _ hb (S.kept hb)
theorem He {Q:Nat->Prop} {w:World} {e:Ex} {cs:List Value} {b:Nat} {t:TypeId} {fr:Nat×Nat} (h:ExIn Q w e cs) (hb:w.heap[b]?=some (.cells cs.toArray t fr)) (hQ:Q b):ExSl Q w (.slice (some ⟨b,0,none⟩) 1 1) [e]:=
 Pf (l:=[e]) (ExsIn.one h) hb hQ
theorem Pe {Q:Nat->Prop} {w:World} {e d:Ex} {cs ds:List Value} {b:Nat} {t:TypeId} {fr:Nat×Nat} (h:ExIn Q w e cs) (k:ExIn Q w d ds) (hb:w.heap[b]?=some (.cells (cs++ds).toArray t fr)) (hQ:Q b):ExSl Q w (.slice (some ⟨b,0,none⟩) 2 2) [e,d]:=
 Pf (l:=[e,d]) (ExsIn.append (ExsIn.one h) (ExsIn.one k)) hb hQ
theorem Sk (a b c d e f g:Value) (w:World):(Instr.buildSlice 25 1 #[(0,.agg #[a,b,c,d,e,f,g])]).run prog w=.ok (.slice (some ⟨w.heap.size,0,none⟩) 1 1) (w.alloc (.cells #[a,b,c,d,e,f,g] 27)):=by kernel_rfl
theorem Zk (a b c d e f g a' b' c' d' e' f' g':Value) (w:World):(Instr.buildSlice 25 2 #[(0,.agg #[a,b,c,d,e,f,g]),(1,.agg #[a',b',c',d',e',f',g'])]).run prog w=.ok (.slice (some ⟨w.heap.size,0,none⟩) 2 2) (w.alloc (.cells #[a,b,c,d,e,f,g,a',b',c',d',e',f',g'] 27)):=by kernel_rfl
section
variable {ops:Array Oper} {rest:List Oper} {o:Oper} {a:Act} {w:World} {Q:Exit->Act->World->Prop}
def Held (p:Prop):Prop:=p
theorem Dj {fn:Func} {R:Ending->World->Prop} (h:Held (bodyPost prog fn R .ret a w)):bodyPost prog fn R .ret a w:=h
theorem X6 {t:TypeId} {x y:Operand} (_ho:o.op=.store t x y) (h:Held (wpList prog ops Q (o::rest) a w)):wpList prog ops Q (o::rest) a w:=h
theorem Cf (h:wpList prog ops Q (o::rest) a w):wpList prog ops Q (o::rest) a w:=h
theorem Ee (hg:o.guard=none) (x:Operand) (ho:o.op=.buildSlice 25 1 #[(0,x)]) (c1 c2 c3 c4 c5 c6 c7:Value) (hx:a.eval x=.agg #[c1,c2,c3,c4,c5,c6,c7])
 (h:wpList prog ops Q rest (a.put o.dst (.slice (some ⟨w.heap.size,0,none⟩) 1 1)) (w.alloc (.cells #[c1,c2,c3,c4,c5,c6,c7] 27))):wpList prog ops Q (o::rest) a w:=by
 refine wpList_plain hg fun K hK=>?_
 unfold Oper.wp execOp
 simp only[ho,List.map_toArray,List.map_cons,List.map_nil,hx,Sem.run_bind,Sk,Result.andThen_ok,Sem.run_pure]
 exact hK _ _ h
theorem Jc (hg:o.guard=none) (x y:Operand) (ho:o.op=.buildSlice 25 2 #[(0,x),(1,y)]) (c1 c2 c3 c4 c5 c6 c7 d1 d2 d3 d4 d5 d6 d7:Value) (hx:a.eval x=.agg #[c1,c2,c3,c4,c5,c6,c7]) (hy:a.eval y=.agg #[d1,d2,d3,d4,d5,d6,d7])
 (h:wpList prog ops Q rest (a.put o.dst (.slice (some ⟨w.heap.size,0,none⟩) 2 2)) (w.alloc (.cells #[c1,c2,c3,c4,c5,c6,c7,d1,d2,d3,d4,d5,d6,d7] 27))):wpList prog ops Q (o::rest) a w:=by
 refine wpList_plain hg fun K hK=>?_
 unfold Oper.wp execOp
 simp only[ho,List.map_toArray,List.map_cons,List.map_nil,hx,hy,Sem.run_bind,Zk,Result.andThen_ok,Sem.run_pure]
 exact hK _ _ h
end
def ExprBelow (pb:Nat) (sz:Int) (n:Nat):Prop:=∀(lev:Nat) (l:List Tok) (w:World),lev<=6->exprFuel lev l<=n->Psr w pb sz l ->
 Calls prog 180 #[.pointer (some ⟨pb,0,none⟩),.int .i64 (lev:Int)] w (Post pb sz (RExF w.heap.size) (exprR sz lev l) w)
theorem Vm (pb:Nat) (sz:Int) (n:Nat) (IH:ExprBelow pb sz n) (l:List Tok) (hf:exprFuel 6 l<=n+1) (w:World) (h:Psr w pb sz l):
 Calls prog 180 #[.pointer (some ⟨pb,0,none⟩),.int .i64 6] w (Post pb sz (RExF w.heap.size) (exprR sz 6 l) w):=by
 have S0:=Lib.hid (PFr.start h)
 have IH:=Lib.hid IH
 clear h
 refine Co (C:=fun y=>Calls prog 180 _ w (Post pb sz (RExF w.heap.size) y w)) _ ?_
 intro y HM0
 go_enter func180,ntmps180
 go_wp2_with fail
 refine PFr.post (PFr.alloc (S0.out)) (primary_any pb sz _ _ ((PFr.alloc (S0.out))).psr (fun l' w' hl hp=>IH.out 0 l' w' (by omega) (by unfold exprFuel at hf ⊢;omega) hp)) (fun p q h=>by rw[HM0.out,h];try rfl) (fun _ _ h=>⟨rfl,h⟩) ?_
 intro a1 r1 v1 w1 h1 hv1 ht1 S1
 have HM1:=HM0.out
 rw[h1]at HM1
 try(simp only[Res.bind,Res.map]at HM1)
 replace HM1:=Lib.hid HM1
 clear h1 HM0
 obtain⟨op,t,n,v,args⟩:=a1
 obtain⟨ad,ac,rfl,hargs⟩:=Bw hv1
 have HA:=Lib.hid hargs
 have HQ:∀c,w.heap.size+1<=c->c≠w.heap.size:=fun c h e=>by omega
 clear hv1 hargs IH
 rw[World.size_alloc]at HA
 have F1:=S1.out.facts
 simp only[St.Facts,cellFacts,apartFacts,and_true]at F1
 go_wp2_with fail
 refine bodyPost_ret (v:=.agg #[.int .i64 op,.string ⟨t.toArray⟩,.string ⟨n.toArray⟩,.int .i64 v.k,.int .i64 v.n,.string v.s,.slice ad args.length ac]) (by simp[results,results180,go_sem,F1]) rfl ?_
 exact PFr.done (PFr.set 0 (PFr.set 0 (PFr.set 0 (PFr.set 0 (PFr.set 0 (PFr.set 0 (PFr.set 0 (S1.out) rfl) rfl) rfl) rfl) rfl) rfl) rfl) HM1.out (Br (ExSl.mono (Q:=(w.heap.size+1≤·)) (by(repeat(refine Aq ?_ HQ));exact HA.out) (fun b hb=>Nat.le_of_succ_le hb)))
theorem Yc (pb:Nat) (sz:Int) (n:Nat) (IH:ExprBelow pb sz n) (l:List Tok) (hf:exprFuel 2 l<=n+1) (w:World) (h:Psr w pb sz l):
 Calls prog 180 #[.pointer (some ⟨pb,0,none⟩),.int .i64 2] w (Post pb sz (RExF w.heap.size) (exprR sz 2 l) w):=by
 have S0:=Lib.hid (PFr.start h)
 have IH2:Hid (∀l' w',exprFuel 2 l'<=n->Psr w' pb sz l'->Calls prog 180 #[.pointer (some ⟨pb,0,none⟩),.int .i64 2] w' (Post pb sz (RExF w'.heap.size) (exprR sz 2 l') w')):=fun l' w' h1 h2=>IH 2 l' w' (by omega) h1 h2
 have IH3:Hid (∀l' w',exprFuel 3 l'<=n->Psr w' pb sz l'->Calls prog 180 #[.pointer (some ⟨pb,0,none⟩),.int .i64 3] w' (Post pb sz (RExF w'.heap.size) (exprR sz 3 l') w')):=fun l' w' h1 h2=>IH 3 l' w' (by omega) h1 h2
 clear h IH
 refine Co (C:=fun y=>Calls prog 180 _ w (Post pb sz (RExF w.heap.size) y w)) _ ?_
 intro y HM0
 rw[exprR_not]at HM0
 go_enter func180,ntmps180
 go_wp2_with fail
 refine PFr.takes (PFr.laid (PFr.alloc (S0.out))) [110,111,116] (Ao (by simp)) (by decide) ?_ ?_
 ·intro r1 w1 hn _ S1;have hlen:=A2 hn;have HM1:=HM0.out;simp only[hn]at HM1;replace HM1:=Lib.hid HM1;clear HM0 hn;have hs1:w.heap.size<w1.heap.size:=S1.out.facts.1;go_wp2_with fail;refine PFr.post S1.out (IH2.out r1 w1 (by unfold exprFuel at hf ⊢;omega) S1.out.psr) (fun p q h=>by rw[HM1.out,h];try rfl) (fun _ _ h=>⟨rfl,h⟩) ?_;intro a2 r2 v2 w2 h2 hv2 ht2 S2;have HM2:=HM1.out;rw[h2]at HM2;try(simp only[Res.bind,Res.map]at HM2)
  replace HM2:=Lib.hid HM2;clear h2 HM1;obtain⟨op,t,nm,v,args⟩:=a2;obtain⟨ad,ac,rfl,hargs⟩:=Bw hv2;have HA:=Lib.hid hargs;have hs2:w1.heap.size<=w2.heap.size:=ht2.size;have HS:=Lib.hid (And.intro hs1 hs2);clear hv2 hargs IH2 IH3 hf hs1 hs2 hlen ht2;have F2:=S2.out.facts;simp only[St.Facts,cellFacts,apartFacts,and_true]at F2;go_wp2_with(first|(with_reducible (refine Cf ?_);refine Ee rfl _ rfl _ _ _ _ _ _ _ rfl ?_)|(with_reducible (refine Dj ?_)));obtain⟨hs1,hs2⟩:=HS.out;have HQ:∀c,w.heap.size<c->c≠w.heap.size:=fun c h e=>by omega
  refine bodyPost_ret (v:=.agg #[.int .i64 14,.string ⟨#[]⟩,.string ⟨#[]⟩,.int .i64 0,.int .i64 0,.string ⟨#[]⟩,.slice (some ⟨w2.heap.size,0,none⟩) 1 1]) (by simp[results,results180,go_sem,F2]) rfl ?_;refine PFr.done (PFr.laid (PFr.set 0 (PFr.set 0 (PFr.set 0 (PFr.set 0 (PFr.set 0 (PFr.set 0 (PFr.set 0 (S2.out) rfl) rfl) rfl) rfl) rfl) rfl) rfl)) HM2.out (Br (ExSl.mono (Q:=(w.heap.size<·)) (He (Bc (a:=.slice ad args.length ac) ?_) (Ao (by simp)) (by show w.heap.size<w2.heap.size;omega)) (fun b hb=>Nat.le_of_lt hb)));refine Aw ?_;repeat(refine Aq ?_ HQ)
  exact HA.out.mono (fun b hb=>Nat.lt_of_lt_of_le hs1 hb)
 ·skip;intro w1 hn ht1 S1;have HM1:=HM0.out;simp only[hn]at HM1;replace HM1:=Lib.hid HM1;clear HM0 hn;have hs1:w.heap.size<w1.heap.size:=S1.out.facts.1;go_wp2_with fail;refine PFr.post S1.out (IH3.out l w1 (by unfold exprFuel at hf ⊢;omega) S1.out.psr) (fun p q h=>by rw[HM1.out,h];try rfl) (fun _ _ h=>⟨rfl,h⟩) ?_;intro a2 r2 v2 w2 h2 hv2 ht2 S2;have HM2:=HM1.out;rw[h2]at HM2;try(simp only[Res.bind,Res.map]at HM2)
  replace HM2:=Lib.hid HM2;clear h2 HM1;obtain⟨op,t,nm,v,args⟩:=a2;obtain⟨ad,ac,rfl,hargs⟩:=Bw hv2;have HA:=Lib.hid hargs;have HQ:∀c,w.heap.size<c->c≠w.heap.size:=fun c h e=>by omega
  clear hv2 hargs IH2 IH3 hf;have F2:=S2.out.facts;simp only[St.Facts,cellFacts,apartFacts,and_true]at F2;go_wp2_with fail;refine bodyPost_ret (v:=.agg #[.int .i64 op,.string ⟨t.toArray⟩,.string ⟨nm.toArray⟩,.int .i64 v.k,.int .i64 v.n,.string v.s,.slice ad args.length ac]) (by simp[results,results180,go_sem,F2]) rfl ?_;exact PFr.done (PFr.set 0 (PFr.set 0 (PFr.set 0 (PFr.set 0 (PFr.set 0 (PFr.set 0 (PFr.set 0 (S2.out) rfl) rfl) rfl) rfl) rfl) rfl) rfl) HM2.out (Br (ExSl.mono (Q:=(w.heap.size<·)) (by(repeat(refine Aq ?_ HQ));exact HA.out.mono (fun b hb=>Nat.lt_of_lt_of_le hs1 hb)) (fun b hb=>Nat.le_of_lt hb)))
end Go.Proofs.YtjmmbebkbkgefaaGreatDoor
namespace Go.Proofs.YtjmmbebkbkgefaaGreatDoor
open Go.RowKit Go.Sort Tryz
theorem Fy {M:Nat->Prop} {R:PanicR} {P:Program} {Q:Exit->Act->World->Prop} {o:Oper} {a:Act} {w0 wc:World} {l:List Oper} {tail:List Oper} {k:Nat} {r:List (Nat×Bool)} (hk:l[k]?=some o) (hw:Region.wanted o (yielded l.toArray a.tmps)=true) (ty:TypeId) (x:Operand) (ho:o.op=.load ty x)
 (g:Nat) (hx:a.eval x=.pointer (some ⟨g,0,none⟩)) (t:TypeId) (cs:Array Value) (fr:Nat×Nat) (d:TypeDesc) (hg:∀p:TurnW M w0,p.w.heap[g]?=some (.cells cs t fr))
 (hu:P.underlying ty=some d) (hd:(match d with|.struct _|.array _ _=>true|_=>false)=true) (hi:(P.info? ty).map (·.size)=some cs.size)
 (h:wpMP P l.toArray M w0 R Q tail r (a.put o.dst (.agg cs)) wc):wpMP P l.toArray M w0 R Q tail ((k,false)::r) a wc:=
 Bm hk (fun K hK=>by rw[if_pos hw];exact Fb ty x ho g hx t cs fr d hg hu hd hi (hK _ h))
theorem Hk (a b c d e f g:Value):(prog.info? 27).map (·.size)=some (#[a,b,c,d,e,f,g]:Array Value).size:=by
 have:(prog.info? 27).map (·.size)=some 7:=by kernel_rfl
 rw[this];rfl
theorem Ya (a b:Int) (w:World):(Instr.field 246 (.agg #[.int .i64 a,.int .i64 b]) 0).run prog w=.ok (.int .i64 a) w:=by kernel_rfl
theorem Vl (a b:Int) (w:World):(Instr.field 246 (.agg #[.int .i64 a,.int .i64 b]) 1).run prog w=.ok (.int .i64 b) w:=by kernel_rfl
theorem Ct {Q:Nat->Prop} {w:World} {v:Value} {l:List Ex} {b:Nat} {cs:Array Value} (h:ExSl Q w v l) (hq:∀c,Q c->c≠b):ExSl Q (w.setRow b cs) v l:=
 h.turned (M:=(·=b)) ((Turn.refl _ w).setRow (.inl rfl)) hq
theorem Qs {s:Bytes} (h:(opPair s).2=3):s≠[]:=by
 rintro rfl;rw[opPair_nil]at h;exact absurd h (by decide)
theorem expr_cmp (pb:Nat) (sz:Int) (n:Nat) (IH:ExprBelow pb sz n) (l:List Tok) (hf:exprFuel 3 l<=n+1) (w:World) (h:Psr w pb sz l):
 Calls prog 180 #[.pointer (some ⟨pb,0,none⟩),.int .i64 3] w (Post pb sz (RExF w.heap.size) (exprR sz 3 l) w):=by
 have S0:=Lib.hid (PFr.start h)
 have IH4:Hid (∀l' w',exprFuel 4 l'<=n->Psr w' pb sz l'->Calls prog 180 #[.pointer (some ⟨pb,0,none⟩),.int .i64 4] w' (Post pb sz (RExF w'.heap.size) (exprR sz 4 l') w')):=fun l' w' h1 h2=>IH 4 l' w' (by omega) h1 h2
 clear h IH
 refine Co (C:=fun y=>Calls prog 180 _ w (Post pb sz (RExF w.heap.size) y w)) _ ?_
 intro y HM0
 rw[exprR_cmp]at HM0
 have HF:=Lib.hid hf
 clear hf
 go_enter func180,ntmps180
 go_wp2_with fail
 refine PFr.post (PFr.alloc (S0.out)) (IH4.out l _ (by have:=HF.out;unfold exprFuel at this ⊢;omega) ((PFr.alloc (S0.out))).psr) (fun p q h=>by rw[HM0.out,h];try rfl) (fun _ _ h=>⟨rfl,h⟩) ?_
 intro e1 r1 v1 w1 h1 hv1 ht1 S1
 have hlen:=Ci (by omega) h1
 have HM1:=HM0.out
 rw[h1]at HM1
 simp only[Res.bind]at HM1
 replace HM1:=Lib.hid HM1
 clear HM0 h1
 obtain⟨op,t,nm,v,args⟩:=e1
 obtain⟨ad,ac,rfl,hargs⟩:=Bw hv1
 rw[World.size_alloc]at hargs
 have hs1:w.heap.size<w1.heap.size:=S1.out.facts.1
 have HA:Hid (ExSl (fun b=>w.heap.size<b/\b<w1.heap.size) w1 (.slice ad args.length ac) args):=by
  obtain⟨acs,⟨ad',cap,e,hc,k1⟩,k2⟩:=hargs;refine A8 (Q:=(w.heap.size+1≤·)) (fun b hb k=>⟨⟨k,hb⟩,rfl⟩) ⟨acs,⟨ad',cap,e,hc,k1⟩,k2⟩
 have HS1:=Lib.hid hs1
 have HL:=Lib.hid hlen
 clear hv1 hargs hlen hs1 ht1
 have F1:=S1.out.facts
 simp only[St.Facts,cellFacts,apartFacts,and_true]at F1
 go_wp2_with fail
 refine PFr.sees (PFr.alloc (S1.out)) ?_
 intro w2 bb hb2 S2
 have HA2:=Lib.hid ((Aw (o:=.cells #[.int .i64 op,.string ⟨t.toArray⟩,.string ⟨nm.toArray⟩,.int .i64 v.k,.int .i64 v.n,.string v.s,.slice ad args.length ac] 27) HA.out).kept hb2)
 obtain⟨mb,hops⟩:=S2.out.psr.ops (seesWord r1) S2.out.psr.sees_len
 obtain⟨m0,m1,_⟩:=hops w2 (Nat.le_refl _) (fun _ _=>rfl)
 have HOPS:=Lib.hid hops
 have HNE:=Lib.hid (Qs (s:=seesWord r1))
 clear hops HA hb2 F1
 obtain⟨sw,hsw⟩:∃sw,seesWord r1=sw:=⟨_,rfl⟩
 have HSW:=Lib.hid hsw
 rw[hsw]at HM1 HNE HOPS m1 ⊢
 obtain⟨pr,hpr⟩:∃pr,opPair sw=pr:=⟨_,rfl⟩
 rw[hpr]at HM1 HNE HOPS m1
 obtain⟨po,pl⟩:=pr
 simp only at HM1 HNE HOPS m1
 clear hsw hpr
 have g0:=fun w=>Ya po pl w
 have g1:=fun w=>Vl po pl w
 have F2:=S2.out.facts
 simp only[St.Facts,cellFacts,apartFacts,and_true]at F2
 by_cases h3:pl=3
 ·subst h3;have HM2:Hid (y=(exprR sz 4 r1.tail).map fun e2=>opEx po [.mk op t nm v args,e2]):=by show _=_;rw[HM1.out,if_pos rfl]
  have hne:=HNE.out rfl;clear HM1;go_wp2_with fail;refine PFr.takes (PFr.laid (S2.out)) sw (Ao (by simp)) (by decide) ?_ ?_
  ·intro r3 w3 hn ht3 S3;have hr3:r3=r1.tail:=by
    have:=Fo (l:=r1) (by rw[HSW.out];exact hne);rw[HSW.out,hn]at this;exact Option.some.inj this
   subst hr3;have HA3:=Lib.hid ((Aw HA2.out).turned ht3 (fun b hb e=>by have h1:=S0.out.lt;have h2:b=pb:=e;have h3:=hb.1;omega));have y0:∀p:TurnW (·=pb) w3,p.w.cell? ⟨0,0,none⟩=some (.map (some mb))/\(Instr.lookup 244 (.map (some mb)) (.string ⟨sw.toArray⟩) false).run prog p.w=.ok (.agg #[.int .i64 po,.int .i64 3]) p.w:=fun p=>by
    have hb:∀k,k<pb->p.w.heap[k]?=w2.heap[k]?:=fun k hk=>by
     have h1:=S2.out.psr.lt;rw[p.h.block k (by have:=S3.out.psr.lt;omega) (by omega),ht3.block k (by simp;omega) (by omega)];exact Below.heap_alloc _ _ _ (by omega)
    have:=HOPS.out p.w (Nat.le_trans (Nat.le_trans (by simp) ht3.size) p.h.size) hb;exact⟨this.1,this.2.1⟩
   have y1:=fun p=>(y0 p).1;have y2:=fun p=>(y0 p).2;have HB:Hid (∀p:TurnW (·=pb) w3,p.w.heap[w1.heap.size]?=some (.cells #[.int .i64 op,.string ⟨t.toArray⟩,.string ⟨nm.toArray⟩,.int .i64 v.k,.int .i64 v.n,.string v.s,.slice ad args.length ac] 27 (0,0))):=fun p=>Cn p (S3.out.blk 0 rfl) (by have h1:=S0.out.lt;have h2:=HS1.out;omega);have hlen2:r1.tail.length<=r1.length:=by simp
   clear hn ht3 HA2 HOPS HNE HSW m0 m1 F2 S2 y0;go_wp2_with fail;refine Bf (·=pb) (fun c w'=>Post pb sz (RExF w.heap.size) y w (.panicked c) w') (fun _ _ _ hd h=>⟨hd,h⟩) 9 [(0,false),(1,false),(2,false),(3,false),(4,false),(5,false),(6,true),(7,true),(8,false)] (by kernel_rfl) (by kernel_rfl) ?_;repeat(refine Bm rfl (fun K hK=>?_);go_simp;first|(refine hK _ ?_;clear hK K)|(apply Exists.intro;refine⟨fun _=>?_,hK _ ?_⟩;(fail);clear hK K))
   refine Fy rfl rfl 27 (.tmp 5) rfl w1.heap.size rfl 27 _ (0,0) _ HB.out underlying27 rfl (Hk _ _ _ _ _ _ _) ?_;repeat(refine Bm rfl (fun K hK=>?_);go_simp;first|(refine hK _ ?_;clear hK K)|(apply Exists.intro;refine⟨fun _=>?_,hK _ ?_⟩;(fail);clear hK K))
   refine Bj rfl rfl ?_;intro w4 hb4 ht4;have S4:=Lib.hid (S3.out.kept hb4);have HA4:=Lib.hid (HA3.out.kept hb4);have HT4:=Lib.hid ht4;clear hb4 ht4 y1 y2 HB HA3 S3;go_wp2_with fail;refine PFr.post S4.out (IH4.out r1.tail w4 (by have h1:=HF.out;have h2:=HL.out;unfold exprFuel at h1 ⊢;omega) S4.out.psr) (fun p q h=>by rw[HM2.out,h];try rfl) (fun _ _ h=>h) ?_;intro a5 r5 v5 w5 h5 hv5 ht5 S5;have HM5:=HM2.out;rw[h5]at HM5;try(simp only[Res.bind,Res.map]at HM5)
   replace HM5:=Lib.hid HM5;clear h5 HM2;obtain⟨op2,t2,nm2,vv2,args2⟩:=a5;obtain⟨ad2,ac2,rfl,hargs2⟩:=Bw hv5;have HA5:=Lib.hid (HA4.out.turned ht5 (fun b hb e=>by have h1:=S0.out.lt;have h2:b=pb:=e;have h3:=hb.1;omega));have hs4:w1.heap.size<w4.heap.size:=S4.out.facts.1;have HB5:Hid (ExSl (w.heap.size<·) w5 (.slice ad2 args2.length ac2) args2):=hargs2.mono (fun b hb=>by have:=HS1.out;have hb':w4.heap.size<=b:=hb;omega);have HT5:=Lib.hid (HT4.out.trans ht5 (fun _ _ h=>h));clear hv5 hargs2 ht5 HT4 HA4 S4 hs4;go_wp2_with fail;refine⟨HT5.out,?_⟩;refine Bj rfl rfl ?_;intro w6 hb6 ht6;have S6:=Lib.hid (PFr.alloc (cs:=#[.int .i64 op,.string ⟨t.toArray⟩,.string ⟨nm.toArray⟩,.int .i64 v.k,.int .i64 v.n,.string v.s,.slice ad args.length ac,.int .i64 op2,.string ⟨t2.toArray⟩,.string ⟨nm2.toArray⟩,.int .i64 vv2.k,.int .i64 vv2.n,.string vv2.s,.slice ad2 args2.length ac2]) (t:=27) (S5.out.kept hb6));have HA6:=Lib.hid (Aw (o:=.cells #[.int .i64 op,.string ⟨t.toArray⟩,.string ⟨nm.toArray⟩,.int .i64 v.k,.int .i64 v.n,.string v.s,.slice ad args.length ac,.int .i64 op2,.string ⟨t2.toArray⟩,.string ⟨nm2.toArray⟩,.int .i64 vv2.k,.int .i64 vv2.n,.string vv2.s,.slice ad2 args2.length ac2] 27) (HA5.out.kept hb6))
   have HB6:=Lib.hid (Aw (o:=.cells #[.int .i64 op,.string ⟨t.toArray⟩,.string ⟨nm.toArray⟩,.int .i64 v.k,.int .i64 v.n,.string v.s,.slice ad args.length ac,.int .i64 op2,.string ⟨t2.toArray⟩,.string ⟨nm2.toArray⟩,.int .i64 vv2.k,.int .i64 vv2.n,.string vv2.s,.slice ad2 args2.length ac2] 27) (HB5.out.kept hb6));have HG:Hid (w.heap.size<w6.heap.size):=Nat.lt_of_lt_of_le HS1.out (Nat.le_trans (Nat.le_of_lt S5.out.facts.1) hb6.size);clear hb6 HA5 HB5 S5 HT5;refine Jc rfl _ _ rfl _ _ _ _ _ _ _ _ _ _ _ _ _ _ rfl rfl ?_;refine⟨ht6.step ((Below.refl _ _).alloc (Nat.le_refl _) _),?_⟩;clear ht6;repeat(refine Bm rfl (fun K hK=>?_);go_simp;first|(refine hK _ ?_;clear hK K)|(apply Exists.intro;refine⟨fun _=>?_,hK _ ?_⟩;(fail);clear hK K))
   refine C7 ?_;intro w7 hb7 _;have S7:=Lib.hid (S6.out.kept hb7);have HA7:=Lib.hid (HA6.out.kept hb7);have HB7:=Lib.hid (HB6.out.kept hb7);clear hb7 HA6 HB6 S6;have F7:=S7.out.facts;simp only[St.Facts,cellFacts,apartFacts,and_true]at F7;simp only[List.drop_succ_cons,List.drop_zero];go_wp2_with(with_reducible (refine Dj ?_));have HQ:∀c,w.heap.size<c->c≠w.heap.size:=fun c h e=>by omega
   refine bodyPost_ret (v:=.agg #[.int .i64 po,.string ⟨#[]⟩,.string ⟨#[]⟩,.int .i64 0,.int .i64 0,.string ⟨#[]⟩,.slice (some ⟨w6.heap.size,0,none⟩) 2 2]) (by simp[results,results180,go_sem,F7]) rfl ?_;refine PFr.done2 (PFr.set 2 (PFr.set 2 (PFr.set 2 (PFr.set 2 (PFr.set 2 (PFr.set 2 (PFr.set 2 (S7.out) rfl) rfl) rfl) rfl) rfl) rfl) rfl) HM5.out (fun SF=>Br (ExSl.mono (Q:=(w.heap.size<·)) (Pe (Bc (a:=.slice ad args.length ac) ?_) (Bc (a:=.slice ad2 args2.length ac2) ?_) (SF.blk 0 rfl) HG.out) (fun b hb=>Nat.le_of_lt hb)))
   ·repeat(refine Aq ?_ HQ)
    exact HA7.out.mono (fun b hb=>hb.1)
   ·repeat(refine Aq ?_ HQ)
    exact HB7.out
  ·intro w3 hn _ _;have:=Fo (l:=r1) (by rw[HSW.out];exact hne);rw[HSW.out,hn]at this
   cases this
 ·have HM2:Hid (y=isNullR sz (.mk op t nm v args) r1):=by show _=_;rw[HM1.out,if_neg h3]
  have k3:(pl==3)=false:=by simpa using h3
  have HGS:=Lib.hid (show w1.heap.size<w2.heap.size from F2.1);unfold isNullR at HM2;clear HM1 HOPS HNE HSW;go_wp2_with fail;refine PFr.takes (PFr.laid (S2.out)) [105,115] (Ao (by simp)) (by decide) ?_ ?_
  ·skip;intro r3 w3 hn ht3 S3;have HM3:=HM2.out;simp only[hn]at HM3;replace HM3:=Lib.hid HM3;clear HM2 hn;have HA3:=Lib.hid ((Aw HA2.out).turned ht3 (fun b hb e=>by have h1:=S0.out.lt;have h2:b=pb:=e;have h3:=hb.1;omega));clear F2 HA2 ht3 m0 m1 g0 g1 k3 S2 HGS;go_wp2_with fail;refine PFr.takes (PFr.laid (S3.out)) [110,111,116] (Ao (by simp)) (by decide) ?_ ?_
   ·skip;intro r4 w4 hn ht4 S4;have HM4:=HM3.out;simp only[hn]at HM4;replace HM4:=Lib.hid HM4;clear HM3 hn;have HA4:=Lib.hid ((Aw HA3.out).turned ht4 (fun b hb e=>by have h1:=S0.out.lt;have h2:b=pb:=e;have h3:=hb.1;omega));clear HA3 ht4 S3;go_wp2_with fail;refine PFr.wants (PFr.laid (S4.out)) [[110,117,108,108]] (Ao (by simp)) rfl (by decide) rfl (by decide) (by decide) (fun p q h=>by rw[HM4.out,h];try rfl) (fun _ _ h=>⟨rfl,h⟩) ?_;intro r5 w5 h5 ht5 S5;have HM5:=HM4.out;rw[h5]at HM5;try(simp only[Res.map]at HM5)
    replace HM5:=Lib.hid HM5;have HA5:=Lib.hid ((Aw HA4.out).turned ht5 (fun b hb e=>by have h1:=S0.out.lt;have h2:b=pb:=e;have h3:=hb.1;omega));clear HM4 h5 ht5 HA4 S4;have hs1:=HS1.out;have HQ:Hid (∀c,(w.heap.size<c/\c<w1.heap.size)->c≠w.heap.size):=fun c h e=>by omega
    have HQ1:Hid (∀c,(w.heap.size<c/\c<w1.heap.size)->c≠w1.heap.size):=fun c h e=>by omega
    clear hs1;have F5:=S5.out.facts;simp only[St.Facts,cellFacts,apartFacts,and_true]at F5;have HG5:=Lib.hid F5.1;go_wp2_with(first|(with_reducible (refine Cf ?_);refine Ee rfl _ rfl _ _ _ _ _ _ _ rfl ?_)|(with_reducible (refine Cf ?_);refine X6 rfl ?_)|(with_reducible (refine Dj ?_)));have S5a:=Lib.hid (PFr.alloc S5.out (cs:=#[.int .i64 op,.string ⟨t.toArray⟩,.string ⟨nm.toArray⟩,.int .i64 v.k,.int .i64 v.n,.string v.s,.slice ad args.length ac]) (t:=27));have HA5a:=Lib.hid (Aw (o:=.cells #[.int .i64 op,.string ⟨t.toArray⟩,.string ⟨nm.toArray⟩,.int .i64 v.k,.int .i64 v.n,.string v.s,.slice ad args.length ac] 27) HA5.out);refine wpList_store_row rfl 27 (.tmp 5) (.tmp 64) rfl w1.heap.size _ rfl rfl 27 _ (S5a.out.blk 1 rfl) (Hk _ _ _ _ _ _ _) rfl (by simp[Value.oneCell']) ?_;refine Ed (fun W=>PFr pb sz w W _ _/\ExSl _ W _ _) ⟨PFr.row 1 _ S5a.out rfl,Ct HA5a.out HQ1.out⟩ ?_;rintro w6 ⟨S6',HA6'⟩;have S6:=Lib.hid S6';have HA6:=Lib.hid HA6';clear S6' HA6' F5 S5 HA5 S5a HA5a;simp only[List.set_cons_zero,List.set_cons_succ]at S6;have F6:=S6.out.facts;simp only[St.Facts,cellFacts,apartFacts,and_true]at F6;have HG6:=Lib.hid (Nat.lt_trans HG5.out F6.1);go_wp2_with(first|(with_reducible (refine Cf ?_);refine Ee rfl _ rfl _ _ _ _ _ _ _ rfl ?_)|(with_reducible (refine Cf ?_);refine X6 rfl ?_)|(with_reducible (refine Dj ?_)));have S6a:=Lib.hid (PFr.alloc S6.out (cs:=#[.int .i64 15,.string ⟨#[]⟩,.string ⟨#[]⟩,.int .i64 0,.int .i64 0,.string ⟨#[]⟩,.slice (some ⟨w5.heap.size,0,none⟩) 1 1]) (t:=27))
    have HA6a:=Lib.hid (Aw (o:=.cells #[.int .i64 15,.string ⟨#[]⟩,.string ⟨#[]⟩,.int .i64 0,.int .i64 0,.string ⟨#[]⟩,.slice (some ⟨w5.heap.size,0,none⟩) 1 1] 27) HA6.out);refine wpList_store_row rfl 27 (.tmp 5) (.tmp 68) rfl w1.heap.size _ rfl rfl 27 _ (S6a.out.blk 2 rfl) (Hk _ _ _ _ _ _ _) rfl (by simp[Value.oneCell']) ?_;refine Ed (fun W=>PFr pb sz w W _ _/\ExSl _ W _ _) ⟨PFr.row 2 _ S6a.out rfl,Ct HA6a.out HQ1.out⟩ ?_;rintro w7 ⟨S7',HA7'⟩;have S7:=Lib.hid S7';have HA7:=Lib.hid HA7';clear S7' HA7' F6 S6 HA6 S6a HA6a;simp only[List.set_cons_zero,List.set_cons_succ]at S7;have F7:=S7.out.facts;simp only[St.Facts,cellFacts,apartFacts,and_true]at F7;go_wp2_with(with_reducible (refine Dj ?_));refine bodyPost_ret (v:=.agg #[.int .i64 14,.string ⟨#[]⟩,.string ⟨#[]⟩,.int .i64 0,.int .i64 0,.string ⟨#[]⟩,.slice (some ⟨w6.heap.size,0,none⟩) 1 1]) (by simp[results,results180,go_sem,F7]) rfl ?_;refine PFr.done2 (PFr.set 3 (PFr.set 3 (PFr.set 3 (PFr.set 3 (PFr.set 3 (PFr.set 3 (PFr.set 3 (S7.out) rfl) rfl) rfl) rfl) rfl) rfl) rfl) HM5.out (fun SF=>Br (ExSl.mono (Q:=(w.heap.size<·)) (He (Bc (He (Bc (a:=.slice ad args.length ac) ?_) (SF.blk 1 rfl) ?_)) (SF.blk 0 rfl) ?_) (fun b hb=>Nat.le_of_lt hb)))
    ·refine ExSl.mono (Q:=fun b=>w.heap.size<b/\b<w1.heap.size) ?_ (fun b hb=>hb.1);repeat(refine Aq ?_ HQ.out)
     exact HA7.out
    ·exact Nat.lt_trans HS1.out HG5.out
    ·exact Nat.lt_trans HS1.out HG6.out
   ·skip;intro w4 hn ht4 S4;have HM4:=HM3.out;simp only[hn]at HM4;replace HM4:=Lib.hid HM4;clear HM3 hn;have HA4:=Lib.hid ((Aw HA3.out).turned ht4 (fun b hb e=>by have h1:=S0.out.lt;have h2:b=pb:=e;have h3:=hb.1;omega));clear HA3 ht4 S3;go_wp2_with fail;refine PFr.wants (PFr.laid (S4.out)) [[110,117,108,108]] (Ao (by simp)) rfl (by decide) rfl (by decide) (by decide) (fun p q h=>by rw[HM4.out,h];try rfl) (fun _ _ h=>⟨rfl,h⟩) ?_;intro r5 w5 h5 ht5 S5;have HM5:=HM4.out;rw[h5]at HM5;try(simp only[Res.map]at HM5)
    replace HM5:=Lib.hid HM5;have HA5:=Lib.hid ((Aw HA4.out).turned ht5 (fun b hb e=>by have h1:=S0.out.lt;have h2:b=pb:=e;have h3:=hb.1;omega));clear HM4 h5 ht5 HA4 S4;have hs1:=HS1.out;have HQ:Hid (∀c,(w.heap.size<c/\c<w1.heap.size)->c≠w.heap.size):=fun c h e=>by omega
    have HQ1:Hid (∀c,(w.heap.size<c/\c<w1.heap.size)->c≠w1.heap.size):=fun c h e=>by omega
    clear hs1;have F5:=S5.out.facts;simp only[St.Facts,cellFacts,apartFacts,and_true]at F5;have HG5:=Lib.hid F5.1;go_wp2_with(first|(with_reducible (refine Cf ?_);refine Ee rfl _ rfl _ _ _ _ _ _ _ rfl ?_)|(with_reducible (refine Cf ?_);refine X6 rfl ?_)|(with_reducible (refine Dj ?_)));have S5a:=Lib.hid (PFr.alloc S5.out (cs:=#[.int .i64 op,.string ⟨t.toArray⟩,.string ⟨nm.toArray⟩,.int .i64 v.k,.int .i64 v.n,.string v.s,.slice ad args.length ac]) (t:=27));have HA5a:=Lib.hid (Aw (o:=.cells #[.int .i64 op,.string ⟨t.toArray⟩,.string ⟨nm.toArray⟩,.int .i64 v.k,.int .i64 v.n,.string v.s,.slice ad args.length ac] 27) HA5.out);refine wpList_store_row rfl 27 (.tmp 5) (.tmp 64) rfl w1.heap.size _ rfl rfl 27 _ (S5a.out.blk 1 rfl) (Hk _ _ _ _ _ _ _) rfl (by simp[Value.oneCell']) ?_;refine Ed (fun W=>PFr pb sz w W _ _/\ExSl _ W _ _) ⟨PFr.row 1 _ S5a.out rfl,Ct HA5a.out HQ1.out⟩ ?_;rintro w6 ⟨S6',HA6'⟩;have S6:=Lib.hid S6';have HA6:=Lib.hid HA6';clear S6' HA6' F5 S5 HA5 S5a HA5a;simp only[List.set_cons_zero,List.set_cons_succ]at S6;have F6:=S6.out.facts;simp only[St.Facts,cellFacts,apartFacts,and_true]at F6;have HG6:=Lib.hid (Nat.lt_trans HG5.out F6.1);go_wp2_with(with_reducible (refine Dj ?_));refine bodyPost_ret (v:=.agg #[.int .i64 15,.string ⟨#[]⟩,.string ⟨#[]⟩,.int .i64 0,.int .i64 0,.string ⟨#[]⟩,.slice (some ⟨w5.heap.size,0,none⟩) 1 1]) (by simp[results,results180,go_sem,F6]) rfl ?_
    refine PFr.done2 (PFr.set 2 (PFr.set 2 (PFr.set 2 (PFr.set 2 (PFr.set 2 (PFr.set 2 (PFr.set 2 (S6.out) rfl) rfl) rfl) rfl) rfl) rfl) rfl) HM5.out (fun SF=>Br (ExSl.mono (Q:=(w.heap.size<·)) (He (Bc (a:=.slice ad args.length ac) ?_) (SF.blk 0 rfl) ?_) (fun b hb=>Nat.le_of_lt hb)))
    ·refine ExSl.mono (Q:=fun b=>w.heap.size<b/\b<w1.heap.size) ?_ (fun b hb=>hb.1);repeat(refine Aq ?_ HQ.out)
     exact HA6.out
    ·exact Nat.lt_trans HS1.out HG5.out
  ·skip;intro w3 hn ht3 S3;have HM3:=HM2.out;simp only[hn]at HM3;replace HM3:=Lib.hid HM3;clear HM2 hn;have HA3:=Lib.hid ((Aw HA2.out).turned ht3 (fun b hb e=>by have h1:=S0.out.lt;have h2:b=pb:=e;have h3:=hb.1;omega));clear F2 HA2 ht3 m0 m1 g0 g1 k3 S2 HGS;have F3:=S3.out.facts;simp only[St.Facts,cellFacts,apartFacts,and_true]at F3;go_wp2_with(with_reducible (refine Dj ?_));have hs1:=HS1.out;have HQ:∀c,(w.heap.size<c/\c<w1.heap.size)->c≠w.heap.size:=fun c h e=>by omega
   refine bodyPost_ret (v:=.agg #[.int .i64 op,.string ⟨t.toArray⟩,.string ⟨nm.toArray⟩,.int .i64 v.k,.int .i64 v.n,.string v.s,.slice ad args.length ac]) (by simp[results,results180,go_sem,F3]) rfl ?_;exact PFr.done (PFr.set 1 (PFr.set 1 (PFr.set 1 (PFr.set 1 (PFr.set 1 (PFr.set 1 (PFr.set 1 (S3.out) rfl) rfl) rfl) rfl) rfl) rfl) rfl) HM3.out (Br (ExSl.mono (Q:=fun b=>w.heap.size<b/\b<w1.heap.size) (by(repeat(refine Aq ?_ HQ));exact HA3.out) (fun b hb=>Nat.le_of_lt hb.1)))
def psLeft (pb:Nat) (w:World):Nat:=match w.heap[pb]? with
 | some (.cells cs _ _)=>(match (cs[0]?:Option Value)with
  | some (Value.slice _ n _)=>n
  | _=>0)
 | _=>0
theorem Bu {w:World} {pb:Nat} {sz:Int} {l:List Tok} (h:Psr w pb sz l):psLeft pb w=l.length:=by
 obtain⟨v,h1,a,cap,rfl,_⟩:=h.blk;unfold psLeft;rw[h1];simp
theorem PFr.sub {pb:Nat} {sz:Int} {w0 w:World} {L L':List Blk} {l:List Tok} (h:PFr pb sz w0 w L l) (hs:L'.Sublist L):PFr pb sz w0 w L' l:=
 ⟨h.lt,⟨h.st.turn,fun x hx=>h.st.own x (hs.subset hx),h.st.apart.sublist (hs.map _)⟩,fun x hx=>h.own x (hs.subset hx),h.psr⟩
theorem Rn (pb:Nat) (sz:Int) (n:Nat) (IH:ExprBelow pb sz n) (lev:Nat) (h6:lev<6) (h2:lev≠2) (h3:lev≠3) (l:List Tok) (hf:exprFuel lev l<=n+1) (w:World) (h:Psr w pb sz l):
 Calls prog 180 #[.pointer (some ⟨pb,0,none⟩),.int .i64 (lev:Int)] w (Post pb sz (RExF w.heap.size) (exprR sz lev l) w):=by
 have S0:=Lib.hid (PFr.start h)
 have IHn:Hid (∀l' w',exprFuel (lev+1) l'<=n->Psr w' pb sz l'->Calls prog 180 #[.pointer (some ⟨pb,0,none⟩),.int .i64 ((lev:Int)+1)] w' (Post pb sz (RExF w'.heap.size) (exprR sz (lev+1) l') w')):=fun l' w' h1 h2=>by
  have:=IH (lev+1) l' w' (by omega) h1 h2;rw[Int.natCast_add]at this;exact this
 clear h IH
 refine Co (C:=fun y=>Calls prog 180 _ w (Post pb sz (RExF w.heap.size) y w)) _ ?_
 intro y HM0
 rw[exprR_chain sz lev l h6 h2 h3]at HM0
 have HF:=Lib.hid hf
 have H6:=Lib.hid h6
 have k2:((lev:Int)==2)=false:=by simp;omega
 have k3:((lev:Int)==3)=false:=by simp;omega
 have k6:((lev:Int)==6)=false:=by simp;omega
 have hw:wrap64 ((lev:Int)+1)=(lev:Int)+1:=IntWalk.wrap64_in _ ⟨by omega,by omega⟩
 clear hf h2 h3
 go_enter func180,ntmps180
 go_wp2_with fail
 refine PFr.post (PFr.alloc (S0.out)) (IHn.out l _ (by have h1:=HF.out;have h2:=H6.out;unfold exprFuel at h1 ⊢;omega) ((PFr.alloc (S0.out))).psr) (fun p q h=>by rw[HM0.out,h];try rfl) (fun _ _ h=>⟨rfl,h⟩) ?_
 intro e1 r1 v1 w1 h1 hv1 ht1 S1
 have hlen:=Ci (by have:=H6.out;omega) h1
 have HM1:=HM0.out
 rw[h1]at HM1
 simp only[Res.bind]at HM1
 replace HM1:=Lib.hid HM1
 clear HM0 h1
 obtain⟨op,t,nm,v,args⟩:=e1
 obtain⟨ad,ac,rfl,hargs⟩:=Bw hv1
 rw[World.size_alloc]at hargs
 have hs1:w.heap.size<w1.heap.size:=S1.out.facts.1
 have HA:Hid (ExSl (fun b=>w.heap.size<b/\b≠w1.heap.size) w1 (.slice ad args.length ac) args):=by
  refine A8 (Q:=(w.heap.size+1≤·)) (fun b hb k=>⟨⟨k,Nat.ne_of_lt hb⟩,rfl⟩) hargs
 have HS1:=Lib.hid hs1
 have HL:=Lib.hid hlen
 clear hv1 hargs hlen hs1 ht1
 have F1:=S1.out.facts
 simp only[St.Facts,cellFacts,apartFacts,and_true]at F1
 go_wp2_with fail
 have SA:=Lib.hid (PFr.alloc S1.out (cs:=#[.int .i64 op,.string ⟨t.toArray⟩,.string ⟨nm.toArray⟩,.int .i64 v.k,.int .i64 v.n,.string v.s,.slice ad args.length ac]) (t:=27))
 have HAA:=Lib.hid (Aw (o:=.cells #[.int .i64 op,.string ⟨t.toArray⟩,.string ⟨nm.toArray⟩,.int .i64 v.k,.int .i64 v.n,.string v.s,.slice ad args.length ac] 27) HA.out)
 clear F1 S1 HA
 go_loopw [] (fun wr=>∃(op:Int) (t nm:Bytes) (v:V) (args:List Ex) (ad:Option Addr) (ac:Nat) (lr:List Tok),Hid (y=chainR sz lev (.mk op t nm v args) lr)/\Hid (lr.length+1<=l.length)/\
  Hid (PFr pb sz w wr [(w1.heap.size,#[.int .i64 op,.string ⟨t.toArray⟩,.string ⟨nm.toArray⟩,.int .i64 v.k,.int .i64 v.n,.string v.s,.slice ad args.length ac],27),(w.heap.size,#[.int .i64 0,.string ⟨#[]⟩,.string ⟨#[]⟩,.int .i64 0,.int .i64 0,.string ⟨#[]⟩,.slice none 0 0],27)] lr)/\
  Hid (ExSl (fun b=>w.heap.size<b/\b≠w1.heap.size) wr (.slice ad args.length ac) args)) (fun wr=>psLeft pb wr)
 case atStart=>exact⟨op,t,nm,v,args,ad,ac,r1,HM1.out,HL.out,SA.out,HAA.out⟩
 case round=>
  clear HM1 HL SA HAA;obtain⟨op,t,nm,v,args,ad,ac,lr,HM,HL,S,HA⟩:=hrel;have F:=S.out.facts;simp only[St.Facts,cellFacts,apartFacts,and_true]at F;go_wp2_with fail;refine PFr.sees S.out ?_;intro w2 bb hb2 S2;have HA2:=Lib.hid (HA.out.kept hb2);obtain⟨mb,hops⟩:=S2.out.psr.ops (seesWord lr) S2.out.psr.sees_len;obtain⟨m0,_,m1⟩:=hops w2 (Nat.le_refl _) (fun _ _=>rfl);have hst:y=_:=HM.out.trans (Wh sz lev _ lr H6.out);have hmeas:=Bu S.out.psr;have HMS:=Lib.hid hmeas;have HNE:Hid ((opOf (seesWord lr)).isSome=true->seesWord lr≠[]):=fun h e=>by rw[e,Xr]at h;cases h
  clear hops hb2 F S HA HM hmeas;unfold opPair at m1;obtain⟨sw,hsw⟩:∃sw,seesWord lr=sw:=⟨_,rfl⟩;have HSW:=Lib.hid hsw;rw[hsw]at hst HNE m1 ⊢;clear hsw;have F:=S2.out.facts;simp only[St.Facts,cellFacts,apartFacts,and_true]at F;have fin:Hid (y=.ok (.mk op t nm v args) lr)->∀W,Hid (PFr pb sz w W [(w1.heap.size,#[.int .i64 op,.string ⟨t.toArray⟩,.string ⟨nm.toArray⟩,.int .i64 v.k,.int .i64 v.n,.string v.s,.slice ad args.length ac],27),(w.heap.size,#[.int .i64 0,.string ⟨#[]⟩,.string ⟨#[]⟩,.int .i64 0,.int .i64 0,.string ⟨#[]⟩,.slice none 0 0],27)] lr)->Hid (ExSl (fun b=>w.heap.size<b/\b≠w1.heap.size) W (.slice ad args.length ac) args)->True:=fun _ _ _ _=>trivial;clear fin
  cases hop:opOf sw with
  | none=>
   rw[hop]at hst m1;simp only[Option.getD_none,Option.isSome_none]at hst m1;have HM2:=Lib.hid hst;clear hst HNE HSW IHn;go_wp2_with(with_reducible (refine Dj ?_));have HQ:∀c,(w.heap.size<c/\c≠w1.heap.size)->c≠w.heap.size:=fun c h e=>by omega
   refine bodyPost_ret (v:=.agg #[.int .i64 op,.string ⟨t.toArray⟩,.string ⟨nm.toArray⟩,.int .i64 v.k,.int .i64 v.n,.string v.s,.slice ad args.length ac]) (by simp[results,results180,go_sem,F]) rfl ?_;refine PFr.done (PFr.laid (PFr.set 1 (PFr.set 1 (PFr.set 1 (PFr.set 1 (PFr.set 1 (PFr.set 1 (PFr.set 1 (S2.out) rfl) rfl) rfl) rfl) rfl) rfl) rfl)) HM2.out (Br (ExSl.mono (Q:=fun b=>w.heap.size<b/\b≠w1.heap.size) (Aw ?_) (fun b hb=>Nat.le_of_lt hb.1)));repeat(refine Aq ?_ HQ)
   exact HA2.out
  | some pr=>
   obtain⟨po,lv⟩:=pr;rw[hop]at hst m1;simp only[Option.getD_some,Option.isSome_some]at hst m1;by_cases hlv:lv=(lev:Int)
   ·subst hlv;have HM2:Hid (y=(exprR sz (lev+1) lr.tail).bind fun e2 l2=>chainR sz lev (opEx po [.mk op t nm v args,e2]) l2):=by show _=_;rw[hst];simp only[ne_eq,not_true_eq_false,if_false]
    have hne:=HNE.out (by rw[hop];rfl);have kl:((lev:Int) != (lev:Int))=false:=by simp
    have HSZ:=Lib.hid F.1;clear hst HNE hop;go_wp2_with fail;refine PFr.takes (PFr.laid (PFr.alloc (S2.out))) sw (Ao (by simp)) (by decide) ?_ ?_
    ·intro r3 w3 hn ht3 S3;have hr3:r3=lr.tail:=by
      have:=Fo (l:=lr) (by rw[HSW.out];exact hne);rw[HSW.out,hn]at this;exact Option.some.inj this
     subst hr3;have hlr:lr≠[]:=by rintro rfl;exact hne (HSW.out▸rfl)
     have hlen2:lr.tail.length+1=lr.length:=by
      cases lr with
      | nil=>exact absurd rfl hlr
      | cons x xs=>simp
     have HA3:=Lib.hid ((Aw (Aw HA2.out)).turned ht3 (fun b hb e=>by have h1:=S0.out.lt;have h2:b=pb:=e;have h3:=hb.1;omega));have hx:w.heap.size<w2.heap.size:=Nat.lt_trans HS1.out HSZ.out;have HB1:∀p:TurnW (·=pb) w3,p.w.cell? ⟨w2.heap.size,0,none⟩=some (.int .i64 po):=fun p=>Bd p (S3.out.facts.2.1.1.1) (by have h1:=S0.out.lt;omega);have HB:Hid (∀p:TurnW (·=pb) w3,p.w.heap[w1.heap.size]?=some (.cells #[.int .i64 op,.string ⟨t.toArray⟩,.string ⟨nm.toArray⟩,.int .i64 v.k,.int .i64 v.n,.string v.s,.slice ad args.length ac] 27 (0,0))):=fun p=>Cn p (S3.out.blk 1 rfl) (by have h1:=S0.out.lt;have h2:=HS1.out;omega);clear hn ht3 HA2 HSW m0 m1 F S2 hne hlr;go_wp2_with fail;refine Bf (·=pb) (fun c w'=>Post pb sz (RExF w.heap.size) y w (.panicked c) w') (fun _ _ _ hd h=>⟨hd,h⟩) 9 [(0,false),(1,false),(2,false),(3,false),(4,false),(5,false),(6,true),(7,true),(8,false)] (by kernel_rfl) (by kernel_rfl) ?_;repeat(refine Bm rfl (fun K hK=>?_);go_simp;first|(refine hK _ ?_;clear hK K)|(apply Exists.intro;refine⟨fun _=>?_,hK _ ?_⟩;(fail);clear hK K))
     refine Fy rfl rfl 27 (.tmp 9) rfl w1.heap.size rfl 27 _ (0,0) _ HB.out underlying27 rfl (Hk _ _ _ _ _ _ _) ?_;repeat(refine Bm rfl (fun K hK=>?_);go_simp;first|(refine hK _ ?_;clear hK K)|(apply Exists.intro;refine⟨fun _=>?_,hK _ ?_⟩;(fail);clear hK K))
     refine Bj rfl rfl ?_;intro w4 hb4 ht4;have S4:=Lib.hid (S3.out.kept hb4);have HA4:=Lib.hid (HA3.out.kept hb4);have HT4:=Lib.hid ht4;have HX:=Lib.hid hx;clear hb4 ht4 HB1 HB HA3 S3 hx;go_wp2_with fail;refine PFr.post S4.out (IHn.out lr.tail w4 (by have h1:=HF.out;have h2:=HL.out;have h3:=H6.out;unfold exprFuel at h1 ⊢;omega) S4.out.psr) (fun p q h=>by rw[HM2.out,h];try rfl) (fun _ _ h=>h) ?_;intro a5 r5 v5 w5 h5 hv5 ht5 S5;have hlen5:=Ci (by have:=H6.out;omega) h5;have HM5:=HM2.out;rw[h5]at HM5;simp only[Res.bind]at HM5;replace HM5:=Lib.hid HM5;clear HM2 h5;obtain⟨op2,t2,nm2,vv2,args2⟩:=a5;obtain⟨ad2,ac2,rfl,hargs2⟩:=Bw hv5;have HA5:=Lib.hid (HA4.out.turned ht5 (fun b hb e=>by have h1:=S0.out.lt;have h2:b=pb:=e;have h3:=hb.1;omega));have hs4:w2.heap.size<w4.heap.size:=S4.out.facts.1;have HB5:Hid (ExSl (fun b=>w.heap.size<b/\b≠w1.heap.size) w5 (.slice ad2 args2.length ac2) args2):=hargs2.mono (fun b hb=>by have h1:=HS1.out;have h2:=HSZ.out;have hb':w4.heap.size<=b:=hb;exact⟨by omega,by omega⟩);have HT5:=Lib.hid (HT4.out.trans ht5 (fun _ _ h=>h));clear hv5 hargs2 ht5 HT4 HA4 S4 hs4;go_wp2_with fail;refine⟨HT5.out,?_⟩;refine Bj rfl rfl ?_;intro w6 hb6 ht6;have S6:=Lib.hid (PFr.alloc (cs:=#[.int .i64 op,.string ⟨t.toArray⟩,.string ⟨nm.toArray⟩,.int .i64 v.k,.int .i64 v.n,.string v.s,.slice ad args.length ac,.int .i64 op2,.string ⟨t2.toArray⟩,.string ⟨nm2.toArray⟩,.int .i64 vv2.k,.int .i64 vv2.n,.string vv2.s,.slice ad2 args2.length ac2]) (t:=27) (S5.out.kept hb6))
     have HA6:=Lib.hid (Aw (o:=.cells #[.int .i64 op,.string ⟨t.toArray⟩,.string ⟨nm.toArray⟩,.int .i64 v.k,.int .i64 v.n,.string v.s,.slice ad args.length ac,.int .i64 op2,.string ⟨t2.toArray⟩,.string ⟨nm2.toArray⟩,.int .i64 vv2.k,.int .i64 vv2.n,.string vv2.s,.slice ad2 args2.length ac2] 27) (HA5.out.kept hb6));have HB6:=Lib.hid (Aw (o:=.cells #[.int .i64 op,.string ⟨t.toArray⟩,.string ⟨nm.toArray⟩,.int .i64 v.k,.int .i64 v.n,.string v.s,.slice ad args.length ac,.int .i64 op2,.string ⟨t2.toArray⟩,.string ⟨nm2.toArray⟩,.int .i64 vv2.k,.int .i64 vv2.n,.string vv2.s,.slice ad2 args2.length ac2] 27) (HB5.out.kept hb6));have HG:Hid (w2.heap.size<w6.heap.size):=Nat.lt_of_lt_of_le S5.out.facts.1 hb6.size;clear hb6 HA5 HB5 S5 HT5;refine Jc rfl _ _ rfl _ _ _ _ _ _ _ _ _ _ _ _ _ _ rfl rfl ?_;refine⟨ht6.step ((Below.refl _ _).alloc (Nat.le_refl _) _),?_⟩;clear ht6;repeat(refine Bm rfl (fun K hK=>?_);go_simp;first|(refine hK _ ?_;clear hK K)|(apply Exists.intro;refine⟨fun _=>?_,hK _ ?_⟩;(fail);clear hK K))
     refine C7 ?_;intro w7 hb7 _;have S7:=Lib.hid (S6.out.kept hb7);have HA7:=Lib.hid (HA6.out.kept hb7);have HB7:=Lib.hid (HB6.out.kept hb7);have HQ1:Hid (∀c,(w.heap.size<c/\c≠w1.heap.size)->c≠w1.heap.size):=fun c h=>h.2;clear hb7 HA6 HB6 S6;simp only[List.drop_succ_cons,List.drop_zero];refine wpList_store_row rfl 27 (.tmp 9) (.tmp 110) rfl w1.heap.size _ rfl rfl 27 _ (S7.out.blk 2 rfl) (Hk _ _ _ _ _ _ _) rfl (by simp[Value.oneCell']) ?_;refine Ed (fun W=>PFr pb sz w W _ _/\ExSl _ W _ _/\ExSl _ W _ _) ⟨PFr.row 2 _ S7.out rfl,Ct HA7.out HQ1.out,Ct HB7.out HQ1.out⟩ ?_;rintro w8 ⟨S8',HA8',HB8'⟩;dsimp only[Act.put];have S8:=Lib.hid S8';have HA8:=Lib.hid HA8';have HB8:=Lib.hid HB8';clear S8' HA8' HB8' S7 HA7 HB7;simp only[List.set_cons_zero,List.set_cons_succ]at S8;go_wp2_with fail;go_roundw
     case rel=>
      refine⟨po,[],[],V.null,[.mk op t nm v args,.mk op2 t2 nm2 vv2 args2],some ⟨w6.heap.size,0,none⟩,2,r5,HM5.out,?_,S8.out.sub (List.Sublist.cons _ (List.Sublist.cons _ (List.Sublist.refl _))),?_⟩
      ·have h1:=HL.out;show r5.length+1<=l.length;omega
      ·exact Pe (Bc HA8.out) (Bc HB8.out) (S8.out.blk 0 rfl) (by have h1:=HG.out;have h2:=HS1.out;have h3:=HSZ.out;exact⟨by omega,by omega⟩)
     case measure=>
      have h1:=HMS.out;rw[Bu S8.out.psr,h1];omega
    ·intro w3 hn _ _;have:=Fo (l:=lr) (by rw[HSW.out];exact hne);rw[HSW.out,hn]at this
     cases this
   ·have HM2:Hid (y=.ok (.mk op t nm v args) lr):=by show _=_;rw[hst];simp only[ne_eq,hlv,not_false_eq_true,if_true]
    have kl:(lv != (lev:Int))=true:=by simpa using hlv
    clear hst HNE HSW IHn;go_wp2_with(with_reducible (refine Dj ?_));have HQ:∀c,(w.heap.size<c/\c≠w1.heap.size)->c≠w.heap.size:=fun c h e=>by omega
    refine bodyPost_ret (v:=.agg #[.int .i64 op,.string ⟨t.toArray⟩,.string ⟨nm.toArray⟩,.int .i64 v.k,.int .i64 v.n,.string v.s,.slice ad args.length ac]) (by simp[results,results180,go_sem,F]) rfl ?_;refine PFr.done (PFr.laid (PFr.set 1 (PFr.set 1 (PFr.set 1 (PFr.set 1 (PFr.set 1 (PFr.set 1 (PFr.set 1 (S2.out) rfl) rfl) rfl) rfl) rfl) rfl) rfl)) HM2.out (Br (ExSl.mono (Q:=fun b=>w.heap.size<b/\b≠w1.heap.size) (Aw ?_) (fun b hb=>Nat.le_of_lt hb.1)));repeat(refine Aq ?_ HQ)
    exact HA2.out
theorem Kk (pb:Nat) (sz:Int):∀n,ExprBelow pb sz n
 | 0=>fun lev l w h1 h2 _=>by unfold exprFuel at h2;omega
 | n+1=>fun lev l w h1 h2 h=>by
  have ih:=Kk pb sz n;by_cases e2:lev=2
  ·subst e2;exact Yc pb sz n ih l h2 w h
  ·by_cases e3:lev=3
   ·subst e3;exact expr_cmp pb sz n ih l h2 w h
   ·by_cases e6:lev=6
    ·subst e6;exact Vm pb sz n ih l h2 w h
    ·exact Rn pb sz n ih lev (by omega) e2 e3 l h2 w h
theorem Yd (pb:Nat) (sz:Int) (lev:Nat) (l:List Tok) (w:World) (hl:lev<=6) (h:Psr w pb sz l):
 Calls prog 180 #[.pointer (some ⟨pb,0,none⟩),.int .i64 (lev:Int)] w (Post pb sz (RExF w.heap.size) (exprR sz lev l) w):=Kk pb sz _ lev l w hl (Nat.le_refl _) h
end Go.Proofs.YtjmmbebkbkgefaaGreatDoor
