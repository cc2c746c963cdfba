/- Laws that the last part needs. No condition. -/
import Derived.Test.YtimoefagohifaaaGreatDoorA06
set_option maxHeartbeats 4000000
set_option maxRecDepth 100000
namespace Go.Proofs.YtimoefagohifaaaGreatDoor
open Go.RowKit Go.Sort Tryz
theorem Ch {α:Type} {E:ElRep α} {B:Nat} {w:World} {l:List α} {v:Value} (h:RLst E B w l v):∃a c,v=.slice a l.length c:=by
 obtain⟨acs,⟨a,c,e,_⟩,_⟩:=h;exact⟨a,c,e⟩
theorem Ed {α:Type} {E:ElRep α} (hk:0<E.k) {M:Nat->Prop} {B C:Nat} {w w':World} {l:List α} {v:Value} (h:RLst E B w l v) (ht:Turn M w w') (hM:∀b,B<=b->¬M b) (hC:C<=B):RLst E C w' l v:=
 rSl_move hk (fun b hb hq=>⟨vj hC hq,ht.block b hb (hM b hq)⟩) h
theorem Lz (pb cb g:Nat) (sz:Int) (read:List Tok->Res (List Bytes)) (l:List Tok) (w:World) (h:Psr w pb sz l) (hfn:∀args w,(callFunc g args).run prog w=.ok (.enter g args) w) (HR:Hid (∀l' w',Turn (·=pb) w w'->Psr w' pb sz l'->Calls prog g #[.pointer (O cb)] w' (Post pb sz (RLst strE w'.heap.size) (read l') w'))):Calls prog 126 #[.pointer (O pb),.func (.func g) #[] #[.pointer (O cb)]] w (Post pb sz (RLst strE w.heap.size) (insideR sz read l) w):=by
 have S:=tm (PFr.start h);clear h;refine Bt (C:=fun y=>Calls prog 126 _ w (Post pb sz (RLst strE w.heap.size) y w)) _ ?_;intro y HM;unfold insideR at HM;go_enter func126,ntmps126;go_wp2_with fail;refine PFr.wants (PFr.laid (S.out)) [[40]] (blk_at acx) rfl acy rfl acy acy (fun p q h=>by rw[HM.out,h];try rfl) (fun _ _ h=>⟨rfl,h⟩) ?_;intro r w1 h1 ht S;replace HM:=HM.out;rw[h1]at HM;simp only[Res.bind]at HM;replace HM:=tm HM;clear h1 ht;go_wp2_with fail;refine PFr.post S.out (HR.out r w1 S.out.turn S.out.psr) (fun p q h=>by rw[HM.out,h];try rfl) (fun _ _ h=>⟨rfl,h⟩) ?_;intro a r v2 w2 h2 hv ht S2;replace HM:=HM.out;rw[h2]at HM;simp only[]at HM;replace HM:=tm HM;obtain⟨ad,ac,rfl⟩:=Ch hv;have HA:=tm hv;clear h2 hv ht;refine z73 ?_;clear HA;intro r w3 S3 HM HA3;refine ue (v:=.slice ad a.length ac) (by simp[results,results126,go_sem]) rfl ?_;exact PFr.done S3.out HM.out HA3.out
theorem Ly (pb cb g:Nat) (sz:Int) (read:List Tok->Res (List V)) (l:List Tok) (w:World) (h:Psr w pb sz l) (hfn:∀args w,(callFunc g args).run prog w=.ok (.enter g args) w) (HR:Hid (∀l' w',Turn (·=pb) w w'->Psr w' pb sz l'->Calls prog g #[.pointer (O cb)] w' (Post pb sz (RLst valE w'.heap.size) (read l') w'))):Calls prog 132 #[.pointer (O pb),.func (.func g) #[] #[.pointer (O cb)]] w (Post pb sz (RLst valE w.heap.size) (insideR sz read l) w):=by
 have S:=tm (PFr.start h);clear h;refine Bt (C:=fun y=>Calls prog 132 _ w (Post pb sz (RLst valE w.heap.size) y w)) _ ?_;intro y HM;unfold insideR at HM;go_enter func132,ntmps132;go_wp2_with fail;refine PFr.wants (PFr.laid (S.out)) [[40]] (blk_at acx) rfl acy rfl acy acy (fun p q h=>by rw[HM.out,h];try rfl) (fun _ _ h=>⟨rfl,h⟩) ?_;intro r w1 h1 ht S;replace HM:=HM.out;rw[h1]at HM;simp only[Res.bind]at HM;replace HM:=tm HM;clear h1 ht;go_wp2_with fail;refine PFr.post S.out (HR.out r w1 S.out.turn S.out.psr) (fun p q h=>by rw[HM.out,h];try rfl) (fun _ _ h=>⟨rfl,h⟩) ?_;intro a r v2 w2 h2 hv ht S2;replace HM:=HM.out;rw[h2]at HM;simp only[]at HM;replace HM:=tm HM;obtain⟨ad,ac,rfl⟩:=Ch hv;have HA:=tm hv;clear h2 hv ht;refine z73 ?_;clear HA;intro r w3 S3 HM HA3;refine ue (v:=.slice ad a.length ac) (by simp[results,results132,go_sem]) rfl ?_;exact PFr.done S3.out HM.out HA3.out
theorem Ep (pb:Nat) (sz:Int) (l:List Tok) (w:World) (h:Psr w pb sz l):Calls prog 231 #[.pointer (O pb),.func (.func 138) #[.pointer (O pb)] #[]] w (Post pb sz (RExF w.heap.size) (insideR sz (anyR sz) l) w):=by
 have S:=tm (PFr.start h);clear h;refine Bt (C:=fun y=>Calls prog 231 _ w (Post pb sz (RExF w.heap.size) y w)) _ ?_;intro y HM;unfold insideR at HM;go_enter func231,ntmps231;go_wp2_with fail;refine PFr.wants (PFr.laid (PFr.alloc (S.out))) [[40]] (blk_at acx) rfl acy rfl acy acy (fun p q h=>by rw[HM.out,h];try rfl) (fun _ _ h=>⟨rfl,h⟩) ?_;intro r w1 h1 ht S1;replace HM:=HM.out;rw[h1]at HM;simp only[Res.bind]at HM;replace HM:=tm HM;clear h1 ht;go_wp2_with fail;refine PFr.post S1.out (Ha pb sz r w1 S1.out.psr) (fun p q h=>by rw[HM.out,h];try rfl) (fun _ _ h=>⟨rfl,h⟩) ?_;intro a r v2 w2 h2 hv ht S2;refine z61 ?_;clear h2;intro HM;obtain⟨op,t,n,v,args⟩:=a;obtain⟨ad,ac,rfl,hargs⟩:=Bm hv;have HA:=tm hargs;clear hv hargs;have hs:w.heap.size<=w1.heap.size:=S1.out.size;have hs2:w.heap.size<w1.heap.size:=S1.out.facts.1;have F:=S2.out.facts;refine z25 ?_;clear F;intro F;go_wp2_with fail;refine PFr.wants (PFr.laid (PFr.alloc (S2.out))) [[41]] (blk_at acx) rfl acy rfl acy acy (fun p q h=>by rw[HM.out,h];try rfl) (fun _ _ h=>⟨rfl,h⟩) ?_;intro r w3 h3 ht3 S3;replace HM:=HM.out;rw[h3]at HM;replace HM:=tm HM;have HA3:=tm (((HA.out.kept ((uj _ _).alloc (tu _) _)).kept ((uj _ _).alloc (tu _) _)).turned ht3 (fun b hb e=>by have:=S.out.lt;have h1:b=pb:=e;have h2:w1.heap.size<=b:=hb;omega));clear h3 HA F ht;have HQ:∀c,w1.heap.size<=c->c≠w.heap.size:=fun c h e=>by omega
 have F:=S3.out.facts;refine z25 ?_;clear F;intro F;go_wp2_with fail;refine ue (v:=.agg #[U op,.string (Y t),.string (Y n),U v.k,U v.n,.string v.s,.slice ad args.length ac]) (by simp[results,results231,go_sem,F]) rfl ?_;exact m0
theorem Mp {α:Type} {read:List Tok->Res α} (hr:∀l a r,read l=.ok a r->r.length<=l.length):∀(f:Nat) (acc:List α) (l:List Tok) (a:List α) (r:List Tok),moreR read f acc l=.ok a r->r.length<=l.length
 | 0,acc,l,a,r,h=>by
  simp only[moreR,Res.ok.injEq]at h;rw[h.2];exact tu _
 | f+1,acc,l,a,r,h=>by
  rw[Ci]at h
  cases ht:tk [44] l with
  | none=>
   simp only[ht,Res.ok.injEq]at h;rw[h.2];exact tu _
  | some q=>
   have h1:=A5 ht;simp only[ht]at h
   cases hq:read q with
   | err p x=>rw[hq]at h;cases h
   | ok b l1=>
    have h2:=hr q b l1 hq;rw[hq]at h;have:=Mp hr f _ l1 a r h;omega
theorem Mr {α:Type} {read:List Tok->Res α} (hr:∀l a r,read l=.ok a r->r.length<=l.length) (l:List Tok) (a:List α) (r:List Tok) (h:listR read l=.ok a r):r.length<=l.length:=by
 unfold listR at h
 cases hq:read l with
 | err p x=>rw[hq]at h;cases h
 | ok b l1=>
  have h2:=hr l b l1 hq;rw[hq]at h;have:=Mp hr _ _ l1 a r h;omega
theorem Jh {α:Type} {sz:Int} {read:List Tok->Res α} (hr:∀l a r,read l=.ok a r->r.length<=l.length) (l:List Tok) (a:α) (r:List Tok) (h:insideR sz read l=.ok a r):r.length<=l.length:=by
 unfold insideR at h
 cases h1:wantsR sz [[40]] l with
 | err p x=>rw[h1]at h;cases h
 | ok u l1=>
  have k:=Aw h1;rw[h1]at h;simp only[Res.bind]at h
  cases h2:read l1 with
  | err p x=>rw[h2]at h;cases h
  | ok b l2=>
   have k2:=hr _ _ _ h2;rw[h2]at h;simp only[]at h
   cases h3:wantsR sz [[41]] l2 with
   | err p x=>rw[h3]at h;cases h
   | ok u l3=>
    have k3:=Aw h3;rw[h3]at h;simp only[Res.map,Res.ok.injEq]at h;rw[<- h.2];simp only[tw,tx]at k k3;omega
theorem Yp:En 125:=enters_of func125 acz rfl
theorem Yl:En 135:=enters_of func135 acz rfl
theorem Ym:En 133:=enters_of func133 acz rfl
theorem Yn:En 131:=enters_of func131 acz rfl
theorem Yc:En 192:=enters_of func192 acz rfl
theorem Post.mono {α:Type} {pb:Nat} {sz:Int} {Rep Rep2:World->α->Value->Prop} {x:Res α} {w w':World} {e:Ending} (h:Post pb sz Rep x w e w') (hm:∀a v,Rep w' a v->Rep2 w' a v):Post pb sz Rep2 x w e w':=by
 cases x with
 | ok a l=>obtain⟨v,h1,h2,h3⟩:=h;exact⟨v,h1,hm _ _ h2,h3⟩
 | err p q=>exact h
theorem Calls.post {α:Type} {f:Nat} {args:Array Value} {pb:Nat} {sz:Int} {Rep Rep2:World->α->Value->Prop} {x:Res α} {w:World} (h:Calls prog f args w (Post pb sz Rep x w)) (hm:∀w' a v,Rep w' a v->Rep2 w' a v):Calls prog f args w (Post pb sz Rep2 x w):=
 tp h fun _ _ h=>Post.mono h (fun a v=>hm _ a v)
theorem Xj (pb:Nat) (sz:Int) (l:List Tok) (w:World) (h:Psr w pb sz l):
 Calls prog 128 #[.pointer (O pb),.func (.func 125) #[.pointer (O pb)] #[]] w (Post pb sz (RLst strE w.heap.size) (listR (nameR sz) l) w):=
 Qb pb 125 sz (nameR sz) l w h Yp (fun l a r h=>by have:=Be h;omega) (fun l' w' _ hp=>Calls.post (name_any pb sz l' w' hp) (fun w' a v h=>⟨[.string (Y a)],h,rfl⟩))
theorem Rn (pb:Nat) (sz:Int) (l:List Tok) (w:World) (h:Psr w pb sz l):
 Calls prog 134 #[.pointer (O pb),.func (.func 135) #[.pointer (O pb)] #[]] w (Post pb sz (RLst valE w.heap.size) (listR (literalR sz) l) w):=
 P9 pb 135 sz (literalR sz) l w h Yl (fun l a r h=>by have:=Cu h;omega) (fun l' w' _ hp=>Calls.post (Gr pb sz l' w' hp) (fun w' a v h=>⟨[U a.k,U a.n,.string a.s],h,rfl⟩))
theorem az (pb:Nat) (sz:Int) (l:List Tok) (w:World) (h:Psr w pb sz l):
 Calls prog 191 #[.pointer (O pb),.func (.func 192) #[.pointer (O pb)] #[]] w (Post pb sz (RLst exE w.heap.size) (listR (refR sz) l) w):=
 Pz pb 192 sz (refR sz) l w h Yc (fun l a r h=>by have:=Kx h;omega) (fun l' w' _ hp=>Calls.post (Vd pb sz l' w' hp) (fun w' a v h=>h))
theorem Wn (pb cb:Nat) (sz:Int) (t:TypeId) (l:List Tok) (w:World) (h:Psr w pb sz l) (hc:w.heap[cb]?=some (.cells #[.pointer (O pb)] t (0,0))):Calls prog 133 #[.pointer (O cb)] w (Post pb sz (RLst valE w.heap.size) (listR (literalR sz) l) w):=by
 have C:=tm (Rn pb sz l w h);have y:w.cell? ⟨cb,0,none⟩=some (.pointer (O pb)):=by simp only[World.cell?,hc];rfl
 clear h hc;go_enter func133,ntmps133;go_wp2_with fail;refine tp C.out ?_;intro e w1 h1
 cases hx:listR (literalR sz) l with
 | err p q=>exact p9
 | ok a r=>
  rw[hx]at h1;obtain⟨v,rfl,hv,hp,ht⟩:=h1;have HV:=tm hv;have HP:=tm hp;have HT:=tm ht;clear hv hp ht;go_wp2_with fail;refine ue (v:=v) (by simp[results,results133,go_sem]) rfl ?_;exact ahc
theorem ik (pb cb:Nat) (sz:Int) (t:TypeId) (l:List Tok) (w:World) (h:Psr w pb sz l) (hc:w.heap[cb]?=some (.cells #[.pointer (O pb)] t (0,0))) (hne:cb≠pb):Calls prog 131 #[.pointer (O cb)] w (Post pb sz (RLst valE w.heap.size) (rowR sz l) w):=by
 have C:=tm (Ly pb cb 133 sz (listR (literalR sz)) l w h Ym (fun l' w' ht hp=>Wn pb cb sz t l' w' hp (by rw[ht.block cb (uh.1 hc).1 hne];exact hc)));have y:w.cell? ⟨cb,0,none⟩=some (.pointer (O pb)):=by simp only[World.cell?,hc];rfl
 clear h hc;unfold rowR;go_enter func131,ntmps131;go_wp2_with fail;refine tp C.out ?_;intro e w1 h1
 cases hx:insideR sz (listR (literalR sz)) l with
 | err p q=>exact p9
 | ok a r=>
  rw[hx]at h1;obtain⟨v,rfl,hv,hp,ht⟩:=h1;have HV:=tm hv;have HP:=tm hp;have HT:=tm ht;clear hv hp ht;go_wp2_with fail;refine ue (v:=v) (by simp[results,results131,go_sem]) rfl ?_;exact ahc
theorem rows_any (pb cb:Nat) (sz:Int) (t:TypeId) (l:List Tok) (w:World) (h:Psr w pb sz l) (hc:w.heap[cb]?=some (.cells #[.pointer (O pb)] t (0,0))) (hne:cb≠pb):
 Calls prog 130 #[.pointer (O pb),.func (.func 131) #[] #[.pointer (O cb)]] w (Post pb sz (RLst rowE w.heap.size) (listR (rowR sz) l) w):=
 Qa pb cb 131 sz (rowR sz) l w h Yn (Jh (Mr (fun l a r h=>by have:=Cu h;omega))) (fun l' w' ht hp=>Calls.post (ik pb cb sz t l' w' hp (by rw[ht.block cb (uh.1 hc).1 hne];exact hc) hne) (fun w' a v h=>⟨[v],rfl,v,rfl,h⟩))
def RCol (_:World) (c:Col) (v:Value):Prop:=v=.agg #[.string (Y c.name),U c.kind,.bool c.null]
theorem Z9 (pb:Nat) (sz:Int) (l:List Tok) (w:World) (h:Psr w pb sz l):Calls prog 194 #[.pointer (O pb)] w (Post pb sz (REl srtE w.heap.size) (sortR sz l) w):=by
 have S:=tm (PFr.start h);clear h;refine Bt (C:=fun y=>Calls prog 194 _ w (Post pb sz (REl srtE w.heap.size) y w)) _ ?_;intro y HM;unfold sortR at HM;go_enter func194,ntmps194;go_wp2_with fail;refine PFr.post (PFr.alloc (S.out)) (Ho pb sz _ _ ((PFr.alloc (S.out))).psr) (fun p q h=>by rw[HM.out,h];try rfl) (fun _ _ h=>⟨rfl,h⟩) ?_;intro a r v1 w1 h1 hv ht S;refine z52 ?_;intro HM;clear h1;obtain rfl:=hv;refine z1076 ?_;intro F;go_wp2_with fail;refine PFr.takes (PFr.laid (PFr.alloc (S.out))) [97,115,99] (blk_at acx) acy ?_ ?_
 ·skip;intro r w2 hn ht S;refine z128 ?_;clear hn;intro HM;refine z1076 ?_;intro F;go_wp2_with fail;refine ue (v:=.agg #[U a,.bool false]) (by simp[results,results194,go_sem,F]) rfl ?_;exact PFr.done (PFr.set 1 (PFr.set 1 (S.out) rfl) rfl) HM.out ⟨_,rfl,rfl⟩
 ·skip;intro w2 hn ht S;refine z128 ?_;clear hn;intro HM;refine z1076 ?_;intro F;go_wp2_with fail;refine PFr.takes (PFr.laid (S.out)) [100,101,115,99] (blk_at acx) acy ?_ ?_
  ·skip;intro r w3 hn ht S;refine z128 ?_;clear hn;intro HM;refine z1076 ?_;intro F;go_wp2_with fail;refine ue (v:=.agg #[U a,.bool true]) (by simp[results,results194,go_sem,F]) rfl ?_;exact ah0
  ·skip;intro w3 hn ht S;refine z128 ?_;clear hn;intro HM;refine z1076 ?_;intro F;go_wp2_with fail;refine ue (v:=.agg #[U a,.bool false]) (by simp[results,results194,go_sem,F]) rfl ?_;exact ah0
theorem column_any (pb:Nat) (sz:Int) (l:List Tok) (w:World) (h:Psr w pb sz l):Calls prog 129 #[.pointer (O pb)] w (Post pb sz RCol (columnR sz l) w):=by
 have S:=tm (PFr.start h);clear h;refine Bt (C:=fun y=>Calls prog 129 _ w (Post pb sz RCol y w)) _ ?_;intro y HM;unfold columnR at HM;go_enter func129,ntmps129;go_wp2_with fail;refine PFr.post (PFr.alloc (S.out)) (name_any pb sz _ _ ((PFr.alloc (S.out))).psr) (fun p q h=>by rw[HM.out,h];try rfl) (fun _ _ h=>⟨rfl,h⟩) ?_;intro a r v1 w1 h1 hv ht S;refine z52 ?_;intro HM;clear h1;obtain rfl:=hv;refine z1076 ?_;intro F;go_wp2_with fail;refine PFr.takes (PFr.laid (PFr.alloc (S.out))) [105,110,116] (blk_at acx) acy ?_ ?_
 ·skip;intro r w2 hn ht S;refine z128 ?_;clear hn;intro HM;have HX:=HM.out;clear HM;try(simp only[Res.bind]at HX)
  have HM:=tm HX;clear HX;refine z1076 ?_;intro F;go_wp2_with fail;refine PFr.takes (PFr.laid (PFr.set 0 (S.out) rfl)) [110,111,116] (blk_at acx) acy ?_ ?_
  ·skip;intro r w3 hn ht S;refine z47 ?_;clear hn S;intro HM S;refine z1076 ?_;intro F;go_wp2_with fail;refine PFr.wants (PFr.laid (S.out)) [[110,117,108,108]] (blk_at acx) rfl acy rfl acy acy (fun p q h=>by rw[HM.out,h];try rfl) (fun _ _ h=>⟨rfl,h⟩) ?_;intro r w4 h4 ht S;replace HM:=HM.out;rw[h4]at HM;refine qy ?_;clear HM;intro HM;clear h4 ht;refine z1076 ?_;intro F;go_wp2_with fail;refine ue (v:=.agg #[.string (Y a),U 1,.bool false]) (by simp[results,results129,go_sem,F]) rfl ?_;exact fv
  ·skip;intro w3 hn ht S;refine z47 ?_;clear hn S;intro HM S;refine z1076 ?_;intro F;go_wp2_with fail;refine ue (v:=.agg #[.string (Y a),U 1,.bool true]) (by simp[results,results129,go_sem,F]) rfl ?_;exact U1
 ·skip;intro w2 hn ht S;refine z128 ?_;clear hn;intro HM;refine z1076 ?_;intro F;go_wp2_with fail;refine PFr.takes (PFr.laid (S.out)) [116,101,120,116] (blk_at acx) acy ?_ ?_
  ·skip;intro r w3 hn ht S;refine z128 ?_;clear hn;intro HM;have HX:=HM.out;clear HM;try(simp only[Res.bind]at HX)
   have HM:=tm HX;clear HX;refine z1076 ?_;intro F;go_wp2_with fail;refine PFr.takes (PFr.laid (PFr.set 0 (S.out) rfl)) [110,111,116] (blk_at acx) acy ?_ ?_
   ·skip;intro r w4 hn ht S;refine z47 ?_;clear hn S;intro HM S;refine z1076 ?_;intro F;go_wp2_with fail;refine PFr.wants (PFr.laid (S.out)) [[110,117,108,108]] (blk_at acx) rfl acy rfl acy acy (fun p q h=>by rw[HM.out,h];try rfl) (fun _ _ h=>⟨rfl,h⟩) ?_;intro r w5 h5 ht S;replace HM:=HM.out;rw[h5]at HM;refine qy ?_;clear HM;intro HM;clear h5 ht;refine z1076 ?_;intro F;go_wp2_with fail;refine ue (v:=.agg #[.string (Y a),U 2,.bool false]) (by simp[results,results129,go_sem,F]) rfl ?_;exact fv
   ·skip;intro w4 hn ht S;refine z47 ?_;clear hn S;intro HM S;refine z1076 ?_;intro F;go_wp2_with fail;refine ue (v:=.agg #[.string (Y a),U 2,.bool true]) (by simp[results,results129,go_sem,F]) rfl ?_;exact U1
  ·skip;intro w3 hn ht S;refine z128 ?_;clear hn;intro HM;refine z1076 ?_;intro F;go_wp2_with fail;refine PFr.wants (PFr.laid (S.out)) [[98,111,111,108]] (blk_at acx) rfl acy rfl acy acy (fun p q h=>by rw[HM.out,h];try rfl) (fun _ _ h=>⟨rfl,h⟩) ?_;intro r w4 h4 ht S;replace HM:=HM.out;rw[h4]at HM;simp only[]at HM;replace HM:=tm HM;clear h4 ht;have HX:=HM.out;clear HM;try(simp only[Res.bind]at HX)
   have HM:=tm HX;clear HX;refine z1076 ?_;intro F;go_wp2_with fail;refine PFr.takes (PFr.laid (PFr.set 0 (S.out) rfl)) [110,111,116] (blk_at acx) acy ?_ ?_
   ·skip;intro r w5 hn ht S;refine z47 ?_;clear hn S;intro HM S;refine z1076 ?_;intro F;go_wp2_with fail;refine PFr.wants (PFr.laid (S.out)) [[110,117,108,108]] (blk_at acx) rfl acy rfl acy acy (fun p q h=>by rw[HM.out,h];try rfl) (fun _ _ h=>⟨rfl,h⟩) ?_;intro r w6 h6 ht S;replace HM:=HM.out;rw[h6]at HM;refine qy ?_;clear HM;intro HM;clear h6 ht;refine z1076 ?_;intro F;go_wp2_with fail;refine ue (v:=.agg #[.string (Y a),U 3,.bool false]) (by simp[results,results129,go_sem,F]) rfl ?_;exact fv
   ·skip;intro w5 hn ht S;refine z47 ?_;clear hn S;intro HM S;refine z1076 ?_;intro F;go_wp2_with fail;refine ue (v:=.agg #[.string (Y a),U 3,.bool true]) (by simp[results,results129,go_sem,F]) rfl ?_;exact U1
theorem da (pb:Nat) (sz:Int) (l:List Tok) (w:World) (h:Psr w pb sz l):Calls prog 190 #[.pointer (some ⟨pb,0,none⟩)] w (Post pb sz (REl pkE w.heap.size) (itemR sz l) w):=by
 have S0:=tm (PFr.start h);clear h;refine Bt (C:=fun y=>Calls prog 190 _ w (Post pb sz (REl pkE w.heap.size) y w)) _ ?_;intro y HM;go_enter func190,ntmps190;go_wp2_with fail;go_loopw [7] (fun i wr=>∃k:Int,0<=k/\k<=5/\i=.int .i64 k/\Hid ((2<=k->tk [99,111,117,110,116] l=none)/\(3<=k->tk [115,117,109] l=none)/\(4<=k->tk [109,105,110] l=none)/\(5<=k->tk [109,97,120] l=none))/\
  Hid (PFr pb sz w wr [(w.heap.size+1,#[.string ⟨#[]⟩,.string ⟨#[99,111,117,110,116]⟩,.string ⟨#[115,117,109]⟩,.string ⟨#[109,105,110]⟩,.string ⟨#[109,97,120]⟩],9),(w.heap.size,#[.int .i64 0,.int .i64 0,.string ⟨#[]⟩,.string ⟨#[]⟩,.int .i64 0,.int .i64 0,.string ⟨#[]⟩,.slice none 0 0],132)] l)) (fun i _=>5 - (intOf i).toNat)
 case atStart=>exact⟨0,by omega,by omega,rfl,⟨fun h=>acw,fun h=>acw,fun h=>acw,fun h=>acw⟩,by
  have h1:=PFr.alloc (cs:=#[.string ⟨#[]⟩,.string ⟨#[99,111,117,110,116]⟩,.string ⟨#[115,117,109]⟩,.string ⟨#[109,105,110]⟩,.string ⟨#[109,97,120]⟩]) (t:=9) (PFr.alloc (cs:=#[.int .i64 0,.int .i64 0,.string ⟨#[]⟩,.string ⟨#[]⟩,.int .i64 0,.int .i64 0,.string ⟨#[]⟩,.slice none 0 0]) (t:=132) S0.out);rw[ug]at h1;exact h1⟩
 case round=>
  clear S0;obtain⟨k,hk,hk,rfl,HN,S⟩:=hrel;refine z1076 ?_;intro F;obtain rfl|rfl|rfl|rfl|rfl|rfl:k=0\/k=1\/k=2\/k=3\/k=4\/k=5:=acw
  ·go_wp2_with fail;go_roundw
   case rel=>exact⟨1,by omega,by omega,rfl,⟨fun h=>acw,fun h=>acw,fun h=>acw,fun h=>acw⟩,S.out⟩
   case measure=>simp[intOf]
  ·go_wp2_with fail;refine PFr.takes (PFr.laid (S.out)) [99,111,117,110,116] (blk_at acx) acy ?_ ?_
   ·intro r w1 hn ht S1;replace HM:Hid (y=(wantsR sz [[40],[42],[41]] r).map fun _=>⟨1,Ex.zero⟩):=by
     show _=_;rw[HM.out];unfold itemR;simp only[hn]
    have hs:w.heap.size+1<w1.heap.size:=S1.out.facts.1;clear hn ht HN F S;go_wp2_with fail;refine PFr.wants (PFr.laid (S1.out)) [[40],[42],[41]] (blk_at acx) rfl acy rfl acy acy (fun p q h=>by rw[HM.out,h];try rfl) (fun _ _ h=>⟨rfl,h⟩) ?_;intro r w2 h2 ht S2;replace HM:=HM.out;rw[h2]at HM;try(simp only[Res.map]at HM)
    replace HM:=tm HM;clear h2 ht;have F2:=fx_ S2.out.facts;go_wp2_with fail;refine ue (v:=.agg #[.int .i64 1,.int .i64 0,.string ⟨#[]⟩,.string ⟨#[]⟩,.int .i64 0,.int .i64 0,.string ⟨#[]⟩,.slice none 0 0]) (by simp[results,results190,go_sem,F2]) rfl ?_;exact PFr.done (PFr.set 1 (PFr.set 1 (PFr.set 1 (PFr.set 1 (PFr.set 1 (PFr.set 1 (PFr.set 1 (PFr.set 1 (S2.out) rfl) rfl) rfl) rfl) rfl) rfl) rfl) rfl) HM.out ⟨[.int .i64 1,.int .i64 0,.string ⟨#[]⟩,.string ⟨#[]⟩,.int .i64 0,.int .i64 0,.string ⟨#[]⟩,.slice none 0 0],rfl,_,rfl,Bc (ExSl.nil _ _)⟩
   ·intro w1 hn ht S1;have HN1:Hid ((2<=(2:Int)->tk [99,111,117,110,116] l=none)/\(3<=(2:Int)->tk [115,117,109] l=none)/\(4<=(2:Int)->tk [109,105,110] l=none)/\(5<=(2:Int)->tk [109,97,120] l=none)):=⟨fun _=>hn,fun h=>acw,fun h=>acw,fun h=>acw⟩;clear hn ht HN F S;go_wp2_with fail;go_roundw
    case rel=>exact⟨2,by omega,by omega,rfl,HN1.out,S1.out⟩
    case measure=>simp[intOf]
  ·go_wp2_with fail;refine PFr.takes (PFr.laid (S.out)) [115,117,109] (blk_at acx) acy ?_ ?_
   ·intro r w1 hn ht S1;replace HM:Hid (y=(insideR sz (anyR sz) r).map fun e=>⟨2,e⟩):=by
     show _=_;rw[HM.out];unfold itemR;simp only[HN.out.1 acw,hn]
    clear hn ht HN F S;have hs:w.heap.size+1<w1.heap.size:=S1.out.facts.1;go_wp2_with fail;refine PFr.post S1.out (Ep pb sz r w1 S1.out.psr) (fun p q h=>by rw[HM.out,h];try rfl) (fun _ _ h=>⟨rfl,h⟩) ?_;intro a r v2 w2 h2 hv ht S2;refine z61 ?_;clear h2;intro HM;obtain⟨op,t,n,v,args⟩:=a;obtain⟨ad,ac,rfl,hargs⟩:=Bm hv;have HA:=tm hargs;clear hv hargs ht;have F2:=fx_ S2.out.facts;go_wp2_with fail;have HQ:∀c,w1.heap.size<=c->c≠w.heap.size:=fun c h e=>by omega
    refine ue (v:=.agg #[.int .i64 2,.int .i64 op,.string ⟨t.toArray⟩,.string ⟨n.toArray⟩,.int .i64 v.k,.int .i64 v.n,.string v.s,.slice ad args.length ac]) (by simp[results,results190,go_sem,F2]) rfl ?_;exact PFr.done (PFr.set 1 (PFr.set 1 (PFr.set 1 (PFr.set 1 (PFr.set 1 (PFr.set 1 (PFr.set 1 (PFr.set 1 (S2.out) rfl) rfl) rfl) rfl) rfl) rfl) rfl) rfl) HM.out ⟨[.int .i64 2,.int .i64 op,.string ⟨t.toArray⟩,.string ⟨n.toArray⟩,.int .i64 v.k,.int .i64 v.n,.string v.s,.slice ad args.length ac],rfl,_,rfl,Bc (ExSl.mono (Q:=(w1.heap.size≤·)) (by(repeat(refine A2 ?_ HQ));exact HA.out) (fun b hb=>by have hb':w1.heap.size<=b:=hb;show w.heap.size<=b;omega))⟩
   ·intro w1 hn ht S1;have HN1:Hid ((2<=(3:Int)->tk [99,111,117,110,116] l=none)/\(3<=(3:Int)->tk [115,117,109] l=none)/\(4<=(3:Int)->tk [109,105,110] l=none)/\(5<=(3:Int)->tk [109,97,120] l=none)):=⟨fun _=>HN.out.1 acw,fun _=>hn,fun h=>acw,fun h=>acw⟩;clear hn ht HN F S;go_wp2_with fail;go_roundw
    case rel=>exact⟨3,by omega,by omega,rfl,HN1.out,S1.out⟩
    case measure=>simp[intOf]
  ·go_wp2_with fail;refine PFr.takes (PFr.laid (S.out)) [109,105,110] (blk_at acx) acy ?_ ?_
   ·intro r w1 hn ht S1;replace HM:Hid (y=(insideR sz (anyR sz) r).map fun e=>⟨3,e⟩):=by
     show _=_;rw[HM.out];unfold itemR;simp only[HN.out.1 acw,HN.out.2.1 acw,hn]
    clear hn ht HN F S;have hs:w.heap.size+1<w1.heap.size:=S1.out.facts.1;go_wp2_with fail;refine PFr.post S1.out (Ep pb sz r w1 S1.out.psr) (fun p q h=>by rw[HM.out,h];try rfl) (fun _ _ h=>⟨rfl,h⟩) ?_;intro a r v2 w2 h2 hv ht S2;refine z61 ?_;clear h2;intro HM;obtain⟨op,t,n,v,args⟩:=a;obtain⟨ad,ac,rfl,hargs⟩:=Bm hv;have HA:=tm hargs;clear hv hargs ht;have F2:=fx_ S2.out.facts;go_wp2_with fail;have HQ:∀c,w1.heap.size<=c->c≠w.heap.size:=fun c h e=>by omega
    refine ue (v:=.agg #[.int .i64 3,.int .i64 op,.string ⟨t.toArray⟩,.string ⟨n.toArray⟩,.int .i64 v.k,.int .i64 v.n,.string v.s,.slice ad args.length ac]) (by simp[results,results190,go_sem,F2]) rfl ?_;exact PFr.done (PFr.set 1 (PFr.set 1 (PFr.set 1 (PFr.set 1 (PFr.set 1 (PFr.set 1 (PFr.set 1 (PFr.set 1 (S2.out) rfl) rfl) rfl) rfl) rfl) rfl) rfl) rfl) HM.out ⟨[.int .i64 3,.int .i64 op,.string ⟨t.toArray⟩,.string ⟨n.toArray⟩,.int .i64 v.k,.int .i64 v.n,.string v.s,.slice ad args.length ac],rfl,_,rfl,Bc (ExSl.mono (Q:=(w1.heap.size≤·)) (by(repeat(refine A2 ?_ HQ));exact HA.out) (fun b hb=>by have hb':w1.heap.size<=b:=hb;show w.heap.size<=b;omega))⟩
   ·intro w1 hn ht S1;have HN1:Hid ((2<=(4:Int)->tk [99,111,117,110,116] l=none)/\(3<=(4:Int)->tk [115,117,109] l=none)/\(4<=(4:Int)->tk [109,105,110] l=none)/\(5<=(4:Int)->tk [109,97,120] l=none)):=⟨fun _=>HN.out.1 acw,fun _=>HN.out.2.1 acw,fun _=>hn,fun h=>acw⟩;clear hn ht HN F S;go_wp2_with fail;go_roundw
    case rel=>exact⟨4,by omega,by omega,rfl,HN1.out,S1.out⟩
    case measure=>simp[intOf]
  ·go_wp2_with fail;refine PFr.takes (PFr.laid (S.out)) [109,97,120] (blk_at acx) acy ?_ ?_
   ·intro r w1 hn ht S1;replace HM:Hid (y=(insideR sz (anyR sz) r).map fun e=>⟨4,e⟩):=by
     show _=_;rw[HM.out];unfold itemR;simp only[HN.out.1 acw,HN.out.2.1 acw,HN.out.2.2.1 acw,hn]
    clear hn ht HN F S;have hs:w.heap.size+1<w1.heap.size:=S1.out.facts.1;go_wp2_with fail;refine PFr.post S1.out (Ep pb sz r w1 S1.out.psr) (fun p q h=>by rw[HM.out,h];try rfl) (fun _ _ h=>⟨rfl,h⟩) ?_;intro a r v2 w2 h2 hv ht S2;refine z61 ?_;clear h2;intro HM;obtain⟨op,t,n,v,args⟩:=a;obtain⟨ad,ac,rfl,hargs⟩:=Bm hv;have HA:=tm hargs;clear hv hargs ht;have F2:=fx_ S2.out.facts;go_wp2_with fail;have HQ:∀c,w1.heap.size<=c->c≠w.heap.size:=fun c h e=>by omega
    refine ue (v:=.agg #[.int .i64 4,.int .i64 op,.string ⟨t.toArray⟩,.string ⟨n.toArray⟩,.int .i64 v.k,.int .i64 v.n,.string v.s,.slice ad args.length ac]) (by simp[results,results190,go_sem,F2]) rfl ?_;exact PFr.done (PFr.set 1 (PFr.set 1 (PFr.set 1 (PFr.set 1 (PFr.set 1 (PFr.set 1 (PFr.set 1 (PFr.set 1 (S2.out) rfl) rfl) rfl) rfl) rfl) rfl) rfl) rfl) HM.out ⟨[.int .i64 4,.int .i64 op,.string ⟨t.toArray⟩,.string ⟨n.toArray⟩,.int .i64 v.k,.int .i64 v.n,.string v.s,.slice ad args.length ac],rfl,_,rfl,Bc (ExSl.mono (Q:=(w1.heap.size≤·)) (by(repeat(refine A2 ?_ HQ));exact HA.out) (fun b hb=>by have hb':w1.heap.size<=b:=hb;show w.heap.size<=b;omega))⟩
   ·intro w1 hn ht S1;have HN1:Hid ((2<=(5:Int)->tk [99,111,117,110,116] l=none)/\(3<=(5:Int)->tk [115,117,109] l=none)/\(4<=(5:Int)->tk [109,105,110] l=none)/\(5<=(5:Int)->tk [109,97,120] l=none)):=⟨fun _=>HN.out.1 acw,fun _=>HN.out.2.1 acw,fun _=>HN.out.2.2.1 acw,fun _=>hn⟩;clear hn ht HN F S;go_wp2_with fail;go_roundw
    case rel=>exact⟨5,by omega,by omega,rfl,HN1.out,S1.out⟩
    case measure=>simp[intOf]
  ·replace HM:Hid (y=(anyR sz l).map fun e=>⟨0,e⟩):=by
    show _=_;rw[HM.out];unfold itemR;simp only[HN.out.1 acw,HN.out.2.1 acw,HN.out.2.2.1 acw,HN.out.2.2.2 acw]
   have S1:=S;have hs:w.heap.size+1<wr.heap.size:=S1.out.facts.1;clear HN F S;go_wp2_with fail;refine PFr.post S1.out (Ha pb sz l wr S1.out.psr) (fun p q h=>by rw[HM.out,h];try rfl) (fun _ _ h=>⟨rfl,h⟩) ?_;intro a r v2 w2 h2 hv ht S2;refine z61 ?_;clear h2;intro HM;obtain⟨op,t,n,v,args⟩:=a;obtain⟨ad,ac,rfl,hargs⟩:=Bm hv;have HA:=tm hargs;clear hv hargs ht;have F2:=fx_ S2.out.facts;go_wp2_with fail;have HQ:∀c,wr.heap.size<=c->c≠w.heap.size:=fun c h e=>by omega
   refine ue (v:=.agg #[.int .i64 0,.int .i64 op,.string ⟨t.toArray⟩,.string ⟨n.toArray⟩,.int .i64 v.k,.int .i64 v.n,.string v.s,.slice ad args.length ac]) (by simp[results,results190,go_sem,F2]) rfl ?_;exact PFr.done (PFr.set 1 (PFr.set 1 (PFr.set 1 (PFr.set 1 (PFr.set 1 (PFr.set 1 (PFr.set 1 (PFr.set 1 (S2.out) rfl) rfl) rfl) rfl) rfl) rfl) rfl) rfl) HM.out ⟨[.int .i64 0,.int .i64 op,.string ⟨t.toArray⟩,.string ⟨n.toArray⟩,.int .i64 v.k,.int .i64 v.n,.string v.s,.slice ad args.length ac],rfl,_,rfl,Bc (ExSl.mono (Q:=(wr.heap.size≤·)) (by(repeat(refine A2 ?_ HQ));exact HA.out) (fun b hb=>by have hb':wr.heap.size<=b:=hb;show w.heap.size<=b;omega))⟩
theorem E6 {sz:Int} (l:List Tok) (a:Ex) (r:List Tok) (h:anyR sz l=.ok a r):r.length<=l.length:=by
 unfold anyR at h;have:=Cn acw h;omega
theorem Ns {α β:Type} {f:α->β} {x:Res α} {b:β} {r l:List Tok} (hx:∀a q,x=.ok a q->q.length<=l.length) (h:x.map f=.ok b r):r.length<=l.length:=by
 cases x with
 | err p q=>cases h
 | ok a q=>
  simp only[Res.map,Res.ok.injEq]at h;rw[<- h.2];exact hx a q rfl
theorem Wk {sz:Int} (l:List Tok) (a:Srt) (r:List Tok) (h:sortR sz l=.ok a r):r.length<=l.length:=by
 unfold sortR at h
 cases h1:numberR sz l with
 | err p q=>rw[h1]at h;cases h
 | ok n l1=>
  have k:=Gn h1;rw[h1]at h;simp only[Res.bind]at h
  cases h2:tk [97,115,99] l1 with
  | some q=>
   have k:=A5 h2;simp only[h2,Res.ok.injEq]at h;rw[<- h.2];omega
  | none=>
   simp only[h2]at h
   cases h3:tk [100,101,115,99] l1 with
   | some q=>
    have k:=A5 h3;exact ahi
   | none=>exact ahi
theorem My {sz:Int} (l:List Tok) (a:Pk) (r:List Tok) (h:itemR sz l=.ok a r):r.length<=l.length:=by
 unfold itemR at h;have key:∀(q:List Tok) (k:Int),q.length<=l.length->(insideR sz (anyR sz) q).map (fun e=>(⟨k,e⟩:Pk))=.ok a r->r.length<=l.length:=fun q k hq h=>
  Ns (l:=l) (fun e s hs=>vj (Jh E6 q e s hs) hq) h
 cases h1:tk [99,111,117,110,116] l with
 | some q=>
  have k1:=A5 h1;simp only[h1]at h;refine Ns (l:=l) (fun u s hs=>?_) h;have:=Aw hs;omega
 | none=>
  simp only[h1]at h
  cases h2:tk [115,117,109] l with
  | some q=>have k2:=A5 h2;simp only[h2]at h;exact key q _ acw h
  | none=>
   simp only[h2]at h
   cases h3:tk [109,105,110] l with
   | some q=>have k3:=A5 h3;simp only[h3]at h;exact key q _ acw h
   | none=>
    simp only[h3]at h
    cases h4:tk [109,97,120] l with
    | some q=>have k4:=A5 h4;simp only[h4]at h;exact key q _ acw h
    | none=>
     simp only[h4]at h;exact Ns (l:=l) (fun e s hs=>E6 l e s hs) h
theorem Yd:En 190:=enters_of func190 acz rfl
theorem Yb:En 194:=enters_of func194 acz rfl
theorem Xs (pb:Nat) (sz:Int) (l:List Tok) (w:World) (h:Psr w pb sz l):
 Calls prog 189 #[.pointer (O pb),.func (.func 190) #[.pointer (O pb)] #[]] w (Post pb sz (RLst pkE w.heap.size) (listR (itemR sz) l) w):=
 P0 pb 190 sz (itemR sz) l w h Yd My (fun l' w' _ hp=>da pb sz l' w' hp)
theorem Wh (pb:Nat) (sz:Int) (l:List Tok) (w:World) (h:Psr w pb sz l):
 Calls prog 193 #[.pointer (O pb),.func (.func 194) #[.pointer (O pb)] #[]] w (Post pb sz (RLst srtE w.heap.size) (listR (sortR sz) l) w):=
 Py pb 194 sz (sortR sz) l w h Yb Wk (fun l' w' _ hp=>Z9 pb sz l' w' hp)
def Col.cells (c:Col):List Value:=[.string (Y c.name),U c.kind,.bool c.null]
def colVals (l:List Col):List Value:=l.flatMap Col.cells
theorem Fs {w:World} {b:Nat}:∀{l:List Col} {k:Nat} {c:Col} {o:Nat},CellsAt w b o (colVals l)->l[k]?=some c ->
 w.cell? ⟨b,o+3 * k,none⟩=some (.string (Y c.name))/\w.cell? ⟨b,o+3 * k+1,none⟩=some (U c.kind)/\w.cell? ⟨b,o+3 * k+2,none⟩=some (.bool c.null)
 | [],k,c,o,_,h=>by simp at h
 | d::l,0,c,o,hc,h=>by
  simp only[xx,uz]at h;subst h;exact⟨hc 0 _ rfl,hc 1 _ rfl,hc 2 _ rfl⟩
 | d::l,k+1,c,o,hc,h=>by
  simp only[xq]at h;have:=Fs (o:=o+3) (l:=l) (k:=k) (c:=c) (w:=w) (b:=b) (fun j u hu=>by
   have h1:=hc (j+3) u (by simpa[colVals,Col.cells]using hu);rw[show o+3+j=o+(j+3) by omega];exact h1) h
  rw[show o+3 * (k+1)=o+3+3 * k by omega];exact this
theorem Xw (cb:Nat) (nm:Bytes) (c:Col) (w:World) (h:w.cell? ⟨cb,0,none⟩=some (.string (Y nm))):Calls prog 175 #[.agg #[.string (Y c.name),U c.kind,.bool c.null],.pointer (O cb)] w fun e w'=>e=.returned (.bool (decide (c.name=nm)))/\Below w.heap.size w w':=by
 have y:(w.alloc (.cells #[.string (Y c.name),U c.kind,.bool c.null] 37)).cell? ⟨cb,0,none⟩=some (.string (Y nm)):=((uj _ _).alloc (tu _) _).cell_kept h;clear h;go_enter func175,ntmps175;go_wp2_with fail;refine ue (v:=.bool (decide (c.name=nm))) ?_ rfl ?_
 ·simp[results,results175,go_sem];rw[yx,zp,aan]
 ·exact J8
theorem Q3 (nm:Bytes) (c:Col) (l:List Col):colIdx nm (c::l)=if c.name=nm then some 0 else(colIdx nm l).map (·+1):=by
 unfold colIdx;rw[List.findIdx?_cons];by_cases h:c.name=nm<;>simp[h]
def colFrom (nm:Bytes):Nat->List Col->Int
 | _,[]=>-1
 | k,c::l=>if c.name=nm then(k:Int)else colFrom nm (k+1) l
theorem Ft (nm:Bytes):∀(l:List Col) (k:Nat),colFrom nm k l=match colIdx nm l with
  | some j=>((k+j:Nat):Int)
  | none=>-1
 | [],k=>rfl
 | c::l,k=>by
  rw[colFrom,Q3];by_cases h:c.name=nm
  ·simp[h]
  ·rw[if_neg h,if_neg h,Ft nm l (k+1)]
   cases colIdx nm l with
   | none=>rfl
   | some j=>simp only[ze];congr 1;omega
theorem Yh:En 175:=enters_of func175 acz rfl
theorem Qo (cb:Nat) (nm:Bytes) (v:Value) (l:List Col) (w:World) (hc:w.cell? ⟨cb,0,none⟩=some (.string (Y nm))) (hv:SlAt w v l.length (colVals l)) (hl:l.length<=1000000):Calls prog 174 #[v,.func (.func 175) #[] #[.pointer (some ⟨cb,0,none⟩)]] w fun e w'=>e=.returned (U (colFrom nm 0 l))/\Below w.heap.size w w':=by
 obtain⟨a,cap,rfl,hcap,hcells⟩:=hv;have HC:=tm hcells;have HE:=tm hc;have hfn:=Yh;clear hcells hc;go_enter func174,ntmps174;go_wp2_with fail;go_loopw [5,8] (fun _ i wr=>∃k:Nat,k<=l.length/\i=U k/\Hid (colFrom nm 0 l=colFrom nm k (l.drop k))/\Hid (Below w.heap.size w wr)) (fun _ i _=>l.length - (intOf i).toNat)
 case atStart=>exact⟨0,by omega,rfl,rfl,uj _ _⟩
 case round=>
  obtain⟨k,hk,rfl,HK,HB⟩:=hrel;by_cases hlt:k<l.length
  ·obtain⟨b,o,rfl,hat⟩:=HC.out acw;obtain⟨x,hx⟩:∃x,l[k]?=some x:=⟨l[k],by simp[hlt]⟩;obtain⟨x0,x1,x2⟩:=Fs (hat.kept HB.out) hx;have hst:colFrom nm k (l.drop k)=if x.name=nm then(k:Int)else colFrom nm (k+1) (l.drop (k+1)):=by
    obtain⟨h,rfl⟩:=uu.1 hx;rw[ww h,colFrom]
   have C:=tm (Xw cb nm x wr (HB.out.cell_kept HE.out));have HST:Hid (colFrom nm 0 l=_):=HK.out.trans hst;rw[Nat.mul_comm]at x0 x1 x2;clear hst HK hx hat;by_cases hn:x.name=nm
   ·have HR:Hid (colFrom nm 0 l=(k:Int)):=by show _=_;rw[HST.out,if_pos hn]
    have hd:decide (x.name=nm)=true:=by simp[hn]
    rw[hd]at C;clear HST hn hd;go_wp2_with fail;refine tp C.out ?_;rintro e w1 ⟨rfl,hb⟩;have HB1:=tm (HB.out.step hb);clear hb x0 x1 x2;go_wp2_with fail;go_returns;exact⟨by rw[HR.out];rfl,HB1.out⟩
   ·have HR:Hid (colFrom nm 0 l=colFrom nm (k+1) (l.drop (k+1))):=by show _=_;rw[HST.out,if_neg hn]
    have hd:decide (x.name=nm)=false:=by simp[hn]
    rw[hd]at C;clear HST hn hd;go_wp2_with fail;refine tp C.out ?_;rintro e w1 ⟨rfl,hb⟩;have HB1:=tm (HB.out.step hb);clear hb x0 x1 x2;go_wp2_with fail;go_roundw
    case rel=>exact⟨k+1,by omega,by go_num,HR.out,HB1.out⟩
    case measure=>simp[intOf];omega
  ·obtain rfl:k=l.length:=acw;have HR:Hid (colFrom nm 0 l= -1):=by show _=_;rw[HK.out,aaj];rfl
   clear HK;go_wp2_with fail;go_returns;exact⟨by rw[HR.out];rfl,HB.out⟩
theorem colAt_any (nm tn:Bytes) (ix ck v:Value) (l:List Col) (w:World) (hv:SlAt w v l.length (colVals l)) (hl:l.length<=1000000) (_hix:ix.oneCell'=true) (_hck:ck.oneCell'=true):Calls prog 107 #[.agg #[.string (Y tn),v,ix,ck],.string (Y nm)] w fun e w'=>e=.returned (.tuple #[U (max 0 (colFrom nm 0 l)),.bool (decide (0<=colFrom nm 0 l))])/\Below w.heap.size w w':=by
 have HV:=tm hv;go_enter func107,ntmps107;go_wp2_with fail;have HB:Hid (Below w.heap.size w ((w.alloc (.cells #[.string (Y tn),v,ix,ck] 35)).alloc (.cells #[.string (Y nm)] 9))):=((uj _ _).alloc (tu _) _).alloc acx _;refine tp (Qo (w.heap.size+1) nm v l _ ?_ (HV.out.kept HB.out) hl) ?_
 ·simp only[World.cell?,blk_at (show w.heap.size+1=(w.alloc (.cells #[.string (Y tn),v,ix,ck] 35)).heap.size by simp)];rfl
 rintro e w1 ⟨rfl,hb⟩;replace HB:=tm (HB.out.trans (hb.mono (by simp;omega)));obtain⟨p,hp⟩:∃p,colFrom nm 0 l=p:=⟨_,rfl⟩;have HPp:=tm hp;rw[hp];clear hb HV hp;go_wp2_with fail;refine ue (v:=.tuple #[U (max 0 p),.bool (decide (0<=p))]) (by simp[results,results107,go_sem]) rfl ?_;exact⟨by rw[HPp.out],HB.out⟩
theorem Yo:En 127:=enters_of func127 acz rfl
theorem Pw (pb cb:Nat) (sz:Int) (t:TypeId) (l:List Tok) (w:World) (h:Psr w pb sz l) (hc:w.heap[cb]?=some (.cells #[.pointer (O pb)] t (0,0))):Calls prog 127 #[.pointer (O cb)] w (Post pb sz (RLst strE w.heap.size) (listR (nameR sz) l) w):=by
 have C:=tm (Xj pb sz l w h);have y:w.cell? ⟨cb,0,none⟩=some (.pointer (O pb)):=by simp only[World.cell?,hc];rfl
 clear h hc;go_enter func127,ntmps127;go_wp2_with fail;refine tp C.out ?_;intro e w1 h1
 cases hx:listR (nameR sz) l with
 | err p q=>exact p9
 | ok a r=>
  rw[hx]at h1;obtain⟨v,rfl,hv,hp,ht⟩:=h1;have HV:=tm hv;have HP:=tm hp;have HT:=tm ht;clear hv hp ht;go_wp2_with fail;refine ue (v:=v) (by simp[results,results127,go_sem]) rfl ?_;exact ahc
theorem Jr (pb cb:Nat) (sz:Int) (t:TypeId) (l:List Tok) (w:World) (h:Psr w pb sz l) (hc:w.heap[cb]?=some (.cells #[.pointer (O pb)] t (0,0))) (hne:cb≠pb):
 Calls prog 126 #[.pointer (O pb),.func (.func 127) #[] #[.pointer (O cb)]] w (Post pb sz (RLst strE w.heap.size) (insideR sz (listR (nameR sz)) l) w):=
 Lz pb cb 127 sz (listR (nameR sz)) l w h Yo (fun l' w' ht hp=>Pw pb cb sz t l' w' hp (by rw[ht.block cb (uh.1 hc).1 hne];exact hc))
end Go.Proofs.YtimoefagohifaaaGreatDoor
