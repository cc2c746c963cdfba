/- Laws that the last part needs. No condition. -/
import Derived.Deep.MidRow
import Derived.Test.YtimoefagohifaaaGreatDoorA10
set_option maxHeartbeats 8000000
set_option maxRecDepth 100000
namespace Go.Proofs.YtimoefagohifaaaGreatDoor
open Go.RowKit Go.Sort Tryz
section
def uArr (tb:Bytes) (ns es:Value):Array Value:=#[U 7,.string (Y tb),eS,eS,eL,eL,eL,eS,U 0,.bool false,
 ns,.bool false,eL,es,U 0,eS,eS,U 0,U 0,eS,eL,
 .bool false,eL,eL,eL,U 0,eS,eS,U 0,U 0,eS,eL,eL,eL,U 0,U 0]
theorem Ro (tb:Bytes) (ns es v:Value):(uArr tb ns es).setIfInBounds 10 v=uArr tb v es:=rfl
theorem Hl (tb:Bytes) (ns es v:Value):(uArr tb ns es).setIfInBounds 13 v=uArr tb ns v:=rfl
variable {pb:Nat} {sz:Int} {w0 w w':World} {L:List Blk} {R:List Row} {l:List Tok} {G:Far}
theorem XFr.cellF {j:Nat} {b:Nat} {cs:Array Value} {t:TypeId} (h:XFr pb sz w0 w L R l G) (hj:L[j]?=some (b,cs,t)) (o:Nat) (v:Value) (hv:cs[o]?=some v):w.cell? ⟨b,o,none⟩=some v/\w.frozen? ⟨b,o,none⟩=false/\b<w.heap.size:=by
 have h1:=h.fr.fr.blk j hj;exact⟨by simp only[World.cell?,h1];exact hv,by simp[World.frozen?,h1],(uh.1 h1).1⟩
theorem XFr.storeRow {i e k g n cap:Nat} {xs:List Value} (h:XFr pb sz w0 w L R l G) (hi:R[i]?=some ⟨e,k,.slice (O g) n cap,n,xs⟩) (j:Nat) (u:Value):XFr pb sz w0 (w.setCell ⟨g,j,none⟩ u) L (R.set i ⟨e,k,.slice (O g) n cap,n,xs.set j u⟩) l G:=by
 have hm:g∈R.flatMap Row.blk:=wj.2 ⟨_,uq hi,by simp[Row.blk,Value.ownBlock]⟩;have hb:(R.set i ⟨e,k,.slice (O g) n cap,n,xs.set j u⟩).flatMap Row.blk=R.flatMap Row.blk:=by
  rw[Dm,Dm,abm];congr 1;apply aas;intro q;rw[xj];split
  ·rename_i e;subst e;split
   ·simp[hi,Row.blk]
   ·rename_i hq;simp at hq;simp[acg hq]
  ·rfl
 have ht:Turn (·=g) w (w.setCell ⟨g,j,none⟩ u):=(Turn.refl _ w).setCell (.inl rfl);refine⟨⟨h.fr.fr.turnedBy ht (fun k hk=>by subst hk;exact(h.fr.rows.mem_blk hm).1) (fun x hx e=>h.fr.apart x hx (by have e':x.1=g:=e;rw[e'];exact hm)),h.fr.rows.store hi j u,fun x hx=>by rw[hb];exact h.fr.apart x hx⟩,G.move (fun c hlt hq=>⟨?_,?_⟩) h.far⟩
 ·exact⟨hq.1,hq.2.1,by rw[hb];exact hq.2.2⟩
 ·exact xk _ _ _ _ (fun e=>hq.2.2 (by have e':c=g:=e;rw[e'];exact hm))
def setFrom (xs:List Value):Nat->List Value->List Value
 | _,[]=>xs
 | o,v::vs=>setFrom (xs.set o v) (o+1) vs
theorem Ga:∀(vs old acs:List Value),old.length=vs.length->setFrom (acs++old) acs.length vs=acs++vs
 | [],old,acs,h=>by simp only[tx,aca]at h;subst h;rfl
 | v::vs,[],acs,h=>by simp at h
 | v::vs,u::old,acs,h=>by
  unfold setFrom;rw[List.set_append_right _ _ (tu _),Nat.sub_self,ub];have:=Ga vs old (acs++[v]) (by simpa using h);simpa using this
theorem XFr.storeCells {i e k g n cap:Nat}:∀(vs:List Value) (o:Nat) (xs:List Value) (w:World) (R:List Row),XFr pb sz w0 w L R l G->R[i]?=some ⟨e,k,.slice (O g) n cap,n,xs⟩ ->
 XFr pb sz w0 (w.setCells g o vs) L (R.set i ⟨e,k,.slice (O g) n cap,n,setFrom xs o vs⟩) l G
 | [],o,xs,w,R,h,hi=>by
  have:R.set i ⟨e,k,.slice (O g) n cap,n,xs⟩=R:=z95;unfold setFrom;rw[this];exact h
 | v::vs,o,xs,w,R,h,hi=>by
  have h1:=h.storeRow hi o v;have hlt:=(uu.1 hi).1;have h2:=XFr.storeCells (i:=i) (e:=e) (k:=k) (g:=g) (n:=n) (cap:=cap) vs (o+1) (xs.set o v) _ _ h1 (by rw[xj];simp[hlt]);rw[ab8]at h2;exact h2
def RSet (pb:Nat) (sz:Int) (ws:World) (xb:Nat) (tb:Bytes) (ns:List Bytes) (ex:List Ex) (L:List Blk) (RR:List Row) (G:Far) (w:World) (p:Bytes×Ex) (v:Value):Prop:=
 v=.bool true/\∃na nc ea ec acs,∀l',Psr w pb sz l'->XFr pb sz ws w ((xb,uArr tb (.slice na (ns++[p.1]).length nc) (.slice ea (ex++[p.2]).length ec),50)::L)
  (⟨9,1,.slice na (ns++[p.1]).length nc,(ns++[p.1]).length,strVals (ns++[p.1])⟩::⟨44,7,.slice ea (ex++[p.2]).length ec,(ex++[p.2]).length,acs⟩::RR) l' (G.and (farL exE (ex++[p.2]) acs))
theorem XFr.tok {l':List Tok} (h:XFr pb sz w0 w L R l G) (hp:Psr w pb sz l'):XFr pb sz w0 w L R l' G:=⟨⟨⟨h.fr.fr.lt,h.fr.fr.st,h.fr.fr.own,hp⟩,h.fr.rows,h.fr.apart⟩,h.far⟩
theorem XFr.there {i e k g n cap:Nat} {xs:List Value} (h:XFr pb sz w0 w L R l G) (hi:R[i]?=some ⟨e,k,.slice (O g) n cap,n,xs⟩) (o c:Nat) (hoc:o+c<=xs.length):w.there g o c:=by
 have hown:=h.own hi;intro j hj;have hc:=abn hown (g:=g) rfl (o+j) (xs[o+j]'(by omega)) acx;have e1:(⟨g,0,none⟩:Addr).add (o+j)=⟨g,o+j,none⟩:=by unfold Addr.add;split<;>simp_all
 rw[e1]at hc;refine⟨by rw[hc];rfl,?_⟩;obtain⟨_,⟨hn,_⟩|⟨g',cap',cur,hv,hb,hblk,_⟩⟩:=hown
 ·cases hn
 ·cases hv;simp[World.frozen?,hblk]
theorem U9 (pb:Nat) (sz:Int) (ws w0:World) (xb cb:Nat) (tb:Bytes) (ns:List Bytes) (ex:List Ex) (na ea:Option Addr) (nc ec:Nat) (acs:List Value) (L:List Blk) (RR:List Row) (G:Far) (l:List Tok) (j:Nat) (h:XFr pb sz ws w0 ((xb,uArr tb (.slice na ns.length nc) (.slice ea ex.length ec),50)::L) (⟨9,1,.slice na ns.length nc,ns.length,strVals ns⟩::⟨44,7,.slice ea ex.length ec,ex.length,acs⟩::RR) l (G.and (farL exE ex acs))) (hcb:L[j]?=some (cb,#[.pointer (O pb)],112)) (hn1:ns.length<=4000) (hn2:ex.length<=4000):Calls prog 137 #[.pointer (O xb),.pointer (O cb)] w0 (Post pb sz (RSet pb sz ws xb tb ns ex L RR G) (setR sz l) ws):=by
 have S:=tm h;have HC:Hid (((xb,uArr tb (.slice na ns.length nc) (.slice ea ex.length ec),50)::L)[j+1]?=some (cb,#[.pointer (O pb)],112)):=hcb;have HJ:Hid (∀a b c,((a,b,c)::L)[j+1]?=some (cb,#[.pointer (O pb)],112)):=fun _ _ _=>hcb;clear h hcb;refine Bt (C:=fun y=>Calls prog 137 _ w0 (Post pb sz (RSet pb sz ws xb tb ns ex L RR G) y ws)) _ ?_;intro y HM;unfold setR at HM;go_enter func137,ntmps137;go_wp2_with fail;have y0:∀p:TurnW (fun k=>k=pb\/(.slice na ns.length nc:Value).ownBlock=some k) w0,p.w.cell? ⟨xb,10,none⟩=some (.slice na ns.length nc):=fun p=>S.out.cellT (i:=0) rfl (j:=0) rfl 10 rfl p;have yc:∀p:TurnW (fun k=>k=pb\/(.slice na ns.length nc:Value).ownBlock=some k) w0,p.w.cell? ⟨cb,0,none⟩=some (.pointer (O pb)):=fun p=>S.out.cellT (i:=0) rfl (HJ.out _ _ _) 0 rfl p;refine Av (fun k=>k=pb\/(.slice na ns.length nc:Value).ownBlock=some k) (fun c w'=>Post pb sz (RSet pb sz ws xb tb ns ex L RR G) y ws (.panicked c) w') (fun _ _ _ hd h=>⟨hd,h⟩) 6 [(0,false),(1,false),(2,false),(3,true),(4,true),(5,true)] acz acz ?_;refine adr ?_;refine acm rfl rfl ?_;intro w0a hba hta;have Sa:=tm (S.out.kept hba);have HTa:=tm hta;clear hba hta y0;go_wp2_with fail;refine XFr.post Sa.out (name_any pb sz _ _ Sa.out.psr) (fun p q h=>by rw[HM.out,h];rfl) (fun _ _ h=>h) ?_;intro ab rb vb wb hb hvb htb Sb;have HLb:=tm (Be hb);have HMb:=HM.out;rw[hb]at HMb;try(simp only[Res.bind,Res.map]at HMb)
 replace HMb:=tm HMb;clear hb HM;obtain rfl:=hvb;have HTb:=tm (HTa.out.trans htb (fun _ _ h=>.inl h));clear HTa htb Sa S;go_wp2_with fail;refine⟨HTb.out,?_⟩;refine acm rfl rfl ?_;intro w0c hbc htc;have Sc:=tm (Sb.out.kept hbc);have HTc:=tm htc;clear hbc htc Sb HTb;refine Bx rfl _ rfl rfl (N8 _ _) ?_;refine⟨HTc.out.step ((uj _ _).alloc (tu _) _),?_⟩;clear HTc;refine acm rfl rfl ?_;intro w0d hbd htd;have Sd:=tm ((XFr.alloc (cs:=#[.string (Y ab)]) (t:=9) Sc.out).kept hbd);have HTd:=tm htd;clear hbd htd Sc;refine wpList_append_at rfl _ _ 38 rfl 9 eS 1 16 underlying38 info9 rfl acy ws.heap.size (.slice na ns.length nc) (ns.length) (strVals ns) rfl (Sd.out.own (i:=0) rfl) (.slice (O w0c.heap.size) 1 1) 1 ([.string (Y ab)]) rfl acy (Cd (Sd.out.fr.fr.blk 0 rfl)) rfl ?_ acw (by simp[maxLen];omega) Sd.out.size ?_
 ·exact ky
 intro v0e w0e hown hg hw hsl;obtain⟨g,c0,rfl⟩:=hsl;have Se:=tm ((Sd.out.grown (i:=0) (r':=⟨9,1,.slice (O g) (ns.length+1) c0,ns.length+1,strVals ns++[.string (Y ab)]⟩) rfl hg hown hw).tail);have HTe:=tm (HTd.out.trans (Turn.of_grown hg) (fun _ _ h=>.inr h));clear hown hg hw HTd Sd;refine⟨HTe.out,B8 ?_⟩;intro w0f hbf _;have Sf:=tm (Se.out.kept hbf);clear hbf HTe Se;simp only[ub]at Sf;refine z279 ?_;clear yc;have e1:(ns++[ab]).length=ns.length+1:=acx;have e2:strVals (ns++[ab])=strVals ns++[.string (Y ab)]:=by simp[strVals,strV]
 obtain⟨f,f2,f3⟩:=Sf.out.cellF (j:=0) rfl 10 _ rfl;obtain⟨f4,f5,f6⟩:=Sf.out.cellF (HJ.out _ _ _) 0 _ rfl;have fne:cb≠xb:=fun e=>by
  have hh:=List.pairwise_cons.1 (Sf.out.fr.fr.st.apart);exact hh.1 _ (zd.2 ⟨_,uq (show L[j]?=_ from HJ.out 0 #[] 0),rfl⟩) e.symm
 go_wp2_with fail;have S:=tm (XFr.set 0 (o:=10) (v:=.slice (O g) (ns.length+1) c0) Sf.out rfl);simp only[ub,Ro]at S;refine XFr.wants (XFr.laid (S.out)) [[61]] (blk_at acx) rfl acy rfl acy acy (fun p q h=>by rw[HMb.out,h];try rfl) (fun _ _ h=>⟨rfl,h⟩) ?_;clear S;intro r w2 h2 ht S;have HM:Hid (y=(anyR sz r).map fun e=>(ab,e)):=by show _=_;rw[HMb.out,h2];rfl
 clear h2 ht HMb Sf f f2 f3 f4 f5 f6;go_wp2_with fail;have y0:∀p:TurnW (fun k=>k=pb\/(.slice ea ex.length ec:Value).ownBlock=some k) w2,p.w.cell? ⟨xb,13,none⟩=some (.slice ea ex.length ec):=fun p=>S.out.cellT (i:=1) rfl (j:=0) rfl 13 rfl p;have yc:∀p:TurnW (fun k=>k=pb\/(.slice ea ex.length ec:Value).ownBlock=some k) w2,p.w.cell? ⟨cb,0,none⟩=some (.pointer (O pb)):=fun p=>S.out.cellT (i:=1) rfl (HJ.out _ _ _) 0 rfl p;refine Jo (fun k=>k=pb\/(.slice ea ex.length ec:Value).ownBlock=some k) (fun c w'=>Post pb sz (RSet pb sz ws xb tb ns ex L RR G) y ws (.panicked c) w') (fun _ _ _ hd h=>⟨hd,h⟩) 7 #[true,true,true,true,true,true,true,false,false,false,false] (.mild 0 (.mild 1 (.mild 2 (.mild 4 (.two 3 (.eff 5 (.eff 6 .stop)) 5 (.eff 3 (.eff 6 .stop))))))) acz acz ?_;repeat(refine Zx rfl (fun K hK=>?_);go_simp;first|(refine hK _ ?_;clear hK K)|(apply Exists.intro;refine⟨fun _=>?_,hK _ ?_⟩;(fail);clear hK K))
 clear y0 yc;refine gk ?_ ?_
 ·skip;refine G3 rfl rfl ?_;intro wa hba hta;have SA:=tm (S.out.kept hba);have HTA:=tm hta;clear hba hta S;go_wp2_with fail;refine XFr.postG SA.out (Ha pb sz _ _ SA.out.psr) (fun p q h=>by rw[HM.out,h];rfl) (fun _ _ h=>h) ?_;intro a3 r v3 w3 h3 hv ht S;replace HM:=HM.out;rw[h3]at HM;refine qy ?_;clear HM;intro HM;clear h3;obtain⟨op,t3,n3,v3,args⟩:=a3;obtain⟨ad,ac,rfl,hargs⟩:=Bm hv;have SB:=tm (S.out (farEx (.mk op t3 n3 v3 args) [U op,.string (Y t3),.string (Y n3),U v3.k,U v3.n,.string v3.s,.slice ad args.length ac]) (Bc hargs));have HTB:=tm (HTA.out.trans ht (fun _ _ h=>.inl h));clear hargs hv S ht HTA;go_wp2_with fail;refine⟨HTB.out,?_⟩;clear SA;refine G3 rfl rfl ?_;intro wc hbc htc;have SC:=tm (SB.out.kept hbc);have HTC:=tm htc;clear hbc htc SB HTB;refine Bx rfl _ rfl rfl (J2 _ _ _ _ _ _ _ _) ?_;refine⟨HTC.out.step ((uj _ _).alloc (tu _) _),?_⟩;clear HTC;refine G3 rfl rfl ?_;intro wd hbd htd;have SD:=tm ((XFr.alloc (cs:=#[U 0,eS,eS,U 0,U 0,eS,eL]) (t:=44) SC.out).kept hbd);have HTD:=tm htd;clear hbd htd SC
  refine wpList_append_at rfl _ _ 40 rfl 44 (.agg #[U 0,eS,eS,U 0,U 0,eS,eL]) 7 96 underlying40 Nx rfl acy ws.heap.size (.slice ea ex.length ec) ex.length acs rfl (SD.out.own (i:=1) rfl) (.slice (O wc.heap.size) 1 1) 1 [U 0,eS,eS,U 0,U 0,eS,eL] rfl acy (Cd (SD.out.fr.fr.blk 0 rfl)) rfl ?_ acw (by simp[maxLen];omega) SD.out.size ?_
  ·exact af5
  exact mg
 ·skip;refine G3 rfl rfl ?_;intro wa hba hta;have SA:=tm (S.out.kept hba);have HTA0:=tm hta;clear hba hta S;refine Bx rfl _ rfl rfl (J2 _ _ _ _ _ _ _ _) ?_;refine⟨HTA0.out.step ((uj _ _).alloc (tu _) _),?_⟩;clear HTA0;refine G3 rfl rfl ?_;intro wc hbc htc;have SC:=tm ((XFr.alloc (cs:=#[U 0,eS,eS,U 0,U 0,eS,eL]) (t:=44) SA.out).kept hbc);have HTA:=tm htc;clear hbc htc SA;go_wp2_with fail;refine XFr.postG SC.out (Ha pb sz _ _ SC.out.psr) (fun p q h=>by rw[HM.out,h];rfl) (fun _ _ h=>h) ?_;intro a3 r v3 w3 h3 hv ht S;replace HM:=HM.out;rw[h3]at HM;refine qy ?_;clear HM;intro HM;clear h3;obtain⟨op,t3,n3,v3,args⟩:=a3;obtain⟨ad,ac,rfl,hargs⟩:=Bm hv;have SB:=tm (S.out (farEx (.mk op t3 n3 v3 args) [U op,.string (Y t3),.string (Y n3),U v3.k,U v3.n,.string v3.s,.slice ad args.length ac]) (Bc hargs));have HTB:=tm (HTA.out.trans ht (fun _ _ h=>.inl h));clear hargs hv S ht HTA;go_wp2_with fail;refine⟨HTB.out,?_⟩;clear SC;refine G3 rfl rfl ?_;intro wd hbd htd;have SD:=tm (SB.out.kept hbd);have HTD:=tm htd;clear hbd htd SB HTB
  refine wpList_append_at rfl _ _ 40 rfl 44 (.agg #[U 0,eS,eS,U 0,U 0,eS,eL]) 7 96 underlying40 Nx rfl acy ws.heap.size (.slice ea ex.length ec) ex.length acs rfl (SD.out.own (i:=1) rfl) (.slice (O wa.heap.size) 1 1) 1 [U 0,eS,eS,U 0,U 0,eS,eL] rfl acy (Cd (SD.out.fr.fr.blk 0 rfl)) rfl ?_ acw (by simp[maxLen];omega) SD.out.size ?_
  ·exact af5
  exact mg
end
variable {pb:Nat} {sz:Int} {w0 w w':World} {L:List Blk} {R:List Row} {l:List Tok} {G:Far}
theorem Yk:En 137:=enters_of func137 acz rfl
theorem sm:(prog.info? 4).map (fun i=>(i.zero,i.size,i.bytes))=some (some (.bool false),1,1):=acz
theorem XFr.newRow {cs:Array Value} {e:TypeId} {k:Nat} (h:XFr pb sz w0 w L R l G) (hcs:cs.size=1 * k):XFr pb sz w0 (w.alloc (.cells cs e)) L (R++[⟨e,k,.slice (O w.heap.size) 1 1,1,cs.toList⟩]) l G:=by
 have hb:(R++[⟨e,k,.slice (O w.heap.size) 1 1,1,cs.toList⟩]:List Row).flatMap Row.blk=R.flatMap Row.blk++[w.heap.size]:=by simp[Row.blk,Value.ownBlock]
 have hbd:=h.bounds;refine⟨⟨h.fr.fr.laid,⟨fun r hr=>?_,?_⟩,fun x hx=>?_⟩,G.move (fun b hlt hq=>⟨⟨hq.1,hq.2.1,?_⟩,xe _ _ _ hlt⟩) h.far⟩
 ·rcases wi.1 hr with hr|hr
  ·exact(h.fr.rows.own r hr).later ((uj _ _).alloc (tu _) _)
  ·simp only[vh]at hr;subst hr;refine⟨by simpa using hcs,.inr ⟨w.heap.size,1,cs,rfl,h.size,World.alloc_heap_new _ _,tu _,by unfold maxLen;decide,by simpa using hcs,?_⟩⟩;rw[<- hcs];exact wq acx
 ·rw[hb];refine zv.2 ⟨h.fr.rows.apart,by simp,fun a ha b hb' e=>?_⟩;simp only[vh]at hb';have:=hbd.2 a ha;omega
 ·rw[hb];intro hm;rcases wi.1 hm with hm|hm
  ·exact h.fr.apart x hx hm
  ·simp only[vh]at hm;have:=hbd.1 x hx;omega
 ·rw[hb];intro hm;rcases wi.1 hm with hm|hm
  ·exact hq.2.2 hm
  ·simp only[vh]at hm;omega
theorem XFr.forget {r:Row} (h:XFr pb sz w0 w L (R++[r]) l G):XFr pb sz w0 w L R l G:=by
 have hb:(R++[r]).flatMap Row.blk=R.flatMap Row.blk++r.blk:=acx;refine⟨⟨h.fr.fr,⟨fun s hs=>h.fr.rows.own s (wi.2 (.inl hs)),?_⟩,fun x hx hm=>h.fr.apart x hx (by rw[hb];exact wi.2 (.inl hm))⟩,G.move (fun b _ hq=>⟨⟨hq.1,hq.2.1,fun hm=>hq.2.2 (by rw[hb];exact wi.2 (.inl hm))⟩,rfl⟩) h.far⟩;have:=h.fr.rows.apart;rw[hb]at this;exact(zv.1 this).1
theorem Calls.postS {α β:Type} {f:FuncId} {args:Array Value} {Rep:World->α->Value->Prop} {Rep2:World->β->Value->Prop} {x:Res α} {y:Res β} {K:Ending->World->Prop} {ws:World} (C:Calls prog f args w (Post pb sz Rep x ws)) (herr:∀p q,x=.err p q->y=.err p q) (hK:∀c w',Post pb sz Rep2 y ws (.panicked c) w'->K (.panicked c) w') (hok:∀a r v w',x=.ok a r->Rep w' a v->Psr w' pb sz r->K (.returned v) w'):Calls prog f args w K:=by
 refine tp C ?_;intro e w' h
 cases x with
 | ok a r=>
  obtain⟨v,rfl,hv,hp,ht⟩:=h;exact hok a r v w' rfl hv hp
 | err p q=>
  obtain⟨rfl,ht⟩:=h;refine hK _ _ ?_;rw[herr p q rfl];exact⟨rfl,ht⟩
theorem H7 {sz:Int} (l:List Tok) (a:Bytes×Ex) (r:List Tok) (h:setR sz l=.ok a r):r.length+2<=l.length:=by
 unfold setR at h;obtain⟨nm,l1,h1,h⟩:=B4 h;have k:=Be h1;obtain⟨u,l2,h2,h⟩:=B4 h;have k:=Aw h2;obtain⟨e,h3,_⟩:=G5 h;have k3:=E6 _ _ _ h3;simp at k;omega
def psN (ps:List (Bytes×Ex)):List Bytes:=ps.map (·.1)
def psE (ps:List (Bytes×Ex)):List Ex:=ps.map (·.2)
theorem bn (ps:List (Bytes×Ex)) (a:Bytes×Ex):psN ps++[a.1]=psN (ps++[a]):=by simp[psN]
theorem bp (ps:List (Bytes×Ex)) (a:Bytes×Ex):psE ps++[a.2]=psE (ps++[a]):=by simp[psE]
theorem iz (ps:List (Bytes×Ex)):(psN ps).length=ps.length:=by simp[psN]
theorem i8 (ps:List (Bytes×Ex)):(psE ps).length=ps.length:=by simp[psE]
def RSets (pb:Nat) (sz:Int) (ws:World) (xb:Nat) (tb:Bytes) (L:List Blk) (G:Far) (w:World) (ps:List (Bytes×Ex)) (v:Value):Prop:=
 (∃a n c,v=.slice a n c)/\∃na nc ea ec acs,∀l',Psr w pb sz l'->XFr pb sz ws w ((xb,uArr tb (.slice na (psN ps).length nc) (.slice ea (psE ps).length ec),50)::L)
  [⟨9,1,.slice na (psN ps).length nc,(psN ps).length,strVals (psN ps)⟩,⟨44,7,.slice ea (psE ps).length ec,(psE ps).length,acs⟩] l' (G.and (farL exE (psE ps) acs))
theorem sets_any (pb:Nat) (sz:Int) (ws w0:World) (xb cb:Nat) (tb:Bytes) (L:List Blk) (G:Far) (l:List Tok) (j:Nat) (h:XFr pb sz ws w0 ((xb,uArr tb eL eL,50)::L) [⟨9,1,eL,0,[]⟩,⟨44,7,eL,0,[]⟩] l G) (hcb:L[j]?=some (cb,#[.pointer (O pb)],112)):Calls prog 136 #[.pointer (O pb),.func (.func 137) #[] #[.pointer (O xb),.pointer (O cb)]] w0 (Post pb sz (RSets pb sz ws xb tb L G) (listR (setR sz) l) ws):=by
 have S:=tm h;have HF:=tm h.psr.few;have HC:=tm hcb;have hfn:=Yk;clear h hcb;refine Bt (C:=fun y=>Calls prog 136 _ w0 (Post pb sz (RSets pb sz ws xb tb L G) y ws)) _ ?_;intro y HM;unfold listR at HM;go_enter func136,ntmps136;go_wp2_with fail;refine Calls.postS (U9 pb sz ws w0 xb cb tb [] [] none none 0 0 [] L [] G l j (S.out.imp (fun _ _ h=>⟨h,rfl⟩)) HC.out acx acx) (fun p q h=>by rw[HM.out,h];rfl) (fun _ _ h=>⟨rfl,h⟩) ?_;intro a1 r1 v1 w h1 hv hp;have HL1:=tm (H7 _ _ _ h1);replace HM:Hid (y=moreR (setR sz) r1.length [a1] r1):=by show _=_;rw[HM.out,h1];rfl
 obtain⟨rfl,na,nc,ea,ec,acs,hx⟩:=hv;replace S:=tm (hx r1 hp);rw[show([]:List Bytes)++[a1.1]=psN [a1]from rfl,show([]:List Ex)++[a1.2]=psE [a1]from rfl]at S;clear h1 hx hp;go_wp2_with fail;refine Ce (fun W=>XFr pb sz ws W ((xb,uArr tb (.slice na (psN [a1]).length nc) (.slice ea (psE [a1]).length ec),50)::L) [⟨9,1,.slice na (psN [a1]).length nc,(psN [a1]).length,strVals (psN [a1])⟩,⟨44,7,.slice ea (psE [a1]).length ec,(psE [a1]).length,acs⟩,⟨4,1,.slice (O w.heap.size) 1 1,1,[.bool true]⟩] r1 (G.and (farL exE (psE [a1]) acs))) (XFr.newRow (cs:=#[.bool true]) (e:=4) (k:=1) S.out rfl) ?_;clear S;intro wl SL';have SL:=tm SL';clear SL';go_loopw [5] (fun sv wr=>∃(ps:List (Bytes×Ex)) (lr:List Tok) (na ea ba:Option Addr) (nc ec bc:Nat) (acs bs:List Value),sv=.slice ba ps.length bc/\Hid (y=moreR (setR sz) lr.length ps lr)/\Hid (ps.length+lr.length<=l.length)/\
  Hid (XFr pb sz ws wr ((xb,uArr tb (.slice na (psN ps).length nc) (.slice ea (psE ps).length ec),50)::L) [⟨9,1,.slice na (psN ps).length nc,(psN ps).length,strVals (psN ps)⟩,⟨44,7,.slice ea (psE ps).length ec,(psE ps).length,acs⟩,⟨4,1,.slice ba ps.length bc,ps.length,bs⟩] lr (G.and (farL exE (psE ps) acs)))) (fun _ wr=>psLeft pb wr)
 case atStart=>exact⟨[a1],r1,na,ea,_,nc,ec,1,acs,_,rfl,HM.out,by show _<=_;have:=HL1.out;simp;omega,SL.out⟩
 case round=>
  clear HM HL1 SL;obtain⟨ps,lr,na,ea,ba,nc,ec,bc,acs,bs,rfl,HM,HL,S⟩:=hrel;have HMS:=tm (Bf S.out.psr);go_wp2_with fail;refine XFr.takes (XFr.laid (S.out)) [44] (blk_at acx) acy ?_ ?_
  ·clear S;intro r3 w hn ht S;have HLt:=tm (A5 hn);replace HM:Hid (y=(setR sz r3).bind fun a l1=>moreR (setR sz) l1.length (ps++[a]) l1):=by
    show _=_;rw[HM.out];obtain⟨f,hf⟩:∃f,lr.length=f+1:=⟨lr.length - 1,by have:=A5 hn;omega⟩;rw[hf,Ci,hn]
    cases hrd:setR sz r3 with
    | err p q=>simp only[hrd];rfl
    | ok a l1=>
     have h1:=H7 _ _ _ hrd;have h2:=A5 hn;simp only[hrd,Res.bind];exact Hp (fun l a r h=>by have:=H7 l a r h;omega) _ _ _ _ acw acw
   clear hn ht;go_wp2_with fail;refine Calls.postS (U9 pb sz ws w xb cb tb (psN ps) (psE ps) na ea nc ec acs L [⟨4,1,.slice ba ps.length bc,ps.length,bs⟩] G r3 j S.out HC.out (by rw[iz];have h1:=HF.out;have h2:=HL.out;omega) (by rw[i8];have h1:=HF.out;have h2:=HL.out;omega)) (fun p q h=>by rw[HM.out,h];rfl) (fun _ _ h=>⟨rfl,h⟩) ?_;intro a4 r4 v4 w h4 hv hp;have HL4:=tm (H7 _ _ _ h4);replace HM:Hid (y=moreR (setR sz) r4.length (ps++[a4]) r4):=by show _=_;rw[HM.out,h4];rfl
   obtain⟨rfl,na4,nc4,ea4,ec4,acs4,hx⟩:=hv;replace S:=tm (hx r4 hp);clear h4 hx hp;replace S:=tm (XFr.alloc (cs:=#[.bool true]) (t:=4) S.out);go_wp2_with(at_builtin;go_must (refine wpList_append_at rfl _ _ 193 rfl 4 (.bool false) 1 1 underlying193 sm rfl acy ws.heap.size (.slice ba ps.length bc) ps.length bs rfl (S.out.own (i:=2) rfl) (.slice (O w.heap.size) 1 1) 1 [.bool true] rfl acy (Cd (S.out.fr.fr.blk 0 rfl)) rfl (by simp[Value.oneCell']) (by have h1:=HF.out;have h2:=HL.out;omega) (by have h1:=HF.out;have h2:=HL.out;simp[maxLen];omega) S.out.size ?_));intro ve we hown hg hw ge ce hsl;subst hsl;replace S:=tm ((S.out.grown (i:=2) (r':=⟨4,1,.slice (O ge) (ps.length+1) ce,ps.length+1,bs++[.bool true]⟩) rfl hg hown (hw.imp id (fun⟨g,k1,k2⟩=>⟨g,k1,by simpa using k2⟩))).tail);simp only[ub,ui]at S;clear hown hg hw;have e1:=bn ps a4;have e2:=bp ps a4;have e3:ps.length+1=(ps++[a4]).length:=acx;rw[e1,e2,e3]at S;go_wp2_with fail;go_roundw
   case rel=>exact⟨ps++[a4],r4,na4,ea4,some ⟨ge,0,none⟩,nc4,ec4,ce,acs4,bs++[Value.bool true],by rw[e3],HM.out,by show _<=_;have h1:=HL.out;have h2:=HLt.out;have h3:=HL4.out;simp;omega,S.out⟩
   case measure=>
    have h1:=HMS.out;have h2:=HLt.out;have h3:=HL4.out;rw[Bf S.out.psr,h1];omega
  ·clear S;intro w hn ht S;replace HM:Hid (y=.ok ps lr):=by
    show _=_;rw[HM.out]
    cases hf:lr.length with
    | zero=>rfl
    | succ f=>rw[Ci,hn]
   clear hn ht;go_wp2_with fail;refine ue (v:=.slice ba ps.length bc) (by simp[results,results136,go_sem]) rfl ?_;exact XFr.done S.out HM.out (fun SE=>⟨⟨_,_,_,rfl⟩,na,nc,ea,ec,acs,fun l' hl'=>(XFr.forget (R:=[_,_]) SE).tok hl'⟩)
end Go.Proofs.YtimoefagohifaaaGreatDoor
