/- Laws that the last part needs. No condition. -/
import Derived.Defers
import Derived.Recover
import Derived.Test.YtimoefagohifaaaGreatDoorA25
import Derived.Test.YtimoefagohifaaaGreatDoorA27
import Derived.Test.YtimoefagohifaaaGreatDoorA28
set_option maxHeartbeats 4000000
set_option maxRecDepth 100000
namespace Go.Proofs.YtimoefagohifaaaGreatDoor
open Go.RowKit Go.Sort Tryz
theorem Un (a b:Value) (w:World):CallsD prog 53 #[a,b] .returning w fun e u' w'=>e=.returned (.tuple #[])/\u'=.returning/\w'=w:=by
 refine callsD_of_wpS func53 rfl fun c₀ cs hu=>?_
 apply wpS_seq
 apply aco
 simp[wpOpsS,go_sem,recoverD,hu,ntmps53,Exit.thenS]
 apply wpS_seq
 apply aco
 simp[wpOpsS,go_sem,Exit.thenS]
 refine wpS_cond (t:=false) (by simp[Act.eval,Array.replicate]) ?_
 simp only[u9,wy]
 refine wpS_of_wp (wp_skip ?_)
 cases c₀
 simp_all [bodyPostS,results,results53]
theorem np (p x:Int) (w:World):(Instr.typeAssert (.iface 26 (.agg #[U p,U x])) 20 26 true).run prog w=.ok (.tuple #[.agg #[U p,U x],.bool true]) w:=acz
theorem Eu (rb qb:Nat) (p x:Int) (older:List PanicEntry) (cs:Array Value) (w:World) (h1:w.heap[rb]?=some (.cells cs 50 (0,0))) (hcs:cs.size=(SV.arr {}).size) (h2:w.heap[qb]?=some (.cells #[U 0,U 0] 26 (0,0))) (hne:rb≠qb):
 CallsD prog 53 #[.pointer (O rb),.pointer (O qb)] (.panicking ({v:=.iface 26 (.agg #[U p,U x]),recovered:=false}::older)) w fun e u' w'=>
  e=.returned (.tuple #[])/\u'=.panicking ({v:=.iface 26 (.agg #[U p,U x]),recovered:=true}::older)/\Turn (fun k=>k=rb\/k=qb) w w'/\
   w'.heap[rb]?=some (.cells (SV.arr {}) 50 (0,0))/\w'.heap[qb]?=some (.cells #[U p,U x] 26 (0,0)):=by
 refine callsD_of_wpS func53 rfl fun c₀ cs' hu=>?_
 apply wpS_seq
 apply aco
 simp[wpOpsS,go_sem,recoverD,hu,ntmps53,Exit.thenS]
 apply wpS_seq
 apply aco
 simp[wpOpsS,go_sem,Exit.thenS]
 refine wpS_cond (t:=true) (by simp[Act.eval,Array.replicate]) ?_
 simp only[if_true]
 refine wpS_of_wp ?_
 have T:=fun w=>np p x w
 have HQ:Hid (w.heap[qb]?=some (.cells #[U 0,U 0] 26 (0,0))):=h2
 have HR:Hid (w.heap[rb]?=some (.cells cs 50 (0,0))):=h1
 have hq:qb<w.heap.size:=(uh.1 h2).1
 have hr:rb<w.heap.size:=(uh.1 h1).1
 clear h1 h2
 show Code.wp _ _ _ {tmps:=#[.pointer (O rb),.pointer (O qb),.iface 26 (.agg #[U p,U x]),undef,undef,.iface 26 (.agg #[U p,U x]),.iface 26 (.agg #[U p,U x]),.bool true,undef,undef,undef,undef,undef,undef,undef,undef,undef,undef],defers:=[]} _
 go_wp2_with fail
 have hnew:(w.alloc (.cells #[U p,U x] 26)).heap[w.heap.size]?=some (.cells #[U p,U x] 26 (0,0)):=World.alloc_heap_new _ _
 have y:∀q:TurnW (fun k=>k=rb) (w.alloc (.cells #[U p,U x] 26)),q.w.cell? ⟨w.heap.size,0,none⟩=some (U p):=fun q=>Bq q (by simp only[World.cell?,hnew];rfl) (by show ¬w.heap.size=rb;omega)
 have y1:∀q:TurnW (fun k=>k=rb) (w.alloc (.cells #[U p,U x] 26)),q.w.cell? ⟨w.heap.size,1,none⟩=some (U x):=fun q=>Bq q (by simp only[World.cell?,hnew];rfl) (by show ¬w.heap.size=rb;omega)
 have HR1:Hid ((w.alloc (.cells #[U p,U x] 26)).heap[rb]?=some (.cells cs 50 (0,0))):=(xe _ _ _ hr).trans HR.out
 have HQ1:Hid ((w.alloc (.cells #[U p,U x] 26)).heap[qb]?=some (.cells #[U 0,U 0] 26 (0,0))):=(xe _ _ _ hq).trans HQ.out
 have HT:Hid (Turn (fun k=>k=rb\/k=qb) w (w.alloc (.cells #[U p,U x] 26))):=Turn.of_below ((uj _ _).alloc (tu _) _)
 have hs:(w.alloc (.cells #[U p,U x] 26)).heap.size=w.heap.size+1:=acx
 clear hnew HR HQ T
 refine Cx (fun k=>k=rb) 3 [(0,false),(1,false),(2,true)] acz acz ?_
 repeat(refine G1 rfl (fun K hK=>?_);go_simp;first|(refine hK _ ?_;clear hK K)|(apply Exists.intro;refine⟨fun _=>?_,hK _ ?_⟩;(fail);clear hK K))
 refine Ke rfl ?_
 intro w7 hb ht
 have hr7:w7.heap[rb]?=some (.cells cs 50 (0,0)):=hb.blk_kept HR1.out
 have hq7:w7.heap[qb]?=some (.cells #[U 0,U 0] 26 (0,0)):=hb.blk_kept HQ1.out
 replace HT:=tm (HT.out.trans ht (fun k _ h=>.inl h))
 refine ur rfl 50 (.tmp 0) (.tmp 16) rfl rb (SV.arr {}) rfl rfl 50 cs hr7 (sv_size _) hcs (sv_one _) ?_
 refine⟨ht.setRow (.inl rfl),Ir ?_⟩
 intro w9 hb9 _
 have hr8:(w7.setRow rb (SV.arr {})).heap[rb]?=some (.cells (SV.arr {}) 50 (0,0)):=C9 hr7
 have hq8:(w7.setRow rb (SV.arr {})).heap[qb]?=some (.cells #[U 0,U 0] 26 (0,0)):=(Bb (Ne.symm hne)).trans hq7
 have hr9:=hb9.blk_kept hr8
 have hq9:=hb9.blk_kept hq8
 replace HT:=tm ((HT.out.setRow (.inl (.inl rfl)) (cs:=SV.arr {})).step hb9)
 have F:=Al hq9 [U 0,U 0] 0 (fun j=>acx)
 simp only[cellFacts,uo]at F
 have HR9:=tm hr9
 have HQ9:=tm hq9
 clear y y1 HR1 HQ1 hb ht hr7 hq7 hb9 hr8 hq8 hr9 hq9 hs
 simp only[vo,vz]
 go_wp2_with fail
 refine⟨rfl,_,rfl,.tuple #[],by simp[results,results53],rfl,rfl,(HT.out.setCell (.inl (.inr rfl))).setCell (.inl (.inr rfl)),?_,?_⟩
 ·rw[xk _ _ _ _ (by show rb≠qb;exact hne),xk _ _ _ _ (by show rb≠qb;exact hne)];exact HR9.out
 ·have:=HQ9.out;simp[World.setCell,yw,this]
theorem Bo {P:Program} {fn:Func} {p q:Tmp} {ty uy:TypeId} (h:fn.results=#[.cell p ty,.cell q uy]) (tmps:Array Value) (w:World) (g b:Nat) (x y:Value) (hp:tmps.getD p undef=.pointer (O g)) (hq:tmps.getD q undef=.pointer (O b)) (h1:(loadVar ty ⟨g,0,none⟩).run P w=.ok x w) (h2:(loadVar uy ⟨b,0,none⟩).run P w=.ok y w):(results fn tmps).run P w=.ok (.tuple #[x,y]) w:=by
 have hp':tmps[p]?.getD undef=.pointer (O g):=by simpa using hp
 have hq':tmps[q]?.getD undef=.pointer (O b):=by simpa using hq
 simp[results,h,hp',hq',asAddr,h1,h2]
theorem Cc (a b:Value):(prog.info? 26).map (·.size)=some (#[a,b]:Array Value).size:=by
 have:(prog.info? 26).map (·.size)=some 2:=acz;rw[this];rfl
def ParsePost (w:World) (x:Except (Int×Int) Stm) (e:Ending) (w':World):Prop:=match x with
 | .ok x=>∃sv:SV,e=.returned (.tuple #[.agg sv.arr,.agg #[U 0,U 0]])/\StmIs (w.heap.size≤·) w' sv x/\Below w.heap.size w w'
 | .error (p,q)=>e=.returned (.tuple #[.agg (SV.arr {}),.agg #[U p,U q]])/\Below w.heap.size w w'
theorem Xb {B:Nat} (s:Bytes) (hs:s.length<=1000000) (p q:Int) (hx:toksR s=.error (p,q)) (w:World) (he:Env B w):Calls prog 15 #[.string ⟨s.toArray⟩] w (ParsePost w (parseS s)):=by
 have hps:parseS s=.error (p,q):=by unfold parseS;rw[hx]
 rw[hps];have SZ:Hid (St w ((w.alloc (.cells (SV.arr {}) 50)).alloc (.cells #[U 0,U 0] 26)) [(w.heap.size+1,#[U 0,U 0],26),(w.heap.size,SV.arr {},50)]):=qk;have HE:=tm he;have C:=tm (fun W (h:Env B W)=>Fa s hs W h);rw[hx]at C;clear hps hx he;go_enter_defers func15,ntmps15;go_wp2_with fail;refine tp (C.out _ (HE.out.kept SZ.out.below)) ?_;rintro e w1 ⟨rfl,hq,hb⟩;have S:=tm (SZ.out.kept hb);clear hb SZ C;have hqb:(q != 0)=true:=by simpa using hq
 have F:=Al (S.out.blk 0 rfl) [U 0,U 0] 0 (fun j=>acx);simp only[cellFacts,uo]at F;go_wp2_with fail;refine Lo (fun W=>St w W [(w.heap.size+1,#[U p,U q],26),(w.heap.size,SV.arr {},50)]) (St.set 0 (o:=1) (v:=U q) (St.set 0 (o:=0) (v:=U p) S.out rfl) rfl) ?_;clear S F;intro w2 S;replace S:=tm S;have h1:=S.out.blk 0 rfl;have y:∀r:TurnW (fun k=>k=w.heap.size) w2,r.w.cell? ⟨w.heap.size+1,0,none⟩=some (U p):=fun r=>Bq r pd (by show ¬w.heap.size+1=w.heap.size;omega);have y1:∀r:TurnW (fun k=>k=w.heap.size) w2,r.w.cell? ⟨w.heap.size+1,1,none⟩=some (U q):=fun r=>Bq r pd (by show ¬w.heap.size+1=w.heap.size;omega);clear h1;refine Cx (fun k=>k=w.heap.size) 3 [(0,false),(1,false),(2,true)] acz acz ?_;repeat(refine G1 rfl (fun K hK=>?_);go_simp;first|(refine hK _ ?_;clear hK K)|(apply Exists.intro;refine⟨fun _=>?_,hK _ ?_⟩;(fail);clear hK K))
 refine Ke rfl ?_;intro w7 hb ht;refine z252 ?_;intro S;have h1:=S.out.blk 1 rfl;refine ur rfl 50 (.tmp 2) (.tmp 14) rfl w.heap.size (SV.arr {}) rfl rfl 50 (SV.arr {}) h1 (sv_size _) rfl (sv_one _) ?_;refine⟨ht.setRow (.inl rfl),Ir ?_⟩;intro w9 hb9 _;replace S:=tm ((St.row 1 (SV.arr {}) S.out rfl).kept hb9);simp only[ub,ui]at S;have F:=Al (S.out.blk 0 rfl) [U p,U q] 0 (fun j=>acx);simp only[cellFacts,uo]at F;clear y y1 hb ht h1 hb9;refine z279 ?_;go_wp2_with fail;have S:St w ((w9.setCell ⟨w.heap.size+1,0,none⟩ (U p)).setCell ⟨w.heap.size+1,1,none⟩ (U q)) [(w.heap.size+1,#[U p,U q],26),(w.heap.size,SV.arr {},50)]:=St.set 0 (o:=1) (v:=U q) (St.set 0 (o:=0) (v:=U p) S.out rfl) rfl;have hl:=yr (P:=prog) _ w.heap.size 50 50 (SV.arr {}) (0,0) _ (S.blk 1 rfl) underlying50 rfl (sv_size _);have hl2:=yr (P:=prog) _ (w.heap.size+1) 26 26 #[U p,U q] (0,0) _ (S.blk 0 rfl) underlying26 rfl (Cc _ _);exact⟨.tuple #[.agg (SV.arr {}),.agg #[U p,U q]],Bo results15 _ _ w.heap.size (w.heap.size+1) _ _ rfl rfl hl hl2,rfl,S.below⟩
theorem bm {B:Nat} {W:World} {s:Bytes} {l:List Tok} {pb:Nat} {a:Option Addr} {c:Nat} (he:Env B W) (hB:B<=pb) (hx:toksR s=.ok l) (hb:W.heap[pb]?=some (.cells #[.slice a l.length c,U (s.length:Int)] 114 (0,0))) (hs:SlIn (·<pb) W (.slice a l.length c) l.length (tkVals l)):Psr W pb (s.length:Int) l:=by
 have hf:=E8 hx;refine⟨he.up hB (yq (uh.1 hb).1),⟨_,hb,hs⟩,fun t ht=>(hf.1 t ht).num,by have h1:=hf.2.1;have h2:=hf.2.2;omega⟩
theorem Sm {B:Nat} (s:Bytes) (hs:s.length<=1000000) (l:List Tok) (p q:Int) (hx:toksR s=.ok l) (hst:stmtR s.length l=.err p q) (w:World) (he:Env B w) (hS:Hid (StmtAt (s.length:Int) l)):Calls prog 15 #[.string ⟨s.toArray⟩] w (ParsePost w (parseS s)):=by
 have hps:parseS s=.error (p,q):=by unfold parseS;rw[hx];simp only[hst]
 refine z29 ?_;clear hps hx he hst;intro hmf SZ HE HX HST C hsz;go_enter_defers func15,ntmps15;go_wp2_with fail;refine tp (C.out _ (HE.out.kept SZ.out.below)) ?_;rintro e w1 ⟨v,rfl,hv,hb⟩;have S:=tm (SZ.out.kept hb);obtain⟨a,c,rfl⟩:∃a c,v=.slice a l.length c:=by obtain⟨a,c,e,_⟩:=hv;exact⟨a,c,e⟩
 have HV:=tm hv;clear hb SZ C hv;refine z1008k4 ?_;intro _ _ _ _ F S3 hw HP;refine tp (hS.out _ _ HP.out) ?_;clear F S HV;intro e w4 h4;rw[HST.out]at h4;obtain⟨rfl,hT⟩:=h4;have S4:=tm ((St.tail S3.out).turned hT (fun i hi=>by have hi':i=w1.heap.size:=hi;omega) (fun x hx e=>by
  have e':x.1=w1.heap.size:=e;simp only[uw,vl,xp]at hx;rcases hx with rfl|rfl
  ·exact ahf
  ·have e2:w.heap.size=w1.heap.size:=e';omega))
 clear S3 HP hT;refine rj ?_;refine(Eu w.heap.size (w.heap.size+1) p q [] (SV.arr {}) w4 (S4.out.blk 1 rfl) rfl (S4.out.blk 0 rfl) acw).mono ?_;rintro e u' w5 ⟨rfl,rfl,hT5,hr,hq⟩;have hl:=yr (P:=prog) _ w.heap.size 50 50 (SV.arr {}) (0,0) _ hr underlying50 rfl (sv_size _);have hl2:=yr (P:=prog) _ (w.heap.size+1) 26 26 #[U p,U q] (0,0) _ hq underlying26 rfl (Cc _ _);refine⟨.tuple #[.agg (SV.arr {}),.agg #[U p,U q]],Bo results15 _ _ w.heap.size (w.heap.size+1) _ _ rfl rfl hl hl2,rfl,?_⟩;exact(St.turned (L:=[]) ⟨S4.out.below,by simp,by simp⟩ hT5 (fun i hi=>by rcases hi with hi|hi<;>omega) acx).below
theorem st_genP {w0 w:World} {L:List Blk} {R:World->Prop} {P:Program} {ops:Array Oper} {ol:List Oper} {Q:Exit->Act->World->Prop} {a:Act} (h:St w0 w L) (h2:R w) (k:∀W,Hid (St w0 W L)->Hid (R W)->wpList P ops Q ol a W):wpList P ops Q ol a w:=k w h h2
def vkind:Value->Nat
 | .int _ _=>0
 | .string _=>1
 | _=>2
theorem Re:∀o:Fin 36,¬(((SV.arr {}).toList.map vkind)[o.val]?=some 0/\((SV.arr {}).toList.map vkind)[o.val+1]?=some 0/\((SV.arr {}).toList.map vkind)[o.val+2]?=some 1/\((SV.arr {}).toList.map vkind)[o.val+3]?=some 0):=ac0
theorem iy {w:World} {pb rb:Nat} {sz:Int} {l:List Tok} {vs:Array Value} (h:Psr w pb sz l) (hr:w.heap[rb]?=some (.cells (SV.arr {}) 50 (0,0))) (he:Env pb (w.setRow rb vs)) (hne:pb≠rb):Psr (w.setRow rb vs) pb sz l:=by
 obtain⟨v,h1,a,cap,e,hc,hcl⟩:=h.blk;refine⟨he,⟨v,(Bb hne).trans h1,a,cap,e,hc,fun hn=>?_⟩,h.fine,h.few⟩;obtain⟨b,o,e2,k,k2⟩:=hcl hn;refine⟨b,o,e2,k,k2.same (Bb ?_)⟩;rintro rfl
 cases l with
 | nil=>simp at hn
 | cons t q=>
  have c:=k2 0 _ rfl;have c1:=k2 1 _ rfl;have c2:=k2 2 _ rfl;have c3:=k2 3 _ rfl;simp only[World.cell?,hr]at c c1 c2 c3;have ho:o<36:=by
   have:o+0<(SV.arr {}).size:=(uh.1 c).1;have h2:(SV.arr {}).size=36:=rfl;omega
  have L:∀j u,(SV.arr {})[j]?=some u->((SV.arr {}).toList.map vkind)[j]?=some (vkind u):=fun j u hu=>by
   rw[aai,Array.getElem?_toList,hu];rfl
  exact Re ⟨o,ho⟩ ⟨L _ _ c,L _ _ c1,L _ _ c2,L _ _ c3⟩
theorem Sq {B:Nat} (s:Bytes) (hs:s.length<=1000000) (l:List Tok) (x:Stm) (t:Tok) (q:List Tok) (hx:toksR s=.ok l) (hst:stmtR s.length l=.ok x (t::q)) (w:World) (he:Env B w):Calls prog 15 #[.string ⟨s.toArray⟩] w (ParsePost w (parseS s)):=by
 have hps:parseS s=.error (t.at_,380):=by unfold parseS;rw[hx];simp only[hst]
 refine z29 ?_;clear hps hx he hst;intro hmf SZ HE HX HST C hsz;go_enter_defers func15,ntmps15;go_wp2_with fail;refine tp (C.out _ (HE.out.kept SZ.out.below)) ?_;rintro e w1 ⟨v,rfl,hv,hb⟩;have S:=tm (SZ.out.kept hb);obtain⟨a,c,rfl⟩:∃a c,v=.slice a l.length c:=by obtain⟨a,c,e,_⟩:=hv;exact⟨a,c,e⟩
 have HV:=tm hv;clear hb SZ C hv;refine z1008k4 ?_;intro _ _ _ _ F S3 hw HP;refine tp (statement_any _ _ l _ HP.out) ?_;clear F S HV;intro e w4 h4;rw[HST.out]at h4;obtain⟨v,rfl,⟨sv,rfl,_⟩,hp,hT⟩:=h4;have S:=tm ((St.tail S3.out).turned hT (fun i hi=>by have hi':i=w1.heap.size:=hi;omega) (fun x hx e=>by
  have e':x.1=w1.heap.size:=e;simp only[uw,vl,xp]at hx;rcases hx with rfl|rfl
  ·exact ahf
  ·have e2:w.heap.size=w1.heap.size:=e';omega))
 have HP4:=tm hp;have hpl:=hp.lt;clear S3 HP hT hp;have hrp:w.heap.size<w1.heap.size:=acw;generalize w1.heap.size=pb at *;go_wp2_with(refine ur rfl 50 (.tmp 2) (.tmp 23) rfl w.heap.size sv.arr rfl rfl 50 (SV.arr {}) (S.out.blk 1 rfl) (sv_size _) rfl (sv_one _) ?_;refine st_genP (R:=fun W=>Psr W pb (s.length:Int) (t::q)) (St.row 1 sv.arr S.out rfl) (iy HP4.out (S.out.blk 1 rfl) ((HE.out.kept (St.row 1 sv.arr S.out rfl).below).up (vj HE.out.hi (yq hrp)) (by simpa[World.setRow]using yq hpl)) acw) ?_;intro w5 S5 HP5;obtain⟨b,o,cap,H⟩:=HP5.out.head;have G:=Al H.blk [.slice (some ⟨b,o,none⟩) (q.length+1) cap,U (s.length:Int)] 0 (fun j=>acx);simp only[cellFacts,uo]at G;clear H S HP4);refine tp (D3 pb _ 380 _ w5 HP5.out) ?_;rintro e w6 ⟨rfl,hT6⟩;have S6:=tm (S5.out.turned hT6 (fun i hi=>by have hi':i=pb:=hi;omega) (fun x hx e=>by
  have e':x.1=pb:=e;simp only[ub,ui,uw,vl,xp]at hx;rcases hx with rfl|rfl
  ·have e2:w.heap.size+1=pb:=e';omega
  ·have e2:w.heap.size=pb:=e';omega))
 simp only[ub,ui]at S6;clear S5 HP5 hT6 G;refine rj ?_;refine(Eu w.heap.size (w.heap.size+1) t.at_ 380 [] sv.arr w6 (S6.out.blk 1 rfl) rfl (S6.out.blk 0 rfl) acw).mono ?_;rintro e u' w7 ⟨rfl,rfl,hT7,hr,hq⟩;have hl:=yr (P:=prog) _ w.heap.size 50 50 (SV.arr {}) (0,0) _ hr underlying50 rfl (sv_size _);have hl2:=yr (P:=prog) _ (w.heap.size+1) 26 26 #[U t.at_,U 380] (0,0) _ hq underlying26 rfl (Cc _ _);refine⟨.tuple #[.agg (SV.arr {}),.agg #[U t.at_,U 380]],Bo results15 _ _ w.heap.size (w.heap.size+1) _ _ rfl rfl hl hl2,rfl,?_⟩;exact mq
theorem StmIs.move {Q R:Nat->Prop} {w w':World} {s:SV} {x:Stm} (hq:∀b,b<w.heap.size->Q b->R b/\w'.heap[b]?=w.heap[b]?) (h:StmIs Q w s x):StmIs R w' s x:=by
 have k:=h.toIn.move hq;refine⟨k.k,k.tb,k.nm,?_,k.col,k.ns,k.un,k.rs,k.es,k.wh,k.sel,k.md⟩;obtain⟨ca,cc,ka,kc,h1,h2,h3,h4⟩:=h.sch;exact⟨ca,cc,ka,kc,h1,h2,rSl_move acy hq h3,rSl_move acy hq h4⟩
theorem StmIs.kept {Q:Nat->Prop} {w w':World} {s:SV} {x:Stm} (h:StmIs Q w s x) (hb:Below w.heap.size w w'):StmIs Q w' s x:=h.move (fun b hl k=>⟨k,hb.block b hl⟩)
theorem StmIs.mono {Q R:Nat->Prop} {w:World} {s:SV} {x:Stm} (h:StmIs Q w s x) (hq:∀b,Q b->R b):StmIs R w s x:=h.move (fun b _ hb=>⟨hq b hb,rfl⟩)
theorem StmIs.turned {Q M:Nat->Prop} {w w':World} {s:SV} {x:Stm} (h:StmIs Q w s x) (ht:Turn M w w') (hq:∀b,Q b->¬M b):StmIs Q w' s x:=h.move (fun b hb k=>⟨k,ht.block b hb (hq b k)⟩)
theorem Turn.sameRow {M:Nat->Prop} {W:World} {b:Nat} {cs:Array Value} {t:TypeId} {fr:Nat×Nat} (h:W.heap[b]?=some (.cells cs t fr)):Turn M W (W.setRow b cs):=
 ⟨rfl,rfl,rfl,by simp[World.setRow],fun k _ _=>by
  by_cases e:k=b
  ·subst e;rw[C9 h,h]
  ·exact Bb e⟩
theorem Sr {B:Nat} (s:Bytes) (hs:s.length<=1000000) (l:List Tok) (x:Stm) (hx:toksR s=.ok l) (hst:stmtR s.length l=.ok x []) (hfm:x.formed=false) (w:World) (he:Env B w):Calls prog 15 #[.string ⟨s.toArray⟩] w (ParsePost w (parseS s)):=by
 have hps:parseS s=.error (0,2):=by unfold parseS;rw[hx];simp only[hst];rw[if_neg (by rw[hfm];exact Bool.noConfusion)]
 have hwf:x.Wf/\x.lists<=4611686018427387904/\x.txt<=4611686018427387904:=fq;have HWF:=tm hwf;have HFM:=tm hfm;clear hwf hfm;refine z29 ?_;clear hps hx he hst;intro hmf SZ HE HX HST C hsz;go_enter_defers func15,ntmps15;go_wp2_with fail;refine tp (C.out _ (HE.out.kept SZ.out.below)) ?_;rintro e w1 ⟨v,rfl,hv,hb1⟩;have S:=tm (SZ.out.kept hb1);obtain⟨a,c,rfl⟩:∃a c,v=.slice a l.length c:=by obtain⟨a,c,e,_⟩:=hv;exact⟨a,c,e⟩
 have HV:=tm hv;clear hb1 SZ C hv;refine z1105 ?_;intro F S3 hw;have HP:Hid (Psr (((w1.setCell ⟨w.heap.size+1,0,none⟩ (U 0)).setCell ⟨w.heap.size+1,1,none⟩ (U 0)).alloc (.cells #[.slice a l.length c,U (s.length:Int)] 114)) w1.heap.size (s.length:Int) l):=by
  refine bm (HE.out.kept S3.out.below) (vj HE.out.hi acw) HX.out (S3.out.blk 0 rfl) ?_;obtain⟨a',cap,e,hc,h⟩:=HV.out;refine⟨a',cap,e,hc,fun hn=>?_⟩;obtain⟨b,o,e2,k1,k2⟩:=h hn;have hlt:=k2.lt (G4 hn);have k3:w.heap.size+2<=b:=by simpa only[ug,zx,Nat.reduceAdd]using k1
  exact q9
 go_wp2_with fail;refine tp (statement_any _ _ l _ HP.out) ?_;clear F S HV;intro e w4 h4;rw[HST.out]at h4;obtain⟨v,rfl,⟨sv,rfl,hsv⟩,hp,hT⟩:=h4;have HSV:Hid (StmIn (w1.heap.size<·) w4 sv x):=hsv.toIn.mono (fun b hb=>by
  have hb':w1.heap.size+1<=b:=by simpa only[ug,aar]using hb
  exact hb')
 have HSI:Hid (StmIs (w1.heap.size<·) w4 sv x):=hsv.mono (fun b hb=>by
  have hb':w1.heap.size+1<=b:=by simpa only[ug,aar]using hb
  exact hb')
 have S:=tm ((St.tail S3.out).turned hT (fun i hi=>by have hi':i=w1.heap.size:=hi;omega) (fun x hx e=>by
  have e':x.1=w1.heap.size:=e;simp only[uw,vl,xp]at hx;rcases hx with rfl|rfl
  ·exact ahf
  ·have e2:w.heap.size=w1.heap.size:=e';omega))
 obtain⟨pv,hpb,ea,ec,rfl,_⟩:=hp.blk;have hpl:=hp.lt;have HPB:=tm hpb;clear S3 HP hT hp hsv hpb;have hrp:w.heap.size+1<w1.heap.size:=acw;generalize w1.heap.size=pb at *;go_wp2_with(first|(refine ur rfl 50 (.tmp 2) (.tmp 23) rfl w.heap.size sv.arr rfl rfl 50 (SV.arr {}) (S.out.blk 1 rfl) (sv_size _) rfl (sv_one _) ?_;refine st_genP (R:=fun W=>W.heap[pb]?=some (.cells #[.slice ea 0 ec,U (s.length:Int)] 114 (0,0))/\StmIn (pb<·) W sv x/\StmIs (pb<·) W sv x) (St.row 1 sv.arr S.out rfl) ⟨(Bb acw).trans HPB.out,HSV.out.turned ((Turn.refl _ _).setRow (.inl rfl)) (M:=(·=w.heap.size)) (fun b hb e=>acw),HSI.out.turned ((Turn.refl _ _).setRow (.inl rfl)) (M:=(·=w.heap.size)) (fun b hb e=>acw)⟩ ?_;intro w5 S5 H5;have f5:w5.cell? ⟨pb,0,none⟩=some (.slice ea 0 ec):=(by simp only[World.cell?,H5.out.1];rfl);clear S HPB HSV HSI)|(refine ux rfl 50 (.tmp 2) rfl w.heap.size rfl 50 sv.arr (0,0) _ (S5.out.blk 1 rfl) underlying50 rfl (sv_size _) ?_));refine tp (sqlCheck_any (pb<·) x sv _ H5.out.2.1 HWF.out.1 HWF.out.2.1 HWF.out.2.2) ?_;rw[HFM.out];rintro e w6 ⟨rfl,hb6⟩;have S6:=tm (S5.out.kept hb6);have H:=tm (H5.out.2.2.kept hb6);simp only[ub,ui]at S6;clear hb6 f5 S5 H5;unfold errF;simp only[u9,wy];go_wp2_with fail;refine rj ?_;refine(Eu w.heap.size (w.heap.size+1) 0 2 [] sv.arr w6 (S6.out.blk 1 rfl) rfl (S6.out.blk 0 rfl) acw).mono ?_;rintro e u' w7 ⟨rfl,rfl,hT7,hr,hq⟩;have hl:=yr (P:=prog) _ w.heap.size 50 50 (SV.arr {}) (0,0) _ hr underlying50 rfl (sv_size _)
 have hl2:=yr (P:=prog) _ (w.heap.size+1) 26 26 #[U 0,U 2] (0,0) _ hq underlying26 rfl (Cc _ _);refine⟨.tuple #[.agg (SV.arr {}),.agg #[U 0,U 2]],Bo results15 _ _ w.heap.size (w.heap.size+1) _ _ rfl rfl hl hl2,rfl,?_⟩;exact mq
theorem Ss {B:Nat} (s:Bytes) (hs:s.length<=1000000) (l:List Tok) (x:Stm) (hx:toksR s=.ok l) (hst:stmtR s.length l=.ok x []) (hfm:x.formed=true) (w:World) (he:Env B w) (hS:Hid (StmtAt (s.length:Int) l)) (hC:Hid (CheckAt x)):Calls prog 15 #[.string ⟨s.toArray⟩] w (ParsePost w (parseS s)):=by
 have hps:parseS s=.ok x:=by unfold parseS;rw[hx];simp only[hst];rw[if_pos hfm]
 have HFM:=tm hfm;clear hfm;refine z29 ?_;clear hps hx he hst;intro hmf SZ HE HX HST C hsz;go_enter_defers func15,ntmps15;go_wp2_with fail;refine tp (C.out _ (HE.out.kept SZ.out.below)) ?_;rintro e w1 ⟨v,rfl,hv,hb1⟩;have S:=tm (SZ.out.kept hb1);obtain⟨a,c,rfl⟩:∃a c,v=.slice a l.length c:=by obtain⟨a,c,e,_⟩:=hv;exact⟨a,c,e⟩
 have HV:=tm hv;clear hb1 SZ C hv;refine z1008k4 ?_;intro _ _ _ _ F S3 hw HP;refine tp (hS.out _ _ HP.out) ?_;clear F S HV;intro e w4 h4;rw[HST.out]at h4;obtain⟨v,rfl,⟨sv,rfl,hsv⟩,hp,hT⟩:=h4;have HSV:Hid (StmIn (w1.heap.size<·) w4 sv x):=hsv.toIn.mono (fun b hb=>by
  have hb':w1.heap.size+1<=b:=by simpa only[ug,aar]using hb
  exact hb')
 have HSI:Hid (StmIs (w1.heap.size<·) w4 sv x):=hsv.mono (fun b hb=>by
  have hb':w1.heap.size+1<=b:=by simpa only[ug,aar]using hb
  exact hb')
 have S:=tm ((St.tail S3.out).turned hT (fun i hi=>by have hi':i=w1.heap.size:=hi;omega) (fun x hx e=>by
  have e':x.1=w1.heap.size:=e;simp only[uw,vl,xp]at hx;rcases hx with rfl|rfl
  ·exact ahf
  ·have e2:w.heap.size=w1.heap.size:=e';omega))
 obtain⟨pv,hpb,ea,ec,rfl,_⟩:=hp.blk;have hpl:=hp.lt;have HPB:=tm hpb;clear S3 HP hT hp hsv hpb;have hrp:w.heap.size+1<w1.heap.size:=acw;generalize w1.heap.size=pb at *;go_wp2_with(first|(refine ur rfl 50 (.tmp 2) (.tmp 23) rfl w.heap.size sv.arr rfl rfl 50 (SV.arr {}) (S.out.blk 1 rfl) (sv_size _) rfl (sv_one _) ?_;refine st_genP (R:=fun W=>W.heap[pb]?=some (.cells #[.slice ea 0 ec,U (s.length:Int)] 114 (0,0))/\StmIn (pb<·) W sv x/\StmIs (pb<·) W sv x) (St.row 1 sv.arr S.out rfl) ⟨(Bb acw).trans HPB.out,HSV.out.turned ((Turn.refl _ _).setRow (.inl rfl)) (M:=(·=w.heap.size)) (fun b hb e=>acw),HSI.out.turned ((Turn.refl _ _).setRow (.inl rfl)) (M:=(·=w.heap.size)) (fun b hb e=>acw)⟩ ?_;intro w5 S5 H5;have f5:w5.cell? ⟨pb,0,none⟩=some (.slice ea 0 ec):=(by simp only[World.cell?,H5.out.1];rfl);clear S HPB HSV HSI)|(refine ux rfl 50 (.tmp 2) rfl w.heap.size rfl 50 sv.arr (0,0) _ (S5.out.blk 1 rfl) underlying50 rfl (sv_size _) ?_));refine tp (hC.out (pb<·) sv _ H5.out.2.1) ?_;rw[HFM.out];rintro e w6 ⟨rfl,hb6⟩;have S:=tm (S5.out.kept hb6);have H:=tm (H5.out.2.2.kept hb6);simp only[ub,ui]at S;clear hb6 f5 S5 H5;have h1:=S.out.blk 0 rfl;have h2:=S.out.blk 1 rfl;have y:∀p:TurnW (fun _=>False) w6,p.w.cell? ⟨w.heap.size+1,0,none⟩=some (U 0):=fun p=>Bq p pd (fun h=>h);have y1:∀p:TurnW (fun _=>False) w6,p.w.cell? ⟨w.heap.size+1,1,none⟩=some (U 0):=fun p=>Bq p pd (fun h=>h);have H1:=tm h2;clear h1 h2;unfold errF;simp only[if_true];go_wp2_with fail
 refine Cx (fun _=>False) 3 [(0,false),(1,false),(2,true)] acz acz ?_;refine Lr rfl rfl 50 (.tmp 2) rfl w.heap.size rfl 50 sv.arr (0,0) _ (fun p=>Ck p H1.out (fun h=>h)) underlying50 rfl (sv_size _) ?_;repeat(refine G1 rfl (fun K hK=>?_);go_simp;first|(refine hK _ ?_;clear hK K)|(apply Exists.intro;refine⟨fun _=>?_,hK _ ?_⟩;(fail);clear hK K))
 refine Ke rfl ?_;intro w7 hb7 ht;replace S:=tm (S.out.kept hb7);replace H:=tm (H.out.kept hb7);have h1:=S.out.blk 1 rfl;clear hb7 y y1 H1;refine ur rfl 50 (.tmp 2) (.tmp 37) rfl w.heap.size sv.arr rfl rfl 50 sv.arr h1 (sv_size _) rfl (sv_one _) ?_;refine⟨ht.trans (Turn.sameRow (M:=fun _=>False) h1) (fun _ _ h=>h),Ir ?_⟩;replace S:=tm (St.row 1 sv.arr S.out rfl);replace H:Hid (StmIs (pb<·) (w7.setRow w.heap.size sv.arr) sv x):=H.out.turned ((Turn.refl _ _).setRow (.inl rfl)) (M:=(·=w.heap.size)) (fun b hb e=>acw);simp only[ub,ui]at S;clear ht h1;intro w9 hb9 _;replace S:=tm (S.out.kept hb9);replace H:=tm (H.out.kept hb9);have F:=Al (S.out.blk 0 rfl) [U 0,U 0] 0 (fun j=>acx);simp only[cellFacts,uo]at F;clear hb9;refine z279 ?_;go_wp2_with fail;have S:St w ((w9.setCell ⟨w.heap.size+1,0,none⟩ (U 0)).setCell ⟨w.heap.size+1,1,none⟩ (U 0)) [(w.heap.size+1,#[U 0,U 0],26),(w.heap.size,sv.arr,50)]:=St.set 0 (o:=1) (v:=U 0) (St.set 0 (o:=0) (v:=U 0) S.out rfl) rfl;have H:StmIs (w.heap.size≤·) ((w9.setCell ⟨w.heap.size+1,0,none⟩ (U 0)).setCell ⟨w.heap.size+1,1,none⟩ (U 0)) sv x:=(H.out.turned (((Turn.refl (·=w.heap.size+1) w9).setCell (.inl rfl)).setCell (.inl rfl)) (fun b hb e=>acw)).mono (fun b hb=>acw);have hl:=yr (P:=prog) _ w.heap.size 50 50 sv.arr (0,0) _ (S.blk 1 rfl) underlying50 rfl (sv_size _)
 have hl2:=yr (P:=prog) _ (w.heap.size+1) 26 26 #[U 0,U 0] (0,0) _ (S.blk 0 rfl) underlying26 rfl (Cc _ _);refine rj ?_;refine(Un _ _ _).mono ?_;rintro e u' w'' ⟨rfl,rfl,rfl⟩;exact⟨.tuple #[.agg sv.arr,.agg #[U 0,U 0]],Bo results15 _ _ w.heap.size (w.heap.size+1) _ _ rfl rfl hl hl2,sv,rfl,H,S.below⟩
theorem Kl {s:Bytes} {l:List Tok} {x:Stm} {r:List Tok} (hx:toksR s=.ok l) (hst:stmtR s.length l=.ok x r):x.Wf/\x.lists<=4611686018427387904/\x.txt<=4611686018427387904:=fq
theorem Pn {B:Nat} (s:Bytes) (hs:s.length<=1000000) (w:World) (he:Env B w):Calls prog 15 #[.string ⟨s.toArray⟩] w (ParsePost w (parseS s)):=by
 cases hx:toksR s with
 | error p=>obtain⟨p,q⟩:=p;exact Xb s hs p q hx w he
 | ok l=>
  cases hst:stmtR s.length l with
  | err p q=>exact Sm s hs l p q hx hst w he (fun pb w h=>statement_any pb _ l w h)
  | ok x r=>
   cases r with
   | cons t q=>exact Sq s hs l x t q hx hst w he
   | nil=>
    cases hf:x.formed with
    | true=>exact Ss s hs l x hx hst hf w he (fun pb w h=>statement_any pb _ l w h) (fun Q sv w h=>sqlCheck_any Q x sv w h (Kl hx hst).1 (Kl hx hst).2.1 (Kl hx hst).2.2)
    | false=>exact Sr s hs l x hx hst hf w he
end Go.Proofs.YtimoefagohifaaaGreatDoor
