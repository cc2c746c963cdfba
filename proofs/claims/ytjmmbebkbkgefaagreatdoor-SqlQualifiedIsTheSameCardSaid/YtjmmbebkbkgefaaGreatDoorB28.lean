/- Part 28; the last part says what is proved. No condition. -/
import Derived.Defers
import Derived.Recover
import Derived.Test.YtjmmbebkbkgefaaGreatDoorB17
import Derived.Test.YtjmmbebkbkgefaaGreatDoorB27
set_option linter.unusedVariables false
set_option linter.unusedSimpArgs false
set_option maxHeartbeats 4000000
set_option maxRecDepth 100000
namespace Go.Proofs.YtjmmbebkbkgefaaGreatDoor
open Go.RowKit Go.Sort Tryz
theorem R5 (a b:Value) (w:World):CallsD prog 52 #[a,b] .returning w fun e u' w'=>e=.returned (.tuple #[])/\u'=.returning/\w'=w:=by
 refine callsD_of_wpS func52 rfl fun c₀ cs hu=>?_
 apply wpS_seq
 apply wpS_region
 simp[wpOpsS,go_sem,recoverD,hu,ntmps52,Exit.thenS]
 apply wpS_seq
 apply wpS_region
 simp[wpOpsS,go_sem,Exit.thenS]
 refine wpS_cond (t:=false) (by simp[Act.eval,Array.replicate]) ?_
 simp only[Bool.false_eq_true,if_false]
 refine wpS_of_wp (wp_skip ?_)
 cases c₀
 simp_all [bodyPostS,results,results52]
theorem ap (p x:Int) (w:World):(Instr.typeAssert (.iface 72 (.agg #[.int .i64 p,.int .i64 x])) 20 72 true).run prog w=.ok (.tuple #[.agg #[.int .i64 p,.int .i64 x],.bool true]) w:=by kernel_rfl
theorem Lb (rb qb:Nat) (p x:Int) (older:List PanicEntry) (cs:Array Value) (w:World) (h1:w.heap[rb]?=some (.cells cs 46 (0,0))) (hcs:cs.size=(SV.arr {}).size) (h2:w.heap[qb]?=some (.cells #[.int .i64 0,.int .i64 0] 72 (0,0))) (hne:rb≠qb):
 CallsD prog 52 #[.pointer (some ⟨rb,0,none⟩),.pointer (some ⟨qb,0,none⟩)] (.panicking ({v:=.iface 72 (.agg #[.int .i64 p,.int .i64 x]),recovered:=false}::older)) w fun e u' w'=>
  e=.returned (.tuple #[])/\u'=.panicking ({v:=.iface 72 (.agg #[.int .i64 p,.int .i64 x]),recovered:=true}::older)/\Turn (fun k=>k=rb\/k=qb) w w'/\
   w'.heap[rb]?=some (.cells (SV.arr {}) 46 (0,0))/\w'.heap[qb]?=some (.cells #[.int .i64 p,.int .i64 x] 72 (0,0)):=by
 refine callsD_of_wpS func52 rfl fun c₀ cs' hu=>?_
 apply wpS_seq
 apply wpS_region
 simp[wpOpsS,go_sem,recoverD,hu,ntmps52,Exit.thenS]
 apply wpS_seq
 apply wpS_region
 simp[wpOpsS,go_sem,Exit.thenS]
 refine wpS_cond (t:=true) (by simp[Act.eval,Array.replicate]) ?_
 simp only[if_true]
 refine wpS_of_wp ?_
 have T:=fun w=>ap p x w
 have HQ:Hid (w.heap[qb]?=some (.cells #[.int .i64 0,.int .i64 0] 72 (0,0))):=h2
 have HR:Hid (w.heap[rb]?=some (.cells cs 46 (0,0))):=h1
 have hq:qb<w.heap.size:=(Array.getElem?_eq_some_iff.1 h2).1
 have hr:rb<w.heap.size:=(Array.getElem?_eq_some_iff.1 h1).1
 clear h1 h2
 show Code.wp _ _ _ {tmps:=#[.pointer (some ⟨rb,0,none⟩),.pointer (some ⟨qb,0,none⟩),.iface 72 (.agg #[.int .i64 p,.int .i64 x]),undef,undef,.iface 72 (.agg #[.int .i64 p,.int .i64 x]),.iface 72 (.agg #[.int .i64 p,.int .i64 x]),.bool true,undef,undef,undef,undef,undef,undef,undef,undef,undef,undef],defers:=[]} _
 go_wp2_with fail
 have hnew:(w.alloc (.cells #[.int .i64 p,.int .i64 x] 72)).heap[w.heap.size]?=some (.cells #[.int .i64 p,.int .i64 x] 72 (0,0)):=World.alloc_heap_new _ _
 have y0:∀q:TurnW (fun k=>k=rb) (w.alloc (.cells #[.int .i64 p,.int .i64 x] 72)),q.w.cell? ⟨w.heap.size,0,none⟩=some (.int .i64 p):=fun q=>Bd q (by simp only[World.cell?,hnew];rfl) (by show ¬w.heap.size=rb;omega)
 have y1:∀q:TurnW (fun k=>k=rb) (w.alloc (.cells #[.int .i64 p,.int .i64 x] 72)),q.w.cell? ⟨w.heap.size,1,none⟩=some (.int .i64 x):=fun q=>Bd q (by simp only[World.cell?,hnew];rfl) (by show ¬w.heap.size=rb;omega)
 have HR1:Hid ((w.alloc (.cells #[.int .i64 p,.int .i64 x] 72)).heap[rb]?=some (.cells cs 46 (0,0))):=(Below.heap_alloc _ _ _ hr).trans HR.out
 have HQ1:Hid ((w.alloc (.cells #[.int .i64 p,.int .i64 x] 72)).heap[qb]?=some (.cells #[.int .i64 0,.int .i64 0] 72 (0,0))):=(Below.heap_alloc _ _ _ hq).trans HQ.out
 have HT0:Hid (Turn (fun k=>k=rb\/k=qb) w (w.alloc (.cells #[.int .i64 p,.int .i64 x] 72))):=Turn.of_below ((Below.refl _ _).alloc (Nat.le_refl _) _)
 have hs1:(w.alloc (.cells #[.int .i64 p,.int .i64 x] 72)).heap.size=w.heap.size+1:=by simp
 clear hnew HR HQ T
 refine Ay (fun k=>k=rb) 3 [(0,false),(1,false),(2,true)] (by kernel_rfl) (by kernel_rfl) ?_
 repeat(refine A0 rfl (fun K hK=>?_);go_simp;first|(refine hK _ ?_;clear hK K)|(apply Exists.intro;refine⟨fun _=>?_,hK _ ?_⟩;(fail);clear hK K))
 refine A7 rfl ?_
 intro w7 hb7 ht7
 have hr7:w7.heap[rb]?=some (.cells cs 46 (0,0)):=hb7.blk_kept HR1.out
 have hq7:w7.heap[qb]?=some (.cells #[.int .i64 0,.int .i64 0] 72 (0,0)):=hb7.blk_kept HQ1.out
 have HT7:=Lib.hid (HT0.out.trans ht7 (fun k _ h=>.inl h))
 refine wpList_store_row rfl 46 (.tmp 0) (.tmp 16) rfl rb (SV.arr {}) rfl rfl 46 cs hr7 (Al _) hcs (Bh _) ?_
 refine⟨ht7.setRow (.inl rfl),B3 ?_⟩
 intro w9 hb9 _
 have hr8:(w7.setRow rb (SV.arr {})).heap[rb]?=some (.cells (SV.arr {}) 46 (0,0)):=Bn hr7
 have hq8:(w7.setRow rb (SV.arr {})).heap[qb]?=some (.cells #[.int .i64 0,.int .i64 0] 72 (0,0)):=(Ap (Ne.symm hne)).trans hq7
 have hr9:=hb9.blk_kept hr8
 have hq9:=hb9.blk_kept hq8
 have HT9:=Lib.hid ((HT7.out.setRow (.inl (.inl rfl)) (cs:=SV.arr {})).step hb9)
 have F9:=Am hq9 [.int .i64 0,.int .i64 0] 0 (fun j=>by simp)
 simp only[cellFacts,and_true]at F9
 have HR9:=Lib.hid hr9
 have HQ9:=Lib.hid hq9
 clear y0 y1 HR1 HQ1 HT0 hb7 ht7 hr7 hq7 HT7 hb9 hr8 hq8 hr9 hq9 hs1
 simp only[List.drop_succ_cons,List.drop_zero]
 go_wp2_with fail
 refine⟨rfl,_,rfl,.tuple #[],by simp[results,results52],rfl,rfl,(HT9.out.setCell (.inl (.inr rfl))).setCell (.inl (.inr rfl)),?_,?_⟩
 ·rw[Below.heap_setCell _ _ _ _ (by show rb≠qb;exact hne),Below.heap_setCell _ _ _ _ (by show rb≠qb;exact hne)];exact HR9.out
 ·have:=HQ9.out;simp[World.setCell,Array.getElem?_modify,this]
theorem Cc {P:Program} {fn:Func} {p q:Tmp} {ty uy:TypeId} (h:fn.results=#[.cell p ty,.cell q uy]) (tmps:Array Value) (w:World) (g b:Nat) (x y:Value)
 (hp:tmps.getD p undef=.pointer (some ⟨g,0,none⟩)) (hq:tmps.getD q undef=.pointer (some ⟨b,0,none⟩)) (h1:(loadVar ty ⟨g,0,none⟩).run P w=.ok x w) (h2:(loadVar uy ⟨b,0,none⟩).run P w=.ok y w):
 (results fn tmps).run P w=.ok (.tuple #[x,y]) w:=by
 have hp':tmps[p]?.getD undef=.pointer (some ⟨g,0,none⟩):=by simpa using hp
 have hq':tmps[q]?.getD undef=.pointer (some ⟨b,0,none⟩):=by simpa using hq
 simp[results,h,hp',hq',asAddr,h1,h2]
theorem Df (a b:Value):(prog.info? 72).map (·.size)=some (#[a,b]:Array Value).size:=by
 have:(prog.info? 72).map (·.size)=some 2:=by kernel_rfl
 rw[this];rfl
def ParsePost (w:World) (x:Except (Int×Int) Stm) (e:Ending) (w':World):Prop:=match x with
 | .ok x=>∃sv:SV,e=.returned (.tuple #[.agg sv.arr,.agg #[.int .i64 0,.int .i64 0]])/\StmIs (w.heap.size≤·) w' sv x/\Below w.heap.size w w'
 | .error (p,q)=>e=.returned (.tuple #[.agg (SV.arr {}),.agg #[.int .i64 p,.int .i64 q]])/\Below w.heap.size w w'
theorem Ux {B:Nat} (s:Bytes) (hs:s.length<=1000000) (p q:Int) (hx:toksR s=.error (p,q)) (w:World) (he:Env B w):
 Calls prog 17 #[.string ⟨s.toArray⟩] w (ParsePost w (parseS s)):=by
 have hps:parseS s=.error (p,q):=by unfold parseS;rw[hx]
 rw[hps]
 have SZ:Hid (St w ((w.alloc (.cells (SV.arr {}) 46)).alloc (.cells #[.int .i64 0,.int .i64 0] 72)) [(w.heap.size+1,#[.int .i64 0,.int .i64 0],72),(w.heap.size,SV.arr {},46)]):=by
  show St _ _ _;have:=St.alloc (St.alloc (St.start w) (cs:=SV.arr {}) (t:=46)) (cs:=#[.int .i64 0,.int .i64 0]) (t:=72);simpa only[World.size_alloc]using this
 have HE:=Lib.hid he
 have C1:=Lib.hid (fun W (h:Env B W)=>De s hs W h)
 rw[hx]at C1
 clear hps hx he
 go_enter_defers func17,ntmps17
 go_wp2_with fail
 refine Calls.mono (C1.out _ (HE.out.kept SZ.out.below)) ?_
 rintro e w1 ⟨rfl,hq0,hb1⟩
 have S1:=Lib.hid (SZ.out.kept hb1)
 clear hb1 SZ C1
 have hqb:(q != 0)=true:=by simpa using hq0
 have F1:=Am (S1.out.blk 0 rfl) [.int .i64 0,.int .i64 0] 0 (fun j=>by simp)
 simp only[cellFacts,and_true]at F1
 go_wp2_with fail
 refine Af (fun W=>St w W [(w.heap.size+1,#[.int .i64 p,.int .i64 q],72),(w.heap.size,SV.arr {},46)]) (St.set 0 (o:=1) (v:=.int .i64 q) (St.set 0 (o:=0) (v:=.int .i64 p) S1.out rfl) rfl) ?_
 clear S1 F1
 intro w2 S2'
 have S2:=Lib.hid S2'
 clear S2'
 have h20:=S2.out.blk 0 rfl
 have y0:∀r:TurnW (fun k=>k=w.heap.size) w2,r.w.cell? ⟨w.heap.size+1,0,none⟩=some (.int .i64 p):=fun r=>Bd r (by simp only[World.cell?,h20];rfl) (by show ¬w.heap.size+1=w.heap.size;omega)
 have y1:∀r:TurnW (fun k=>k=w.heap.size) w2,r.w.cell? ⟨w.heap.size+1,1,none⟩=some (.int .i64 q):=fun r=>Bd r (by simp only[World.cell?,h20];rfl) (by show ¬w.heap.size+1=w.heap.size;omega)
 clear h20
 refine Ay (fun k=>k=w.heap.size) 3 [(0,false),(1,false),(2,true)] (by kernel_rfl) (by kernel_rfl) ?_
 repeat(refine A0 rfl (fun K hK=>?_);go_simp;first|(refine hK _ ?_;clear hK K)|(apply Exists.intro;refine⟨fun _=>?_,hK _ ?_⟩;(fail);clear hK K))
 refine A7 rfl ?_
 intro w7 hb7 ht7
 have S7:=Lib.hid (S2.out.kept hb7)
 have h71:=S7.out.blk 1 rfl
 refine wpList_store_row rfl 46 (.tmp 2) (.tmp 14) rfl w.heap.size (SV.arr {}) rfl rfl 46 (SV.arr {}) h71 (Al _) rfl (Bh _) ?_
 refine⟨ht7.setRow (.inl rfl),B3 ?_⟩
 intro w9 hb9 _
 have S9:=Lib.hid ((St.row 1 (SV.arr {}) S7.out rfl).kept hb9)
 simp only[List.set_cons_zero,List.set_cons_succ]at S9
 have F9:=Am (S9.out.blk 0 rfl) [.int .i64 p,.int .i64 q] 0 (fun j=>by simp)
 simp only[cellFacts,and_true]at F9
 clear y0 y1 hb7 ht7 h71 S7 hb9 S2
 simp only[List.drop_succ_cons,List.drop_zero]
 go_wp2_with fail
 have S10:St w ((w9.setCell ⟨w.heap.size+1,0,none⟩ (.int .i64 p)).setCell ⟨w.heap.size+1,1,none⟩ (.int .i64 q)) [(w.heap.size+1,#[.int .i64 p,.int .i64 q],72),(w.heap.size,SV.arr {},46)]:=St.set 0 (o:=1) (v:=.int .i64 q) (St.set 0 (o:=0) (v:=.int .i64 p) S9.out rfl) rfl
 have hl:=run_loadVar_row (P:=prog) _ w.heap.size 46 46 (SV.arr {}) (0,0) _ (S10.blk 1 rfl) underlying46 rfl (Al _)
 have hl2:=run_loadVar_row (P:=prog) _ (w.heap.size+1) 72 72 #[.int .i64 p,.int .i64 q] (0,0) _ (S10.blk 0 rfl) underlying72 rfl (Df _ _)
 exact⟨.tuple #[.agg (SV.arr {}),.agg #[.int .i64 p,.int .i64 q]],Cc results17 _ _ w.heap.size (w.heap.size+1) _ _ rfl rfl hl hl2,rfl,S10.below⟩
theorem Xg {B:Nat} {W:World} {s:Bytes} {l:List Tok} {pb:Nat} {a:Option Addr} {c:Nat} (he:Env B W) (hB:B<=pb) (hx:toksR s=.ok l) (hb:W.heap[pb]?=some (.cells #[.slice a l.length c,.int .i64 (s.length:Int)] 115 (0,0)))
 (hs:SlIn (·<pb) W (.slice a l.length c) l.length (tkVals l)):Psr W pb (s.length:Int) l:=by
 have hf:=Px hx
 refine⟨he.up hB (Nat.le_of_lt (Array.getElem?_eq_some_iff.1 hb).1),⟨_,hb,hs⟩,fun t ht=>(hf.1 t ht).num,by have h1:=hf.2.1;have h2:=hf.2.2;omega⟩
theorem Qm {B:Nat} (s:Bytes) (hs:s.length<=1000000) (l:List Tok) (p q:Int) (hx:toksR s=.ok l) (hst:stmtR s.length l=.err p q) (w:World) (he:Env B w) (hS:Hid (StmtAt (s.length:Int) l)):
 Calls prog 17 #[.string ⟨s.toArray⟩] w (ParsePost w (parseS s)):=by
 have hps:parseS s=.error (p,q):=by unfold parseS;rw[hx];simp only[hst]
 rw[hps]
 have hmf:∀(fn:Fn) (first cap:Array Value) (w:World),(Instr.makeFunc fn first cap).run prog w=.ok (.func fn first cap) w:=fun _ _ _ _=>rfl
 have SZ:Hid (St w ((w.alloc (.cells (SV.arr {}) 46)).alloc (.cells #[.int .i64 0,.int .i64 0] 72)) [(w.heap.size+1,#[.int .i64 0,.int .i64 0],72),(w.heap.size,SV.arr {},46)]):=by
  show St _ _ _;have:=St.alloc (St.alloc (St.start w) (cs:=SV.arr {}) (t:=46)) (cs:=#[.int .i64 0,.int .i64 0]) (t:=72);simpa only[World.size_alloc]using this
 have HE:=Lib.hid he
 have HX:=Lib.hid hx
 have HST:=Lib.hid hst
 have C1:=Lib.hid (fun W (h:Env B W)=>De s hs W h)
 rw[hx]at C1
 have hsz:(⟨s.toArray⟩:ByteArray).size=s.length:=by show s.toArray.size=_;simp
 clear hps hx he hst
 go_enter_defers func17,ntmps17
 go_wp2_with fail
 refine Calls.mono (C1.out _ (HE.out.kept SZ.out.below)) ?_
 rintro e w1 ⟨v,rfl,hv,hb1⟩
 have S1:=Lib.hid (SZ.out.kept hb1)
 obtain⟨a,c,rfl⟩:∃a c,v=.slice a l.length c:=by obtain⟨a,c,e,_⟩:=hv;exact⟨a,c,e⟩
 have HV:=Lib.hid hv
 clear hb1 SZ C1 hv
 have F1:=Am (S1.out.blk 0 rfl) [.int .i64 0,.int .i64 0] 0 (fun j=>by simp)
 simp only[cellFacts,and_true]at F1
 have S3:Hid (St w (((w1.setCell ⟨w.heap.size+1,0,none⟩ (.int .i64 0)).setCell ⟨w.heap.size+1,1,none⟩ (.int .i64 0)).alloc (.cells #[.slice a l.length c,.int .i64 (s.length:Int)] 115)) [(w1.heap.size,#[.slice a l.length c,.int .i64 (s.length:Int)],115),(w.heap.size+1,#[.int .i64 0,.int .i64 0],72),(w.heap.size,SV.arr {},46)]):=by
  show St _ _ _;have:=St.alloc (St.set 0 (o:=1) (v:=.int .i64 0) (St.set 0 (o:=0) (v:=.int .i64 0) S1.out rfl) rfl) (cs:=#[.slice a l.length c,.int .i64 (s.length:Int)]) (t:=115);rw[World.size_setCell,World.size_setCell]at this;exact this
 have hw1:w.heap.size+1<w1.heap.size:=S1.out.facts.1
 have HP:Hid (Psr (((w1.setCell ⟨w.heap.size+1,0,none⟩ (.int .i64 0)).setCell ⟨w.heap.size+1,1,none⟩ (.int .i64 0)).alloc (.cells #[.slice a l.length c,.int .i64 (s.length:Int)] 115)) w1.heap.size (s.length:Int) l):=by
  refine Xg (HE.out.kept S3.out.below) (Nat.le_trans HE.out.hi (by omega)) HX.out (S3.out.blk 0 rfl) ?_;obtain⟨a',cap,e,hc,h⟩:=HV.out;refine⟨a',cap,e,hc,fun hn=>?_⟩;obtain⟨b,o,e2,k1,k2⟩:=h hn;have hlt:=k2.lt (Fm hn);have k1':w.heap.size+2<=b:=by simpa only[World.size_alloc,Nat.add_assoc,Nat.reduceAdd]using k1
  refine⟨b,o,e2,hlt,k2.same ?_⟩;rw[Below.heap_alloc _ _ _ (by simpa using hlt),Below.heap_setCell _ _ _ _ (by show b≠w.heap.size+1;omega),Below.heap_setCell _ _ _ _ (by show b≠w.heap.size+1;omega)]
 go_wp2_with fail
 refine Calls.mono (hS.out _ _ HP.out) ?_
 clear F1 S1 HV
 intro e w4 h4
 rw[HST.out]at h4
 obtain⟨rfl,hT⟩:=h4
 have S4:=Lib.hid ((St.tail S3.out).turned hT (fun i hi=>by have hi':i=w1.heap.size:=hi;omega) (fun x hx e=>by
  have e':x.1=w1.heap.size:=e;simp only[List.mem_cons,List.not_mem_nil,or_false]at hx;rcases hx with rfl|rfl
  ·have e2:w.heap.size+1=w1.heap.size:=e';omega
  ·have e2:w.heap.size=w1.heap.size:=e';omega))
 clear S3 HP hT
 refine leaves_cons (f:=52) (args:=#[.pointer (some ⟨w.heap.size,0,none⟩),.pointer (some ⟨w.heap.size+1,0,none⟩)]) (by simp) (by simp[go_sem]) ?_
 refine(Lb w.heap.size (w.heap.size+1) p q [] (SV.arr {}) w4 (S4.out.blk 1 rfl) rfl (S4.out.blk 0 rfl) (by omega)).mono ?_
 rintro e u' w5 ⟨rfl,rfl,hT5,hr5,hq5⟩
 have hl:=run_loadVar_row (P:=prog) _ w.heap.size 46 46 (SV.arr {}) (0,0) _ hr5 underlying46 rfl (Al _)
 have hl2:=run_loadVar_row (P:=prog) _ (w.heap.size+1) 72 72 #[.int .i64 p,.int .i64 q] (0,0) _ hq5 underlying72 rfl (Df _ _)
 refine⟨.tuple #[.agg (SV.arr {}),.agg #[.int .i64 p,.int .i64 q]],Cc results17 _ _ w.heap.size (w.heap.size+1) _ _ rfl rfl hl hl2,rfl,?_⟩
 exact(St.turned (L:=[]) ⟨S4.out.below,by simp,by simp⟩ hT5 (fun i hi=>by rcases hi with hi|hi<;>omega) (by simp)).below
theorem Zg {w0 w:World} {L:List Blk} {R:World->Prop} {P:Program} {ops:Array Oper} {ol:List Oper} {Q:Exit->Act->World->Prop} {a:Act} (h:St w0 w L) (h2:R w) (k:∀W,Hid (St w0 W L)->Hid (R W)->wpList P ops Q ol a W):wpList P ops Q ol a w:=k w h h2
theorem StmIs.move {Q R:Nat->Prop} {w w':World} {s:SV} {x:Stm} (hq:∀b,b<w.heap.size->Q b->R b/\w'.heap[b]?=w.heap[b]?) (h:StmIs Q w s x):StmIs R w' s x:=by
 have k:=h.toIn.move hq;refine⟨k.k,k.tb,k.nm,?_,k.col,k.ns,k.un,k.rs,k.es,k.wh,k.sel,k.md⟩;obtain⟨ca,cc,ka,kc,h1,h2,h3,h4⟩:=h.sch;exact⟨ca,cc,ka,kc,h1,h2,Ad (by decide) hq h3,Ad (by decide) hq h4⟩
theorem StmIs.kept {Q:Nat->Prop} {w w':World} {s:SV} {x:Stm} (h:StmIs Q w s x) (hb:Below w.heap.size w w'):StmIs Q w' s x:=h.move (fun b hl k=>⟨k,hb.block b hl⟩)
theorem StmIs.mono {Q R:Nat->Prop} {w:World} {s:SV} {x:Stm} (h:StmIs Q w s x) (hq:∀b,Q b->R b):StmIs R w s x:=h.move (fun b _ hb=>⟨hq b hb,rfl⟩)
theorem StmIs.turned {Q M:Nat->Prop} {w w':World} {s:SV} {x:Stm} (h:StmIs Q w s x) (ht:Turn M w w') (hq:∀b,Q b->¬M b):StmIs Q w' s x:=h.move (fun b hb k=>⟨k,ht.block b hb (hq b k)⟩)
theorem Turn.sameRow {M:Nat->Prop} {W:World} {b:Nat} {cs:Array Value} {t:TypeId} {fr:Nat×Nat} (h:W.heap[b]?=some (.cells cs t fr)):Turn M W (W.setRow b cs):=
 ⟨rfl,rfl,rfl,by simp[World.setRow],fun k _ _=>by
  by_cases e:k=b
  ·subst e;rw[Bn h,h]
  ·exact Ap e⟩
theorem Qp {B:Nat} (s:Bytes) (hs:s.length<=1000000) (l:List Tok) (x:Stm) (hx:toksR s=.ok l) (hst:stmtR s.length l=.ok x []) (hfm:x.formed=true) (w:World) (he:Env B w) (hS:Hid (StmtAt (s.length:Int) l)) (hC:Hid (CheckAt x)):
 Calls prog 17 #[.string ⟨s.toArray⟩] w (ParsePost w (parseS s)):=by
 have hps:parseS s=.ok x:=by unfold parseS;rw[hx];simp only[hst];rw[if_pos hfm]
 have HFM:=Lib.hid hfm
 clear hfm
 rw[hps]
 have hmf:∀(fn:Fn) (first cap:Array Value) (w:World),(Instr.makeFunc fn first cap).run prog w=.ok (.func fn first cap) w:=fun _ _ _ _=>rfl
 have SZ:Hid (St w ((w.alloc (.cells (SV.arr {}) 46)).alloc (.cells #[.int .i64 0,.int .i64 0] 72)) [(w.heap.size+1,#[.int .i64 0,.int .i64 0],72),(w.heap.size,SV.arr {},46)]):=by
  show St _ _ _;have:=St.alloc (St.alloc (St.start w) (cs:=SV.arr {}) (t:=46)) (cs:=#[.int .i64 0,.int .i64 0]) (t:=72);simpa only[World.size_alloc]using this
 have HE:=Lib.hid he
 have HX:=Lib.hid hx
 have HST:=Lib.hid hst
 have C1:=Lib.hid (fun W (h:Env B W)=>De s hs W h)
 rw[hx]at C1
 have hsz:(⟨s.toArray⟩:ByteArray).size=s.length:=by show s.toArray.size=_;simp
 clear hps hx he hst
 go_enter_defers func17,ntmps17
 go_wp2_with fail
 refine Calls.mono (C1.out _ (HE.out.kept SZ.out.below)) ?_
 rintro e w1 ⟨v,rfl,hv,hb1⟩
 have S1:=Lib.hid (SZ.out.kept hb1)
 obtain⟨a,c,rfl⟩:∃a c,v=.slice a l.length c:=by obtain⟨a,c,e,_⟩:=hv;exact⟨a,c,e⟩
 have HV:=Lib.hid hv
 clear hb1 SZ C1 hv
 have F1:=Am (S1.out.blk 0 rfl) [.int .i64 0,.int .i64 0] 0 (fun j=>by simp)
 simp only[cellFacts,and_true]at F1
 have S3:Hid (St w (((w1.setCell ⟨w.heap.size+1,0,none⟩ (.int .i64 0)).setCell ⟨w.heap.size+1,1,none⟩ (.int .i64 0)).alloc (.cells #[.slice a l.length c,.int .i64 (s.length:Int)] 115)) [(w1.heap.size,#[.slice a l.length c,.int .i64 (s.length:Int)],115),(w.heap.size+1,#[.int .i64 0,.int .i64 0],72),(w.heap.size,SV.arr {},46)]):=by
  show St _ _ _;have:=St.alloc (St.set 0 (o:=1) (v:=.int .i64 0) (St.set 0 (o:=0) (v:=.int .i64 0) S1.out rfl) rfl) (cs:=#[.slice a l.length c,.int .i64 (s.length:Int)]) (t:=115);rw[World.size_setCell,World.size_setCell]at this;exact this
 have hw1:w.heap.size+1<w1.heap.size:=S1.out.facts.1
 have HP:Hid (Psr (((w1.setCell ⟨w.heap.size+1,0,none⟩ (.int .i64 0)).setCell ⟨w.heap.size+1,1,none⟩ (.int .i64 0)).alloc (.cells #[.slice a l.length c,.int .i64 (s.length:Int)] 115)) w1.heap.size (s.length:Int) l):=by
  refine Xg (HE.out.kept S3.out.below) (Nat.le_trans HE.out.hi (by omega)) HX.out (S3.out.blk 0 rfl) ?_;obtain⟨a',cap,e,hc,h⟩:=HV.out;refine⟨a',cap,e,hc,fun hn=>?_⟩;obtain⟨b,o,e2,k1,k2⟩:=h hn;have hlt:=k2.lt (Fm hn);have k1':w.heap.size+2<=b:=by simpa only[World.size_alloc,Nat.add_assoc,Nat.reduceAdd]using k1
  refine⟨b,o,e2,hlt,k2.same ?_⟩;rw[Below.heap_alloc _ _ _ (by simpa using hlt),Below.heap_setCell _ _ _ _ (by show b≠w.heap.size+1;omega),Below.heap_setCell _ _ _ _ (by show b≠w.heap.size+1;omega)]
 go_wp2_with fail
 refine Calls.mono (hS.out _ _ HP.out) ?_
 clear F1 S1 HV
 intro e w4 h4
 rw[HST.out]at h4
 obtain⟨v,rfl,⟨sv,rfl,hsv⟩,hp4,hT⟩:=h4
 have HSV:Hid (StmIn (w1.heap.size<·) w4 sv x):=hsv.toIn.mono (fun b hb=>by
  have hb':w1.heap.size+1<=b:=by simpa only[World.size_alloc,World.size_setCell]using hb
  exact hb')
 have HSI:Hid (StmIs (w1.heap.size<·) w4 sv x):=hsv.mono (fun b hb=>by
  have hb':w1.heap.size+1<=b:=by simpa only[World.size_alloc,World.size_setCell]using hb
  exact hb')
 have S4:=Lib.hid ((St.tail S3.out).turned hT (fun i hi=>by have hi':i=w1.heap.size:=hi;omega) (fun x hx e=>by
  have e':x.1=w1.heap.size:=e;simp only[List.mem_cons,List.not_mem_nil,or_false]at hx;rcases hx with rfl|rfl
  ·have e2:w.heap.size+1=w1.heap.size:=e';omega
  ·have e2:w.heap.size=w1.heap.size:=e';omega))
 obtain⟨pv,hpb,ea,ec,rfl,_⟩:=hp4.blk
 have hpl:=hp4.lt
 have HPB:=Lib.hid hpb
 clear S3 HP hT hp4 hsv hpb
 have hrp:w.heap.size+1<w1.heap.size:=by omega
 generalize w1.heap.size=pb at *
 go_wp2_with(first|(refine wpList_store_row rfl 46 (.tmp 2) (.tmp 23) rfl w.heap.size sv.arr rfl rfl 46 (SV.arr {}) (S4.out.blk 1 rfl) (Al _) rfl (Bh _) ?_;refine Zg (R:=fun W=>W.heap[pb]?=some (.cells #[.slice ea 0 ec,.int .i64 (s.length:Int)] 115 (0,0))/\StmIn (pb<·) W sv x/\StmIs (pb<·) W sv x) (St.row 1 sv.arr S4.out rfl) ⟨(Ap (by omega)).trans HPB.out,HSV.out.turned ((Turn.refl _ _).setRow (.inl rfl)) (M:=(·=w.heap.size)) (fun b hb e=>by omega),HSI.out.turned ((Turn.refl _ _).setRow (.inl rfl)) (M:=(·=w.heap.size)) (fun b hb e=>by omega)⟩ ?_;intro w5 S5 H5;have f5:w5.cell? ⟨pb,0,none⟩=some (.slice ea 0 ec):=(by simp only[World.cell?,H5.out.1];rfl);clear S4 HPB HSV HSI)|(refine wpList_load_row rfl 46 (.tmp 2) rfl w.heap.size rfl 46 sv.arr (0,0) _ (S5.out.blk 1 rfl) underlying46 rfl (Al _) ?_))
 refine Calls.mono (hC.out (pb<·) sv _ H5.out.2.1) ?_
 rw[HFM.out]
 rintro e w6 ⟨rfl,hb6⟩
 have S6:=Lib.hid (S5.out.kept hb6)
 have H6:=Lib.hid (H5.out.2.2.kept hb6)
 simp only[List.set_cons_zero,List.set_cons_succ]at S6
 clear hb6 f5 S5 H5
 have h60:=S6.out.blk 0 rfl
 have h61:=S6.out.blk 1 rfl
 have y0:∀p:TurnW (fun _=>False) w6,p.w.cell? ⟨w.heap.size+1,0,none⟩=some (.int .i64 0):=fun p=>Bd p (by simp only[World.cell?,h60];rfl) (fun h=>h)
 have y1:∀p:TurnW (fun _=>False) w6,p.w.cell? ⟨w.heap.size+1,1,none⟩=some (.int .i64 0):=fun p=>Bd p (by simp only[World.cell?,h60];rfl) (fun h=>h)
 have H61:=Lib.hid h61
 clear h60 h61
 unfold errF
 simp only[if_true]
 go_wp2_with fail
 refine Ay (fun _=>False) 3 [(0,false),(1,false),(2,true)] (by kernel_rfl) (by kernel_rfl) ?_
 refine Kx rfl rfl 46 (.tmp 2) rfl w.heap.size rfl 46 sv.arr (0,0) _ (fun p=>Cn p H61.out (fun h=>h)) underlying46 rfl (Al _) ?_
 repeat(refine A0 rfl (fun K hK=>?_);go_simp;first|(refine hK _ ?_;clear hK K)|(apply Exists.intro;refine⟨fun _=>?_,hK _ ?_⟩;(fail);clear hK K))
 refine A7 rfl ?_
 intro w7 hb7 ht7
 have S7:=Lib.hid (S6.out.kept hb7)
 have H7:=Lib.hid (H6.out.kept hb7)
 have h71:=S7.out.blk 1 rfl
 clear hb7 y0 y1 H61 S6 H6
 refine wpList_store_row rfl 46 (.tmp 2) (.tmp 37) rfl w.heap.size sv.arr rfl rfl 46 sv.arr h71 (Al _) rfl (Bh _) ?_
 refine⟨ht7.trans (Turn.sameRow (M:=fun _=>False) h71) (fun _ _ h=>h),B3 ?_⟩
 have S8:=Lib.hid (St.row 1 sv.arr S7.out rfl)
 have H8:Hid (StmIs (pb<·) (w7.setRow w.heap.size sv.arr) sv x):=H7.out.turned ((Turn.refl _ _).setRow (.inl rfl)) (M:=(·=w.heap.size)) (fun b hb e=>by omega)
 simp only[List.set_cons_zero,List.set_cons_succ]at S8
 clear ht7 h71 S7 H7
 intro w9 hb9 _
 have S9:=Lib.hid (S8.out.kept hb9)
 have H9:=Lib.hid (H8.out.kept hb9)
 have F9:=Am (S9.out.blk 0 rfl) [.int .i64 0,.int .i64 0] 0 (fun j=>by simp)
 simp only[cellFacts,and_true]at F9
 clear hb9 S8 H8
 simp only[List.drop_succ_cons,List.drop_zero]
 go_wp2_with fail
 have S10:St w ((w9.setCell ⟨w.heap.size+1,0,none⟩ (.int .i64 0)).setCell ⟨w.heap.size+1,1,none⟩ (.int .i64 0)) [(w.heap.size+1,#[.int .i64 0,.int .i64 0],72),(w.heap.size,sv.arr,46)]:=St.set 0 (o:=1) (v:=.int .i64 0) (St.set 0 (o:=0) (v:=.int .i64 0) S9.out rfl) rfl
 have H10:StmIs (w.heap.size≤·) ((w9.setCell ⟨w.heap.size+1,0,none⟩ (.int .i64 0)).setCell ⟨w.heap.size+1,1,none⟩ (.int .i64 0)) sv x:=(H9.out.turned (((Turn.refl (·=w.heap.size+1) w9).setCell (.inl rfl)).setCell (.inl rfl)) (fun b hb e=>by omega)).mono (fun b hb=>by omega)
 have hl:=run_loadVar_row (P:=prog) _ w.heap.size 46 46 sv.arr (0,0) _ (S10.blk 1 rfl) underlying46 rfl (Al _)
 have hl2:=run_loadVar_row (P:=prog) _ (w.heap.size+1) 72 72 #[.int .i64 0,.int .i64 0] (0,0) _ (S10.blk 0 rfl) underlying72 rfl (Df _ _)
 refine leaves_cons (f:=52) (args:=#[.pointer (some ⟨w.heap.size,0,none⟩),.pointer (some ⟨w.heap.size+1,0,none⟩)]) (by simp) (by simp[go_sem]) ?_
 refine(R5 _ _ _).mono ?_
 rintro e u' w'' ⟨rfl,rfl,rfl⟩
 exact⟨.tuple #[.agg sv.arr,.agg #[.int .i64 0,.int .i64 0]],Cc results17 _ _ w.heap.size (w.heap.size+1) _ _ rfl rfl hl hl2,sv,rfl,H10,S10.below⟩
end Go.Proofs.YtjmmbebkbkgefaaGreatDoor
