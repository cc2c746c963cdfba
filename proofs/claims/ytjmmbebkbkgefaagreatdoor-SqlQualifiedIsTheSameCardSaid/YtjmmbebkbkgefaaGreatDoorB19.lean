/- Part 19; the last part says what is proved. No condition. -/
import Derived.Test.YtjmmbebkbkgefaaGreatDoorB18
set_option linter.unusedVariables false
set_option linter.unusedSimpArgs false
set_option maxHeartbeats 16000000
set_option maxRecDepth 100000
namespace Go.Proofs.YtjmmbebkbkgefaaGreatDoor
open Go.RowKit Go.Sort Go.Proofs.Tryz
attribute [local go_sem] Oper.semAt_some
theorem Kw (Q R:Nat->Prop) (kinds:List Int) (kv:Value) (e:Xp) (hfm:e.formed=true) (hwf:e.Wf) (hT:sizeX e<=1000000) (cs:List Value) (w:World) (hv:RSl intE Q w kv kinds) (hl:kinds.length<=1000000) (hin:XpIn R w e cs):
 CallsIn Fence.wide 5 prog 174 #[kv,.agg cs.toArray] w (Says (.tuple #[.int .i64 (checkX kinds e).1,.int .i64 (checkX kinds e).2]) w):=by
 have CS:Hid (∀W,Below w.heap.size w W->Calls prog 209 #[.agg cs.toArray] W (Says (.int .i64 (sizeX e)) W)):=fun W hb=>xsize_any R e (Be e hfm) hT cs W (Au (fun b hl k=>⟨k,hb.block b hl⟩) _ _ hin)
 have CK:Hid (∀W,Below w.heap.size w W->Calls prog 212 #[kv,.agg cs.toArray] W (Says (.tuple #[.int .i64 (Xp.kindX kinds e).1,.int .i64 (Xp.kindX kinds e).2]) W)):=fun W hW=>X0 Q R kinds hl e hfm hwf kv cs W (hv.kept (by decide) hW) (Au (fun b hl k=>⟨k,hW.block b hl⟩) _ _ hin)
 have hin1:XpIn (·<w.heap.size) w e cs:=Au (fun b hb _=>⟨hb,rfl⟩) _ _ hin
 have HIN:=Lib.hid hin1
 have HFM:=Lib.hid hfm
 obtain⟨tot,htot⟩:∃tot,checkX kinds e=tot:=⟨_,rfl⟩
 rw[htot]
 have HTOT:Hid (tot=if 200<sizeX e then(0,2)else Xp.kindX kinds e):=by show _=_;rw[<- htot];rfl
 obtain⟨ka,kc,rfl⟩:=hv.slice
 obtain⟨op,xn,v,args⟩:=e
 obtain⟨a,rfl,hsl⟩:=Ai.1 hin
 obtain⟨ad,ac,rfl⟩:=hsl.slice
 have S0:Hid (St w (((w.alloc (.cells #[.int .i64 op,.int .i64 xn,.int .i64 v.k,.int .i64 v.n,.string v.s,.slice ad args.length ac] 49)).alloc (.cells #[.int .i64 0] 3)).alloc (.cells #[.int .i64 0] 30)) [(w.heap.size+2,#[.int .i64 0],30),(w.heap.size+1,#[.int .i64 0],3),(w.heap.size,#[.int .i64 op,.int .i64 xn,.int .i64 v.k,.int .i64 v.n,.string v.s,.slice ad args.length ac],49)]):=by
  have:=St.alloc (St.alloc (St.alloc (St.start w) (cs:=#[.int .i64 op,.int .i64 xn,.int .i64 v.k,.int .i64 v.n,.string v.s,.slice ad args.length ac]) (t:=49)) (cs:=#[.int .i64 0]) (t:=3)) (cs:=#[.int .i64 0]) (t:=30);simp only[World.size_alloc,Nat.add_assoc,Nat.reduceAdd]at this;exact this
 generalize htt:sizeX (.mk op xn v args)=tt at *
 generalize Xp.kindX kinds (.mk op xn v args)=kk at *
 have HTT:=Lib.hid htt
 clear hv hl hin hin1 hsl hfm hwf htot htt
 refine callsIn_of_wp_marks func174 rfl trivial ?_ rfl
 simp only[ntmps174,List.size_toArray,List.length_cons,List.length_nil,Nat.reduceAdd,Nat.reduceSub,Array.replicate_succ,Array.replicate_zero,List.push_toArray,List.append_toArray,List.nil_append,List.cons_append]
 gi_wp2
 refine⟨trivial,?_⟩
 refine CallsIn.mono (callsIn_wide.2 (CS.out _ S0.out.below)) ?_
 rintro e w1 ⟨rfl,hb1⟩
 have S1:=Lib.hid (S0.out.kept hb1)
 clear hb1 S0 CS
 have F:=S1.out.facts
 simp only[St.Facts,cellFacts,apartFacts,and_true]at F
 by_cases hbig:200<tt
 ·have hbi:(200:Int)<(tt:Int):=by omega
  obtain rfl:tot=(0,2):=HTOT.out.trans (if_pos hbig)
  gi_wp2
  have S2:=Lib.hid (St.set 0 (o:=0) (v:=.int .i64 2) (St.set 1 (o:=0) (v:=.int .i64 0) S1.out rfl) rfl)
  have F2:=S2.out.facts
  simp only[St.Facts,cellFacts,apartFacts,and_true,List.set_cons_zero,List.set_cons_succ,List.setIfInBounds_toArray]at F2
  simp only[Nat.add_assoc,Nat.reduceAdd]at F2 ⊢
  exact⟨.tuple #[.int .i64 0,.int .i64 2],by simp[results,results174,go_sem,F2],rfl,S2.out.below⟩
 obtain rfl:tot=kk:=HTOT.out.trans (if_neg hbig)
 have hbi:¬(200:Int)<(tt:Int):=by omega
 gi_wp2
 refine⟨trivial,?_⟩
 refine CallsIn.mono (callsIn_wide.2 (Ly op xn v ad args.length ac _)) ?_
 rintro e w2 ⟨rfl,rfl⟩
 gi_wp2
 refine St.genIn (St.alloc S1.out) ?_
 intro W0 S2
 have hW0:=S2.out.below.size
 have hW3:w1.heap.size<W0.heap.size:=(Array.getElem?_eq_some_iff.1 (S2.out.blk 0 rfl)).1
 have hw1:w.heap.size+2<w1.heap.size:=(Array.getElem?_eq_some_iff.1 (S1.out.blk 0 rfl)).1
 clear F S1 HTOT hbi hbig
 refine Ew (by decide) (gf:=229) (lb:=#[.pointer (some ⟨w1.heap.size,0,none⟩)]) rfl (enters_of func229 (by kernel_rfl) rfl)
  (fun rc W=>∃lp,RgI w W0.heap.size lp [(w1.heap.size,#[.int .i64 op,.int .i64 xn,.int .i64 v.k,.int .i64 v.n,.string v.s,.slice ad args.length ac],49),(w.heap.size+2,#[.int .i64 0],30),(w.heap.size+1,#[.int .i64 0],3),(w.heap.size,#[.int .i64 op,.int .i64 xn,.int .i64 v.k,.int .i64 v.n,.string v.s,.slice ad args.length ac],49)] W) (fun _ _=>False) ?_ ?_ ?_
 ·intro rc hround;have HR:=Lib.hid hround;clear hround;have R0:=RgI.start S2.out (rc .ready none);refine CallsIn.mono (J7 (·<w.heap.size) (fun b=>b=W0.heap.size+1) (W0.heap.size+2) (fun b h=>by omega) (fun b h hm=>by omega) (W0.heap.size+1) tt
   (fun _ W=>RgI w W0.heap.size (rc .ready none) [(w1.heap.size,#[.int .i64 op,.int .i64 xn,.int .i64 v.k,.int .i64 v.n,.string v.s,.slice ad args.length ac],49),(w.heap.size+2,#[.int .i64 0],30),(w.heap.size+1,#[.int .i64 0],3),(w.heap.size,#[.int .i64 op,.int .i64 xn,.int .i64 v.k,.int .i64 v.n,.string v.s,.slice ad args.length ac],49)] W)
   (fun k W W' h hb=>h.kept hb) (fun x=>x.formed=true) (fun _ _ _ _ h=>Ec h) ?_ (.mk op xn v args) (Be _ HFM.out) HFM.out (Nat.le_of_eq HTT.out) _ w1.heap.size 4 _ (Au (fun b hb hq=>⟨hq,R0.st.below.block b hb⟩) _ _ HIN.out) (R0.st.blk 0 rfl) (by simp) R0) ?_
  ·intro k x xcs W1 m hk hxf hxin hC1 hj1
   have R1:=Lib.hid hj1
   clear hj1 R0
   obtain⟨op2,n2,v2,args2⟩:=x
   obtain⟨s1,rfl,hr1⟩:=Ai.1 hxin
   obtain⟨s1,d1,rfl⟩:=hr1.slice
   have CF:=Lib.hid (fun W=>Nd op2 n2 v2 args2 s1 d1 W hxf)
   clear hxf hxin hr1
   refine Jb m (HR.out W1 _ _ R1.out.loop rfl ?_)
   clear HR
   gi_wp2
   have hbx:Below W1.heap.size W1 (W1.alloc (.cells #[.int .i64 op2,.int .i64 n2,.int .i64 v2.k,.int .i64 v2.n,.string v2.s,.slice s1 args2.length d1] 49)):=(Below.refl _ _).alloc (Nat.le_refl _) _
   have R1b:=Lib.hid (R1.out.kept hbx)
   have HY:Hid ((W1.alloc (.cells #[.int .i64 op2,.int .i64 n2,.int .i64 v2.k,.int .i64 v2.n,.string v2.s,.slice s1 args2.length d1] 49)).heap[W1.heap.size]?=some (.cells #[.int .i64 op2,.int .i64 n2,.int .i64 v2.k,.int .i64 v2.n,.string v2.s,.slice s1 args2.length d1] 49 (0,0))):=World.alloc_heap_new _ _
   refine⟨R1b.out.loop,?_⟩
   have R2:=Lib.hid (R1b.out.put (rc .busy none))
   have HT1:Hid (Turn (fun b=>b=W0.heap.size+1) W1 ((W1.alloc (.cells #[.int .i64 op2,.int .i64 n2,.int .i64 v2.k,.int .i64 v2.n,.string v2.s,.slice s1 args2.length d1] 49)).putObj (W0.heap.size+1) (.loop (rc .busy none)))):=(Turn.of_below hbx).trans (Turn.putObj _ _ _) (fun i _ h=>h)
   have HY2:Hid (((W1.alloc (.cells #[.int .i64 op2,.int .i64 n2,.int .i64 v2.k,.int .i64 v2.n,.string v2.s,.slice s1 args2.length d1] 49)).putObj (W0.heap.size+1) (.loop (rc .busy none))).heap[W1.heap.size]?=some (.cells #[.int .i64 op2,.int .i64 n2,.int .i64 v2.k,.int .i64 v2.n,.string v2.s,.slice s1 args2.length d1] 49 (0,0))):=(World.putObj_heap_other (by omega)).trans HY.out
   generalize W1.heap.size=bv at *
   generalize (W1.alloc (.cells #[.int .i64 op2,.int .i64 n2,.int .i64 v2.k,.int .i64 v2.n,.string v2.s,.slice s1 args2.length d1] 49)).putObj (W0.heap.size+1) (.loop (rc .busy none))=Wb at *
   clear R1 R1b HY hbx
   have F:=R2.out.facts
   simp only[St.Facts,cellFacts,apartFacts,and_true]at F
   have G:=Am HY2.out (#[.int .i64 op2,.int .i64 n2,.int .i64 v2.k,.int .i64 v2.n,.string v2.s,.slice s1 args2.length d1]:Array Value).toList 0 (fun j=>by simp)
   simp only[cellFacts,and_true]at G
   gi_wp2
   refine⟨trivial,?_⟩
   refine CallsIn.mono (CallsIn.inRound _ (callsIn_wide.2 (CF.out _))) ?_
   rintro e w3 ⟨rfl,hb3⟩
   have R3:=Lib.hid (R2.out.kept hb3)
   have HT3:=Lib.hid (HT1.out.step hb3)
   clear hb3 F G HY2 R2 HT1 CF
   gi_wp2
   exact⟨R3.out.loop,rfl,R3.out.put _,HT3.out.trans (Turn.putObj _ _ _) (fun i _ h=>h)⟩
  ·rintro e W2 ⟨hv,h,_⟩;exact⟨hv,.inl ⟨⟨_,h⟩,h.loop⟩⟩
 ·rintro rc W o ⟨lp,h⟩ hl
  have R1:=Lib.hid (h.put o)
  clear h hl
  generalize W.putObj (W0.heap.size+1) (.loop o)=W1 at *
  have F:=R1.out.facts
  simp only[St.Facts,cellFacts,apartFacts,and_true]at F
  gi_wp2
  refine⟨trivial,?_⟩
  refine CallsIn.mono (callsIn_wide.2 (CK.out _ R1.out.st.below)) ?_
  rintro e w3 ⟨rfl,hb3⟩
  have R3:=Lib.hid (R1.out.kept hb3)
  clear F hb3 R1
  have F:=R3.out.facts
  simp only[St.Facts,cellFacts,apartFacts,and_true]at F
  gi_wp2
  have R4:=Lib.hid (RgI.set 1 (o:=0) (v:=.int .i64 tot.2) (RgI.set 2 (o:=0) (v:=.int .i64 tot.1) R3.out rfl) rfl)
  refine⟨by simp,.inl ⟨_,_,rfl,run_takeDeferred R4.out.dfr,?_⟩⟩
  have S5:=R4.out.fin
  have F5:=S5.facts
  simp only[St.Facts,cellFacts,apartFacts,and_true,List.set_cons_zero,List.set_cons_succ,List.setIfInBounds_toArray]at F5
  exact⟨.tuple #[.int .i64 tot.1,.int .i64 tot.2],by simp[results,results174,go_sem,F5],rfl,S5.below⟩
 ·rintro rc W o h hl;exact h.elim
theorem xcheck_any (Q R:Nat->Prop) (kinds:List Int) (kv:Value) (e:Xp) (hfm:e.formed=true) (hwf:e.Wf) (hT:sizeX e<=1000000) (cs:List Value) (w:World) (hv:RSl intE Q w kv kinds) (hl:kinds.length<=1000000) (hin:XpIn R w e cs):
 Calls prog 174 #[kv,.agg cs.toArray] w (Says (.tuple #[.int .i64 (checkX kinds e).1,.int .i64 (checkX kinds e).2]) w):=callsIn_wide.1 (Kw Q R kinds kv e hfm hwf hT cs w hv hl hin)
def NormS (v:Value):Prop:=(∃ad n c,v=.slice (some ad) n c)\/v=.slice none 0 0
theorem I3 {W:World} {base:Nat} {e:TypeId} {k:Nat} {v:Value} {n:Nat} {xs:List Value} (h:W.ownsRow base e k v n xs):NormS v:=by
 obtain⟨_,⟨rfl,_⟩|⟨g,cap,cur,rfl,_⟩⟩:=h
 ·exact .inr rfl
 ·exact .inl ⟨_,_,_,rfl⟩
def RetKs (w:World) (r:List Int×Int) (e:Ending) (w':World):Prop:=(r.2=0/\∃v,e=.returned (.tuple #[v,.int .i64 0])/\RSl intE (w.heap.size≤·) w' v r.1/\NormS v/\Below w.heap.size w w')\/(r.2≠0/\e=.returned (.tuple #[.slice none 0 0,.int .i64 r.2])/\Below w.heap.size w w')
theorem J0 (Q R:Nat->Prop) (kinds:List Int) (kv:Value) (e:Xp) (he:XpFine e) (cs:List Value) (w:World) (hv:RSl intE Q w kv kinds) (hl:kinds.length<=1000000) (hin:XpIn R w e cs):
 Calls prog 104 #[kv,.agg cs.toArray] w (Says (.int .i64 (truthX kinds e)) w):=by
 have CC:=Lib.hid (fun W (hb:Below w.heap.size w W)=>xcheck_any Q R kinds kv e he.formed he.wf he.size cs W (hv.kept (by decide) hb) hl (Au (fun b hl k=>⟨k,hb.block b hl⟩) _ _ hin))
 obtain⟨y,hy⟩:∃y,truthX kinds e=y:=⟨_,rfl⟩
 have HY:Hid (y=if(checkX kinds e).2=0/\(checkX kinds e).1≠3/\(checkX kinds e).1≠0 then 7 else(checkX kinds e).2):=by show _=_;rw[<- hy];rfl
 rw[hy]
 generalize (checkX kinds e).1=ck at *
 generalize (checkX kinds e).2=ce at *
 obtain⟨ka,kc,rfl⟩:=hv.slice
 obtain⟨op,xn,v,args⟩:=e
 obtain⟨a,rfl,hsl⟩:=Ai.1 hin
 obtain⟨ad,ac,rfl⟩:=hsl.slice
 clear hv hl hin hsl he hy
 go_enter func104,ntmps104
 go_upto_region 1 with fail
 refine St.gen (St.alloc (St.start _)) ?_
 intro w1 S1
 try(simp only[List.set_cons_zero,List.set_cons_succ,List.setIfInBounds_toArray,World.size_alloc]at S1)
 have F1:=S1.out.facts
 simp only[St.Facts,cellFacts,apartFacts,and_true]at F1
 go_wp2_with fail
 refine Calls.mono (CC.out _ S1.out.below) ?_
 rintro e w2 ⟨rfl,hb2⟩
 have HB:=Lib.hid (S1.out.kept hb2).below
 clear hb2 F1 S1 CC
 by_cases h0:ce=0
 ·subst h0;by_cases h3:ck=3
  ·subst h3;obtain rfl:y=0:=by rw[HY.out];simp
   go_wp2_with fail;go_returns;exact⟨rfl,HB.out⟩
  ·have b3:(ck==(3:Int))=false:=by simpa using h3
   by_cases h4:ck=0
   ·subst h4;obtain rfl:y=0:=by rw[HY.out];simp
    go_wp2_with fail;go_returns;exact⟨rfl,HB.out⟩
   ·have b4:(ck==(0:Int))=false:=by simpa using h4
    have c3:(ck != (3:Int))=true:=by simpa using h3
    have c4:(ck != (0:Int))=true:=by simpa using h4
    obtain rfl:y=7:=by rw[HY.out,if_pos ⟨rfl,h3,h4⟩]
    go_wp2_with fail;go_returns;exact⟨rfl,HB.out⟩
 ·have b0:(ce==(0:Int))=false:=by simpa using h0
  obtain rfl:y=ce:=by rw[HY.out,if_neg (fun h=>h0 h.1)]
  go_wp2_with fail;go_returns;exact⟨rfl,HB.out⟩
theorem Uu {ck:List Int->Xp->Int×Int} {ins:List Int} {x:Xp} {l:List Xp} {out:List Int} (h:(ck ins x).2≠0):projR ck ins (x::l) out=([],(ck ins x).2):=by
 unfold projR;rw[if_pos h]
theorem Xi {ck:List Int->Xp->Int×Int} {ins:List Int} {x:Xp} {l:List Xp} {out:List Int} (h:(ck ins x).2=0):projR ck ins (x::l) out=projR ck ins l (out++[(ck ins x).1]):=by
 conv=>lhs;unfold projR
 rw[if_neg (fun hn=>hn h)]
theorem Mv (Q R:Nat->Prop) (ins:List Int) (l:List Xp) (kv ev:Value) (w:World) (hv:RSl intE Q w kv ins) (he:RSl xpE R w ev l) (hl:ins.length<=1000000) (hn:l.length<=1000000) (hf:∀x∈l,XpFine x):
 Calls prog 105 #[kv,ev] w (RetKs w (projectsR checkX ins l)):=by
 obtain⟨ka,kc,rfl⟩:=hv.slice
 obtain⟨ea,ec,rfl⟩:=he.slice
 have S0:=Lib.hid (St.start w)
 have HV:=Lib.hid hv
 have HE:=Lib.hid he
 have HF:=Lib.hid hf
 obtain⟨tot,htot⟩:∃tot,projectsR checkX ins l=tot:=⟨_,rfl⟩
 have HT0:Hid (tot=if l.length=0 then([],1)else if 32<l.length then([],2)else projR checkX ins l []):=by show _=_;rw[<- htot];rfl
 rw[htot]
 clear hv he htot hf
 go_enter func105,ntmps105
 by_cases h0:l.length=0
 ·have h0i:((l.length:Int)==(0:Int))=true:=by rw[h0];rfl
  obtain rfl:tot=([],1):=by rw[HT0.out,if_pos h0]
  go_wp2_with fail;go_returns;exact .inr ⟨by decide,rfl,S0.out.below⟩
 have h0i:((l.length:Int)==(0:Int))=false:=by rw[beq_eq_false_iff_ne];omega
 by_cases h32:32<l.length
 ·have h32i:(32:Int)<(l.length:Int):=by omega
  obtain rfl:tot=([],2):=by rw[HT0.out,if_neg h0,if_pos h32]
  go_wp2_with fail;go_returns;exact .inr ⟨by decide,rfl,S0.out.below⟩
 have h32i:¬(32:Int)<(l.length:Int):=by omega
 have HT1:Hid (tot=projR checkX ins (l.drop 0) []):=by show _=_;rw[HT0.out,if_neg h0,if_neg h32];rfl
 clear HT0
 go_wp2_with fail
 go_loopw [6,8,9,10,21] (fun fv _ _ _ iv wr=>∃(k:Nat) (acc:List Int) (fa:Option Addr) (fc:Nat),fv=.slice fa acc.length fc/\iv=.int .i64 k/\k<=l.length/\Hid (acc.length=k)/\Hid (tot=projR checkX ins (l.drop k) acc)/\Hid (wr.ownsRow w.heap.size 3 1 (.slice fa acc.length fc) acc.length (intVals acc))/\Hid (St w wr [])) (fun _ _ _ _ iv _=>l.length - (intOf iv).toNat)
 case atStart=>exact⟨0,[],none,0,rfl,rfl,by omega,rfl,HT1.out,World.ownsRow_nil _ _ _ _,S0.out⟩
 case round=>
  clear HT1 S0;obtain⟨k,acc,fa,fc,rfl,rfl,hk,hac,HM,HO,S1⟩:=hrel;have hac1:acc.length<=1000000:=by have:=hac.out;omega
  by_cases hlt:k<l.length
  ·obtain⟨x,hx⟩:∃x,l[k]?=some x:=⟨l[k],by simp[hlt]⟩;obtain⟨b,o,cap,cs,hbo,hin,hat⟩:=(HE.out.kept (by decide) S1.out.below).at hx;injection hbo with e1 _ e2;subst e1;subst e2;have hdr:l.drop k=x::l.drop (k+1):=by
    obtain⟨h1,rfl⟩:=List.getElem?_eq_some_iff.1 hx;exact List.drop_eq_getElem_cons h1
   have hm0:=HM.out;rw[hdr]at hm0;have HI:Hid (∀W,Below wr.heap.size wr W->Calls prog 174 #[.slice ka ins.length kc,.agg cs.toArray] W (Says (.tuple #[.int .i64 (checkX ins x).1,.int .i64 (checkX ins x).2]) W)):=fun W hb=>by
    have hf:=HF.out x (List.mem_of_getElem? hx);exact xcheck_any Q R ins _ x hf.formed hf.wf hf.size cs W (HV.out.kept (by decide) (S1.out.below.step hb)) hl (xpE.move (fun b hl k=>⟨k,hb.block b hl⟩) hin)
   have HME:Hid ((checkX ins x).2≠0->tot=([],(checkX ins x).2)):=fun h=>hm0.trans (Uu h);have HMO:Hid ((checkX ins x).2=0->tot=projR checkX ins (l.drop (k+1)) (acc++[(checkX ins x).1])):=fun h=>hm0.trans (Xi h);generalize (checkX ins x).1=rk at *;generalize (checkX ins x).2=re at *;obtain⟨op2,n2,v2,args2⟩:=x;obtain⟨a2,rfl,hsl3⟩:=Ai.1 (show XpIn R wr (.mk op2 n2 v2 args2) cs from hin);obtain⟨ad2,ac2,rfl⟩:=hsl3.slice;have x0:=hat 0 _ rfl;have x1:=hat 1 _ rfl;have x2:=hat 2 _ rfl;have x3:=hat 3 _ rfl;have x4:=hat 4 _ rfl;have x5:=hat 5 _ rfl;simp only[show xpE.k=6 from rfl,Nat.add_zero]at x0 x1 x2 x3 x4 x5;have hki:(k:Int)<(l.length:Int):=by omega
   clear hin hat hsl3 hx hdr hm0 HM;go_wp2_with fail;refine Calls.mono (HI.out _ ((Below.refl _ _).alloc (Nat.le_refl _) _)) ?_;rintro e w4 ⟨rfl,hb4⟩;have hb5:Below wr.heap.size wr w4:=((Below.refl _ _).alloc (Nat.le_refl _) (.cells #[.int .i64 op2,.int .i64 n2,.int .i64 v2.k,.int .i64 v2.n,.string v2.s,.slice ad2 args2.length ac2] 49)).step hb4;have S4:=Lib.hid (S1.out.kept hb5);have HO4:=Lib.hid (HO.out.later hb5);clear HI hb4 hb5 x0 x1 x2 x3 x4 x5 S1 HO;by_cases hre:re=0
   ·subst hre;have HT:=Lib.hid (HMO.out rfl);have hs4:=S4.out.below.size;clear HME HMO;go_wp2_with(refine Ah rfl (.tmp 34) (.tmp 36) 55 rfl 3 (.int .i64 0) 1 8 underlying55 B8 rfl (by decide) w.heap.size _ acc.length (intVals acc) rfl (HO4.out.later ((Below.refl _ _).alloc (Nat.le_refl _) _)) _ 1 [.int .i64 rk] rfl (by decide) (Bq (by decide)) rfl (by simp[Value.oneCell']) (by omega) (by unfold maxLen;omega) (by simp;omega) ?_;intro v' w7 hown hgr hblk hsl;obtain⟨g,cp,rfl⟩:=hsl);have S7:Hid (St w w7 []):=(St.laid S4.out).turned (Turn.of_grown hgr) (fun i h=>(World.ownsRow.lt HO4.out i h).1) (fun x hx h=>by simp at hx);have HO7:Hid (w7.ownsRow w.heap.size 3 1 (.slice (some ⟨g,0,none⟩) (acc++[rk]).length cp) (acc++[rk]).length (intVals (acc++[rk]))):=by
     rw[List.length_append];unfold intVals at hown ⊢;rw[List.map_append];exact hown
    clear hown hgr hblk S4 HO4;go_wp2_with fail;go_roundw
    case rel=>exact⟨k+1,acc++[rk],some ⟨g,0,none⟩,cp,by simp,by go_num,by omega,by show _=_;rw[List.length_append,hac.out];rfl,HT.out,HO7.out,S7.out⟩
    case measure=>simp[intOf];omega
   ·have hb0:(re != (0:Int))=true:=by simpa using hre
    obtain rfl:=HME.out hre;clear HME HMO HO4;go_wp2_with fail;go_returns;exact .inr ⟨hre,rfl,S4.out.below⟩
  ·obtain rfl:k=l.length:=by omega
   have hm0:=HM.out;rw[List.drop_length]at hm0;unfold projR at hm0;subst hm0;clear HM;go_wp2_with fail;go_returns;exact .inl ⟨rfl,_,rfl,⟨intVals acc,HO.out.slIn,B0 acc⟩,I3 HO.out,S1.out.below⟩
def KsMap (W:World) (mb:Nat) (ks:List Int):Prop:=∃es clock,W.heap[mb]?=some (.map es clock)/\es.toList.map (·.key)=ks.map (fun n=>.int .i64 n)/\(∀x∈es.toList,x.val=.bool true)/\∀n∈ks,0<=n/\n<=1000000
theorem Wr {n:Int} (h0:0<=n) (h1:n<=1000000):(Lit.int .i64 n).wf=true:=by
 have a:IntKind.i64.min= -9223372036854775808:=by kernel_rfl
 have b:IntKind.i64.max=9223372036854775807:=by kernel_rfl
 simp only[Lit.wf,Bool.and_eq_true,decide_eq_true_eq,a,b];omega
theorem Cq {n:Int} (h0:0<=n) (h1:n<=1000000):keyOf prog 3 (.int .i64 n)=some (.int .i64 n):=Maps.keyOf_int_mk underlying3 (Wr h0 h1)
theorem KsMap.find {W:World} {ks:List Int} {es:Array MapEntry} (hk:es.toList.map (·.key)=ks.map (fun n=>.int .i64 n)) (hv:∀x∈es.toList,x.val=.bool true) (hr:∀n∈ks,0<=n/\n<=1000000) {c:Int} (h0:0<=c) (h1:c<=1000000):
 ((Instr.findKey 3 (.int .i64 c) es.toList).run prog W=.ok none W/\c∉ks)\/∃j,(Instr.findKey 3 (.int .i64 c) es.toList).run prog W=.ok (some (j,.bool true)) W/\c∈ks:=by
 have hmem:∀x∈es.toList,∃n∈ks,x.key=.int .i64 n:=fun x hx=>by
  have:x.key∈es.toList.map (·.key):=List.mem_map.2 ⟨x,hx,rfl⟩;rw[hk]at this;obtain⟨n,hn,e⟩:=List.mem_map.1 this;exact⟨n,hn,e.symm⟩
 rcases(Maps.int_keyed underlying3).find W (Cq h0 h1) es.toList (fun x hx=>by
  obtain⟨n,hn,e⟩:=hmem x hx;exact⟨_,by rw[e];exact Cq (hr n hn).1 (hr n hn).2⟩)with⟨h2,h3⟩|⟨j,e,h2,h3,h4⟩
 ·refine .inl ⟨h2,fun hc=>?_⟩;have:(Value.int .i64 c)∈es.toList.map (·.key):=by rw[hk];exact List.mem_map.2 ⟨c,hc,rfl⟩
  obtain⟨x,hx,ex⟩:=List.mem_map.1 this;exact h3 x hx ex
 ·have hm:=List.mem_of_getElem? h3
  obtain⟨n,hn,en⟩:=hmem e hm
  refine .inr ⟨j,by rw[h2,hv e hm],?_⟩
  rw[en]at h4
  injection h4 with _ h4
  rwa [<- h4]
theorem KsMap.look {W:World} {mb:Nat} {ks:List Int} (h:KsMap W mb ks) {c:Int} (h0:0<=c) (h1:c<=1000000):(Instr.lookup 230 (.map (some mb)) (.int .i64 c) false).run prog W=.ok (.bool (decide (c∈ks))) W:=by
 obtain⟨es,clock,hb,hk,hv,hr⟩:=h;have hc:∀em,_:=fun em=>(Maps.int_keyed underlying3).check W em (Cq h0 h1);rcases KsMap.find (W:=W) hk hv hr h0 h1 with⟨h2,h3⟩|⟨j,h2,h3⟩
 ·simp[Instr.lookup,run_underlying underlying230,MapKept.run_getObj_map hb,hc,h2,Tryz.zeroValue4,Result.andThen,h3]
 ·simp[Instr.lookup,run_underlying underlying230,MapKept.run_getObj_map hb,hc,h2,Tryz.zeroValue4,Result.andThen,h3]
theorem KsMap.upd {W:World} {mb:Nat} {ks:List Int} (h:KsMap W mb ks) {c:Int} (h0:0<=c) (h1:c<=1000000) (hn:c∉ks) (hl:ks.length<=1000000):
 ∃o,(Instr.mapUpdate 230 (.map (some mb)) (.int .i64 c) (.bool true)).run prog W=.ok () (W.putObj mb o)/\∀W',W'.heap[mb]?=some o->KsMap W' mb (ks++[c]):=by
 obtain⟨es,clock,hb,hk,hv,hr⟩:=h
 have hc:∀em,_:=fun em=>(Maps.int_keyed underlying3).check W em (Cq h0 h1)
 have hs:=(Maps.int_keyed underlying3).stays W (Cq h0 h1)
 have hlen:es.size=ks.length:=by have:=congrArg List.length hk;simpa using this
 refine⟨.map (es.push {key:=.int .i64 c,val:=.bool true,born:=clock}) (clock+1),?_,fun W' hW=>⟨_,_,hW,?_,?_,?_⟩⟩
 ·rcases KsMap.find (W:=W) hk hv hr h0 h1 with⟨h2,h3⟩|⟨j,h2,h3⟩
  ·have hm:¬maxLen<=es.size:=by unfold maxLen;omega
   simp[Instr.mapUpdate,run_underlying underlying230,MapKept.run_getObj_map hb,hc,h2,MapKept.run_setObj_map _ hb,Result.andThen,hs,hm];rfl
  ·exact absurd h3 hn
 ·simp[hk]
 ·intro x hx;simp only[Array.toList_push,List.mem_append,List.mem_singleton]at hx;rcases hx with hx|rfl
  ·exact hv x hx
  ·rfl
 ·intro n hn';simp only[List.mem_append,List.mem_singleton]at hn';rcases hn' with hn'|rfl
  ·exact hr n hn'
  ·exact⟨h0,h1⟩
def grpC (ins:List Int) (group:List Int) (aggs:List Ag):Option (List Int)->List Int×Int
 | none=>([],1)
 | some out=>if 32<group.length+aggs.length then([],2)else agsR checkX ins aggs out
theorem Ki {ins l ks out:List Int} {c:Int} (h:c<0\/(ins.length:Int)<=c\/c∈ks):grpR ins (c::l) ks out=none:=by unfold grpR;rw[if_pos h]
theorem Zv {ins l ks out:List Int} {c:Int} (h:¬(c<0\/(ins.length:Int)<=c\/c∈ks)):grpR ins (c::l) ks out=grpR ins l (ks++[c]) (out++[ins.getD c.toNat 0]):=by
 conv=>lhs;unfold grpR
 rw[if_neg h]
theorem Y6 {ins out:List Int} {a:Ag} {l:List Ag} (h:(aggR checkX ins a).2≠0):agsR checkX ins (a::l) out=([],(aggR checkX ins a).2):=by unfold agsR;rw[if_pos h]
theorem ah {ins out:List Int} {a:Ag} {l:List Ag} (h:(aggR checkX ins a).2=0):agsR checkX ins (a::l) out=agsR checkX ins l (out++[(aggR checkX ins a).1]):=by
 conv=>lhs;unfold agsR
 rw[if_neg (fun hn=>hn h)]
theorem KsMap.same {W W':World} {mb:Nat} {ks:List Int} (h:KsMap W mb ks) (hb:W'.heap[mb]?=W.heap[mb]?):KsMap W' mb ks:=by
 obtain⟨es,clock,h1,h2⟩:=h;exact⟨es,clock,hb.trans h1,h2⟩
theorem KsMap.lt {W:World} {mb:Nat} {ks:List Int} (h:KsMap W mb ks):mb<W.heap.size:=by
 obtain⟨es,clock,h1,h2⟩:=h;exact(Array.getElem?_eq_some_iff.1 h1).1
theorem Rk (Q R:Nat->Prop) (ins group:List Int) (aggs:List Ag) (kv:Value) (k0:Int) (tab:Bytes) (sa:Option Addr) (sn sc:Nat) (xop xn:Int) (xv:V) (xa:Option Addr) (xm xc:Nat) (ca:Option Addr) (cn cc:Nat) (ga:Option Addr) (gc:Nat) (aa:Option Addr) (ac:Nat) (oa:Option Addr) (om oc:Nat) (n0:Int) (w:World)
 (hv:RSl intE Q w kv ins) (hl:ins.length<=1000000) (hg:RSl intE R w (.slice ga group.length gc) group) (ha:RSl agE R w (.slice aa aggs.length ac) aggs) (hgl:group.length<=1000000) (hal:aggs.length<=1000000) (hf:∀a∈aggs,2<=a.fn->a.fn<=4->XpFine a.arg):
 Calls prog 106 #[kv,.agg #[.int .i64 k0,.string ⟨tab.toArray⟩,.slice sa sn sc,.int .i64 xop,.int .i64 xn,.int .i64 xv.k,.int .i64 xv.n,.string xv.s,.slice xa xm xc,.slice ca cn cc,.slice ga group.length gc,.slice aa aggs.length ac,.slice oa om oc,.int .i64 n0]] w (RetKs w (groupsR checkX ins group aggs)):=by
 obtain⟨ka,kc,rfl⟩:=hv.slice
 have HV:=Lib.hid hv
 have HG:=Lib.hid hg
 have HA:=Lib.hid ha
 have HF:=Lib.hid hf
 obtain⟨tot,htot⟩:∃tot,groupsR checkX ins group aggs=tot:=⟨_,rfl⟩
 have HT0:Hid (tot=if group.length+aggs.length=0 then([],1)else grpC ins group aggs (grpR ins group [] [])):=by
  show _=_;rw[<- htot];unfold groupsR
  cases grpR ins group [] []<;>rfl
 rw[htot]
 clear hv hg ha hf htot
 go_enter func106,ntmps106
 go_upto_region 1 with fail
 refine St.gen (St.alloc (St.start _)) ?_
 intro w1 S1
 try(simp only[List.set_cons_zero,List.set_cons_succ,List.setIfInBounds_toArray,World.size_alloc]at S1)
 have F1:=S1.out.facts
 simp only[St.Facts,cellFacts,apartFacts,and_true]at F1
 by_cases h0:group.length+aggs.length=0
 ·have h0i:((group.length:Int)+(aggs.length:Int)==(0:Int))=true:=by simp;omega
  obtain rfl:tot=([],1):=by rw[HT0.out,if_pos h0]
  go_wp2_with fail;go_returns;exact .inr ⟨by decide,rfl,S1.out.below⟩
 have h0i:((group.length:Int)+(aggs.length:Int)==(0:Int))=false:=by simp;omega
 have HT1:=Lib.hid (HT0.out.trans (if_neg h0))
 have hmm:=@run_makeMap prog
 clear HT0 h0
 go_upto_region 6 with fail
 refine am (fun W=>St w W _/\KsMap W w1.heap.size []) ⟨S1.out.kept ((Below.refl _ _).alloc (Nat.le_refl _) _),#[],0,World.alloc_heap_new _ _,rfl,by simp,by simp⟩ ?_
 rintro w2 ⟨S2',hm2⟩
 have S2:=Lib.hid S2'
 have HM:=Lib.hid hm2
 have hsz:Hid (w.heap.size<w1.heap.size):=(Array.getElem?_eq_some_iff.1 (S1.out.own _ (List.mem_cons_self)).2).1
 clear S2' S1 F1 hmm hm2 h0i
 generalize w1.heap.size=mb at HM hsz ⊢
 have HM0:Hid (tot=grpC ins group aggs (grpR ins (group.drop 0) [] [])):=HT1.out
 clear HT1
 go_loopw [6,9,26] (fun fv _ iv wr=>∃(k:Nat) (acc ks:List Int) (fa:Option Addr) (fc:Nat),fv=.slice fa acc.length fc/\iv=.int .i64 k/\k<=group.length/\Hid (acc.length=k)/\Hid (ks.length=k)/\Hid (tot=grpC ins group aggs (grpR ins (group.drop k) ks acc))/\Hid (KsMap wr mb ks)/\Hid (wr.ownsRow (mb+1) 3 1 (.slice fa acc.length fc) acc.length (intVals acc))/\Hid (St w wr [(w.heap.size,#[.int .i64 k0,.string ⟨tab.toArray⟩,.slice sa sn sc,.int .i64 xop,.int .i64 xn,.int .i64 xv.k,.int .i64 xv.n,.string xv.s,.slice xa xm xc,.slice ca cn cc,.slice ga group.length gc,.slice aa aggs.length ac,.slice oa om oc,.int .i64 n0],59)])) (fun _ _ iv _=>group.length - (intOf iv).toNat)
 case atStart=>exact⟨0,[],[],none,0,rfl,rfl,by omega,rfl,rfl,HM0.out,HM.out,World.ownsRow_nil _ _ _ _,S2.out⟩
 case round=>
  clear HM0 HM S2;obtain⟨k,acc,ks,fa,fc,rfl,rfl,hk,HL,HKL,HT,HM,HO,S2⟩:=hrel;have hac:acc.length<=1000000:=by have:=HL.out;omega
  have hkl:ks.length<=1000000:=by have:=HKL.out;omega
  by_cases hlt:k<group.length
  ·obtain⟨c,hx⟩:∃x,group[k]?=some x:=⟨group[k],by simp[hlt]⟩;obtain⟨b,o,cap,cs,hbo,hin,hat⟩:=(HG.out.kept (by decide) S2.out.below).at hx;injection hbo with e1 _ e2;subst e1;subst e2;have e:cs=[.int .i64 c]:=hin;subst e;have x0:=hat 0 _ rfl;simp only[show intE.k=1 from rfl,Nat.mul_one,Nat.add_zero]at x0;have hdr:group.drop k=c::group.drop (k+1):=by
    obtain⟨h1,rfl⟩:=List.getElem?_eq_some_iff.1 hx;exact List.drop_eq_getElem_cons h1
   have hki:(k:Int)<(group.length:Int):=by omega
   have ht0:=HT.out;rw[hdr]at ht0;have HT1:=Lib.hid ht0;clear hat hin hx hdr ht0 HT;by_cases h1:c<0
   ·obtain rfl:tot=([],1):=by rw[HT1.out,Ki (.inl h1)];rfl
    go_wp2_with fail;go_returns;exact .inr ⟨by decide,rfl,S2.out.below⟩
   by_cases h2:(ins.length:Int)<=c
   ·obtain rfl:tot=([],1):=by rw[HT1.out,Ki (.inr (.inl h2))];rfl
    go_wp2_with fail;go_returns;exact .inr ⟨by decide,rfl,S2.out.below⟩
   have hc0:0<=c:=by omega
   have hc1:c<=1000000:=by omega
   have lk:=HM.out.look hc0 hc1;by_cases h3:c∈ks
   ·obtain rfl:tot=([],1):=by rw[HT1.out,Ki (.inr (.inr h3))];rfl
    rw[decide_eq_true h3]at lk;go_wp2_with fail;go_returns;exact .inr ⟨by decide,rfl,S2.out.below⟩
   ·rw[decide_eq_false h3]at lk;obtain⟨ob,up,hup⟩:=HM.out.upd hc0 hc1 h3 hkl;have HT2:Hid (tot=grpC ins group aggs (grpR ins (group.drop (k+1)) (ks++[c]) (acc++[ins.getD c.toNat 0]))):=by show _=_;rw[HT1.out,Zv (by rintro(h|h|h);exact h1 h;exact h2 h;exact h3 h)]
    have hml:=HM.out.lt;go_upto_region 11 with fail;refine Af (fun W=>St w W [(w.heap.size,#[.int .i64 k0,.string ⟨tab.toArray⟩,.slice sa sn sc,.int .i64 xop,.int .i64 xn,.int .i64 xv.k,.int .i64 xv.n,.string xv.s,.slice xa xm xc,.slice ca cn cc,.slice (some ⟨b,o,none⟩) group.length gc,.slice aa aggs.length ac,.slice oa om oc,.int .i64 n0],59)]/\KsMap W mb (ks++[c])/\W.ownsRow (mb+1) 3 1 (.slice fa acc.length fc) acc.length (intVals acc)) ⟨St.put (mb:=mb) S2.out (Nat.le_of_lt hsz.out) (fun x hx=>by have h1:=List.mem_singleton.1 hx;subst h1;exact Nat.ne_of_lt hsz.out),hup _ (World.putObj_heap_same hml),World.ownsRow.same HO.out (fun g hg=>World.putObj_heap_other (by have:=(World.ownsRow.lt HO.out g hg).1;omega))⟩ ?_;clear S2 HM HO lk up hup x0 HT1;rintro w3 ⟨S3',hm3,ho3⟩;have S3:=Lib.hid S3';have HM3:=Lib.hid hm3;have HO3:=Lib.hid ho3;clear S3' hm3 ho3;have hml3:=HM3.out.lt;have hnl:c.toNat<ins.length:=by omega
    obtain⟨kk,hkk⟩:∃x,ins[c.toNat]?=some x:=⟨ins[c.toNat],by simp[hnl]⟩;obtain⟨b2,o2,cap2,cs2,hbo2,hin2,hat2⟩:=(HV.out.kept (by decide) S3.out.below).at hkk;injection hbo2 with e1 _ e2;subst e1;subst e2;have e:cs2=[.int .i64 kk]:=hin2;subst e;have z0:=hat2 0 _ rfl;simp only[show intE.k=1 from rfl,Nat.mul_one,Nat.add_zero]at z0;have hgd:ins.getD c.toNat 0=kk:=by rw[List.getD_eq_getElem?_getD,hkk];rfl
    rw[hgd]at HT2;have hlti:c<(ins.length:Int):=by omega
    clear hat2 hin2 hkk hgd;go_wp2_with(refine Ah rfl (.tmp 45) (.tmp 50) 55 rfl 3 (.int .i64 0) 1 8 underlying55 B8 rfl (by decide) (mb+1) _ acc.length (intVals acc) rfl (HO3.out.later ((Below.refl _ _).alloc (Nat.le_refl _) _)) _ 1 [.int .i64 kk] rfl (by decide) (Bq (by decide)) rfl (by simp[Value.oneCell']) (by omega) (by unfold maxLen;omega) (by simp;omega) ?_;intro v' w7 hown hgr hblk hsl;obtain⟨g,cp,rfl⟩:=hsl);have S7:Hid (St w w7 [(w.heap.size,#[.int .i64 k0,.string ⟨tab.toArray⟩,.slice sa sn sc,.int .i64 xop,.int .i64 xn,.int .i64 xv.k,.int .i64 xv.n,.string xv.s,.slice xa xm xc,.slice ca cn cc,.slice (some ⟨b,o,none⟩) group.length gc,.slice aa aggs.length ac,.slice oa om oc,.int .i64 n0],59)]):=(St.laid S3.out).turned (Turn.of_grown hgr) (fun i h=>by have:=(World.ownsRow.lt HO3.out i h).1;have:=hsz.out;omega) (fun x hx h=>by
     have h2:=hsz.out;have h1:=(World.ownsRow.lt HO3.out _ h).1;simp only[List.mem_cons,List.not_mem_nil,or_false]at hx;subst hx;simp only at h1;omega)
    have HM7:Hid (KsMap w7 mb (ks++[c])):=HM3.out.same (((Turn.of_grown hgr).block mb (by rw[World.size_alloc];omega) (fun h=>by have:=(World.ownsRow.lt HO3.out _ h).1;omega)).trans (Below.heap_alloc _ _ _ hml3));have HO7:Hid (w7.ownsRow (mb+1) 3 1 (.slice (some ⟨g,0,none⟩) (acc++[kk]).length cp) (acc++[kk]).length (intVals (acc++[kk]))):=by
     rw[List.length_append];unfold intVals at hown ⊢;rw[List.map_append];exact hown
    clear hown hgr hblk S3 HM3 HO3 z0;go_wp2_with fail;go_roundw
    case rel=>exact⟨k+1,acc++[kk],ks++[c],some ⟨g,0,none⟩,cp,by simp,by go_num,by omega,by show _=_;rw[List.length_append,HL.out];rfl,by show _=_;rw[List.length_append,HKL.out];rfl,HT2.out,HM7.out,HO7.out,S7.out⟩
    case measure=>simp[intOf];omega
  ·obtain rfl:k=group.length:=by omega
   have ht0:=HT.out;rw[List.drop_length]at ht0;have ht1:tot=if 32<group.length+aggs.length then([],2)else agsR checkX ins aggs acc:=by rw[ht0];unfold grpR;rfl
   clear ht0 HT;by_cases h32:32<group.length+aggs.length
   ·have h32i:(32:Int)<(group.length:Int)+(aggs.length:Int):=by omega
    have HT:Hid (tot=([],2)):=by show _=_;rw[ht1,if_pos h32]
    have F2:=S2.out.facts;simp only[St.Facts,cellFacts,apartFacts,and_true]at F2;clear ht1 h32;go_upto_region 14 with fail;go_wp2_with fail;go_returns;exact .inr ⟨by rw[HT.out];decide,by rw[HT.out];rfl,S2.out.below⟩
   have h32i:¬(32:Int)<(group.length:Int)+(aggs.length:Int):=by omega
   have HM1:Hid (tot=agsR checkX ins (aggs.drop 0) acc):=by show _=_;rw[ht1,if_neg h32];rfl
   have hm1:Hid (mb+1<=wr.heap.size):=HM.out.lt;clear ht1 h32 HM HKL;have F2:=S2.out.facts;simp only[St.Facts,cellFacts,apartFacts,and_true]at F2;go_upto_region 16 with fail;clear F2;go_loopw [6,11,12,13,64] (fun fv _ _ _ iv wr=>∃(k:Nat) (acc:List Int) (fa:Option Addr) (fc:Nat),fv=.slice fa acc.length fc/\iv=.int .i64 k/\k<=aggs.length/\Hid (acc.length=group.length+k)/\Hid (tot=agsR checkX ins (aggs.drop k) acc)/\Hid (wr.ownsRow (mb+1) 3 1 (.slice fa acc.length fc) acc.length (intVals acc))/\Hid (mb+1<=wr.heap.size)/\Hid (St w wr [(w.heap.size,#[.int .i64 k0,.string ⟨tab.toArray⟩,.slice sa sn sc,.int .i64 xop,.int .i64 xn,.int .i64 xv.k,.int .i64 xv.n,.string xv.s,.slice xa xm xc,.slice ca cn cc,.slice ga group.length gc,.slice aa aggs.length ac,.slice oa om oc,.int .i64 n0],59)])) (fun _ _ _ _ iv _=>aggs.length - (intOf iv).toNat)
   case atStart=>exact⟨0,acc,fa,fc,rfl,rfl,by omega,HL.out,HM1.out,HO.out,hm1.out,S2.out⟩
   case round=>
    clear HM1 HO S2 HL hac hm1 hk hkl;obtain⟨k,acc,fa,fc,rfl,rfl,hk,HL,HT,HO,hmw,S2⟩:=hrel;have hac:acc.length<=2000000:=by have:=HL.out;omega
    by_cases hlt:k<aggs.length
    ·obtain⟨a,hx⟩:∃x,aggs[k]?=some x:=⟨aggs[k],by simp[hlt]⟩;obtain⟨b,o,cap,cs,hbo,hin,hat⟩:=(HA.out.kept (by decide) S2.out.below).at hx;injection hbo with e1 _ e2;subst e1;subst e2;have hdr:aggs.drop k=a::aggs.drop (k+1):=by
      obtain⟨h1,rfl⟩:=List.getElem?_eq_some_iff.1 hx;exact List.drop_eq_getElem_cons h1
     have ht0:=HT.out;rw[hdr]at ht0;have HME:Hid ((aggR checkX ins a).2≠0->tot=([],(aggR checkX ins a).2)):=fun h=>ht0.trans (Y6 h);have HMO:Hid ((aggR checkX ins a).2=0->tot=agsR checkX ins (aggs.drop (k+1)) (acc++[(aggR checkX ins a).1])):=fun h=>ht0.trans (ah h);obtain⟨fn,x⟩:=a;obtain⟨c0,rfl,hxin⟩:=hin;have HI:Hid (2<=fn->fn<=4->∀W,Below wr.heap.size wr W->Calls prog 174 #[.slice ka ins.length kc,.agg c0.toArray] W (Says (.tuple #[.int .i64 (checkX ins x).1,.int .i64 (checkX ins x).2]) W)):=fun h2 h4 W hb=>by
      have hf:=HF.out _ (List.mem_of_getElem? hx) h2 h4;exact xcheck_any Q R ins _ x hf.formed hf.wf hf.size c0 W (HV.out.kept (by decide) (S2.out.below.step hb)) hl (xpE.move (fun b hl k=>⟨k,hb.block b hl⟩) hxin)
     have HAG:Hid (aggR checkX ins ⟨fn,x⟩=if fn=1 then(1,0)else if fn=2 then((if(checkX ins x).2=0 then 1 else(checkX ins x).1),if(checkX ins x).2=0 then(if(checkX ins x).1≠1/\(checkX ins x).1≠0 then 7 else 0)else(checkX ins x).2)else if fn=3\/fn=4 then checkX ins x else(1,1)):=rfl;generalize aggR checkX ins ⟨fn,x⟩=ag at *;generalize checkX ins x=ck at *;obtain⟨op2,n2,v2,args2⟩:=x;obtain⟨a2,rfl,hsl3⟩:=Ai.1 (show XpIn R wr (.mk op2 n2 v2 args2) c0 from hxin);obtain⟨ad2,ac2,rfl⟩:=hsl3.slice;have x0:=hat 0 _ rfl;have x1:=hat 1 _ rfl;have x2:=hat 2 _ rfl;have x3:=hat 3 _ rfl;have x4:=hat 4 _ rfl;have x5:=hat 5 _ rfl;have x6:=hat 6 _ rfl;simp only[show agE.k=7 from rfl,Nat.add_zero]at x0 x1 x2 x3 x4 x5 x6;have hki:(k:Int)<(aggs.length:Int):=by omega
     have hb3:Below wr.heap.size wr (wr.alloc (.cells #[.int .i64 fn,.int .i64 op2,.int .i64 n2,.int .i64 v2.k,.int .i64 v2.n,.string v2.s,.slice ad2 args2.length ac2] 107)):=(Below.refl _ _).alloc (Nat.le_refl _) _;clear hxin hat hsl3 hx hdr ht0 HT;by_cases f1:fn=1
     ·subst f1;obtain rfl:ag=(1,0):=HAG.out.trans (if_pos rfl);have hw4:Hid (wr.heap.size<=(wr.alloc (.cells #[.int .i64 1,.int .i64 op2,.int .i64 n2,.int .i64 v2.k,.int .i64 v2.n,.string v2.s,.slice ad2 args2.length ac2] 107)).heap.size):=hb3.size;go_upto_region 30 with fail;refine Af (fun W=>St w W [(w.heap.size,#[.int .i64 k0,.string ⟨tab.toArray⟩,.slice sa sn sc,.int .i64 xop,.int .i64 xn,.int .i64 xv.k,.int .i64 xv.n,.string xv.s,.slice xa xm xc,.slice ca cn cc,.slice ga group.length gc,.slice (some ⟨b,o,none⟩) aggs.length ac,.slice oa om oc,.int .i64 n0],59)]/\W.ownsRow (mb+1) 3 1 (.slice fa acc.length fc) acc.length (intVals acc)/\wr.heap.size<=W.heap.size) ⟨S2.out.kept hb3,HO.out.later hb3,hw4.out⟩ ?_;rintro w4 ⟨S4',ho4,hw4'⟩;have S4:=Lib.hid S4';have HO4:=Lib.hid ho4;have hw4:=Lib.hid hw4';clear S4' ho4 hw4' hb3 x0 x1 x2 x3 x4 x5 x6 S2 HO HI HAG;have HT:=Lib.hid (HMO.out rfl);have hs4:=S4.out.below.size;have hmb4:mb+1<=w4.heap.size:=by have:=hmw.out;have:=hw4.out;omega
      clear HME HMO;go_wp2_with(refine Ah rfl (.tmp 99) (.tmp 101) 55 rfl 3 (.int .i64 0) 1 8 underlying55 B8 rfl (by decide) (mb+1) _ acc.length (intVals acc) rfl (HO4.out.later ((Below.refl _ _).alloc (Nat.le_refl _) _)) _ 1 [.int .i64 1] rfl (by decide) (Bq (by decide)) rfl (by simp[Value.oneCell']) (by omega) (by unfold maxLen;omega) (by simp;omega) ?_;intro v' w7 hown hgr hblk hsl;obtain⟨g,cp,rfl⟩:=hsl);have S7:Hid (St w w7 [(w.heap.size,#[.int .i64 k0,.string ⟨tab.toArray⟩,.slice sa sn sc,.int .i64 xop,.int .i64 xn,.int .i64 xv.k,.int .i64 xv.n,.string xv.s,.slice xa xm xc,.slice ca cn cc,.slice ga group.length gc,.slice (some ⟨b,o,none⟩) aggs.length ac,.slice oa om oc,.int .i64 n0],59)]):=(St.laid S4.out).turned (Turn.of_grown hgr) (fun i h=>by have:=(World.ownsRow.lt HO4.out i h).1;have:=hsz.out;omega) (fun x hx h=>by
       have h2:=hsz.out;have h1:=(World.ownsRow.lt HO4.out _ h).1;simp only[List.mem_cons,List.not_mem_nil,or_false]at hx;subst hx;simp only at h1;omega)
      have HO7:Hid (w7.ownsRow (mb+1) 3 1 (.slice (some ⟨g,0,none⟩) (acc++[(1:Int)]).length cp) (acc++[(1:Int)]).length (intVals (acc++[(1:Int)]))):=by
       rw[List.length_append];unfold intVals at hown ⊢;rw[List.map_append];exact hown
      have hw7:Hid (mb+1<=w7.heap.size):=by show _<=_;have:=(Turn.of_grown hgr).size;rw[World.size_alloc]at this;omega
      clear hown hgr hblk S4 HO4;go_wp2_with fail;go_roundw
      case rel=>exact⟨k+1,acc++[(1:Int)],some ⟨g,0,none⟩,cp,by simp,by go_num,by omega,by show _=_;rw[List.length_append,HL.out];simp;omega,HT.out,HO7.out,hw7.out,S7.out⟩
      case measure=>simp[intOf];omega
     have f1b:(fn==(1:Int))=false:=by simpa using f1
     have HAG1:=Lib.hid (HAG.out.trans (if_neg f1));clear HAG;by_cases f2:fn=2
     ·subst f2;have HAG2:=Lib.hid (HAG1.out.trans (if_pos rfl));clear HAG1 f1;obtain⟨rk,re⟩:=ck;go_wp2_with fail;refine Calls.mono (HI.out (by omega) (by omega) _ hb3) ?_;rintro e w4 ⟨rfl,hb4⟩;have y0:w4.cell? ⟨wr.heap.size,0,none⟩=some (.int .i64 2):=hb4.cell_kept (by simp only[World.cell?,World.alloc_heap_new];rfl);have S4:=Lib.hid (S2.out.kept (hb3.step hb4));have HO4:=Lib.hid (HO.out.later (hb3.step hb4));have hw4:Hid (wr.heap.size<=w4.heap.size):=(hb3.step hb4).size;clear hb3 hb4 x0 x1 x2 x3 x4 x5 x6 S2 HO HI;by_cases hre:re=0
      ·subst hre;by_cases hk1:rk=1
       ·subst hk1;obtain rfl:ag=(1,0):=HAG2.out;clear HAG2;have HT:=Lib.hid (HMO.out rfl);have hs4:=S4.out.below.size;have hmb4:mb+1<=w4.heap.size:=by have:=hmw.out;have:=hw4.out;omega
        clear HME HMO;go_wp2_with(refine Ah rfl (.tmp 99) (.tmp 101) 55 rfl 3 (.int .i64 0) 1 8 underlying55 B8 rfl (by decide) (mb+1) _ acc.length (intVals acc) rfl (HO4.out.later ((Below.refl _ _).alloc (Nat.le_refl _) _)) _ 1 [.int .i64 1] rfl (by decide) (Bq (by decide)) rfl (by simp[Value.oneCell']) (by omega) (by unfold maxLen;omega) (by simp;omega) ?_;intro v' w7 hown hgr hblk hsl;obtain⟨g,cp,rfl⟩:=hsl);have S7:Hid (St w w7 [(w.heap.size,#[.int .i64 k0,.string ⟨tab.toArray⟩,.slice sa sn sc,.int .i64 xop,.int .i64 xn,.int .i64 xv.k,.int .i64 xv.n,.string xv.s,.slice xa xm xc,.slice ca cn cc,.slice ga group.length gc,.slice (some ⟨b,o,none⟩) aggs.length ac,.slice oa om oc,.int .i64 n0],59)]):=(St.laid S4.out).turned (Turn.of_grown hgr) (fun i h=>by have:=(World.ownsRow.lt HO4.out i h).1;have:=hsz.out;omega) (fun x hx h=>by
         have h2:=hsz.out;have h1:=(World.ownsRow.lt HO4.out _ h).1;simp only[List.mem_cons,List.not_mem_nil,or_false]at hx;subst hx;simp only at h1;omega)
        have HO7:Hid (w7.ownsRow (mb+1) 3 1 (.slice (some ⟨g,0,none⟩) (acc++[(1:Int)]).length cp) (acc++[(1:Int)]).length (intVals (acc++[(1:Int)]))):=by
         rw[List.length_append];unfold intVals at hown ⊢;rw[List.map_append];exact hown
        have hw7:Hid (mb+1<=w7.heap.size):=by show _<=_;have:=(Turn.of_grown hgr).size;rw[World.size_alloc]at this;omega
        clear hown hgr hblk S4 HO4;go_wp2_with fail;go_roundw
        case rel=>exact⟨k+1,acc++[(1:Int)],some ⟨g,0,none⟩,cp,by simp,by go_num,by omega,by show _=_;rw[List.length_append,HL.out];simp;omega,HT.out,HO7.out,hw7.out,S7.out⟩
        case measure=>simp[intOf];omega
       by_cases hk0:rk=0
       ·subst hk0;obtain rfl:ag=(1,0):=HAG2.out;clear HAG2;have HT:=Lib.hid (HMO.out rfl);have hs4:=S4.out.below.size;have hmb4:mb+1<=w4.heap.size:=by have:=hmw.out;have:=hw4.out;omega
        clear HME HMO;go_wp2_with(refine Ah rfl (.tmp 99) (.tmp 101) 55 rfl 3 (.int .i64 0) 1 8 underlying55 B8 rfl (by decide) (mb+1) _ acc.length (intVals acc) rfl (HO4.out.later ((Below.refl _ _).alloc (Nat.le_refl _) _)) _ 1 [.int .i64 1] rfl (by decide) (Bq (by decide)) rfl (by simp[Value.oneCell']) (by omega) (by unfold maxLen;omega) (by simp;omega) ?_;intro v' w7 hown hgr hblk hsl;obtain⟨g,cp,rfl⟩:=hsl);have S7:Hid (St w w7 [(w.heap.size,#[.int .i64 k0,.string ⟨tab.toArray⟩,.slice sa sn sc,.int .i64 xop,.int .i64 xn,.int .i64 xv.k,.int .i64 xv.n,.string xv.s,.slice xa xm xc,.slice ca cn cc,.slice ga group.length gc,.slice (some ⟨b,o,none⟩) aggs.length ac,.slice oa om oc,.int .i64 n0],59)]):=(St.laid S4.out).turned (Turn.of_grown hgr) (fun i h=>by have:=(World.ownsRow.lt HO4.out i h).1;have:=hsz.out;omega) (fun x hx h=>by
         have h2:=hsz.out;have h1:=(World.ownsRow.lt HO4.out _ h).1;simp only[List.mem_cons,List.not_mem_nil,or_false]at hx;subst hx;simp only at h1;omega)
        have HO7:Hid (w7.ownsRow (mb+1) 3 1 (.slice (some ⟨g,0,none⟩) (acc++[(1:Int)]).length cp) (acc++[(1:Int)]).length (intVals (acc++[(1:Int)]))):=by
         rw[List.length_append];unfold intVals at hown ⊢;rw[List.map_append];exact hown
        have hw7:Hid (mb+1<=w7.heap.size):=by show _<=_;have:=(Turn.of_grown hgr).size;rw[World.size_alloc]at this;omega
        clear hown hgr hblk S4 HO4;go_wp2_with fail;go_roundw
        case rel=>exact⟨k+1,acc++[(1:Int)],some ⟨g,0,none⟩,cp,by simp,by go_num,by omega,by show _=_;rw[List.length_append,HL.out];simp;omega,HT.out,HO7.out,hw7.out,S7.out⟩
        case measure=>simp[intOf];omega
       ·obtain rfl:ag=(1,7):=by rw[HAG2.out];simp[hk1,hk0]
        have b1:(rk != (1:Int))=true:=by simpa using hk1
        have b0:(rk != (0:Int))=true:=by simpa using hk0
        have hre:(7:Int)≠0:=by decide
        obtain rfl:=HME.out (by first|exact hre|decide);clear HME HMO HO4;go_wp2_with fail;go_returns;exact .inr ⟨by first|exact hre|decide,rfl,S4.out.below⟩
      ·have b0:(re==(0:Int))=false:=by simpa using hre
       have b1:(re != (0:Int))=true:=by simpa using hre
       obtain rfl:ag=(rk,re):=by rw[HAG2.out];simp[hre]
       obtain rfl:=HME.out (by first|exact hre|decide);clear HME HMO HO4;go_wp2_with fail;go_returns;exact .inr ⟨by first|exact hre|decide,rfl,S4.out.below⟩
     have f2b:(fn==(2:Int))=false:=by simpa using f2
     have HAG2:=Lib.hid (HAG1.out.trans (if_neg f2));clear HAG1;by_cases f34:fn=3\/fn=4
     ·obtain rfl:ag=ck:=HAG2.out.trans (if_pos f34);obtain⟨rk,re⟩:=ag;clear HAG2;have h34:2<=fn/\fn<=4:=by omega
      rcases f34 with rfl|rfl
      ·skip;go_wp2_with fail;refine Calls.mono (HI.out (by omega) (by omega) _ hb3) ?_;rintro e w4 ⟨rfl,hb4⟩;have y0:w4.cell? ⟨wr.heap.size,0,none⟩=some (.int .i64 3):=hb4.cell_kept (by simp only[World.cell?,World.alloc_heap_new];rfl);have S4:=Lib.hid (S2.out.kept (hb3.step hb4));have HO4:=Lib.hid (HO.out.later (hb3.step hb4));have hw4:Hid (wr.heap.size<=w4.heap.size):=(hb3.step hb4).size;clear hb3 hb4 x0 x1 x2 x3 x4 x5 x6 S2 HO HI;by_cases hre:re=0
       ·subst hre;have HT:=Lib.hid (HMO.out rfl);have hs4:=S4.out.below.size;have hmb4:mb+1<=w4.heap.size:=by have:=hmw.out;have:=hw4.out;omega
        clear HME HMO;go_wp2_with(refine Ah rfl (.tmp 99) (.tmp 101) 55 rfl 3 (.int .i64 0) 1 8 underlying55 B8 rfl (by decide) (mb+1) _ acc.length (intVals acc) rfl (HO4.out.later ((Below.refl _ _).alloc (Nat.le_refl _) _)) _ 1 [.int .i64 rk] rfl (by decide) (Bq (by decide)) rfl (by simp[Value.oneCell']) (by omega) (by unfold maxLen;omega) (by simp;omega) ?_;intro v' w7 hown hgr hblk hsl;obtain⟨g,cp,rfl⟩:=hsl);have S7:Hid (St w w7 [(w.heap.size,#[.int .i64 k0,.string ⟨tab.toArray⟩,.slice sa sn sc,.int .i64 xop,.int .i64 xn,.int .i64 xv.k,.int .i64 xv.n,.string xv.s,.slice xa xm xc,.slice ca cn cc,.slice ga group.length gc,.slice (some ⟨b,o,none⟩) aggs.length ac,.slice oa om oc,.int .i64 n0],59)]):=(St.laid S4.out).turned (Turn.of_grown hgr) (fun i h=>by have:=(World.ownsRow.lt HO4.out i h).1;have:=hsz.out;omega) (fun x hx h=>by
         have h2:=hsz.out;have h1:=(World.ownsRow.lt HO4.out _ h).1;simp only[List.mem_cons,List.not_mem_nil,or_false]at hx;subst hx;simp only at h1;omega)
        have HO7:Hid (w7.ownsRow (mb+1) 3 1 (.slice (some ⟨g,0,none⟩) (acc++[(rk:Int)]).length cp) (acc++[(rk:Int)]).length (intVals (acc++[(rk:Int)]))):=by
         rw[List.length_append];unfold intVals at hown ⊢;rw[List.map_append];exact hown
        have hw7:Hid (mb+1<=w7.heap.size):=by show _<=_;have:=(Turn.of_grown hgr).size;rw[World.size_alloc]at this;omega
        clear hown hgr hblk S4 HO4;go_wp2_with fail;go_roundw
        case rel=>exact⟨k+1,acc++[(rk:Int)],some ⟨g,0,none⟩,cp,by simp,by go_num,by omega,by show _=_;rw[List.length_append,HL.out];simp;omega,HT.out,HO7.out,hw7.out,S7.out⟩
        case measure=>simp[intOf];omega
       ·have b0:(re==(0:Int))=false:=by simpa using hre
        have b1:(re != (0:Int))=true:=by simpa using hre
        obtain rfl:=HME.out (by first|exact hre|decide);clear HME HMO HO4;go_wp2_with fail;go_returns;exact .inr ⟨by first|exact hre|decide,rfl,S4.out.below⟩
      ·skip;go_wp2_with fail;refine Calls.mono (HI.out (by omega) (by omega) _ hb3) ?_;rintro e w4 ⟨rfl,hb4⟩;have y0:w4.cell? ⟨wr.heap.size,0,none⟩=some (.int .i64 4):=hb4.cell_kept (by simp only[World.cell?,World.alloc_heap_new];rfl);have S4:=Lib.hid (S2.out.kept (hb3.step hb4));have HO4:=Lib.hid (HO.out.later (hb3.step hb4));have hw4:Hid (wr.heap.size<=w4.heap.size):=(hb3.step hb4).size;clear hb3 hb4 x0 x1 x2 x3 x4 x5 x6 S2 HO HI;by_cases hre:re=0
       ·subst hre;have HT:=Lib.hid (HMO.out rfl);have hs4:=S4.out.below.size;have hmb4:mb+1<=w4.heap.size:=by have:=hmw.out;have:=hw4.out;omega
        clear HME HMO;go_wp2_with(refine Ah rfl (.tmp 99) (.tmp 101) 55 rfl 3 (.int .i64 0) 1 8 underlying55 B8 rfl (by decide) (mb+1) _ acc.length (intVals acc) rfl (HO4.out.later ((Below.refl _ _).alloc (Nat.le_refl _) _)) _ 1 [.int .i64 rk] rfl (by decide) (Bq (by decide)) rfl (by simp[Value.oneCell']) (by omega) (by unfold maxLen;omega) (by simp;omega) ?_;intro v' w7 hown hgr hblk hsl;obtain⟨g,cp,rfl⟩:=hsl);have S7:Hid (St w w7 [(w.heap.size,#[.int .i64 k0,.string ⟨tab.toArray⟩,.slice sa sn sc,.int .i64 xop,.int .i64 xn,.int .i64 xv.k,.int .i64 xv.n,.string xv.s,.slice xa xm xc,.slice ca cn cc,.slice ga group.length gc,.slice (some ⟨b,o,none⟩) aggs.length ac,.slice oa om oc,.int .i64 n0],59)]):=(St.laid S4.out).turned (Turn.of_grown hgr) (fun i h=>by have:=(World.ownsRow.lt HO4.out i h).1;have:=hsz.out;omega) (fun x hx h=>by
         have h2:=hsz.out;have h1:=(World.ownsRow.lt HO4.out _ h).1;simp only[List.mem_cons,List.not_mem_nil,or_false]at hx;subst hx;simp only at h1;omega)
        have HO7:Hid (w7.ownsRow (mb+1) 3 1 (.slice (some ⟨g,0,none⟩) (acc++[(rk:Int)]).length cp) (acc++[(rk:Int)]).length (intVals (acc++[(rk:Int)]))):=by
         rw[List.length_append];unfold intVals at hown ⊢;rw[List.map_append];exact hown
        have hw7:Hid (mb+1<=w7.heap.size):=by show _<=_;have:=(Turn.of_grown hgr).size;rw[World.size_alloc]at this;omega
        clear hown hgr hblk S4 HO4;go_wp2_with fail;go_roundw
        case rel=>exact⟨k+1,acc++[(rk:Int)],some ⟨g,0,none⟩,cp,by simp,by go_num,by omega,by show _=_;rw[List.length_append,HL.out];simp;omega,HT.out,HO7.out,hw7.out,S7.out⟩
        case measure=>simp[intOf];omega
       ·have b0:(re==(0:Int))=false:=by simpa using hre
        have b1:(re != (0:Int))=true:=by simpa using hre
        obtain rfl:=HME.out (by first|exact hre|decide);clear HME HMO HO4;go_wp2_with fail;go_returns;exact .inr ⟨by first|exact hre|decide,rfl,S4.out.below⟩
     ·have f3b:(fn==(3:Int))=false:=by simp;omega
      have f4b:(fn==(4:Int))=false:=by simp;omega
      obtain rfl:ag=(1,1):=HAG2.out.trans (if_neg f34);have S4:=Lib.hid (S2.out.kept hb3);have HO4:=Lib.hid HO.out;have hre:(1:Int)≠0:=by decide
      clear HAG2 HI S2 HO;obtain rfl:=HME.out (by first|exact hre|decide);clear HME HMO HO4;go_wp2_with fail;go_returns;exact .inr ⟨by first|exact hre|decide,rfl,S4.out.below⟩
    ·obtain rfl:k=aggs.length:=by omega
     have hm0:=HT.out;rw[List.drop_length]at hm0;unfold agsR at hm0;subst hm0;clear HT;go_wp2_with fail;go_returns;exact .inl ⟨rfl,_,rfl,Bt (LRow.done (by decide) (⟨intVals acc,HO.out,B0 acc⟩:LRow intE 3 (mb+1) wr acc _)) (by decide) (fun b hb=>by have:=hsz.out;have h:mb+1<=b:=hb;show w.heap.size<=b;omega),I3 HO.out,S2.out.below⟩
theorem Us (xop xn:Int) (xv:V) (m:Nat) (sa xa ca ga aa oa:Option Addr) (sc xc cc gc ac oc:Nat) (w:World)
 (HA:Hid (∀W,Below w.heap.size w W->Calls prog 99 #[.slice aa 0 ac,.func (.func 96) #[] #[]] W (Says (.bool false) W))) (HS:Hid (∀W,Below w.heap.size w W->Calls prog 100 #[.slice sa 1 sc,.func (.func 101) #[] #[]] W (Says (.bool false) W))):
 Calls prog 50 #[.agg #[.int .i64 2,.string ⟨#[]⟩,.slice sa 1 sc,.int .i64 xop,.int .i64 xn,.int .i64 xv.k,.int .i64 xv.n,.string xv.s,.slice xa m xc,.slice ca 0 cc,.slice ga 0 gc,.slice aa 0 ac,.slice oa 0 oc,.int .i64 0]] w (Says (.bool true) w):=by
 go_enter func50,ntmps50
 go_upto_region 4 with fail
 refine St.gen (St.alloc (St.alloc (St.start _))) ?_
 intro w1 S1
 try(simp only[List.set_cons_zero,List.set_cons_succ,List.setIfInBounds_toArray,World.size_alloc]at S1)
 have F1:=S1.out.facts
 simp only[St.Facts,cellFacts,apartFacts,and_true]at F1
 go_wp2_with fail
 refine Calls.mono (Bo 2 none ca ga aa oa 0 cc gc ac oc _) ?_
 rintro e w2 ⟨rfl,hb2⟩
 have S2:=Lib.hid ((St.set 0 (St.set 0 (St.set 0 (St.set 0 (St.set 0 (St.set 0 (S1.out) rfl) rfl) rfl) rfl) rfl) rfl).kept hb2)
 try(simp only[List.set_cons_zero,List.set_cons_succ,List.setIfInBounds_toArray,World.size_alloc]at S2)
 clear hb2 F1 S1
 have F2:=S2.out.facts
 simp only[St.Facts,cellFacts,apartFacts,and_true]at F2
 go_wp2_with fail
 refine Calls.mono (HA.out _ S2.out.below) ?_
 rintro e w3 ⟨rfl,hb3⟩
 have S3:=Lib.hid (S2.out.kept hb3)
 clear hb3 F2 S2
 have F3:=S3.out.facts
 simp only[St.Facts,cellFacts,apartFacts,and_true]at F3
 go_wp2_with fail
 refine Calls.mono (HS.out _ S3.out.below) ?_
 rintro e w4 ⟨rfl,hb4⟩
 have HB:=Lib.hid (S3.out.kept hb4).below
 clear hb4 F3 S3
 go_wp2_with fail
 go_returns
 exact⟨rfl,HB.out⟩
theorem Uq (xop xn:Int) (xv:V) (m:Nat) (sa xa ca ga aa oa:Option Addr) (sc xc cc gc ac oc:Nat) (w:World)
 (HA:Hid (∀W,Below w.heap.size w W->Calls prog 99 #[.slice aa 0 ac,.func (.func 96) #[] #[]] W (Says (.bool false) W))) (HS:Hid (∀W,Below w.heap.size w W->Calls prog 100 #[.slice sa 2 sc,.func (.func 101) #[] #[]] W (Says (.bool false) W))):
 Calls prog 50 #[.agg #[.int .i64 4,.string ⟨#[]⟩,.slice sa 2 sc,.int .i64 xop,.int .i64 xn,.int .i64 xv.k,.int .i64 xv.n,.string xv.s,.slice xa m xc,.slice ca 0 cc,.slice ga 0 gc,.slice aa 0 ac,.slice oa 0 oc,.int .i64 0]] w (Says (.bool true) w):=by
 go_enter func50,ntmps50
 go_upto_region 4 with fail
 refine St.gen (St.alloc (St.alloc (St.start _))) ?_
 intro w1 S1
 try(simp only[List.set_cons_zero,List.set_cons_succ,List.setIfInBounds_toArray,World.size_alloc]at S1)
 have F1:=S1.out.facts
 simp only[St.Facts,cellFacts,apartFacts,and_true]at F1
 go_wp2_with fail
 refine Calls.mono (Bo 4 none ca ga aa oa 0 cc gc ac oc _) ?_
 rintro e w2 ⟨rfl,hb2⟩
 have S2:=Lib.hid ((St.set 0 (St.set 0 (St.set 0 (St.set 0 (St.set 0 (St.set 0 (S1.out) rfl) rfl) rfl) rfl) rfl) rfl).kept hb2)
 try(simp only[List.set_cons_zero,List.set_cons_succ,List.setIfInBounds_toArray,World.size_alloc]at S2)
 clear hb2 F1 S1
 have F2:=S2.out.facts
 simp only[St.Facts,cellFacts,apartFacts,and_true]at F2
 go_wp2_with fail
 refine Calls.mono (HA.out _ S2.out.below) ?_
 rintro e w3 ⟨rfl,hb3⟩
 have S3:=Lib.hid (S2.out.kept hb3)
 clear hb3 F2 S2
 have F3:=S3.out.facts
 simp only[St.Facts,cellFacts,apartFacts,and_true]at F3
 go_wp2_with fail
 refine Calls.mono (HS.out _ S3.out.below) ?_
 rintro e w4 ⟨rfl,hb4⟩
 have HB:=Lib.hid (S3.out.kept hb4).below
 clear hb4 F3 S3
 go_wp2_with fail
 go_returns
 exact⟨rfl,HB.out⟩
theorem Um (sa xa ca ga aa oa:Option Addr) (sc xc cc gc ac oc:Nat) (w:World)
 (HA:Hid (∀W,Below w.heap.size w W->Calls prog 99 #[.slice aa 0 ac,.func (.func 96) #[] #[]] W (Says (.bool false) W))) (HS:Hid (∀W,Below w.heap.size w W->Calls prog 100 #[.slice sa 1 sc,.func (.func 101) #[] #[]] W (Says (.bool false) W))):
 Calls prog 50 #[.agg #[.int .i64 8,.string ⟨#[]⟩,.slice sa 1 sc,.int .i64 0,.int .i64 0,.int .i64 0,.int .i64 0,.string ⟨#[]⟩,.slice xa 0 xc,.slice ca 0 cc,.slice ga 0 gc,.slice aa 0 ac,.slice oa 0 oc,.int .i64 0]] w (Says (.bool true) w):=by
 go_enter func50,ntmps50
 go_upto_region 4 with fail
 refine St.gen (St.alloc (St.alloc (St.start _))) ?_
 intro w1 S1
 try(simp only[List.set_cons_zero,List.set_cons_succ,List.setIfInBounds_toArray,World.size_alloc]at S1)
 have F1:=S1.out.facts
 simp only[St.Facts,cellFacts,apartFacts,and_true]at F1
 go_wp2_with fail
 refine Calls.mono (Bo 8 xa ca ga aa oa xc cc gc ac oc _) ?_
 rintro e w2 ⟨rfl,hb2⟩
 have S2:=Lib.hid ((S1.out).kept hb2)
 try(simp only[List.set_cons_zero,List.set_cons_succ,List.setIfInBounds_toArray,World.size_alloc]at S2)
 clear hb2 F1 S1
 have F2:=S2.out.facts
 simp only[St.Facts,cellFacts,apartFacts,and_true]at F2
 go_wp2_with fail
 refine Calls.mono (HA.out _ S2.out.below) ?_
 rintro e w3 ⟨rfl,hb3⟩
 have S3:=Lib.hid (S2.out.kept hb3)
 clear hb3 F2 S2
 have F3:=S3.out.facts
 simp only[St.Facts,cellFacts,apartFacts,and_true]at F3
 go_wp2_with fail
 refine Calls.mono (HS.out _ S3.out.below) ?_
 rintro e w4 ⟨rfl,hb4⟩
 have HB:=Lib.hid (S3.out.kept hb4).below
 clear hb4 F3 S3
 go_wp2_with fail
 go_returns
 exact⟨rfl,HB.out⟩
end Go.Proofs.YtjmmbebkbkgefaaGreatDoor
