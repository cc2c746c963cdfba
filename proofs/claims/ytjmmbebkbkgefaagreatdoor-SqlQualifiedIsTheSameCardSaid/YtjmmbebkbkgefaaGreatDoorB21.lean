/- Part 21; the last part says what is proved. No condition. -/
import Derived.Test.YtjmmbebkbkgefaaGreatDoorB20
set_option linter.unusedVariables false
set_option linter.unusedSimpArgs false
set_option maxHeartbeats 16000000
set_option maxRecDepth 100000
namespace Go.Proofs.YtjmmbebkbkgefaaGreatDoor
open Go.RowKit Go.Sort Go.Proofs.Tryz
theorem LIn.split {α:Type} {E:ElRep α} {Q:Nat->Prop} {w:World}:∀{l:List α} {acs:List Value} (k:Nat),LIn E Q w l acs->∃bcs rest,acs=bcs++rest/\LIn E Q w (l.take k) bcs
 | l,acs,0,_=>⟨[],acs,rfl,by simp[LIn]⟩
 | [],acs,k+1,h=>⟨[],acs,rfl,by simp[LIn]⟩
 | a::l,acs,k+1,h=>by
  obtain⟨c1,c2,rfl,h1,h2⟩:=h;obtain⟨bcs,rest,rfl,h3⟩:=LIn.split k h2;exact⟨c1++bcs,rest,by simp,c1,bcs,rfl,h1,h3⟩
theorem Jx {α:Type} {E:ElRep α} {Q:Nat->Prop} {w:World} {a:Option Addr} {c:Nat} {l:List α} (h:RSl E Q w (.slice a l.length c) l) {k:Nat} (hk:k<=l.length):RSl E Q w (.slice a k c) (l.take k):=by
 obtain⟨acs,⟨a',c',e,hc,h1⟩,h2⟩:=h;simp only[Value.slice.injEq]at e;obtain⟨rfl,_,rfl⟩:=e;obtain⟨bcs,rest,rfl,h3⟩:=LIn.split k h2;refine⟨bcs,⟨a,c,by rw[List.length_take,Nat.min_eq_left hk],by rw[List.length_take,Nat.min_eq_left hk];omega,fun hp=>?_⟩,h3⟩;obtain⟨b,o,rfl,hq,hat⟩:=h1 (by rw[List.length_take,Nat.min_eq_left hk]at hp;omega);exact⟨b,o,rfl,hq,fun j u hj=>hat j u (by rw[List.getElem?_append_left (List.getElem?_eq_some_iff.1 hj).1];exact hj)⟩
theorem Dk (bb:Nat) (sv:Value) (e0 f:Int) (w:World) (h:w.heap[bb]?=some (.cells #[sv,.int .i64 e0] 99 (0,0))):
 Calls prog 45 #[.pointer (some ⟨bb,0,none⟩),.int .i64 f] w (fun e w'=>e=.returned (.tuple #[])/\w'.heap[bb]?=some (.cells #[sv,.int .i64 (firstE e0 f)] 99 (0,0))/\Turn (·=bb) w w'):=by
 have c1:w.cell? ⟨bb,1,none⟩=some (.int .i64 e0):=by simp only[World.cell?,h];rfl
 have f1:w.frozen? ⟨bb,1,none⟩=false:=by simp[World.frozen?,h]
 have hlt:=(Array.getElem?_eq_some_iff.1 h).1
 have H:=Lib.hid h
 clear h
 by_cases h0:e0=0
 ·subst h0;go_enter func45,ntmps45;go_wp2_with fail;go_returns;refine⟨rfl,?_,(Turn.refl _ _).setCell (.inl rfl)⟩;have:=H.out;simp[World.setCell,Array.getElem?_modify,this,firstE]
 ·have b0:(e0==(0:Int))=false:=by simpa using h0
  go_enter func45,ntmps45;go_wp2_with fail;go_returns;exact⟨rfl,by rw[H.out];simp[firstE,h0],Turn.refl _ _⟩
def BresPost (w:World) (bb:Nat) (sv:Value) (r:Xp×Int) (e:Ending) (w':World):Prop:=
 ∃xcs,e=.returned (.agg xcs.toArray)/\XpIn (w.heap.size≤·) w' r.1 xcs/\w'.heap[bb]?=some (.cells #[sv,.int .i64 r.2] 99 (0,0))/\Turn (·=bb) w w'
theorem Ce (T R:Nat->Prop) (sc:List Tbl) (hs:sc.length<=1000000) (hf:(flatC sc).length<=1000000) (x:Ex) (hbr:x.brief) (k:Nat) (hk:k<=sc.length) (bb:Nat) (ta:Option Addr) (tc:Nat) (e0:Int) (cs:List Value) (w:World)
 (hb:w.heap[bb]?=some (.cells #[.slice ta sc.length tc,.int .i64 e0] 99 (0,0))) (ht:RSl tblE T w (.slice ta sc.length tc) sc) (hin:ExIn R w x cs):
 Calls prog 41 #[.pointer (some ⟨bb,0,none⟩),.int .i64 k,.agg cs.toArray] w (BresPost w bb (.slice ta sc.length tc) (bresY sc k e0 x)):=by
 have hlt:bb<w.heap.size:=(Array.getElem?_eq_some_iff.1 hb).1
 have htc:sc.length<=tc:=by
  obtain⟨acs,⟨a',c',e,hc,_⟩,_⟩:=ht;simp only[Value.slice.injEq]at e;omega
 have HB:=Lib.hid hb
 by_cases he0:e0=0
 case neg=>
  obtain⟨op,t,n,v,args⟩:=x;obtain⟨a,rfl,hsl⟩:=A6 hin;obtain⟨ad,ac,rfl⟩:=(Az hsl).slice;have hb0:(e0 != (0:Int))=true:=by simpa using he0
  have hr:bresY sc k e0 (.mk op t n v args)=(Xp.zero,e0):=by unfold bresY;rw[if_neg he0]
  rw[hr];clear hr ht hin hsl;go_enter func41,ntmps41;go_upto_region 1 with fail;refine St.gen (St.alloc (St.alloc (St.start _))) ?_;intro w1 S1;try(simp only[List.set_cons_zero,List.set_cons_succ,List.setIfInBounds_toArray,World.size_alloc]at S1)
  have hb1:w1.heap[bb]?=some (.cells #[.slice ta sc.length tc,.int .i64 e0] 99 (0,0)):=by rw[S1.out.below.block bb hlt];exact HB.out
  have c1:w1.cell? ⟨bb,1,none⟩=some (.int .i64 e0):=by simp only[World.cell?,hb1];rfl
  have hlt1:=block_lt_of_cell c1;clear hb1;go_wp2_with(refine wpList_store_row rfl 49 (.tmp 6) (.tmp 14) rfl (w.heap.size+1) #[.int .i64 0,.int .i64 0,.int .i64 0,.int .i64 0,.string ⟨#[]⟩,.slice none 0 0] rfl rfl 49 #[.int .i64 0,.int .i64 0,.int .i64 0,.int .i64 0,.string ⟨#[]⟩,.slice none 0 0] (S1.out.blk 0 rfl) Bx rfl (by simp[Value.oneCell']) ?_);refine Dw (fun W=>St w W _) (St.row 0 #[.int .i64 0,.int .i64 0,.int .i64 0,.int .i64 0,.string ⟨#[]⟩,.slice none 0 0] S1.out rfl) ?_;intro w9 S9';have S9:=Lib.hid S9';clear S9';have F9:w9.heap[w.heap.size+1]?=some (.cells #[.int .i64 0,.int .i64 0,.int .i64 0,.int .i64 0,.string ⟨#[]⟩,.slice none 0 0] 49 (0,0)):=S9.out.blk 0 rfl;have c0:w9.cell? ⟨w.heap.size+1,0,none⟩=some (.int .i64 0):=by simp only[World.cell?,F9];rfl
  have c1:w9.cell? ⟨w.heap.size+1,1,none⟩=some (.int .i64 0):=by simp only[World.cell?,F9];rfl
  have c2:w9.cell? ⟨w.heap.size+1,2,none⟩=some (.int .i64 0):=by simp only[World.cell?,F9];rfl
  have c3:w9.cell? ⟨w.heap.size+1,3,none⟩=some (.int .i64 0):=by simp only[World.cell?,F9];rfl
  have c4:w9.cell? ⟨w.heap.size+1,4,none⟩=some (.string ⟨#[]⟩):=by simp only[World.cell?,F9];rfl
  have c5:w9.cell? ⟨w.heap.size+1,5,none⟩=some (.slice none 0 0):=by simp only[World.cell?,F9];rfl
  refine bodyPost_ret (v:=.agg #[.int .i64 0,.int .i64 0,.int .i64 0,.int .i64 0,.string ⟨#[]⟩,.slice none 0 0]) (by simp[results,results41,go_sem,c0,c1,c2,c3,c4,c5]) rfl ?_;exact⟨_,rfl,Cj _ _ 0 0 V.null,by rw[S9.out.below.block bb hlt];exact HB.out,Turn.of_below S9.out.below⟩
 subst he0
 have hr:bresY sc k 0 x=(okX (Ex.res (flatC (sc.take k)) x),errX (Ex.res (flatC (sc.take k)) x)):=by unfold bresY;rw[if_pos rfl]
 rw[hr]
 have hkt:(sc.take k).length=k:=by rw[List.length_take,Nat.min_eq_left hk]
 have hft:(flatC (sc.take k)).length<=1000000:=by
  have h1:flatC sc=flatC (sc.take k)++flatC (sc.drop k):=by unfold flatC;rw[<- List.flatMap_append,List.take_append_drop]
  rw[h1,List.length_append]at hf;omega
 have CR:Hid (∀W,Below w.heap.size w W->Calls prog 9 #[.slice ta k tc,.agg cs.toArray] W (ResPost W (Ex.res (flatC (sc.take k)) x))):=fun W hb=>by
  have h1:=(Jx ht hk).kept (by decide) hb;exact N2 T R (sc.take k) (by rw[hkt];omega) hft x hbr _ cs W h1 (hin.kept hb)
 generalize Ex.res (flatC (sc.take k)) x=res at *
 have htci:(k:Int)<=(tc:Int):=by omega
 obtain⟨op,t,n,v,args⟩:=x
 obtain⟨a,rfl,hsl⟩:=A6 hin
 obtain⟨ad,ac,rfl⟩:=(Az hsl).slice
 clear hr ht hin hsl hb hbr hf hft hkt
 go_enter func41,ntmps41
 go_upto_region 1 with fail
 refine St.gen (St.alloc (St.alloc (St.start _))) ?_
 intro w1 S1
 try(simp only[List.set_cons_zero,List.set_cons_succ,List.setIfInBounds_toArray,World.size_alloc]at S1)
 have hb1:w1.heap[bb]?=some (.cells #[.slice ta sc.length tc,.int .i64 0] 99 (0,0)):=by rw[S1.out.below.block bb hlt];exact HB.out
 have c1:w1.cell? ⟨bb,1,none⟩=some (.int .i64 0):=by simp only[World.cell?,hb1];rfl
 have hlt1:=block_lt_of_cell c1
 go_upto_region 3 with fail
 have c0:w1.cell? ⟨bb,0,none⟩=some (.slice ta sc.length tc):=by simp only[World.cell?,hb1];rfl
 replace c0:=cell_regrown c0
 clear c1 hb1
 have FG:=S1.out.factsG
 simp only[St.FactsG,cellFactsG,and_true]at FG
 refine Ey 14 (.mild 0 (.mild 1 (.mild 2 (.mild 3 (.mild 4 (.mild 5 (.mild 6 (.two 7 (.mild 8 (.mild 9 (.mild 10 (.eff 11 (.eff 12 (.mild 13 .stop)))))) 11 (.eff 7 (.mild 8 (.mild 9 (.mild 10 (.eff 12 (.mild 13 .stop)))))))))))))) (by kernel_rfl) (by kernel_rfl) ?_
 repeat(refine Cb rfl (fun K hK=>?_);go_simp;first|(refine hK _ ?_;clear hK K)|(apply Exists.intro;refine⟨fun _=>?_,hK _ ?_⟩;(fail);clear hK K))
 clear c0 FG hlt1
 obtain⟨xop,xn,xv,xargs,hxe⟩:∃a b c d,okX res=.mk a b c d:=by
  cases okX res with|mk a b c d=>exact⟨a,b,c,d,rfl⟩
 have hw1:Hid (w.heap.size+2<=w1.heap.size):=(Array.getElem?_eq_some_iff.1 (S1.out.blk 0 rfl)).1
 refine Sg ?_ ?_
 ·refine Ck rfl ?_;intro w3 hb3 hb03;have SA:=Lib.hid (S1.out.kept hb3);have T3:=Lib.hid ((St.start w1).kept hb03);have hb31:=hb3.size;clear hb3 hb03 S1;go_wp2_with fail;refine Calls.mono (CR.out _ SA.out.below) ?_;rintro e w4 ⟨xcs,rfl,hx4,hb4⟩;rw[hxe]at hx4;obtain⟨xa0,rfl,hx2⟩:=Ai.1 hx4;obtain⟨xa,xc,rfl⟩:=hx2.slice;clear hx2;go_wp2_with fail;refine⟨(T3.out.kept hb4).below,?_⟩;have S4:=Lib.hid (SA.out.kept hb4);have T4:=Lib.hid (T3.out.kept hb4);have HX4:=Lib.hid hx4;clear hx4 hb4 SA T3 CR;repeat(refine Cb rfl (fun K hK=>?_);go_simp;first|(refine hK _ ?_;clear hK K)|(apply Exists.intro;refine⟨fun _=>?_,hK _ ?_⟩;(fail);clear hK K))
  refine Ck rfl ?_;intro w5 hb5 hb05;have S5:=Lib.hid (S4.out.kept hb5);have T5:=Lib.hid (T4.out.kept hb5);have HX5:Hid (XpIn (w3.heap.size≤·) w5 (.mk xop xn xv xargs) [.int .i64 xop,.int .i64 xn,.int .i64 xv.k,.int .i64 xv.n,.string xv.s,.slice xa xargs.length xc]):=Au (fun b hb hq=>⟨hq,hb5.block b hb⟩) _ _ HX4.out;clear hb5 hb05 S4 T4 HX4;go_wp2_with fail;refine⟨(St.alloc T5.out).below,Ck rfl ?_⟩;intro w6 hb6 hb06;have S6:=Lib.hid ((St.alloc S5.out (cs:=#[.int .i64 0,.int .i64 0,.int .i64 0,.int .i64 0,.string ⟨#[]⟩,.slice none 0 0]) (t:=49)).kept hb6);have T6:=Lib.hid ((St.alloc T5.out (cs:=#[.int .i64 0,.int .i64 0,.int .i64 0,.int .i64 0,.string ⟨#[]⟩,.slice none 0 0]) (t:=49)).kept hb6);have TX:Hid (Turn (·=w5.heap.size) w5 w6):=(Turn.of_below ((Below.refl _ _).alloc (Nat.le_refl _) _)).step hb6;clear hb6 hb06;refine wpList_store_row rfl 49 (.tmp 7) (.tmp 24) rfl w5.heap.size #[.int .i64 xop,.int .i64 xn,.int .i64 xv.k,.int .i64 xv.n,.string xv.s,.slice xa xargs.length xc] rfl rfl 49 #[.int .i64 0,.int .i64 0,.int .i64 0,.int .i64 0,.string ⟨#[]⟩,.slice none 0 0] (S6.out.blk 0 rfl) Bx rfl (by simp[Value.oneCell']) ?_;refine⟨(St.row 0 #[.int .i64 xop,.int .i64 xn,.int .i64 xv.k,.int .i64 xv.n,.string xv.s,.slice xa xargs.length xc] T6.out rfl).below,?_⟩;repeat(refine Cb rfl (fun K hK=>?_);go_simp;first|(refine hK _ ?_;clear hK K)|(apply Exists.intro;refine⟨fun _=>?_,hK _ ?_⟩;(fail);clear hK K))
  refine Sh ?_;intro w9 hb9 _;have S9:=Lib.hid ((St.row 0 #[.int .i64 xop,.int .i64 xn,.int .i64 xv.k,.int .i64 xv.n,.string xv.s,.slice xa xargs.length xc] S6.out rfl).kept hb9);simp only[List.set_cons_zero]at S9;have HX9:Hid (XpIn (w3.heap.size≤·) w9 (.mk xop xn xv xargs) [.int .i64 xop,.int .i64 xn,.int .i64 xv.k,.int .i64 xv.n,.string xv.s,.slice xa xargs.length xc]):=Au (fun b hb hq=>⟨hq,((TX.out.setRow (.inl rfl) (cs:=#[.int .i64 xop,.int .i64 xn,.int .i64 xv.k,.int .i64 xv.n,.string xv.s,.slice xa xargs.length xc])).step hb9).block b hb (fun h=>by have h':b=w5.heap.size:=h;omega)⟩) _ _ HX5.out;have hbase:Hid (w.heap.size+2<=w3.heap.size):=Nat.le_trans hw1.out hb31;clear hb9 S5 T5 S6 T6 TX HX5 hb31;generalize w3.heap.size=base at *;generalize w5.heap.size=ob at *;have hob:w9.heap[ob]?=some (.cells #[.int .i64 xop,.int .i64 xn,.int .i64 xv.k,.int .i64 xv.n,.string xv.s,.slice xa xargs.length xc] 49 (0,0)):=S9.out.blk 0 rfl;have hrb:w9.heap[w.heap.size+1]?=some (.cells #[.int .i64 0,.int .i64 0,.int .i64 0,.int .i64 0,.string ⟨#[]⟩,.slice none 0 0] 49 (0,0)):=S9.out.blk 1 rfl;have hb9:w9.heap[bb]?=some (.cells #[.slice ta sc.length tc,.int .i64 0] 99 (0,0)):=by rw[S9.out.below.block bb hlt];exact HB.out
  have ho1:w.heap.size<=ob:=(S9.out.own _ List.mem_cons_self).1;have hne:ob≠w.heap.size+1:=by
   have:=S9.out.facts;simp only[St.Facts,apartFacts,and_true]at this;omega
  have HT9:Hid (Turn (·=bb) w w9):=Turn.of_below S9.out.below;clear S9;go_wp2_with fail;refine Calls.mono (Dk bb _ 0 (errX res) w9 hb9) ?_;rintro e w10 ⟨rfl,hb10,ht10⟩;have hob10:w10.heap[ob]?=some (.cells #[.int .i64 xop,.int .i64 xn,.int .i64 xv.k,.int .i64 xv.n,.string xv.s,.slice xa xargs.length xc] 49 (0,0)):=(ht10.block ob (Array.getElem?_eq_some_iff.1 hob).1 (fun h=>by have h':ob=bb:=h;omega)).trans hob;have hrb10:w10.heap[w.heap.size+1]?=some (.cells #[.int .i64 0,.int .i64 0,.int .i64 0,.int .i64 0,.string ⟨#[]⟩,.slice none 0 0] 49 (0,0)):=(ht10.block _ (Array.getElem?_eq_some_iff.1 hrb).1 (fun h=>by have h':w.heap.size+1=bb:=h;omega)).trans hrb;have HX10:Hid (XpIn (base≤·) w10 (.mk xop xn xv xargs) [.int .i64 xop,.int .i64 xn,.int .i64 xv.k,.int .i64 xv.n,.string xv.s,.slice xa xargs.length xc]):=Au (fun b hb hq=>⟨hq,ht10.block b hb (fun h=>by have h':b=bb:=h;have hq':base<=b:=hq;have:=hbase.out;omega)⟩) _ _ HX9.out;have HT10:Hid (Turn (·=bb) w w10):=HT9.out.trans ht10 (fun _ _ h=>h);have HB10:=Lib.hid hb10;have HOB:=Lib.hid hob10;have HRB:=Lib.hid hrb10;clear hob hrb hb9 hb10 ht10 hob10 hrb10 HX9 HT9
  go_wp2_with(first|(refine wpList_load_row rfl 49 (.tmp 7) rfl ob rfl 49 #[.int .i64 xop,.int .i64 xn,.int .i64 xv.k,.int .i64 xv.n,.string xv.s,.slice xa xargs.length xc] (0,0) _ HOB.out underlying49 rfl Bx ?_)|(refine wpList_store_row rfl 49 (.tmp 6) (.tmp 29) rfl (w.heap.size+1) #[.int .i64 xop,.int .i64 xn,.int .i64 xv.k,.int .i64 xv.n,.string xv.s,.slice xa xargs.length xc] rfl rfl 49 #[.int .i64 0,.int .i64 0,.int .i64 0,.int .i64 0,.string ⟨#[]⟩,.slice none 0 0] HRB.out Bx rfl (by simp[Value.oneCell']) ?_));refine Dw (fun W=>W.heap[w.heap.size+1]?=some (.cells #[.int .i64 xop,.int .i64 xn,.int .i64 xv.k,.int .i64 xv.n,.string xv.s,.slice xa xargs.length xc] 49 (0,0))/\W.heap[bb]?=some (.cells #[.slice ta sc.length tc,.int .i64 (firstE 0 (errX res))] 99 (0,0))/\XpIn (base≤·) W (.mk xop xn xv xargs) [.int .i64 xop,.int .i64 xn,.int .i64 xv.k,.int .i64 xv.n,.string xv.s,.slice xa xargs.length xc]/\Turn (·=bb) w W) ⟨Bn HRB.out,(Ap (by omega)).trans HB10.out,Au (fun b hb hq=>⟨hq,Ap (by have hq':base<=b:=hq;have:=hbase.out;omega)⟩) _ _ HX10.out,HT10.out.setRow (.inr (by omega))⟩ ?_;rintro w12 ⟨F9,hbb12,hx12,ht12⟩;have c0:w12.cell? ⟨w.heap.size+1,0,none⟩=some (.int .i64 xop):=by simp only[World.cell?,F9];rfl
  have c1:w12.cell? ⟨w.heap.size+1,1,none⟩=some (.int .i64 xn):=by simp only[World.cell?,F9];rfl
  have c2:w12.cell? ⟨w.heap.size+1,2,none⟩=some (.int .i64 xv.k):=by simp only[World.cell?,F9];rfl
  have c3:w12.cell? ⟨w.heap.size+1,3,none⟩=some (.int .i64 xv.n):=by simp only[World.cell?,F9];rfl
  have c4:w12.cell? ⟨w.heap.size+1,4,none⟩=some (.string xv.s):=by simp only[World.cell?,F9];rfl
  have c5:w12.cell? ⟨w.heap.size+1,5,none⟩=some (.slice xa xargs.length xc):=by simp only[World.cell?,F9];rfl
  refine bodyPost_ret (v:=.agg #[.int .i64 xop,.int .i64 xn,.int .i64 xv.k,.int .i64 xv.n,.string xv.s,.slice xa xargs.length xc]) (by simp[results,results41,go_sem,c0,c1,c2,c3,c4,c5]) rfl ?_;refine⟨_,rfl,?_,?_,ht12⟩
  ·rw[hxe];exact Au (fun b hb hq=>⟨by have hq':base<=b:=hq;have:=hbase.out;show w.heap.size<=b;omega,rfl⟩) _ _ hx12
  ·exact hbb12
 ·refine Ck rfl ?_;intro w3 hb3 hb03;have S3:=Lib.hid (S1.out.kept hb3);have T3:=Lib.hid ((St.start w1).kept hb03);have hb31:=hb3.size;clear hb3 hb03 S1;go_wp2_with fail;refine⟨(St.alloc T3.out).below,Ck rfl ?_⟩;intro w5 hb5 hb05;have SA:=Lib.hid ((St.alloc S3.out (cs:=#[.int .i64 0,.int .i64 0,.int .i64 0,.int .i64 0,.string ⟨#[]⟩,.slice none 0 0]) (t:=49)).kept hb5);have T5:=Lib.hid ((St.alloc T3.out (cs:=#[.int .i64 0,.int .i64 0,.int .i64 0,.int .i64 0,.string ⟨#[]⟩,.slice none 0 0]) (t:=49)).kept hb5);have hob5:w3.heap.size<w5.heap.size:=(Array.getElem?_eq_some_iff.1 (SA.out.blk 0 rfl)).1;clear hb5 hb05 S3 T3;go_wp2_with fail;refine Calls.mono (CR.out _ SA.out.below) ?_;rintro e w4 ⟨xcs,rfl,hx4,hb4⟩;rw[hxe]at hx4;obtain⟨xa0,rfl,hx2⟩:=Ai.1 hx4;obtain⟨xa,xc,rfl⟩:=hx2.slice;clear hx2;go_wp2_with fail;refine⟨(T5.out.kept hb4).below,?_⟩;have S4:=Lib.hid (SA.out.kept hb4);have T4:=Lib.hid (T5.out.kept hb4);have HX4:=Lib.hid hx4;clear hx4 hb4 SA T5 CR;repeat(refine Cb rfl (fun K hK=>?_);go_simp;first|(refine hK _ ?_;clear hK K)|(apply Exists.intro;refine⟨fun _=>?_,hK _ ?_⟩;(fail);clear hK K))
  refine Ck rfl ?_;intro w6 hb6 hb06;have S6:=Lib.hid (S4.out.kept hb6);have T6:=Lib.hid (T4.out.kept hb6);have HX6:Hid (XpIn (w5.heap.size≤·) w6 (.mk xop xn xv xargs) [.int .i64 xop,.int .i64 xn,.int .i64 xv.k,.int .i64 xv.n,.string xv.s,.slice xa xargs.length xc]):=Au (fun b hb hq=>⟨hq,hb6.block b hb⟩) _ _ HX4.out;clear hb6 hb06 S4 T4 HX4;refine wpList_store_row rfl 49 (.tmp 7) (.tmp 24) rfl w3.heap.size #[.int .i64 xop,.int .i64 xn,.int .i64 xv.k,.int .i64 xv.n,.string xv.s,.slice xa xargs.length xc] rfl rfl 49 #[.int .i64 0,.int .i64 0,.int .i64 0,.int .i64 0,.string ⟨#[]⟩,.slice none 0 0] (S6.out.blk 0 rfl) Bx rfl (by simp[Value.oneCell']) ?_;refine⟨(St.row 0 #[.int .i64 xop,.int .i64 xn,.int .i64 xv.k,.int .i64 xv.n,.string xv.s,.slice xa xargs.length xc] T6.out rfl).below,?_⟩;repeat(refine Cb rfl (fun K hK=>?_);go_simp;first|(refine hK _ ?_;clear hK K)|(apply Exists.intro;refine⟨fun _=>?_,hK _ ?_⟩;(fail);clear hK K))
  refine Sh ?_;intro w9 hb9 _;have S9:=Lib.hid ((St.row 0 #[.int .i64 xop,.int .i64 xn,.int .i64 xv.k,.int .i64 xv.n,.string xv.s,.slice xa xargs.length xc] S6.out rfl).kept hb9);simp only[List.set_cons_zero]at S9;have HX9:Hid (XpIn (w5.heap.size≤·) w9 (.mk xop xn xv xargs) [.int .i64 xop,.int .i64 xn,.int .i64 xv.k,.int .i64 xv.n,.string xv.s,.slice xa xargs.length xc]):=Au (fun b hb hq=>⟨hq,(((Turn.refl (M:=(·=w3.heap.size)) w6).setRow (.inl rfl) (cs:=#[.int .i64 xop,.int .i64 xn,.int .i64 xv.k,.int .i64 xv.n,.string xv.s,.slice xa xargs.length xc])).step hb9).block b hb (fun h=>by have h':b=w3.heap.size:=h;have hq':w5.heap.size<=b:=hq;omega)⟩) _ _ HX6.out;have hbase:Hid (w.heap.size+2<=w5.heap.size):=by show _<=_;have:=hw1.out;omega
  clear hb9 S6 T6 HX6 hb31 hob5;generalize w5.heap.size=base at *;generalize w3.heap.size=ob at *;have hob:w9.heap[ob]?=some (.cells #[.int .i64 xop,.int .i64 xn,.int .i64 xv.k,.int .i64 xv.n,.string xv.s,.slice xa xargs.length xc] 49 (0,0)):=S9.out.blk 0 rfl;have hrb:w9.heap[w.heap.size+1]?=some (.cells #[.int .i64 0,.int .i64 0,.int .i64 0,.int .i64 0,.string ⟨#[]⟩,.slice none 0 0] 49 (0,0)):=S9.out.blk 1 rfl;have hb9:w9.heap[bb]?=some (.cells #[.slice ta sc.length tc,.int .i64 0] 99 (0,0)):=by rw[S9.out.below.block bb hlt];exact HB.out
  have ho1:w.heap.size<=ob:=(S9.out.own _ List.mem_cons_self).1;have hne:ob≠w.heap.size+1:=by
   have:=S9.out.facts;simp only[St.Facts,apartFacts,and_true]at this;omega
  have HT9:Hid (Turn (·=bb) w w9):=Turn.of_below S9.out.below;clear S9;go_wp2_with fail;refine Calls.mono (Dk bb _ 0 (errX res) w9 hb9) ?_;rintro e w10 ⟨rfl,hb10,ht10⟩;have hob10:w10.heap[ob]?=some (.cells #[.int .i64 xop,.int .i64 xn,.int .i64 xv.k,.int .i64 xv.n,.string xv.s,.slice xa xargs.length xc] 49 (0,0)):=(ht10.block ob (Array.getElem?_eq_some_iff.1 hob).1 (fun h=>by have h':ob=bb:=h;omega)).trans hob;have hrb10:w10.heap[w.heap.size+1]?=some (.cells #[.int .i64 0,.int .i64 0,.int .i64 0,.int .i64 0,.string ⟨#[]⟩,.slice none 0 0] 49 (0,0)):=(ht10.block _ (Array.getElem?_eq_some_iff.1 hrb).1 (fun h=>by have h':w.heap.size+1=bb:=h;omega)).trans hrb;have HX10:Hid (XpIn (base≤·) w10 (.mk xop xn xv xargs) [.int .i64 xop,.int .i64 xn,.int .i64 xv.k,.int .i64 xv.n,.string xv.s,.slice xa xargs.length xc]):=Au (fun b hb hq=>⟨hq,ht10.block b hb (fun h=>by have h':b=bb:=h;have hq':base<=b:=hq;have:=hbase.out;omega)⟩) _ _ HX9.out;have HT10:Hid (Turn (·=bb) w w10):=HT9.out.trans ht10 (fun _ _ h=>h);have HB10:=Lib.hid hb10;have HOB:=Lib.hid hob10;have HRB:=Lib.hid hrb10;clear hob hrb hb9 hb10 ht10 hob10 hrb10 HX9 HT9
  go_wp2_with(first|(refine wpList_load_row rfl 49 (.tmp 7) rfl ob rfl 49 #[.int .i64 xop,.int .i64 xn,.int .i64 xv.k,.int .i64 xv.n,.string xv.s,.slice xa xargs.length xc] (0,0) _ HOB.out underlying49 rfl Bx ?_)|(refine wpList_store_row rfl 49 (.tmp 6) (.tmp 29) rfl (w.heap.size+1) #[.int .i64 xop,.int .i64 xn,.int .i64 xv.k,.int .i64 xv.n,.string xv.s,.slice xa xargs.length xc] rfl rfl 49 #[.int .i64 0,.int .i64 0,.int .i64 0,.int .i64 0,.string ⟨#[]⟩,.slice none 0 0] HRB.out Bx rfl (by simp[Value.oneCell']) ?_));refine Dw (fun W=>W.heap[w.heap.size+1]?=some (.cells #[.int .i64 xop,.int .i64 xn,.int .i64 xv.k,.int .i64 xv.n,.string xv.s,.slice xa xargs.length xc] 49 (0,0))/\W.heap[bb]?=some (.cells #[.slice ta sc.length tc,.int .i64 (firstE 0 (errX res))] 99 (0,0))/\XpIn (base≤·) W (.mk xop xn xv xargs) [.int .i64 xop,.int .i64 xn,.int .i64 xv.k,.int .i64 xv.n,.string xv.s,.slice xa xargs.length xc]/\Turn (·=bb) w W) ⟨Bn HRB.out,(Ap (by omega)).trans HB10.out,Au (fun b hb hq=>⟨hq,Ap (by have hq':base<=b:=hq;have:=hbase.out;omega)⟩) _ _ HX10.out,HT10.out.setRow (.inr (by omega))⟩ ?_;rintro w12 ⟨F9,hbb12,hx12,ht12⟩;have c0:w12.cell? ⟨w.heap.size+1,0,none⟩=some (.int .i64 xop):=by simp only[World.cell?,F9];rfl
  have c1:w12.cell? ⟨w.heap.size+1,1,none⟩=some (.int .i64 xn):=by simp only[World.cell?,F9];rfl
  have c2:w12.cell? ⟨w.heap.size+1,2,none⟩=some (.int .i64 xv.k):=by simp only[World.cell?,F9];rfl
  have c3:w12.cell? ⟨w.heap.size+1,3,none⟩=some (.int .i64 xv.n):=by simp only[World.cell?,F9];rfl
  have c4:w12.cell? ⟨w.heap.size+1,4,none⟩=some (.string xv.s):=by simp only[World.cell?,F9];rfl
  have c5:w12.cell? ⟨w.heap.size+1,5,none⟩=some (.slice xa xargs.length xc):=by simp only[World.cell?,F9];rfl
  refine bodyPost_ret (v:=.agg #[.int .i64 xop,.int .i64 xn,.int .i64 xv.k,.int .i64 xv.n,.string xv.s,.slice xa xargs.length xc]) (by simp[results,results41,go_sem,c0,c1,c2,c3,c4,c5]) rfl ?_;refine⟨_,rfl,?_,?_,ht12⟩
  ·rw[hxe];exact Au (fun b hb hq=>⟨by have hq':base<=b:=hq;have:=hbase.out;show w.heap.size<=b;omega,rfl⟩) _ _ hx12
  ·exact hbb12
theorem St.turn1 {w0 w w':World} {L:List Blk} {i bb:Nat} {cs cs':Array Value} {t:TypeId} (h:St w0 w L) (hi:L[i]?=some (bb,cs,t)) (ht:Turn (·=bb) w w') (hb:w'.heap[bb]?=some (.cells cs' t (0,0))):St w0 w' (L.set i (bb,cs',t)):=by
 have hm:=List.mem_of_getElem? hi;have hge:=(h.own _ hm).1;obtain⟨hil,hie⟩:=List.getElem?_eq_some_iff.1 hi;have hmap:(L.set i (bb,cs',t)).map (·.1)=L.map (·.1):=by
  apply List.ext_getElem?;intro j;simp only[List.getElem?_map,List.getElem?_set];split
  ·rename_i e;subst e;rw[hi];rfl
  ·rfl
 refine⟨⟨ht.os.trans h.below.os,ht.tape.trans h.below.tape,ht.output.trans h.below.output,Nat.le_trans h.below.size ht.size,fun k hk=>?_⟩,fun x hx=>?_,by rw[hmap];exact h.apart⟩
 ·exact(ht.block k (Nat.lt_of_lt_of_le hk h.below.size) (fun e=>by have e':k=bb:=e;simp only at hge;omega)).trans (h.below.block k hk)
 ·obtain⟨j,hj⟩:=List.mem_iff_getElem?.1 hx;rw[List.getElem?_set]at hj;split at hj
  ·injection hj with hj;subst hj;exact⟨hge,hb⟩
  ·rename_i hne;have hxm:=List.mem_of_getElem? hj;have hx1:=h.own x hxm;refine⟨hx1.1,(ht.block x.1 (Array.getElem?_eq_some_iff.1 hx1.2).1 (fun e=>?_)).trans hx1.2⟩;have e':x.1=bb:=e;have h1:(L.map (·.1))[j]?=some bb:=by rw[List.getElem?_map,hj];simp[e']
   have h2:(L.map (·.1))[i]?=some bb:=by rw[List.getElem?_map,hi];rfl
   have hjl:j<(L.map (·.1)).length:=(List.getElem?_eq_some_iff.1 h1).1;have:=(List.getElem?_inj hjl h.apart).1 (h1.trans h2.symm);exact hne this.symm
end Go.Proofs.YtjmmbebkbkgefaaGreatDoor
namespace Go.Proofs.YtjmmbebkbkgefaaGreatDoor
open Go.RowKit Go.Sort Go.Proofs.Tryz
def OffB (U:Nat->Prop) (L:List Blk) (R:List Row) (b:Nat):Prop:=U b/\(∀x∈L,x.1≠b)/\b∉R.flatMap Row.blk
structure BF (M U:Nat->Prop) (w0 w:World) (L:List Blk) (R:List Row) (G:Far):Prop where
 st:StM M w0 w L
 rows:OwnRows w0.heap.size w R
 apart:∀x∈L,x.1∉R.flatMap Row.blk
 far:G.P (OffB U L R) w
variable {M U:Nat->Prop} {w0 w w':World} {L:List Blk} {R:List Row} {G G2:Far}
theorem BF.facts (h:BF M U w0 w L R G):St.Facts w L:=h.st.facts
theorem BF.blk (h:BF M U w0 w L R G) (i:Nat) {b:Nat} {cs:Array Value} {t:TypeId} (hi:L[i]?=some (b,cs,t)):w.heap[b]?=some (.cells cs t (0,0)):=h.st.blk i hi
theorem BF.size (h:BF M U w0 w L R G):w0.heap.size<=w.heap.size:=h.st.turn.size
theorem BF.imp (h:BF M U w0 w L R G) (k:∀Q w,G.P Q w->G2.P Q w):BF M U w0 w L R G2:=⟨h.st,h.rows,h.apart,k _ _ h.far⟩
theorem BF.kept (h:BF M U w0 w L R G) (hb:Below w.heap.size w w'):BF M U w0 w' L R G:=
 ⟨h.st.kept hb,h.rows.kept hb,h.apart,G.move (fun b hl hq=>⟨hq,hb.block b hl⟩) h.far⟩
theorem BF.laid {o:Obj} (h:BF M U w0 w L R G):BF M U w0 (w.alloc o) L R G:=h.kept ((Below.refl _ _).alloc (Nat.le_refl _) o)
theorem BF.alloc {cs:Array Value} {t:TypeId} (h:BF M U w0 w L R G):BF M U w0 (w.alloc (.cells cs t)) ((w.heap.size,cs,t)::L) R G:=
 ⟨h.st.alloc,h.rows.kept ((Below.refl _ _).alloc (Nat.le_refl _) _),fun x hx hm=>by
  rcases List.mem_cons.1 hx with rfl|hx
  ·have:=(h.rows.mem_blk hm).2;simp at this
  ·exact h.apart x hx hm,G.move (fun b hl hq=>⟨⟨hq.1,fun x hx=>by
  rcases List.mem_cons.1 hx with rfl|hx
  ·intro e;have e':w.heap.size=b:=e;omega
  ·exact hq.2.1 x hx,hq.2.2⟩,Below.heap_alloc _ _ _ hl⟩) h.far⟩
theorem BF.sub {L':List Blk} (h:BF M U w0 w L R G) (hs:L'.Sublist L):BF M U w0 w L' R G:=
 ⟨⟨h.st.turn,fun x hx=>h.st.own x (hs.subset hx),h.st.apart.sublist (hs.map _)⟩,h.rows,fun x hx=>h.apart x (hs.subset hx),G.move (fun b _ hq=>⟨⟨hq.1,fun x hx=>hq.2.1 x (hs.subset hx),hq.2.2⟩,rfl⟩) h.far⟩
theorem BF.tail {x:Blk} (h:BF M U w0 w (x::L) R G):BF M U w0 w L R G:=h.sub (List.sublist_cons_self _ _)
theorem J5 {i b:Nat} {cs cs':Array Value} {t t':TypeId} (hi:L[i]?=some (b,cs,t)) {c:Nat} (h:OffB U L R c):OffB U (L.set i (b,cs',t')) R c:=by
 refine⟨h.1,fun x hx=>?_,h.2.2⟩;rcases List.mem_or_eq_of_mem_set hx with hx|rfl
 ·exact h.2.1 x hx
 ·exact h.2.1 (b,cs,t) (List.mem_of_getElem? hi)
theorem BF.set (i:Nat) {b o:Nat} {cs:Array Value} {t:TypeId} {v:Value} (h:BF M U w0 w L R G) (hi:L[i]?=some (b,cs,t)):BF M U w0 (w.setCell ⟨b,o,none⟩ v) (L.set i (b,cs.setIfInBounds o v,t)) R G:=by
 have hm:=List.mem_of_getElem? hi;refine⟨h.st.set i hi,h.rows.turned (M:=(·=b)) ((Turn.refl _ w).setCell (.inl rfl)) (fun g hg e=>?_),fun x hx=>?_,G.move (fun c _ hq=>⟨J5 hi hq,?_⟩) h.far⟩
 ·have e':g=b:=e;subst e';exact h.apart _ hm hg
 ·rcases List.mem_or_eq_of_mem_set hx with hx|rfl
  ·exact h.apart x hx
  ·exact h.apart (b,cs,t) hm
 ·exact Below.heap_setCell _ _ _ _ (fun e=>hq.2.1 _ hm e.symm)
theorem BF.row (i:Nat) {b:Nat} {cs:Array Value} {t:TypeId} (vs:Array Value) (h:BF M U w0 w L R G) (hi:L[i]?=some (b,cs,t)):BF M U w0 (w.setRow b vs) (L.set i (b,vs,t)) R G:=by
 have hm:=List.mem_of_getElem? hi;refine⟨h.st.row i vs hi,h.rows.turned (M:=(·=b)) ((Turn.refl _ w).setRow (.inl rfl)) (fun g hg e=>?_),fun x hx=>?_,G.move (fun c _ hq=>⟨J5 hi hq,?_⟩) h.far⟩
 ·have e':g=b:=e;subst e';exact h.apart _ hm hg
 ·rcases List.mem_or_eq_of_mem_set hx with hx|rfl
  ·exact h.apart x hx
  ·exact h.apart (b,cs,t) hm
 ·exact Ap (fun e=>hq.2.1 _ hm e.symm)
theorem BF.turn1 (i:Nat) {b:Nat} {cs cs':Array Value} {t:TypeId} (h:BF M U w0 w L R G) (hi:L[i]?=some (b,cs,t)) (ht:Turn (·=b) w w') (hb:w'.heap[b]?=some (.cells cs' t (0,0))):BF M U w0 w' (L.set i (b,cs',t)) R G:=by
 have hm:=List.mem_of_getElem? hi;have ho:=(h.st.own _ hm).1;refine⟨⟨h.st.turn.trans ht (fun k hk e=>by
  have e':k=b:=e;subst e';exact ho.resolve_right (by simp only;omega)),fun x hx=>?_,?_⟩,h.rows.turned ht (fun g hg e=>?_),fun x hx=>?_,G.move (fun c hl hq=>⟨J5 hi hq,ht.block c hl (fun e=>hq.2.1 _ hm (by have e':c=b:=e;exact e'.symm))⟩) h.far⟩
 ·obtain⟨j,hj⟩:=List.mem_iff_getElem?.1 hx;rw[List.getElem?_set]at hj;split at hj
  ·split at hj
   ·cases hj;exact⟨ho,hb⟩
   ·cases hj
  ·rename_i hne;have hox:=h.st.own x (List.mem_of_getElem? hj);have hnb:=Fu h.st.apart hi hj hne;exact⟨hox.1,(ht.block _ (Array.getElem?_eq_some_iff.1 hox.2).1 (fun e=>hnb (by have e':x.1=b:=e;exact e'.symm))).trans hox.2⟩
 ·have e:(L.set i (b,cs',t)).map (·.1)=L.map (·.1):=by
   rw[List.map_set];have h1:(L.map (·.1))[i]?=some b:=by simp[hi]
   apply List.ext_getElem?;intro j;rw[List.getElem?_set];split
   ·rename_i e;subst e;rw[h1,if_pos (by simpa using(List.getElem?_eq_some_iff.1 hi).1)]
   ·rfl
  rw[e];exact h.st.apart
 ·have e':g=b:=e;subst e';exact h.apart _ hm hg
 ·rcases List.mem_or_eq_of_mem_set hx with hx|rfl
  ·exact h.apart x hx
  ·exact h.apart (b,cs,t) hm
theorem BF.snoc (h:BF M U w0 w L R G) (e:TypeId) (k:Nat):BF M U w0 w L (R++[⟨e,k,.slice none 0 0,0,[]⟩]) G:=by
 have e1:(R++[(⟨e,k,.slice none 0 0,0,[]⟩:Row)]).flatMap Row.blk=R.flatMap Row.blk:=by
  rw[List.flatMap_append];simp only[List.flatMap_cons,List.flatMap_nil,Row.blk,Value.ownBlock,Option.toList_none,List.append_nil]
 exact⟨h.st,h.rows.snoc e k,fun x hx=>by rw[e1];exact h.apart x hx,G.move (fun b _ hq=>⟨⟨hq.1,hq.2.1,by rw[e1];exact hq.2.2⟩,rfl⟩) h.far⟩
theorem BF.lt (h:BF M U w0 w L R G):(∀x∈L,x.1<w.heap.size)/\∀g∈R.flatMap Row.blk,g<w.heap.size:=
 ⟨fun x hx=>(Array.getElem?_eq_some_iff.1 (h.st.own x hx).2).1,fun g hg=>(h.rows.mem_blk hg).2⟩
theorem BF.grown {i:Nat} {r r':Row} (h:BF M U w0 w L R G) (hi:R[i]?=some r) (hg:w.grownBy w' r.v.ownBlock) (hown:w'.ownsRow w0.heap.size r'.e r'.k r'.v r'.n r'.xs)
 (hb:r'.v.ownBlock=r.v.ownBlock\/∃g,r'.v.ownBlock=some g/\w.heap.size<=g):BF M U w0 w' L (R.set i r') G:=by
 have hm:∀g,r.v.ownBlock=some g->g∈R.flatMap Row.blk:=fun g hg=>List.mem_flatMap.2 ⟨r,List.mem_of_getElem? hi,by unfold Row.blk;simp[hg]⟩
 have hL:∀x∈L,¬(r.v.ownBlock=some x.1):=fun x hx e=>h.apart x hx (hm _ e)
 have hmem:∀g,g∈(R.set i r').flatMap Row.blk->g∈R.flatMap Row.blk\/w.heap.size<=g:=fun g hmem=>by
  obtain⟨s,hs,hgs⟩:=List.mem_flatMap.1 hmem;rcases List.mem_or_eq_of_mem_set hs with hs|rfl
  ·exact .inl (List.mem_flatMap.2 ⟨s,hs,hgs⟩)
  ·unfold Row.blk at hgs;rcases hb with hb|⟨g',hb,hlt⟩
   ·rw[hb]at hgs;exact .inl (hm g (by simpa using hgs))
   ·rw[hb]at hgs;simp only[Option.toList_some,List.mem_singleton]at hgs;exact .inr (by omega)
 refine⟨h.st.turned (Turn.of_grown hg) (fun k hk hmk=>?_) hL,h.rows.grown hi hg hown hb,fun x hx hx2=>?_,G.move (fun b hl hq=>⟨⟨hq.1,hq.2.1,fun hm2=>?_⟩,hg.block b hl (fun e=>hq.2.2 (hm b e.symm))⟩) h.far⟩
 ·have:=(h.rows.mem_blk (hm k hmk)).1;omega
 ·rcases hmem _ hx2 with h1|h1
  ·exact h.apart x hx h1
  ·have:=h.lt.1 x hx;omega
 ·rcases hmem _ hm2 with h1|h1
  ·exact hq.2.2 h1
  ·omega
theorem BF.own {i:Nat} {r:Row} (h:BF M U w0 w L R G) (hi:R[i]?=some r):w.ownsRow w0.heap.size r.e r.k r.v r.n r.xs:=h.rows.own r (List.mem_of_getElem? hi)
theorem BF.store {i e k g n cap:Nat} {xs:List Value} (h:BF M U w0 w L R G) (hi:R[i]?=some ⟨e,k,.slice (some ⟨g,0,none⟩) n cap,n,xs⟩) (j:Nat) (u:Value):
 BF M U w0 (w.setCell ⟨g,j,none⟩ u) L (R.set i ⟨e,k,.slice (some ⟨g,0,none⟩) n cap,n,xs.set j u⟩) G:=by
 have h1:=h.rows.store hi j u
 have hg:w.grownBy (w.setCell ⟨g,j,none⟩ u) (some g):=⟨rfl,rfl,rfl,by simp,fun k _ hk=>Below.heap_setCell _ _ _ _ (fun e=>hk (by simp[e]))⟩
 have hl:i<R.length:=(List.getElem?_eq_some_iff.1 hi).1
 exact h.grown hi hg (h1.own _ (List.mem_set hl _)) (.inl rfl)
theorem BF.fin {α:Type} {E:ElRep α} (hk:0<E.k) {l:List α} {e:TypeId} {v:Value} {xs:List Value} (h:BF M U w0 w L (R++[⟨e,E.k,v,l.length,xs⟩]) (G.and (farL E l xs))) (hU:∀b,w0.heap.size<=b->U b):BF M U w0 w L R (G.and (farSl E hk v l)):=by
 have e1:(R++[(⟨e,E.k,v,l.length,xs⟩:Row)]).flatMap Row.blk=R.flatMap Row.blk++v.ownBlock.toList:=by
  rw[List.flatMap_append];simp only[List.flatMap_cons,List.flatMap_nil,Row.blk,List.append_nil]
 have hn:=h.rows.apart;rw[e1]at hn;have hd:=(List.nodup_append.1 hn);have hmv:∀b,OffB U L (R++[⟨e,E.k,v,l.length,xs⟩]) b->OffB U L R b:=fun b hq=>⟨hq.1,hq.2.1,fun hm=>hq.2.2 (by rw[e1];exact List.mem_append_left _ hm)⟩;have hlast:=h.rows.own _ (List.mem_append_right _ (List.mem_singleton.2 rfl));refine⟨h.st,⟨fun r hr=>h.rows.own r (List.mem_append_left _ hr),hd.1⟩,fun x hx hm=>h.apart x hx (by rw[e1];exact List.mem_append_left _ hm),G.move (fun b _ hq=>⟨hmv b hq,rfl⟩) h.far.1,xs,?_,(LIn.move (fun b _ hq=>⟨hmv b hq,rfl⟩) h.far.2)⟩;have hown:w.ownsRow w0.heap.size e E.k v l.length xs:=hlast;obtain⟨hl,⟨rfl,h0⟩|⟨g,cap,cur,rfl,hb,hblk,h1,h2,h3,h4⟩⟩:=hown
 ·exact⟨none,0,by rw[h0],by omega,fun hp=>by omega⟩
 ·refine⟨some ⟨g,0,none⟩,cap,rfl,h1,fun _=>⟨g,0,rfl,⟨hU g hb,fun x hx e=>?_,fun hm=>?_⟩,?_⟩⟩
  ·exact h.apart x hx (by rw[e1,e];exact List.mem_append_right _ (by simp[Value.ownBlock]))
  ·exact hd.2.2 g hm g (by simp[Value.ownBlock]) rfl
  ·intro j u hj;have hcs:cur.toList.take (l.length * E.k)=xs:=h4;rw[<- hcs,List.getElem?_take]at hj;split at hj
   ·simp only[World.cell?,hblk,Nat.zero_add,Nat.zero_mul];simpa[Array.getElem?_toList]using hj
   ·cases hj
theorem BF.add {C:Nat} (h:BF M U w0 w L R G) (G2:Far) (hU:∀b,w0.heap.size<=b->U b) (hC:w0.heap.size<=C) (hL:∀x∈L,x.1<C) (hR:∀g∈R.flatMap Row.blk,g<C) (h2:G2.P (C≤·) w):BF M U w0 w L R (G.and G2):=
 ⟨h.st,h.rows,h.apart,h.far,G2.move (fun b _ hq=>⟨⟨hU b (Nat.le_trans hC hq),fun x hx e=>by have h1:=hL x hx;have h2:C<=b:=hq;omega,fun hm=>by have h1:=hR b hm;have h2:C<=b:=hq;omega⟩,rfl⟩) h2⟩
theorem BF.add0 {Q:Nat->Prop} (h:BF M U w0 w L R G) (G2:Far) (hL:∀x∈L,¬Q x.1) (hU:∀b,Q b->U b) (hQ:∀b,Q b->b<w0.heap.size) (h2:G2.P Q w):BF M U w0 w L R (G.and G2):=
 ⟨h.st,h.rows,h.apart,h.far,G2.move (fun b _ hq=>⟨⟨hU b hq,fun x hx e=>hL x hx (by rw[e];exact hq),fun hm=>by have h1:=(h.rows.mem_blk hm).1;have h2:=hQ b hq;omega⟩,rfl⟩) h2⟩
theorem BF.addL {α:Type} {E:ElRep α} {l:List α} {xs:List Value} {a:α} {cs:List Value} (h:BF M U w0 w L R ((G.and (farL E l xs)).and ⟨fun Q w=>E.In Q w a cs,fun hq h=>E.move hq h⟩)):BF M U w0 w L R (G.and (farL E (l++[a]) (xs++cs))):=
 h.imp fun _ _ k=>⟨k.1.1,LIn.append k.1.2 (LIn.one k.2)⟩
def farE {α:Type} (E:ElRep α) (a:α) (cs:List Value):Far:=⟨fun Q w=>E.In Q w a cs,fun hq h=>E.move hq h⟩
def farQ (q:Qy) (cs:List Value):Far:=⟨fun Q w=>QyIn Q w q cs,fun hq h=>Ax hq _ _ h⟩
theorem BF.gen {P:Program} {c:Code} {Q:Exit->Act->World->Prop} {a:Act} (h:BF M U w0 w L R G) (k:∀W,Hid (BF M U w0 W L R G)->Code.wp P c Q a W):Code.wp P c Q a w:=k w h
theorem BF.over {n1:Nat} {v:QV} {q:Qy} {i qb:Nat} {cs:Array Value} (k:Int) (h:BF M U w0 w L R (G.and (farQ q v.arr.toList))) (hU:∀b,w0.heap.size<=b->U b) (hi:L[i]?=some (qb,cs,59)) (hge:w.heap.size<=n1) (hbk:w'.heap[n1]?=some (.cells v.arr 59 (0,0))) (hbl:Below w.heap.size w w'):
 BF M U w0 (w'.setRow qb (QV.arr {k:=k,s:=(some ⟨n1,0,none⟩,1,1)})) (L.set i (qb,QV.arr {k:=k,s:=(some ⟨n1,0,none⟩,1,1)},59)) R (G.and (farSl qyE (by decide) (.slice (some ⟨n1,0,none⟩) 1 1) [q])):=by
 have hlt:=h.lt
 have hsz:=h.size
 have h2:=h.kept hbl
 have ho:OffB U L R n1:=⟨hU n1 (by omega),fun x hx e=>by have:=hlt.1 x hx;omega,fun hm=>by have:=hlt.2 n1 hm;omega⟩
 refine BF.row (G:=G.and (farSl qyE (by decide) (.slice (some ⟨n1,0,none⟩) 1 1) [q])) i _ ⟨h2.st,h2.rows,h2.apart,h2.far.1,?_⟩ hi
 refine⟨v.arr.toList,⟨some ⟨n1,0,none⟩,1,rfl,Nat.le_refl _,fun _=>⟨n1,0,rfl,ho,fun j u hj=>?_⟩⟩,⟨v.arr.toList,[],(List.append_nil _).symm,h2.far.2,rfl⟩⟩
 have hj':v.arr[j]?=some u:=by simpa[Array.getElem?_toList]using hj
 simp only[World.cell?,hbk,Nat.zero_add,Nat.zero_mul]
 exact hj'
theorem BF.append_new {P:Program} {ops:Array Oper} {rest:List Oper} {o:Oper} {a:Act} {Q:Exit->Act->World->Prop} {W:World} (hgd:o.guard=none) (s x:Operand) (t:TypeId)
 (ho:o.op=.call {callee:=.builtin .append,args:=#[s,x],argTypes:=#[t,t]})
 (e:TypeId) (z:Value) (size bytes:Nat) (ht:P.underlying t=some (.slice e)) (hinfo:(P.info? e).map (fun i=>(i.zero,i.size,i.bytes))=some (some z,size,bytes)) (hzs:z.cells.size=size) (hsz:0<size)
 (i:Nat) (v:Value) (n:Nat) (xs:List Value) (F:BF M U w0 W L R G) (hi:R[i]?=some ⟨e,size,v,n,xs⟩) (hs:a.eval s=v)
 (cs:Array Value) (nb:Nat) (hm:cs.size=size) (hx:a.eval x=.slice (some ⟨nb,0,none⟩) 1 1) (hnb:W.heap.size=nb) (h1:∀u∈cs.toList,u.oneCell'=true)
 (hbytes:(n+1) * bytes<=140737488355328) (h63:n+1<=maxLen)
 (h:∀ga gc w',Hid (BF M U w0 w' L (R.set i ⟨e,size,.slice ga (n+1) gc,n+1,xs++cs.toList⟩) G)->Hid (Turn (fun k=>v.ownBlock=some k) W w')->wpList P ops Q rest (a.put o.dst (.slice ga (n+1) gc)) w'):wpList P ops Q (o::rest) a (W.alloc (.cells cs e)):=by
 refine A9 hgd s x t ho e z size bytes ht hinfo hzs hsz w0.heap.size v n xs hs (F.own hi) cs 1 nb (by omega) hx hnb h1 hbytes h63 F.size ?_
 intro v' w' k1 k2 k3
 obtain⟨ga,gc,rfl,_⟩:=k1.slAt
 exact h ga gc w' (F.grown hi k2 k1 k3) (Turn.of_grown k2)
end Go.Proofs.YtjmmbebkbkgefaaGreatDoor
namespace Go.Proofs.YtjmmbebkbkgefaaGreatDoor
open Go.RowKit Go.Sort Go.Proofs.Tryz
theorem Yp:En 39:=enters_of func39 (by kernel_rfl) rfl
theorem Wd (Q:Nat->Prop) (nb:Nat) (nm:Bytes) (t:Tbl) (cs:List Value) (w:World) (h1:w.cell? ⟨nb,0,none⟩=some (.string ⟨nm.toArray⟩)) (hin:tblE.In Q w t cs):
 Calls prog 39 #[tblE.val cs,.pointer (some ⟨nb,0,none⟩)] w (Says (.bool (t.name==nm)) w):=by
 obtain⟨ca,cc,ia,ic,ka,kc,rfl,_⟩:=hin
 show Calls prog 39 #[.agg #[.string ⟨t.name.toArray⟩,.slice ca t.cols.length cc,.slice ia t.indexes.length ic,.slice ka t.checks.length kc],.pointer (some ⟨nb,0,none⟩)] w _
 have l1:=block_lt_of_cell h1
 go_enter func39,ntmps39
 go_wp2_with fail
 go_returns
 exact⟨rfl,(Below.refl _ _).alloc (Nat.le_refl _) _⟩
theorem Jk {Q:Nat->Prop} {w:World}:∀{l:List Bytes} {acs:List Value},LIn strE Q w l acs->acs=l.map fun s=>.string ⟨s.toArray⟩
 | [],acs,h=>h
 | s::l,acs,h=>by
  obtain⟨c1,c2,rfl,h1,h2⟩:=h;have h1:c1=[.string ⟨s.toArray⟩]:=h1;rw[Jk h2,h1];rfl
theorem V9 (Q:Nat->Prop) (l:List Bytes) (x:Bytes) (a:Option Addr) (c:Nat) (w:World) (h:RSl strE Q w (.slice a l.length c) l) (hl:l.length<=1000000):Calls prog 40 #[.slice a l.length c,.string ⟨x.toArray⟩] w (Says (.bool (decide (x∈l))) w):=by
 obtain⟨acs,⟨a',c',e,hc,h1⟩,h2⟩:=h;simp only[Value.slice.injEq]at e;obtain⟨rfl,_,rfl⟩:=e;have h3:=Jk h2;subst h3;rcases Nat.eq_zero_or_pos l.length with h0|h0
 ·have hn:l=[]:=List.eq_nil_of_length_eq_zero h0;subst hn;refine Calls.mono (Tryz.slices_Contains_string_empty a c _ w) ?_;rintro e w' ⟨rfl,rfl⟩;exact⟨by simp,Below.refl _ _⟩
 ·obtain⟨b,o,rfl,_,hat⟩:=h1 h0;refine Calls.mono (Tryz.slices_Contains_string b o l.length c (l.map fun s=>(⟨s.toArray⟩:ByteArray)) ⟨x.toArray⟩ w (by simp) (by omega) (fun j hj=>?_)) ?_
  ·rw[List.length_map]at hj;exact hat j _ (by simp[List.getD_eq_getElem?_getD,hj])
  ·rintro e w' ⟨rfl,rfl⟩;refine⟨?_,Below.refl _ _⟩;rw[List.take_of_length_le (by simp),Gg];simp
theorem O0 {Q:Nat->Prop} {w:World} {l:List Int} {acs:List Value} (h:LIn intE Q w l acs):acs=intVals l:=Fe h
theorem Wa (Q:Nat->Prop) (l:List Int) (x:Int) (a:Option Addr) (c:Nat) (w:World) (h:RSl intE Q w (.slice a l.length c) l) (hl:l.length<=1000000):Calls prog 44 #[.slice a l.length c,.int .i64 x] w (Says (.bool (decide (x∈l))) w):=by
 obtain⟨acs,⟨a',c',e,hc,h1⟩,h2⟩:=h;simp only[Value.slice.injEq]at e;obtain⟨rfl,_,rfl⟩:=e;have h3:=O0 h2;subst h3;rcases Nat.eq_zero_or_pos l.length with h0|h0
 ·have hn:l=[]:=List.eq_nil_of_length_eq_zero h0;subst hn;refine Calls.mono (Tryz.slices_Contains_int_empty a c _ w) ?_;rintro e w' ⟨rfl,rfl⟩;exact⟨by simp,Below.refl _ _⟩
 ·obtain⟨b,o,rfl,_,hat⟩:=h1 h0;refine Calls.mono (Tryz.slices_Contains_int b o l.length c l x w (Nat.le_refl _) (by omega) (fun j hj=>?_)) ?_
  ·have:=hat j (.int .i64 (l.getD j 0)) (by simp[intVals,List.getD_eq_getElem?_getD,hj]);simpa using this
  ·rintro e w' ⟨rfl,rfl⟩;refine⟨?_,Below.refl _ _⟩;rw[List.take_length];simp
theorem Gd (x:Int):∀(l:List Int) (i:Nat),Lib.idxFrom l x i=if x∈l then((i+l.idxOf x:Nat):Int)else -1
 | [],i=>rfl
 | z::l,i=>by
  unfold Lib.idxFrom;by_cases h:z=x
  ·subst h;simp
  ·rw[if_neg h,Gd x l (i+1)];have hx:¬x=z:=fun e=>h e.symm;simp only[List.mem_cons,hx,false_or];split
   ·rw[List.idxOf_cons,show(z==x)=false by simpa using h];simp only[cond_false];congr 1;omega
   ·rfl
theorem X5 (Q:Nat->Prop) (l:List Int) (x:Int) (a:Option Addr) (c:Nat) (w:World) (h:RSl intE Q w (.slice a l.length c) l) (hl:l.length<=1000000):Calls prog 46 #[.slice a l.length c,.int .i64 x] w (Says (.int .i64 (placeY l x)) w):=by
 obtain⟨acs,⟨a',c',e,hc,h1⟩,h2⟩:=h;simp only[Value.slice.injEq]at e;obtain⟨rfl,_,rfl⟩:=e;have h3:=O0 h2;subst h3;have hp:Lib.idxOf l x=placeY l x:=by
  unfold Lib.idxOf placeY;rw[Gd];simp
 rcases Nat.eq_zero_or_pos l.length with h0|h0
 ·have hn:l=[]:=List.eq_nil_of_length_eq_zero h0;subst hn;refine Calls.mono (Tryz.slices_Index_int_empty a c _ w) ?_;rintro e w' ⟨rfl,rfl⟩;exact⟨by rw[hp],Below.refl _ _⟩
 ·obtain⟨b,o,rfl,_,hat⟩:=h1 h0;refine Calls.mono (Tryz.slices_Index_int b o l.length c l x w (Nat.le_refl _) (by omega) (fun j hj=>?_)) ?_
  ·have:=hat j (.int .i64 (l.getD j 0)) (by simp[intVals,List.getD_eq_getElem?_getD,hj]);simpa using this
  ·rintro e w' ⟨rfl,rfl⟩;exact⟨by rw[List.take_length,hp],Below.refl _ _⟩
end Go.Proofs.YtjmmbebkbkgefaaGreatDoor
