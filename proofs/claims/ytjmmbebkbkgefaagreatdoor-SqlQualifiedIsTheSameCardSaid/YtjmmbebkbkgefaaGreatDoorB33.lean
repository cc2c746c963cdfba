/- Part 33; the last part says what is proved. No condition. -/
import Derived.Test.YtjmmbebkbkgefaaGreatDoorB26
import Derived.Test.YtjmmbebkbkgefaaGreatDoorB32
set_option linter.unusedVariables false
set_option linter.unusedSimpArgs false
set_option maxHeartbeats 8000000
set_option maxRecDepth 100000
namespace Go.Proofs.YtjmmbebkbkgefaaGreatDoor
open Go.RowKit Go.Sort Tryz
variable {base wb:Nat} {w0 w w' w2:World} {L:List Blk} {xs ys zs:List Bytes}
theorem Vf (p:Pk) (cs:List Value) (hk:p.picked=true) (w:World) (hin:pkE.In (·<base) w p cs) (h:Wrt base w wb xs) (he:Env base w) (hn:xs.length+(itemP p).length+10<=1000000000):
 Calls prog 134 #[.pointer (some ⟨wb,0,none⟩),.agg cs.toArray] w (Puts base wb w (xs++itemP p)):=by
 have hk2:p.fn=1\/((p.fn=0\/p.fn=2\/p.fn=3\/p.fn=4)/\p.arg.formed=true):=by
  unfold Pk.picked at hk;split at hk
  ·exact .inl (by assumption)
  ·simp only[Bool.and_eq_true,decide_eq_true_eq,Ex.good]at hk;exact .inr ⟨by omega,hk.2.2⟩
 obtain⟨c0,rfl,hin⟩:=hin
 have C:Hid (p.arg.formed=true->∀W zs,Turn (base≤·) w W->Wrt base W wb zs->Env base W->zs.length+(exPr p.arg 0).length+10<=1000000000->Calls prog 65 #[.pointer (some ⟨wb,0,none⟩),.agg c0.toArray] W (Puts base wb W (zs++exPr p.arg 0))):=
  fun hf W zs ht hw hE hl=>Hj p.arg c0 W (hin.turned ht (fun b hb hk=>by omega)) hf hw hE hl
 obtain⟨a,c,rfl⟩:=Dv hin
 have hP:Hid (itemP p=if p.fn=0 then exPr p.arg 0 else if p.fn=1 then[[99,111,117,110,116],[40],[42],[41]]else[if p.fn=2 then[115,117,109]else if p.fn=3 then[109,105,110]else[109,97,120],[40]]++exPr p.arg 0++[[41]]):=rfl
 rw[hP.out]at hn ⊢
 have H:=Lib.hid h
 have HE:=Lib.hid he
 have S1:Hid (WFr base wb w (w.alloc (.cells #[.int .i64 p.fn,.int .i64 p.arg.op,.string ⟨p.arg.table.toArray⟩,.string ⟨p.arg.name.toArray⟩,.int .i64 p.arg.val.k,.int .i64 p.arg.val.n,.string p.arg.val.s,.slice a p.arg.args.length c] 70)) [(w.heap.size,#[.int .i64 p.fn,.int .i64 p.arg.op,.string ⟨p.arg.table.toArray⟩,.string ⟨p.arg.name.toArray⟩,.int .i64 p.arg.val.k,.int .i64 p.arg.val.n,.string p.arg.val.s,.slice a p.arg.args.length c],70)] xs):=WFr.alloc (WFr.start h)
 clear hk h he hP hin
 show Calls prog 134 #[.pointer (some ⟨wb,0,none⟩),.agg #[.int .i64 p.fn,.int .i64 p.arg.op,.string ⟨p.arg.table.toArray⟩,.string ⟨p.arg.name.toArray⟩,.int .i64 p.arg.val.k,.int .i64 p.arg.val.n,.string p.arg.val.s,.slice a p.arg.args.length c]] w _
 change Hid (p.arg.formed=true->∀W zs,Turn (base≤·) w W->Wrt base W wb zs->Env base W->zs.length+(exPr p.arg 0).length+10<=1000000000->Calls prog 65 #[.pointer (some ⟨wb,0,none⟩),.agg #[.int .i64 p.arg.op,.string ⟨p.arg.table.toArray⟩,.string ⟨p.arg.name.toArray⟩,.int .i64 p.arg.val.k,.int .i64 p.arg.val.n,.string p.arg.val.s,.slice a p.arg.args.length c]] W (Puts base wb W (zs++exPr p.arg 0)))at C
 generalize exPr p.arg 0=ps at *
 generalize p.arg.formed=fm at *
 generalize p.arg.op=op at *
 generalize p.arg.table=t at *
 generalize p.arg.name=n at *
 generalize p.arg.val=v at *
 generalize p.arg.args.length=m at *
 generalize p.fn=fn at *
 rcases hk2 with rfl|⟨hfn,rfl⟩
 ·rw[if_neg (by decide),if_pos rfl]at hn ⊢;simp only[List.length_cons,List.length_nil]at hn;have F1:=S1.out.facts;simp only[St.Facts,cellFacts,apartFacts,and_true]at F1;clear C;go_enter func134,ntmps134;go_wp2_with fail;have S1c:Hid (WFr base wb w _ _ xs):=WFr.alloc S1.out (cs:=#[.string ⟨#[99,111,117,110,116]⟩,.string ⟨#[40]⟩,.string ⟨#[42]⟩,.string ⟨#[41]⟩]) (t:=9);simp only[World.size_alloc]at S1c;refine S1c.out.call (put_any [[99,111,117,110,116],[40],[42],[41]] _ _ S1c.out.wrt (S1c.out.env H.out HE.out).hi (slAt_parts (S1c.out.blk 0 rfl) rfl rfl (by decide)) (by simp) (by simp;omega)) ?_;intro w2 S2;go_wp2_with fail;go_returns;exact S2.out.done
 ·have CC:=Lib.hid (C.out rfl);clear C;rcases hfn with rfl|rfl|rfl|rfl
  ·rw[if_pos rfl]at hn ⊢;go_enter func134,ntmps134;go_wp2_with fail;refine S1.out.call (CC.out _ _ (S1.out.old H.out) S1.out.wrt (S1.out.env H.out HE.out) hn) ?_;intro w2 S2;go_wp2_with fail;go_returns;exact S2.out.done
  ·skip;rw[if_neg (by decide),if_neg (by decide)]at hn ⊢;simp only[List.length_append,List.length_cons,List.length_nil]at hn;have F1:=S1.out.facts;simp only[St.Facts,cellFacts,apartFacts,and_true]at F1;go_enter func134,ntmps134;go_wp2_with fail;have S1c:Hid (WFr base wb w _ _ xs):=WFr.alloc (WFr.laid S1.out (o:=.cells #[.string ⟨#[]⟩,.string ⟨#[]⟩,.string ⟨#[115,117,109]⟩,.string ⟨#[109,105,110]⟩,.string ⟨#[109,97,120]⟩] 9)) (cs:=#[.string ⟨#[115,117,109]⟩,.string ⟨#[40]⟩]) (t:=9);simp only[World.size_alloc]at S1c;refine S1c.out.call (put_any [[115,117,109],[40]] _ _ S1c.out.wrt (S1c.out.env H.out HE.out).hi (slAt_parts (S1c.out.blk 0 rfl) rfl rfl (by decide)) (by simp) (by simp;omega)) ?_;intro w2 S2;have F2:=S2.out.tail.facts;simp only[St.Facts,cellFacts,apartFacts,and_true]at F2;clear S1c S1 F1;go_wp2_with fail;refine S2.out.call (CC.out _ _ (S2.out.old H.out) S2.out.wrt (S2.out.env H.out HE.out) (by simp;omega)) ?_;intro w3 S3;clear S2 F2;go_wp2_with fail;refine(WFr.alloc S3.out).call (put_any [[41]] _ _ (WFr.alloc S3.out).wrt ((WFr.alloc S3.out).env H.out HE.out).hi (slAt_parts ((WFr.alloc S3.out).blk 0 rfl) rfl rfl (by decide)) (by simp) (by simp;omega)) ?_;intro w4 S4;go_wp2_with fail;go_returns;have hd:=S4.out.done;simp only[List.append_assoc,List.cons_append,List.nil_append]at hd;exact hd
  ·skip;rw[if_neg (by decide),if_neg (by decide)]at hn ⊢;simp only[List.length_append,List.length_cons,List.length_nil]at hn;have F1:=S1.out.facts;simp only[St.Facts,cellFacts,apartFacts,and_true]at F1;go_enter func134,ntmps134;go_wp2_with fail;have S1c:Hid (WFr base wb w _ _ xs):=WFr.alloc (WFr.laid S1.out (o:=.cells #[.string ⟨#[]⟩,.string ⟨#[]⟩,.string ⟨#[115,117,109]⟩,.string ⟨#[109,105,110]⟩,.string ⟨#[109,97,120]⟩] 9)) (cs:=#[.string ⟨#[109,105,110]⟩,.string ⟨#[40]⟩]) (t:=9);simp only[World.size_alloc]at S1c;refine S1c.out.call (put_any [[109,105,110],[40]] _ _ S1c.out.wrt (S1c.out.env H.out HE.out).hi (slAt_parts (S1c.out.blk 0 rfl) rfl rfl (by decide)) (by simp) (by simp;omega)) ?_;intro w2 S2;have F2:=S2.out.tail.facts;simp only[St.Facts,cellFacts,apartFacts,and_true]at F2;clear S1c S1 F1;go_wp2_with fail;refine S2.out.call (CC.out _ _ (S2.out.old H.out) S2.out.wrt (S2.out.env H.out HE.out) (by simp;omega)) ?_;intro w3 S3;clear S2 F2;go_wp2_with fail;refine(WFr.alloc S3.out).call (put_any [[41]] _ _ (WFr.alloc S3.out).wrt ((WFr.alloc S3.out).env H.out HE.out).hi (slAt_parts ((WFr.alloc S3.out).blk 0 rfl) rfl rfl (by decide)) (by simp) (by simp;omega)) ?_;intro w4 S4;go_wp2_with fail;go_returns;have hd:=S4.out.done;simp only[List.append_assoc,List.cons_append,List.nil_append]at hd;exact hd
  ·skip;rw[if_neg (by decide),if_neg (by decide)]at hn ⊢;simp only[List.length_append,List.length_cons,List.length_nil]at hn;have F1:=S1.out.facts;simp only[St.Facts,cellFacts,apartFacts,and_true]at F1;go_enter func134,ntmps134;go_wp2_with fail;have S1c:Hid (WFr base wb w _ _ xs):=WFr.alloc (WFr.laid S1.out (o:=.cells #[.string ⟨#[]⟩,.string ⟨#[]⟩,.string ⟨#[115,117,109]⟩,.string ⟨#[109,105,110]⟩,.string ⟨#[109,97,120]⟩] 9)) (cs:=#[.string ⟨#[109,97,120]⟩,.string ⟨#[40]⟩]) (t:=9);simp only[World.size_alloc]at S1c;refine S1c.out.call (put_any [[109,97,120],[40]] _ _ S1c.out.wrt (S1c.out.env H.out HE.out).hi (slAt_parts (S1c.out.blk 0 rfl) rfl rfl (by decide)) (by simp) (by simp;omega)) ?_;intro w2 S2;have F2:=S2.out.tail.facts;simp only[St.Facts,cellFacts,apartFacts,and_true]at F2;clear S1c S1 F1;go_wp2_with fail;refine S2.out.call (CC.out _ _ (S2.out.old H.out) S2.out.wrt (S2.out.env H.out HE.out) (by simp;omega)) ?_;intro w3 S3;clear S2 F2;go_wp2_with fail;refine(WFr.alloc S3.out).call (put_any [[41]] _ _ (WFr.alloc S3.out).wrt ((WFr.alloc S3.out).env H.out HE.out).hi (slAt_parts ((WFr.alloc S3.out).blk 0 rfl) rfl rfl (by decide)) (by simp) (by simp;omega)) ?_;intro w4 S4;go_wp2_with fail;go_returns;have hd:=S4.out.done;simp only[List.append_assoc,List.cons_append,List.nil_append]at hd;exact hd
theorem Qq (qb:Nat) (s:Srt) (hs:s.okS=true) (w:World) (h:Wrt base w wb xs) (he:Env base w) (hq:QAt wb qb w) (hn:xs.length+(srtP s).length+10<=1000000000):
 Calls prog 137 #[.agg #[.int .i64 s.place,.bool s.down],.pointer (some ⟨qb,0,none⟩)] w (Puts base wb w (xs++srtP s)):=by
 have hb:0<=s.place/\s.place<=549755813887:=by simpa[Srt.okS]using hs
 have hP:Hid (srtP s=pNum s.place++whenP s.down [[100,101,115,99]]):=rfl
 rw[hP.out]at hn ⊢
 simp only[List.length_append]at hn
 obtain⟨pl,dn⟩:=s
 simp only at *
 have hpl:(pNum pl).length<=2:=by unfold pNum;split<;>simp
 have H:=Lib.hid h
 have HE:=Lib.hid he
 have HQ:=Lib.hid hq
 have S1:Hid (WFr base wb w (w.alloc (.cells #[.int .i64 pl,.bool dn] 156)) [(w.heap.size,#[.int .i64 pl,.bool dn],156)] xs):=WFr.alloc (WFr.start h)
 have y0:=(HQ.out.went S1.out.wr).cell
 clear h he hq hs hP
 go_enter func137,ntmps137
 go_wp2_with fail
 refine S1.out.call (number38_any pl (by omega) (by omega) _ S1.out.wrt (S1.out.env H.out HE.out) (by omega)) ?_
 intro w2 S2
 have y0:=(HQ.out.went S2.out.wr).cell
 have F2:=S2.out.facts
 simp only[St.Facts,cellFacts,apartFacts,and_true]at F2
 go_wp2_with fail
 refine(WFr.alloc S2.out).call (A4 dn [[100,101,115,99]] _ _ (WFr.alloc S2.out).wrt ((WFr.alloc S2.out).env H.out HE.out).hi (slAt_parts ((WFr.alloc S2.out).blk 0 rfl) rfl rfl (by decide)) (by simp) (by simp;omega)) ?_
 intro w3 S3
 go_wp2_with fail
 go_returns
 rw[<- List.append_assoc]
 exact S3.out.done
end Go.Proofs.YtjmmbebkbkgefaaGreatDoor
namespace Go.Proofs.YtjmmbebkbkgefaaGreatDoor
open Go.RowKit Go.Sort Tryz
variable {base wb:Nat} {w0 w w' w2:World} {L:List Blk} {xs ys zs:List Bytes}
theorem WFr.only (h:WFr base wb w0 w L xs) {x:Blk} (hx:x∈L):WFr base wb w0 w [x] xs:=
 ⟨h.wr,⟨h.st.turn,fun y hy=>by simp only[List.mem_singleton]at hy;subst hy;exact h.st.own y hx,by simp⟩,fun y hy=>by simp only[List.mem_singleton]at hy;subst hy;exact h.ge y hx,fun y hy=>by simp only[List.mem_singleton]at hy;subst hy;exact h.apart y hx⟩
end Go.Proofs.YtjmmbebkbkgefaaGreatDoor
namespace Go.Proofs.YtjmmbebkbkgefaaGreatDoor
open Go.RowKit Go.Sort Tryz
variable {base wb:Nat} {w0 w w' w2:World} {L:List Blk} {xs ys zs:List Bytes}
theorem Kb:∀{ns:List Bytes} {es:List Ex} {k:Nat} {n:Bytes} {e:Ex},ns[k]?=some n->es[k]?=some e->joinsP (ns.take (k+1)) (es.take (k+1))=joinsP (ns.take k) (es.take k)++([[106,111,105,110],n,[111,110]]++exPr e 0)
 | [],_,_,_,_,h,_=>by simp at h
 | _::_,[],_,_,_,_,h=>by simp at h
 | a::ns,b::es,0,n,e,h1,h2=>by
  simp only[List.getElem?_cons_zero,Option.some.injEq]at h1 h2;subst h1 h2;simp[joinsP]
 | a::ns,b::es,k+1,n,e,h1,h2=>by
  simp only[List.getElem?_cons_succ]at h1 h2;have:=Kb h1 h2;simp only[List.take_succ_cons,joinsP]at this ⊢;rw[this];simp only[List.append_assoc]
theorem Kc:∀(ns:List Bytes) (es:List Ex) (k:Nat),(joinsP (ns.take k) (es.take k)).length<=(joinsP ns es).length
 | [],es,k=>by simp[joinsP]
 | a::ns,[],k=>by cases k<;>simp[joinsP]
 | a::ns,b::es,0=>by simp[joinsP]
 | a::ns,b::es,k+1=>by
  have:=Kc ns es k;simp only[List.take_succ_cons,joinsP,List.length_append]at this ⊢;omega
structure ChosenF (x:Sel):Prop where
 items:x.items.length<=16/\∀p∈x.items,p.picked=true
 from_:1<=x.from_.length/\x.from_.length<=4
 on:x.on.length+1=x.from_.length/\∀e∈x.on,e.formed=true
 where_:x.where_.isZero=true\/x.where_.formed=true
 group:x.group.length<=16/\∀e∈x.group,e.formed=true
 sort:x.sort.length<=16/\∀s∈x.sort,s.okS=true
 limit:-1<=x.limit/\x.limit<=549755813887
theorem Nb {x:Sel} (h:x.chosen=true):ChosenF x:=by
 unfold Sel.chosen allR condR at h;simp only[Bool.and_eq_true,Bool.or_eq_true,decide_eq_true_eq,List.all_eq_true]at h;obtain⟨⟨⟨⟨⟨⟨⟨h1,h2⟩,h3⟩,h4⟩,h5⟩,h6⟩,h7⟩,h8⟩:=h;refine⟨⟨by omega,h1.2⟩,⟨by omega,by omega⟩,⟨by omega,fun e he=>?_⟩,?_,⟨by omega,fun e he=>?_⟩,⟨by omega,h6.2⟩,h7,h8⟩
 ·have:=h3.2 e he;simp only[Ex.good,Bool.and_eq_true]at this;exact this.2
 ·rcases h4 with h4|h4
  ·exact .inl h4
  ·simp only[Ex.good,Bool.and_eq_true]at h4;exact .inr h4.2
 ·have:=h5.2 e he;simp only[groupOk,Ex.good,Bool.and_eq_true]at this;exact this.2.2
theorem Pm (x:Sel) (v:Value) (hx:x.chosen=true) (w:World) (hv:RSelQ (·<base) w x v) (h:Wrt base w wb xs) (he:Env base w) (hn:xs.length+(selP x).length+10<=1000000000):
 Calls prog 67 #[.pointer (some ⟨wb,0,none⟩),v] w (Puts base wb w (xs++selP x)):=by
 obtain⟨ia,ic,fa,fc,oa,oc,wa,wc,ga,gc,sa,sc,rfl,h1,h2,h3,h4,h5,h6⟩:=hv
 have hP:Hid (selP x=[[115,101,108,101,99,116]]++whenP x.distinct [[100,105,115,116,105,110,99,116]]++whenP (decide (x.items.length=0)) [[42]]++eachP itemP x.items++[[102,114,111,109],x.from_.getD 0 []]++joinsP (x.from_.drop 1) x.on++whereP x.where_++
  whenP (decide (0<x.group.length)) [[103,114,111,117,112],[98,121]]++eachP (fun e=>exPr e 0) x.group++whenP (decide (0<x.sort.length)) [[111,114,100,101,114],[98,121]]++eachP srtP x.sort++whenP (decide (0<=x.limit)) ([108,105,109,105,116]::pNum x.limit)):=rfl
 rw[hP.out]at hn ⊢
 simp only[List.length_append,List.length_cons,List.length_nil]at hn
 have HF:=Lib.hid (Nb hx)
 have H:=Lib.hid h
 have HE:=Lib.hid he
 have h4':ExIn (·<base) w x.where_ [.int .i64 x.where_.op,.string ⟨x.where_.table.toArray⟩,.string ⟨x.where_.name.toArray⟩,.int .i64 x.where_.val.k,.int .i64 x.where_.val.n,.string x.where_.val.s,.slice wa x.where_.args.length wc]:=by
  generalize x.where_=e at *;obtain⟨op,t,n,v,args⟩:=e;exact Bc h4
 have HI:=Lib.hid h1
 have HFR:=Lib.hid h2
 have HO:=Lib.hid h3
 have HW:=Lib.hid h4'
 have HGR:=Lib.hid h5
 have HSO:=Lib.hid h6
 have hmf:∀(fn:Fn) (first cap:Array Value) (w:World),(Instr.makeFunc fn first cap).run prog w=.ok (.func fn first cap) w:=fun _ _ _ _=>rfl
 have S0:Hid (WFr base wb w ((w.alloc (.cells #[.pointer (some ⟨wb,0,none⟩)] 117)).alloc (.cells #[.bool x.distinct,.slice ia x.items.length ic,.slice fa x.from_.length fc,.slice oa x.on.length oc,.int .i64 x.where_.op,.string ⟨x.where_.table.toArray⟩,.string ⟨x.where_.name.toArray⟩,.int .i64 x.where_.val.k,.int .i64 x.where_.val.n,.string x.where_.val.s,.slice wa x.where_.args.length wc,.slice ga x.group.length gc,.slice sa x.sort.length sc,.int .i64 x.limit] 44)) [(w.heap.size+1,#[.bool x.distinct,.slice ia x.items.length ic,.slice fa x.from_.length fc,.slice oa x.on.length oc,.int .i64 x.where_.op,.string ⟨x.where_.table.toArray⟩,.string ⟨x.where_.name.toArray⟩,.int .i64 x.where_.val.k,.int .i64 x.where_.val.n,.string x.where_.val.s,.slice wa x.where_.args.length wc,.slice ga x.group.length gc,.slice sa x.sort.length sc,.int .i64 x.limit],44),(w.heap.size,#[.pointer (some ⟨wb,0,none⟩)],117)] xs):=by
  have:=WFr.alloc (WFr.alloc (WFr.start h) (cs:=#[.pointer (some ⟨wb,0,none⟩)]) (t:=117)) (cs:=#[.bool x.distinct,.slice ia x.items.length ic,.slice fa x.from_.length fc,.slice oa x.on.length oc,.int .i64 x.where_.op,.string ⟨x.where_.table.toArray⟩,.string ⟨x.where_.name.toArray⟩,.int .i64 x.where_.val.k,.int .i64 x.where_.val.n,.string x.where_.val.s,.slice wa x.where_.args.length wc,.slice ga x.group.length gc,.slice sa x.sort.length sc,.int .i64 x.limit]) (t:=44);simp only[World.size_alloc]at this;exact this
 have CI:Hid (∀W zs,Turn (base≤·) w W->Wrt base W wb zs->Env base W->zs.length+(eachP itemP x.items).length+10<=1000000000->Calls prog 133 #[.pointer (some ⟨wb,0,none⟩),.slice ia x.items.length ic,.func (.func 134) #[.pointer (some ⟨wb,0,none⟩)] #[]] W (Puts base wb W (zs++eachP itemP x.items))):=fun W zs ht hw hE hl=>
  Ru itemP x.items _ W (Ad (by decide) (fun b hb hq=>⟨hq,ht.block b hb (by omega)⟩) HI.out) hw hE (by have:=HF.out.items.1;omega) hl (fun W2 zs2 a cs ha hin hw2 hE2 hl2=>Vf a cs (HF.out.items.2 a ha) W2 hin hw2 hE2 hl2)
 have CG:Hid (∀W zs,Turn (base≤·) w W->Wrt base W wb zs->Env base W->zs.length+(eachP (fun e=>exPr e 0) x.group).length+10<=1000000000->Calls prog 135 #[.pointer (some ⟨wb,0,none⟩),.slice ga x.group.length gc,.func (.func 65) #[.pointer (some ⟨wb,0,none⟩)] #[]] W (Puts base wb W (zs++eachP (fun e=>exPr e 0) x.group))):=fun W zs ht hw hE hl=>
  Rt (fun e=>exPr e 0) x.group _ W (Ad (by decide) (fun b hb hq=>⟨hq,ht.block b hb (by omega)⟩) HGR.out) hw hE (by have:=HF.out.group.1;omega) hl (fun W2 zs2 a cs ha hin hw2 hE2 hl2=>Hj a cs W2 hin (HF.out.group.2 a ha) hw2 hE2 hl2)
 have CSO:Hid (∀W zs,Turn (base≤·) w W->Wrt base W wb zs->Env base W->QAt wb w.heap.size W->zs.length+(eachP srtP x.sort).length+10<=1000000000->Calls prog 136 #[.pointer (some ⟨wb,0,none⟩),.slice sa x.sort.length sc,.func (.func 137) #[] #[.pointer (some ⟨w.heap.size,0,none⟩)]] W (Puts base wb W (zs++eachP srtP x.sort))):=fun W zs ht hw hE hq hl=>
  Rs w.heap.size srtP x.sort _ W (Ad (by decide) (fun b hb hq=>⟨hq,ht.block b hb (by omega)⟩) HSO.out) hw hE hq (by have:=HF.out.sort.1;omega) hl (fun W2 zs2 a cs ha hin hw2 hE2 hq2 hl2=>by
   have e:cs=[.int .i64 a.place,.bool a.down]:=hin;subst e;exact Qq w.heap.size a (HF.out.sort.2 a ha) W2 hw2 hE2 hq2 hl2)
 have CW:Hid (∀W zs,Turn (base≤·) w W->Wrt base W wb zs->Env base W->zs.length+(whereP x.where_).length+10<=1000000000->Calls prog 66 #[.pointer (some ⟨wb,0,none⟩),.agg #[.int .i64 x.where_.op,.string ⟨x.where_.table.toArray⟩,.string ⟨x.where_.name.toArray⟩,.int .i64 x.where_.val.k,.int .i64 x.where_.val.n,.string x.where_.val.s,.slice wa x.where_.args.length wc]] W (Puts base wb W (zs++whereP x.where_))):=fun W zs ht hw hE hl=>
  whereW_any x.where_ _ W (HW.out.turned ht (fun b hb hk=>by omega)) HF.out.where_ hw hE hl
 have HOn:Hid (∀W (k:Nat) (e:Ex) (cs:List Value) zs,e∈x.on->ExIn (·<base) W e cs->Wrt base W wb zs->Env base W->zs.length+(exPr e 0).length+10<=1000000000->Calls prog 65 #[.pointer (some ⟨wb,0,none⟩),.agg cs.toArray] W (Puts base wb W (zs++exPr e 0))):=fun W k e cs zs he hin hw hE hl=>Hj e cs W hin (HF.out.on.2 e he) hw hE hl
 have hlim:=HF.out.limit
 have hfr:=HF.out.from_
 have hon:=HF.out.on.1
 clear h he hP hx h1 h2 h3 h4 h4' h5 h6 HI HGR HSO HW HF
 generalize eachP itemP x.items=pI at *
 generalize eachP (fun e=>exPr e 0) x.group=pG at *
 generalize eachP srtP x.sort=pS at *
 generalize whereP x.where_=pW at *
 generalize x.distinct=xd at *
 generalize x.items.length=n1 at *
 generalize x.where_.op=op at *
 generalize x.where_.table=wt at *
 generalize x.where_.name=wn at *
 generalize x.where_.val=wv at *
 generalize x.where_.args.length=n4 at *
 generalize x.group.length=n5 at *
 generalize x.sort.length=n6 at *
 generalize x.limit=lim at *
 generalize x.from_=fr at *
 generalize x.on=on at *
 obtain⟨b3,hb3⟩:∃b,decide (n1=0)=b:=⟨_,rfl⟩
 have hb3':((n1:Int)==0)=b3:=by rw[<- hb3,Bool.eq_iff_iff,beq_iff_eq,decide_eq_true_iff];omega
 obtain⟨b8,hb8⟩:∃b,decide (0<n5)=b:=⟨_,rfl⟩
 have hb8':decide ((0:Int)<(n5:Int))=b8:=by rw[<- hb8];simp
 obtain⟨b10,hb10⟩:∃b,decide (0<n6)=b:=⟨_,rfl⟩
 have hb10':decide ((0:Int)<(n6:Int))=b10:=by rw[<- hb10];simp
 rw[hb3,hb8,hb10]at hn ⊢
 obtain⟨f0,hf0⟩:∃f,fr[0]?=some f:=⟨fr[0]'(by omega),by simp⟩
 rw[show fr.getD 0 []=f0 by simp[List.getD,hf0]]at ⊢
 have HF0:=Lib.hid hf0
 clear hf0
 go_enter func67,ntmps67
 go_wp2_with fail
 have S0c:Hid (WFr base wb w _ _ xs):=WFr.alloc S0.out (cs:=#[.string ⟨#[115,101,108,101,99,116]⟩]) (t:=9)
 simp only[World.size_alloc]at S0c
 refine S0c.out.call (put_any [[115,101,108,101,99,116]] _ _ S0c.out.wrt (S0c.out.env H.out HE.out).hi (slAt_parts (S0c.out.blk 0 rfl) rfl rfl (by decide)) (by simp) (by simp only[List.length_append,List.length_cons,List.length_nil];omega)) ?_
 clear S0c
 intro w1 S1p
 have S1:=Lib.hid S1p.out.tail
 have F1:=S1.out.facts
 simp only[St.Facts,cellFacts,apartFacts,and_true]at F1
 clear S0 S1p
 go_wp2_with fail
 refine(WFr.alloc S1.out).call (A4 xd [[100,105,115,116,105,110,99,116]] _ _ (WFr.alloc S1.out).wrt ((WFr.alloc S1.out).env H.out HE.out).hi (slAt_parts ((WFr.alloc S1.out).blk 0 rfl) rfl rfl (by decide)) (by simp) (by simp only[List.length_append,List.length_cons,List.length_nil];omega)) ?_
 intro w2 S2p
 have S2:=Lib.hid S2p.out.tail
 have F2:=S2.out.facts
 simp only[St.Facts,cellFacts,apartFacts,and_true]at F2
 clear S1 S2p F1
 go_wp2_with fail
 refine(WFr.alloc S2.out).call (A4 b3 [[42]] _ _ (WFr.alloc S2.out).wrt ((WFr.alloc S2.out).env H.out HE.out).hi (slAt_parts ((WFr.alloc S2.out).blk 0 rfl) rfl rfl (by decide)) (by simp) (by simp only[List.length_append,List.length_cons,List.length_nil];omega)) ?_
 intro w3 S3p
 have S3:=Lib.hid S3p.out.tail
 have F3:=S3.out.facts
 simp only[St.Facts,cellFacts,apartFacts,and_true]at F3
 clear S2 S3p F2
 go_wp2_with fail
 refine S3.out.call (CI.out _ _ (S3.out.old H.out) S3.out.wrt (S3.out.env H.out HE.out) (by simp only[List.length_append,List.length_cons,List.length_nil];omega)) ?_
 intro w4 S4p
 have S4:=Lib.hid S4p.out
 have F4:=S4.out.facts
 simp only[St.Facts,cellFacts,apartFacts,and_true]at F4
 clear S3 S4p F3
 clear CI F4
 go_wp2_with fail
 have hv5:RSl strE (·<base) w4 (.slice fa fr.length fc) fr:=Ad (by decide) (fun b hb hq=>⟨hq,(S4.out.old H.out).block b hb (by omega)⟩) HFR.out
 obtain⟨b,o,cap,cs,e,hin,hat⟩:=hv5.at HF0.out
 injection e with e1 e3 e2
 subst e1
 subst e2
 clear e3
 have e:cs=[.string ⟨f0.toArray⟩]:=hin
 subst e
 have z0:=hat 0 _ rfl
 simp only[Nat.zero_mul,Nat.add_zero]at z0
 replace z0:=cell_regrown z0
 have F4:=S4.out.st.factsG
 simp only[St.FactsG,cellFactsG,and_true]at F4
 clear hat hin hv5
 have hfn:0<fr.length:=by omega
 have hfi:(0:Int)<(fr.length:Int):=by omega
 refine Ab 6 [(0,false),(1,false),(2,false),(3,false),(4,false),(5,true)] (by kernel_rfl) (by kernel_rfl) ?_
 repeat(refine An rfl (fun K hK=>?_);go_simp;first|(refine hK _ ?_;clear hK K)|(apply Exists.intro;refine⟨fun _=>?_,hK _ ?_⟩;(fail);clear hK K))
 refine I1 rfl ?_
 intro w5 hb5 hb05
 have S5:=Lib.hid (S4.out.kept hb5)
 have HB05:=Lib.hid hb05
 clear hb5 hb05 F4 S4 z0
 go_wp2_with fail
 refine⟨HB05.out.alloc HB05.out.size _,Dc ?_⟩
 intro w6 hb6 _
 simp only[List.drop_succ_cons,List.drop_zero]
 have S6:=Lib.hid ((WFr.alloc S5.out).kept hb6)
 clear hb6 S5 HB05
 go_wp2_with fail
 refine S6.out.call (put_any [[102,114,111,109],f0] _ _ S6.out.wrt (S6.out.env H.out HE.out).hi (slAt_parts (S6.out.blk 0 rfl) rfl rfl (by decide)) (by simp) (by simp only[List.length_append,List.length_cons,List.length_nil];omega)) ?_
 intro w7 S7p
 have S7:=Lib.hid S7p.out.tail
 have F7:=S7.out.facts
 simp only[St.Facts,cellFacts,apartFacts,and_true]at F7
 clear S6 S7p
 go_wp2_with fail
 clear F7
 have hpl:(xs++[[115,101,108,101,99,116]]++whenP xd [[100,105,115,116,105,110,99,116]]++whenP b3 [[42]]++pI++[[102,114,111,109],f0]).length=xs.length+1+(whenP xd [[100,105,115,116,105,110,99,116]]).length+(whenP b3 [[42]]).length+pI.length+2:=by simp only[List.length_append,List.length_cons,List.length_nil]
 generalize hpre:xs++[[115,101,108,101,99,116]]++whenP xd [[100,105,115,116,105,110,99,116]]++whenP b3 [[42]]++pI++[[102,114,111,109],f0]=pre at *
 go_loopw [4,5,37] (fun _ _ i wr=>∃k:Nat,k<=on.length/\i=.int .i64 k/\Hid (WFr base wb w wr [(w.heap.size+1,#[.bool xd,.slice ia n1 ic,.slice (some ⟨b,o,none⟩) fr.length fc,.slice oa on.length oc,.int .i64 op,.string ⟨wt.toArray⟩,.string ⟨wn.toArray⟩,.int .i64 wv.k,.int .i64 wv.n,.string wv.s,.slice wa n4 wc,.slice ga n5 gc,.slice sa n6 sc,.int .i64 lim],44),(w.heap.size,#[.pointer (some ⟨wb,0,none⟩)],117)] (pre++joinsP ((fr.drop 1).take k) (on.take k)))) (fun _ _ i _=>on.length - (intOf i).toNat)
 case atStart=>exact⟨0,by omega,rfl,by show WFr _ _ _ _ _ _;simpa[joinsP]using S7.out⟩
 case round=>
  obtain⟨k,hk,rfl,S8⟩:=hrel;have hle:=Kc (fr.drop 1) on k;by_cases hlt:k<on.length
  ·obtain⟨a,hx⟩:∃x,on[k]?=some x:=⟨on[k],by simp[hlt]⟩;obtain⟨nm,hnm⟩:∃x,fr[k+1]?=some x:=⟨fr[k+1]'(by omega),by simp⟩;have hst:=Kb (show(fr.drop 1)[k]?=some nm by rw[List.getElem?_drop,Nat.add_comm];exact hnm) hx;have hle2:=Kc (fr.drop 1) on (k+1);rw[hst]at hle2;simp only[List.length_append,List.length_cons,List.length_nil]at hle2;have HST:=Lib.hid hst;have hv1:RSl exE (·<base) wr (.slice oa on.length oc) on:=Ad (by decide) (fun b hb hq=>⟨hq,(S8.out.old H.out).block b hb (by omega)⟩) HO.out;obtain⟨b3',o3,cap3,cs,hbo,hin,hat⟩:=hv1.at hx;injection hbo with e1 e3 e2;subst e1;subst e2;clear e3;have hin':ExIn (·<base) wr a cs:=hin;have HIN:Hid (exE.In (·<base) wr a _):=hin;have HT8:=Lib.hid (S8.out.old H.out);have HM:=Lib.hid (List.mem_of_getElem? hx);obtain⟨ad,ac,rfl⟩:=Dv hin';have x0:=hat 0 _ rfl;have x1:=hat 1 _ rfl;have x2:=hat 2 _ rfl;have x3:=hat 3 _ rfl;have x4:=hat 4 _ rfl;have x5:=hat 5 _ rfl;have x6:=hat 6 _ rfl;simp only[show exE.k=7 from rfl,Nat.add_zero]at x0 x1 x2 x3 x4 x5 x6;have F8:=S8.out.facts;simp only[St.Facts,cellFacts,apartFacts,and_true]at F8;clear hat hin hin' hv1;go_wp2_with fail;have S9p:Hid (WFr base wb w _ _ _):=WFr.alloc S8.out (cs:=#[.int .i64 a.op,.string ⟨a.table.toArray⟩,.string ⟨a.name.toArray⟩,.int .i64 a.val.k,.int .i64 a.val.n,.string a.val.s,.slice ad a.args.length ac]) (t:=27);refine WFr.gen S9p.out ?_;intro w9 S9;clear S9p S8 x0 x1 x2 x3 x4 x5 x6 F8
   have hv2:RSl strE (·<base) w9 (.slice (some ⟨b,o,none⟩) fr.length fc) fr:=Ad (by decide) (fun b hb hq=>⟨hq,(S9.out.old H.out).block b hb (by omega)⟩) HFR.out;obtain⟨b2,o2,cap2,cs2,e,hin2,hat2⟩:=hv2.at hnm;injection e with e1 e3 e2;injection e1 with e1;injection e1 with e1 e4 e5;subst e1 e2 e4;clear e3 e5;have e:cs2=[.string ⟨nm.toArray⟩]:=hin2;subst e;have z0:=hat2 0 _ rfl;simp only[show strE.k=1 from rfl,Nat.mul_one,Nat.add_zero]at z0;have z1:=cell_regrown z0;have F9:=S9.out.st.factsG;simp only[St.FactsG,cellFactsG,and_true]at F9;have hk1:k+1<fr.length:=by omega
   have hk1i:(k:Int)+1<(fr.length:Int):=by omega
   have hgi:(0:Int)<=(k:Int)+1:=by omega
   have hng:¬((k:Int)+1<0):=by omega
   have htn:((k:Int)+1).toNat=k+1:=by omega
   have hwr:IntKind.i64.wrap ((k:Int)+1)=(k:Int)+1:=IntWalk.i64_in _ (by omega);clear hat2 hin2 hv2 z0;refine Ab 8 [(0,false),(1,false),(2,false),(3,false),(4,false),(5,false),(6,false),(7,true)] (by kernel_rfl) (by kernel_rfl) ?_;repeat(refine An rfl (fun K hK=>?_);go_simp;first|(refine hK _ ?_;clear hK K)|(apply Exists.intro;refine⟨fun _=>?_,hK _ ?_⟩;(fail);clear hK K))
   refine I1 rfl ?_;intro w10 hb10 hb010;have S10:=Lib.hid (S9.out.kept hb10);have HB010:=Lib.hid hb010;clear hb10 hb010 F9 S9 z1;go_wp2_with fail;refine⟨HB010.out.alloc HB010.out.size _,Dc ?_⟩;intro w11 hb11 _;have S11:=Lib.hid ((WFr.alloc S10.out).kept hb11);clear hb11 S10 HB010;go_wp2_with fail;refine S11.out.call (put_any [[106,111,105,110],nm,[111,110]] _ _ S11.out.wrt (S11.out.env H.out HE.out).hi (slAt_parts (S11.out.blk 0 rfl) rfl rfl (by decide)) (by simp) (by simp only[List.length_append,List.length_cons,List.length_nil];omega)) ?_;intro w12 S12p;have S12:=Lib.hid S12p.out.tail;have HIN12:Hid (exE.In (·<base) w12 a _):=exE.move (fun b hb hq=>⟨hq,by
    have hlt:b<w.heap.size:=Nat.lt_of_lt_of_le hq HE.out.hi;rw[(S12.out.old H.out).block b hlt (by omega),HT8.out.block b hlt (by omega)]⟩) HIN.out
   have F12:=S12.out.facts;simp only[St.Facts,cellFacts,apartFacts,and_true]at F12;clear S11 S12p;go_wp2_with fail;refine S12.out.tail.call (HOn.out _ k a _ _ HM.out HIN12.out S12.out.wrt (S12.out.env H.out HE.out) (by simp only[List.length_append,List.length_cons,List.length_nil];omega)) ?_;intro w13 S13;clear S12 F12 HIN12;go_wp2_with fail;go_roundw
   case rel=>exact⟨k+1,by omega,by go_num,by show WFr _ _ _ _ _ _;rw[HST.out,<- List.append_assoc,<- List.append_assoc];exact S13.out⟩
   case measure=>simp[intOf];omega
  ·obtain rfl:k=on.length:=by omega
   have hjl:joinsP ((fr.drop 1).take on.length) (on.take on.length)=joinsP (fr.drop 1) on:=by
    rw[List.take_length,List.take_of_length_le (by rw[List.length_drop];omega)]
   rw[hjl]at S8;have F8:=S8.out.facts;simp only[St.Facts,cellFacts,apartFacts,and_true]at F8;clear HO HFR hle hjl;go_wp2_with fail;refine S8.out.call (CW.out _ _ (S8.out.old H.out) S8.out.wrt (S8.out.env H.out HE.out) (by simp only[List.length_append,List.length_cons,List.length_nil];omega)) ?_;intro w9 S9p;have S9:=Lib.hid S9p.out;have F9:=S9.out.facts;simp only[St.Facts,cellFacts,apartFacts,and_true]at F9;clear S8 S9p F8;go_wp2_with fail;refine(WFr.alloc S9.out).call (A4 b8 [[103,114,111,117,112],[98,121]] _ _ (WFr.alloc S9.out).wrt ((WFr.alloc S9.out).env H.out HE.out).hi (slAt_parts ((WFr.alloc S9.out).blk 0 rfl) rfl rfl (by decide)) (by simp) (by simp only[List.length_append,List.length_cons,List.length_nil];omega)) ?_;intro w10 S10p;have S10:=Lib.hid S10p.out.tail;have F10:=S10.out.facts;simp only[St.Facts,cellFacts,apartFacts,and_true]at F10;clear S9 S10p F9;go_wp2_with fail;refine S10.out.call (CG.out _ _ (S10.out.old H.out) S10.out.wrt (S10.out.env H.out HE.out) (by simp only[List.length_append,List.length_cons,List.length_nil];omega)) ?_;intro w11 S11p;have S11:=Lib.hid S11p.out;have F11:=S11.out.facts;simp only[St.Facts,cellFacts,apartFacts,and_true]at F11;clear S10 S11p F10;go_wp2_with fail
   refine(WFr.alloc S11.out).call (A4 b10 [[111,114,100,101,114],[98,121]] _ _ (WFr.alloc S11.out).wrt ((WFr.alloc S11.out).env H.out HE.out).hi (slAt_parts ((WFr.alloc S11.out).blk 0 rfl) rfl rfl (by decide)) (by simp) (by simp only[List.length_append,List.length_cons,List.length_nil];omega)) ?_;intro w12 S12p;have S12:=Lib.hid S12p.out.tail;have F12:=S12.out.facts;simp only[St.Facts,cellFacts,apartFacts,and_true]at F12;clear S11 S12p F11;go_wp2_with fail;refine S12.out.call (CSO.out _ _ (S12.out.old H.out) S12.out.wrt (S12.out.env H.out HE.out) ⟨S12.out.blk 1 rfl,S12.out.off 1 rfl⟩ (by simp only[List.length_append,List.length_cons,List.length_nil];omega)) ?_;intro w13 S13p;have S13:=Lib.hid S13p.out;have F13:=S13.out.facts;simp only[St.Facts,cellFacts,apartFacts,and_true]at F13;clear S12 S13p F12;by_cases hl0:0<=lim
   ·have hl0':decide (0<=lim)=true:=by simp[hl0]
    have hwt:whenP (decide (0<=lim)) ([108,105,109,105,116]::pNum lim)=[108,105,109,105,116]::pNum lim:=by rw[hl0'];rfl
    rw[hwt]at hn;simp only[List.length_cons]at hn;go_wp2_with fail;refine(WFr.alloc S13.out).call (put_any [[108,105,109,105,116]] _ _ (WFr.alloc S13.out).wrt ((WFr.alloc S13.out).env H.out HE.out).hi (slAt_parts ((WFr.alloc S13.out).blk 0 rfl) rfl rfl (by decide)) (by simp) (by simp only[List.length_append,List.length_cons,List.length_nil];omega)) ?_;intro w14 S14p;have S14:=Lib.hid S14p.out.tail;have F14:=S14.out.facts;simp only[St.Facts,cellFacts,apartFacts,and_true]at F14;clear S13 S14p F13;go_wp2_with fail;refine S14.out.call (number38_any lim (by omega) (by omega) _ S14.out.wrt (S14.out.env H.out HE.out) (by simp only[List.length_append,List.length_cons,List.length_nil];omega)) ?_;intro w15 S15;clear S14 F14;go_wp2_with fail;go_returns;have:=S15.out.done;simpa only[<- hpre,hwt,List.append_assoc,List.cons_append,List.nil_append]using this
   ·have hl0':decide (0<=lim)=false:=by simp[hl0]
    have hwt:whenP (decide (0<=lim)) ([108,105,109,105,116]::pNum lim)=[]:=by rw[hl0'];rfl
    go_wp2_with fail;go_returns;have:=S13.out.done;simpa only[<- hpre,hwt,List.append_assoc,List.cons_append,List.nil_append,List.append_nil]using this
end Go.Proofs.YtjmmbebkbkgefaaGreatDoor
namespace Go.Proofs.YtjmmbebkbkgefaaGreatDoor
open Go.RowKit Go.Sort Tryz
structure PrSt (w:World) (wb:Nat) (w0 W:World) (s:SV) (ys:List Bytes):Prop where
 h:Wrt (w.heap.size+1) w0 wb []
 x:w0.heap[w.heap.size]?=some (.cells s.arr 46 (0,0))
 lt:w.heap.size<w0.heap.size
 b:Below w.heap.size w w0
 e:Env (w.heap.size+1) w0
 f:WFr (w.heap.size+1) wb w0 W [(wb+1,#[.pointer (some ⟨wb,0,none⟩)],117)] ys
theorem PrSt.at {w w0 W:World} {wb:Nat} {s:SV} {ys:List Bytes} (p:PrSt w wb w0 W s ys):W.heap[w.heap.size]?=some (.cells s.arr 46 (0,0)):=by
 rw[(p.f.old p.h).block _ p.lt (by omega)];exact p.x
theorem PrSt.below {w w0 W:World} {wb:Nat} {s:SV} {ys:List Bytes} (p:PrSt w wb w0 W s ys):Below w.heap.size w W:=
 have t:=p.f.old p.h
 p.b.trans ⟨t.os,t.tape,t.output,t.size,fun k hk=>t.block k (by have:=p.lt;omega) (by omega)⟩
theorem PrSt.went {w w0 W W':World} {wb:Nat} {L:List Blk} {s:SV} {ys zs:List Bytes} (p:PrSt w wb w0 W s ys) (f:WFr (w.heap.size+1) wb w0 W' L zs) (e:L=[(wb+1,#[Value.pointer (some ⟨wb,0,none⟩)],117)]):PrSt w wb w0 W' s zs:=by
 subst e;exact⟨p.h,p.x,p.lt,p.b,p.e,f⟩
theorem PrSt.env {w w0 W:World} {wb:Nat} {s:SV} {ys:List Bytes} (p:PrSt w wb w0 W s ys):Env (w.heap.size+1) W:=p.f.env p.h p.e
theorem PrSt.start {w w1:World} {s:SV} (he:Env w.heap.size w) (hb:Below w1.heap.size w1 w1) (h1:w1.heap[w.heap.size]?=some (.cells s.arr 46 (0,0))) (hB:Below w.heap.size w w1):
 PrSt w w1.heap.size (w1.alloc (.cells #[.slice none 0 0] 119)) ((w1.alloc (.cells #[.slice none 0 0] 119)).alloc (.cells #[.pointer (some ⟨w1.heap.size,0,none⟩)] 117)) s []:=by
 have hlt:w.heap.size<w1.heap.size:=(Array.getElem?_eq_some_iff.1 h1).1
 have hw:Wrt (w.heap.size+1) (w1.alloc (.cells #[.slice none 0 0] 119)) w1.heap.size []:=
  ⟨by omega,_,World.alloc_heap_new w1 _,World.ownsRow_nil _ _ _ _,by simp[Value.ownBlock]⟩
 have hk:Below w1.heap.size w1 (w1.alloc (.cells #[.slice none 0 0] 119)):=hb.alloc (Nat.le_refl _) _
 have hW:Below w.heap.size w (w1.alloc (.cells #[.slice none 0 0] 119)):=hB.alloc (by omega) _
 refine⟨hw,?_,?_,hW,(he.same hW.size (fun k hk=>hW.block k hk)).up (by omega) (by rw[World.size_alloc];omega),?_⟩
 ·rw[hk.block _ hlt];exact h1
 ·rw[World.size_alloc];omega
 ·have:=WFr.alloc (WFr.start hw) (cs:=#[.pointer (some ⟨w1.heap.size,0,none⟩)]) (t:=117);rw[World.size_alloc]at this;exact this
theorem M4:∀ys:List Bytes,Lib.join ys [32]=joinSp ys
 | []=>rfl
 | [a]=>by simp[joinSp,Lib.join_one]
 | a::b::l=>by
  have:=M4 (b::l);simp only[Lib.join]at this ⊢;simp only[joinSp,<- this];simp[List.intercalate,List.intersperse]
theorem bh {base wb:Nat} {w:World} {ys:List Bytes} (h:Wrt base w wb ys) (hy:ys≠[]) (hN:ys.length<=140737488355328) (hl:(joinSp ys).length<=140737488355328):
 ∃v,w.heap[wb]?=some (.cells #[v] 119 (0,0))/\Calls prog 68 #[v,.string ⟨#[32]⟩] w (Says (.string ⟨(joinSp ys).toArray⟩) w):=by
 obtain⟨v,h1,h2,_⟩:=h.blk
 have hx:=h2
 have hlt:=World.ownsRow.lt h2
 have hc:=fun g hg=>World.ownsRow.cells h2 (g:=g) hg
 obtain⟨_,⟨_,e⟩|⟨g,cap,cur,rfl,hg,hb,hn,_,_,_⟩⟩:=h2
 ·exact absurd (List.length_eq_zero_iff.1 e) hy
 ·refine⟨_,h1,?_⟩;have e:(ys.map (fun s=>(⟨s.toArray⟩:ByteArray))).map (·.data.toList)=ys:=by
   rw[List.map_map,show((fun x:ByteArray=>x.data.toList) ∘ fun s:Bytes=>(⟨s.toArray⟩:ByteArray))=id from funext (fun s=>by simp),List.map_id]
  have:=Tryz.strings_Join g 0 cap (ys.map (fun s=>(⟨s.toArray⟩:ByteArray))) ⟨#[32]⟩ w (fun j x hj=>by
   have:=hc g rfl j (.string x) (by
    rw[List.getElem?_map]at hj;obtain⟨s,hs,rfl⟩:=Option.map_eq_some_iff.1 hj;simp[strVals,strV,hs])
   rw[show(⟨g,0,none⟩:Addr).add j=⟨g,0+j,none⟩ by cases j<;>simp[Addr.add]]at this;exact this) (hlt g rfl).2 (by simpa using hN) (by simpa using hn) (by rw[e];rw[show(⟨#[32]⟩:ByteArray).data.toList=[32]from rfl,M4];exact hl)
  rw[e,show(⟨#[32]⟩:ByteArray).data.toList=[32]from rfl,M4,List.length_map]at this;exact this
end Go.Proofs.YtjmmbebkbkgefaaGreatDoor
