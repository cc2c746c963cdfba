/- Part 30; the last part says what is proved. No condition. -/
import Derived.Maps.RangeRun
import Derived.Test.YtjmmbebkbkgefaaGreatDoorB11
import Derived.Test.YtjmmbebkbkgefaaGreatDoorB29
set_option linter.unusedVariables false
set_option linter.unusedSimpArgs false
set_option maxHeartbeats 4000000
set_option maxRecDepth 100000
namespace Go.Proofs.YtjmmbebkbkgefaaGreatDoor
open Go.RowKit Go.Sort Tryz
structure Wrt (base:Nat) (w:World) (wb:Nat) (xs:List Bytes):Prop where
 ge:base<=wb
 blk:∃v,w.heap[wb]?=some (.cells #[v] 119 (0,0))/\w.ownsRow base 9 1 v xs.length (strVals xs)/\v.ownBlock≠some wb
def WOwn (wb:Nat) (w:World) (k:Nat):Prop:=k=wb\/∃v,w.heap[wb]?=some (.cells #[v] 119 (0,0))/\v.ownBlock=some k
variable {base wb:Nat} {w0 w w' w2:World} {L:List Blk} {xs ys zs:List Bytes}
theorem Wrt.lt (h:Wrt base w wb xs):wb<w.heap.size:=by
 obtain⟨v,h1,_⟩:=h.blk;exact(Array.getElem?_eq_some_iff.1 h1).1
theorem WOwn.at (h:Wrt base w wb xs) {k:Nat} (hk:WOwn wb w k):base<=k/\k<w.heap.size:=by
 obtain⟨v,h1,h2,h3⟩:=h.blk;rcases hk with rfl|⟨u,k1,k2⟩
 ·exact⟨h.ge,h.lt⟩
 ·rw[h1]at k1;simp only[Option.some.injEq,Obj.cells.injEq,Array.mk.injEq,List.cons.injEq,and_true]at k1;subst k1;exact World.ownsRow.lt h2 k k2
theorem WOwn.same (hb:w'.heap[wb]?=w.heap[wb]?) {k:Nat}:WOwn wb w' k↔WOwn wb w k:=by unfold WOwn;rw[hb]
theorem Wrt.turned {M:Nat->Prop} (h:Wrt base w wb xs) (ht:Turn M w w') (hM:∀k,WOwn wb w k->¬M k):Wrt base w' wb xs/\w'.heap[wb]?=w.heap[wb]?:=by
 have h0:=ht.block wb h.lt (hM wb (.inl rfl));obtain⟨v,h1,h2,h3⟩:=h.blk;exact⟨⟨h.ge,v,h0.trans h1,h2.same (fun g hg=>ht.block g (World.ownsRow.lt h2 g hg).2 (hM g (.inr ⟨v,h1,hg⟩))),h3⟩,h0⟩
theorem Wrt.kept (h:Wrt base w wb xs) (hb:Below w.heap.size w w'):Wrt base w' wb xs/\w'.heap[wb]?=w.heap[wb]?:=h.turned (Turn.of_below (M:=fun _=>False) hb) (fun _ _ h=>h)
structure Wrote (base wb:Nat) (w w':World) (xs:List Bytes):Prop where
 wr:Wrt base w' wb xs
 turn:Turn (WOwn wb w) w w'
 own:∀k,WOwn wb w' k->WOwn wb w k\/w.heap.size<=k
theorem Wrote.refl (h:Wrt base w wb xs):Wrote base wb w w xs:=⟨h,Turn.refl _ _,fun _ hk=>.inl hk⟩
theorem Wrote.trans (h:Wrote base wb w w' xs) (k:Wrote base wb w' w2 ys):Wrote base wb w w2 ys:=
 ⟨k.wr,h.turn.trans k.turn (fun i hi hk=>(h.own i hk).elim id (fun h=>by omega)),fun i hi=>(k.own i hi).elim (fun hk=>h.own i hk) (fun hk=>.inr (Nat.le_trans h.turn.size hk))⟩
theorem Wrote.kept (h:Wrote base wb w w' xs) (hb:Below w'.heap.size w' w2):Wrote base wb w w2 xs:=by
 obtain⟨h1,h2⟩:=h.wr.kept hb;exact⟨h1,h.turn.step hb,fun k hk=>h.own k ((WOwn.same h2).1 hk)⟩
theorem Wrote.of_below (h:Wrt base w wb xs) (hb:Below w.heap.size w w'):Wrote base wb w w' xs:=(Wrote.refl h).kept hb
def Puts (base wb:Nat) (w:World) (xs:List Bytes) (e:Ending) (w':World):Prop:=e=.returned (.tuple #[])/\Wrote base wb w w' xs
structure WFr (base wb:Nat) (w0 w:World) (L:List Blk) (xs:List Bytes):Prop where
 wr:Wrote base wb w0 w xs
 st:StM (WOwn wb w0) w0 w L
 ge:∀x∈L,w0.heap.size<=x.1
 apart:∀x∈L,¬WOwn wb w x.1
theorem WFr.start (h:Wrt base w wb xs):WFr base wb w w [] xs:=⟨Wrote.refl h,StM.start _ _,by simp,by simp⟩
theorem WFr.wrt (h:WFr base wb w0 w L xs):Wrt base w wb xs:=h.wr.wr
theorem WFr.facts (h:WFr base wb w0 w L xs):St.Facts w L:=h.st.facts
theorem WFr.size (h:WFr base wb w0 w L xs):w0.heap.size<=w.heap.size:=h.st.turn.size
theorem WFr.blk (h:WFr base wb w0 w L xs) (i:Nat) {b:Nat} {cs:Array Value} {t:TypeId} (hi:L[i]?=some (b,cs,t)):w.heap[b]?=some (.cells cs t (0,0)):=h.st.blk i hi
theorem WFr.lt (h:WFr base wb w0 w L xs) {x:Blk} (hx:x∈L):x.1<w.heap.size:=by
 obtain⟨j,hj⟩:=List.mem_iff_getElem?.1 hx;obtain⟨b,cs,t⟩:=x;exact(Array.getElem?_eq_some_iff.1 (h.blk j hj)).1
theorem WFr.kept (h:WFr base wb w0 w L xs) (hb:Below w.heap.size w w'):WFr base wb w0 w' L xs:=
 ⟨h.wr.kept hb,h.st.kept hb,h.ge,fun x hx hk=>h.apart x hx ((WOwn.same (h.wrt.kept hb).2).1 hk)⟩
theorem WFr.laid {o:Obj} (h:WFr base wb w0 w L xs):WFr base wb w0 (w.alloc o) L xs:=h.kept ((Below.refl _ _).alloc (Nat.le_refl _) o)
theorem WFr.alloc {cs:Array Value} {t:TypeId} (h:WFr base wb w0 w L xs):WFr base wb w0 (w.alloc (.cells cs t)) ((w.heap.size,cs,t)::L) xs:=by
 have hb:Below w.heap.size w (w.alloc (.cells cs t)):=(Below.refl _ _).alloc (Nat.le_refl _) _;refine⟨h.wr.kept hb,StM.alloc h.st,fun x hx=>?_,fun x hx hk=>?_⟩
 ·rcases List.mem_cons.1 hx with rfl|hx
  ·exact h.size
  ·exact h.ge x hx
 ·have hk':=(WOwn.same (h.wrt.kept hb).2).1 hk;rcases List.mem_cons.1 hx with rfl|hx
  ·have:=(WOwn.at h.wrt hk').2;simp at this
  ·exact h.apart x hx hk'
theorem WFr.tail {x:Blk} (h:WFr base wb w0 w (x::L) xs):WFr base wb w0 w L xs:=⟨h.wr,h.st.tail,fun y hy=>h.ge y (List.mem_cons_of_mem _ hy),fun y hy=>h.apart y (List.mem_cons_of_mem _ hy)⟩
theorem WFr.set (i:Nat) {b o:Nat} {cs:Array Value} {t:TypeId} {v:Value} (h:WFr base wb w0 w L xs) (hi:L[i]?=some (b,cs,t)):WFr base wb w0 (w.setCell ⟨b,o,none⟩ v) (L.set i (b,cs.setIfInBounds o v,t)) xs:=by
 have hm:=List.mem_of_getElem? hi;have ht:Turn (·=b) w (w.setCell ⟨b,o,none⟩ v):=(Turn.refl _ w).setCell (.inl rfl);have hw:=h.wrt.turned ht (fun k hk e=>by have e':k=b:=e;subst e';exact h.apart _ hm hk);have hge:w0.heap.size<=b:=h.ge _ hm;have hap:¬WOwn wb w b:=h.apart _ hm;refine⟨⟨hw.1,h.wr.turn.setCell (.inr hge),fun k hk=>h.wr.own k ((WOwn.same hw.2).1 hk)⟩,StM.set i h.st hi,fun x hx=>?_,fun x hx hk=>?_⟩
 ·rcases List.mem_or_eq_of_mem_set hx with hx|rfl
  ·exact h.ge x hx
  ·exact hge
 ·have hk':=(WOwn.same hw.2).1 hk;rcases List.mem_or_eq_of_mem_set hx with hx|rfl
  ·exact h.apart x hx hk'
  ·exact hap hk'
theorem WFr.went (h:WFr base wb w0 w L xs) (k:Wrote base wb w w' ys):WFr base wb w0 w' L ys:=
 ⟨h.wr.trans k,h.st.turned k.turn (fun i hi hk=>(h.wr.own i hk).elim id (fun h=>by omega)) h.apart,h.ge,fun x hx hk=>(k.own _ hk).elim (h.apart x hx) (fun hl=>by have:=h.lt hx;omega)⟩
theorem WFr.call {f:FuncId} {args:Array Value} {K:Ending->World->Prop} (S:WFr base wb w0 w L xs) (C:Calls prog f args w (Puts base wb w ys)) (hK:∀w',Hid (WFr base wb w0 w' L ys)->K (.returned (.tuple #[])) w'):Calls prog f args w K:=by
 refine Calls.mono C ?_;rintro e w' ⟨rfl,h⟩;exact hK w' (S.went h)
theorem WFr.done (h:WFr base wb w0 w L xs):Puts base wb w0 xs (.returned (.tuple #[])) w:=⟨rfl,h.wr⟩
theorem WFr.gen {P:Program} {c:Code} {Q:Exit->Act->World->Prop} {a:Act} (h:WFr base wb w0 w L xs) (k:∀W,Hid (WFr base wb w0 W L xs)->Code.wp P c Q a W):Code.wp P c Q a w:=k w h
theorem WFr.old (h:WFr base wb w0 w L xs) (h0:Wrt base w0 wb zs):Turn (base≤·) w0 w:=h.wr.turn.mono (fun k _ hk=>(WOwn.at h0 hk).1)
theorem Wrote.old (h:Wrote base wb w w' xs) (h0:Wrt base w wb zs):Turn (base≤·) w w':=h.turn.mono (fun k _ hk=>(WOwn.at h0 hk).1)
theorem Nw (xs ys:List Bytes):strVals (xs++ys)=strVals xs++strVals ys:=by unfold strVals;rw[List.map_append]
theorem Nv (xs:List Bytes):∀u∈strVals xs,u.oneCell'=true:=fun u hu=>by
 obtain⟨s,_,rfl⟩:=List.mem_map.1 hu;rfl
theorem slAt_parts {w:World} {nb:Nat} {ps:List Bytes} {t:TypeId} {cs:Array Value} {n cap:Nat} (h:w.heap[nb]?=some (.cells cs t (0,0))) (hcs:cs=(strVals ps).toArray) (hn:n=ps.length) (hc:n<=cap):SlAt w (.slice (some ⟨nb,0,none⟩) n cap) ps.length (strVals ps):=by
 subst hn hcs;refine⟨_,cap,rfl,hc,fun _=>⟨nb,0,rfl,fun j u hu=>?_⟩⟩;simp only[World.cell?,h,Nat.zero_add];simpa using hu
theorem Xf {ps:List Bytes} {a0:Option Addr} {c0 g cap:Nat} {w1:World} (h:Wrt base w wb xs) (h1:w.heap[wb]?=some (.cells #[.slice a0 xs.length c0] 119 (0,0))) (h3:(.slice a0 xs.length c0:Value).ownBlock≠some wb)
 (hown:w1.ownsRow base 9 1 (.slice (some ⟨g,0,none⟩) (xs.length+ps.length) cap) (xs.length+ps.length) (strVals xs++strVals ps)) (hgr:w.grownBy w1 (.slice a0 xs.length c0:Value).ownBlock)
 (hblk:(.slice (some ⟨g,0,none⟩) (xs.length+ps.length) cap:Value).ownBlock=(.slice a0 xs.length c0:Value).ownBlock\/∃g',(.slice (some ⟨g,0,none⟩) (xs.length+ps.length) cap:Value).ownBlock=some g'/\w.heap.size<=g'):
 w1.frozen? ⟨wb,0,none⟩=false/\w1.cell? ⟨wb,0,none⟩=some (.slice a0 xs.length c0)/\Hid (Wrote base wb w (w1.setCell ⟨wb,0,none⟩ (.slice (some ⟨g,0,none⟩) (xs.length+ps.length) cap)) (xs++ps)):=by
 have hlt:wb<w.heap.size:=h.lt
 have hb1:w1.heap[wb]?=some (.cells #[.slice a0 xs.length c0] 119 (0,0)):=(hgr.block wb hlt (Ne.symm h3)).trans h1
 have hne:(.slice (some ⟨g,0,none⟩) (xs.length+ps.length) cap:Value).ownBlock≠some wb:=by
  rcases hblk with e|⟨g',e,hg⟩
  ·rw[e];exact h3
  ·rw[e];intro e2;cases e2;omega
 have hb2:(w1.setCell ⟨wb,0,none⟩ (.slice (some ⟨g,0,none⟩) (xs.length+ps.length) cap)).heap[wb]?=some (.cells #[.slice (some ⟨g,0,none⟩) (xs.length+ps.length) cap] 119 (0,0)):=by simp[World.setCell,Array.getElem?_modify,hb1]
 refine⟨by simp[World.frozen?,hb1],by simp only[World.cell?,hb1];rfl,⟨⟨h.ge,_,hb2,?_,hne⟩,?_,?_⟩⟩
 ·rw[Nw,List.length_append];refine World.ownsRow.same hown (fun k hk=>Below.heap_setCell _ _ _ _ (fun e=>hne (by rw[hk];exact congrArg some e)))
 ·exact((Turn.of_grown hgr).mono (fun k _ hk=>.inr ⟨_,h1,hk⟩)).setCell (.inl (.inl rfl))
 ·rintro k (rfl|⟨u,k1,k2⟩)
  ·exact .inl (.inl rfl)
  ·rw[hb2]at k1;simp only[Option.some.injEq,Obj.cells.injEq,Array.mk.injEq,List.cons.injEq,and_true]at k1;subst k1;rcases hblk with e|⟨g',e,hg⟩
   ·exact .inl (.inr ⟨_,h1,by rw[<- e];exact k2⟩)
   ·rw[e]at k2;cases k2;exact .inr hg
theorem put_any (ps:List Bytes) (v:Value) (w:World) (h:Wrt base w wb xs) (hbase:base<=w.heap.size) (hv:SlAt w v ps.length (strVals ps)) (hp:0<ps.length) (hn:xs.length+ps.length<=1000000000):
 Calls prog 55 #[.pointer (some ⟨wb,0,none⟩),v] w (Puts base wb w (xs++ps)):=by
 obtain⟨v0,h1,h2,h3⟩:=h.blk
 have y0:w.cell? ⟨wb,0,none⟩=some v0:=by simp only[World.cell?,h1];rfl
 obtain⟨a0,c0,rfl⟩:∃a c,v0=.slice a xs.length c:=by
  obtain⟨a,cap,e,_⟩:=h2.slAt;exact⟨a,cap,e⟩
 obtain⟨a1,c1,rfl⟩:∃a c,v=.slice a ps.length c:=by
  obtain⟨a,cap,e,_⟩:=hv;exact⟨a,cap,e⟩
 have H:=Lib.hid h
 have H1:=Lib.hid h1
 have H2:=Lib.hid h2
 have H3:=Lib.hid h3
 have HV:=Lib.hid hv
 clear h h1 h2 h3 hv
 go_enter func55,ntmps55
 go_wp2_with(refine Ah rfl (.tmp 8) (.tmp 9) 39 rfl 9 (.string ⟨#[]⟩) 1 16 underlying39 (by kernel_rfl) rfl (by decide) base _ xs.length (strVals xs) rfl H2.out _ ps.length (strVals ps) rfl hp HV.out (by simp[strVals]) (Nv ps) (by omega) (by unfold maxLen;omega) hbase ?_;intro v' w1 hown hgr hblk hsl;obtain⟨g,cap,rfl⟩:=hsl;obtain⟨f1,y1,HW⟩:=Xf H.out H1.out H3.out hown hgr hblk;clear hown hgr hblk H H1 H2 H3 HV y0 hp hn hbase)
 go_returns
 exact⟨rfl,HW.out⟩
end Go.Proofs.YtjmmbebkbkgefaaGreatDoor
namespace Go.Proofs.YtjmmbebkbkgefaaGreatDoor
open Go.RowKit Go.Sort Tryz
variable {base wb:Nat} {w0 w w' w2:World} {L:List Blk} {xs ys zs:List Bytes}
theorem WFr.env (S:WFr base wb w0 w L xs) (h0:Wrt base w0 wb zs) (he:Env base w0):Env base w:=he.turned (S.old h0) (fun _ hk=>hk)
theorem itoa_env {B:Nat} (n:Int) (h0:-1000000000000000<=n) (h1:n<=1000000000000000) (W:World) (h:Env B W):Calls prog 146 #[.int .i64 n] W fun e w''=>e=.returned (.string ⟨(Lib.itoa n).toArray⟩)/\Below W.heap.size W w'':=by
 refine(Tryz.strconv_Itoa n (by omega) (by omega) W h.pow).mono ?_;rintro e w' ⟨rfl,d,os,rfl⟩;refine⟨rfl,?_⟩;exact Lib.below_grow _ _ (Nat.le_refl _) _ _
theorem A4 (b:Bool) (ps:List Bytes) (v:Value) (w:World) (h:Wrt base w wb xs) (hbase:base<=w.heap.size) (hv:SlAt w v ps.length (strVals ps)) (hp:0<ps.length) (hn:xs.length+ps.length<=1000000000):
 Calls prog 58 #[.pointer (some ⟨wb,0,none⟩),.bool b,v] w (Puts base wb w (xs++whenP b ps)):=by
 have C:=Lib.hid (put_any ps v w h hbase hv hp hn)
 have S0:=Lib.hid (WFr.start h)
 obtain⟨a1,c1,rfl⟩:∃a c,v=.slice a ps.length c:=by
  obtain⟨a,cap,e,_⟩:=hv;exact⟨a,cap,e⟩
 clear h hv
 cases b with
 | false=>
  go_enter func58,ntmps58;go_wp2_with fail;go_returns;have:=S0.out.done;simpa[whenP]using this
 | true=>
  go_enter func58,ntmps58;go_wp2_with fail;refine S0.out.call C.out ?_;intro w1 S1;go_wp2_with fail;go_returns;exact S1.out.done
theorem number38_any (n:Int) (h0:-549755813888<=n) (h1:n<=549755813888) (w:World) (h:Wrt base w wb xs) (he:Env base w) (hn:xs.length+2<=1000000000):
 Calls prog 130 #[.pointer (some ⟨wb,0,none⟩),.int .i64 n] w (Puts base wb w (xs++pNum n)):=by
 have S0:=Lib.hid (WFr.start h)
 have H:=Lib.hid h
 have HE:=Lib.hid he
 have hw:wrap64 (-n)= -n:=IntWalk.wrap64_in _ ⟨by omega,by omega⟩
 clear h he
 by_cases hneg:n<0
 ·have hm:max n (-n)= -n:=by omega
  have hP:Hid (pNum n=[[45],Lib.itoa (-n)]):=if_pos hneg;go_enter func130,ntmps130;go_wp2_with fail;refine(WFr.alloc S0.out).call (A4 true [[45]] _ _ (WFr.alloc S0.out).wrt ((WFr.alloc S0.out).env H.out HE.out).hi (slAt_parts ((WFr.alloc S0.out).blk 0 rfl) rfl rfl (by decide)) (by simp) (by simp;omega)) ?_;intro w1 S1;go_wp2_with fail;refine Calls.mono (itoa_env (-n) (by omega) (by omega) _ (S1.out.env H.out HE.out)) ?_;rintro e w2 ⟨rfl,hb2⟩;have S2:=Lib.hid (S1.out.kept hb2);clear hb2;go_wp2_with fail;refine(WFr.alloc S2.out).call (put_any [Lib.itoa (-n)] _ _ (WFr.alloc S2.out).wrt ((WFr.alloc S2.out).env H.out HE.out).hi (slAt_parts ((WFr.alloc S2.out).blk 0 rfl) rfl rfl (by decide)) (by simp) (by simp[whenP];omega)) ?_;intro w3 S3;go_wp2_with fail;go_returns;rw[hP.out];have:=S3.out.done;simpa[whenP]using this
 ·have hm:max n (-n)=n:=by omega
  have hP:Hid (pNum n=[Lib.itoa n]):=if_neg hneg;have hneg':decide (n<0)=false:=decide_eq_false hneg;go_enter func130,ntmps130;go_wp2_with fail;refine(WFr.alloc S0.out).call (A4 false [[45]] _ _ (WFr.alloc S0.out).wrt ((WFr.alloc S0.out).env H.out HE.out).hi (slAt_parts ((WFr.alloc S0.out).blk 0 rfl) rfl rfl (by decide)) (by simp) (by simp;omega)) ?_;intro w1 S1;go_wp2_with fail;refine Calls.mono (itoa_env n (by omega) (by omega) _ (S1.out.env H.out HE.out)) ?_;rintro e w2 ⟨rfl,hb2⟩;have S2:=Lib.hid (S1.out.kept hb2);clear hb2;go_wp2_with fail;refine(WFr.alloc S2.out).call (put_any [Lib.itoa n] _ _ (WFr.alloc S2.out).wrt ((WFr.alloc S2.out).env H.out HE.out).hi (slAt_parts ((WFr.alloc S2.out).blk 0 rfl) rfl rfl (by decide)) (by simp) (by simp[whenP];omega)) ?_;intro w3 S3;go_wp2_with fail;go_returns;rw[hP.out];have:=S3.out.done;simpa[whenP]using this
theorem Ui {v:V} (h:v.right=true) (hk:v.k=1):-549755813888<=v.n/\v.n<=549755813887:=by
 obtain⟨k,n,s⟩:=v;simp only at hk;subst hk;simp[V.right]at h;show -549755813888<=n/\n<=549755813887;omega
theorem Ts (v:V) (hv:v.right=true) (w:World) (h:Wrt base w wb xs) (he:Env base w) (hn:xs.length+2<=1000000000):
 Calls prog 64 #[.pointer (some ⟨wb,0,none⟩),.agg #[.int .i64 v.k,.int .i64 v.n,.string v.s]] w (Puts base wb w (xs++pVal v)):=by
 have S0:=Lib.hid (WFr.start h)
 have H:=Lib.hid h
 have HE:=Lib.hid he
 have hr:=Ui hv
 have HV:=Lib.hid hv
 clear h he hv
 by_cases hk:v.k=1
 ·have hP:Hid (pVal v=pNum v.n):=if_pos hk;have h1:=hr hk;have C:=Lib.hid (fun xs w (h:Wrt base w wb xs) he hn=>number38_any (base:=base) (wb:=wb) (xs:=xs) v.n h1.1 (by omega) w h he hn);rw[hP.out];clear hr h1 hP HV;generalize v.n=n at *;generalize v.s=s at *;rw[hk];go_enter func64,ntmps64;go_wp2_with fail;refine(WFr.alloc S0.out).call (C.out _ _ (WFr.alloc S0.out).wrt ((WFr.alloc S0.out).env H.out HE.out) hn) ?_;intro w1 S1;go_wp2_with fail;go_returns;exact S1.out.done
 ·have hP:Hid (pVal v=[v.print]):=if_neg hk;have C:=Lib.hid (fun W (h:Env base W)=>Uv v HV.out W h.pow);unfold V.val at C;rw[hP.out];clear hr hP HV;generalize v.print=p at *;generalize v.n=n at *;generalize v.s=s at *;generalize v.k=k at *;have hk':(k==1)=false:=beq_eq_false_iff_ne.2 hk;go_enter func64,ntmps64;go_wp2_with fail;refine Calls.mono (C.out _ ((WFr.alloc S0.out).env H.out HE.out)) ?_;rintro e w2 ⟨rfl,hb2⟩;have S2:=Lib.hid ((WFr.alloc S0.out).kept hb2);clear hb2 C;go_wp2_with fail;refine(WFr.alloc S2.out).call (put_any [p] _ _ (WFr.alloc S2.out).wrt ((WFr.alloc S2.out).env H.out HE.out).hi (slAt_parts ((WFr.alloc S2.out).blk 0 rfl) rfl rfl (by decide)) (by simp) (by simp;omega)) ?_;intro w3 S3;go_wp2_with fail;go_returns;exact S3.out.done
end Go.Proofs.YtjmmbebkbkgefaaGreatDoor
namespace Go.Proofs.YtjmmbebkbkgefaaGreatDoor
open Go.RowKit Go.Sort Tryz
variable {base wb:Nat} {w0 w w' w2:World} {L:List Blk} {xs ys zs:List Bytes}
structure ExClo (wb b3 b4:Nat) (w:World) (cs:Array Value):Prop where
 h3:w.heap[b3]?=some (.cells #[.pointer (some ⟨wb,0,none⟩)] 117 (0,0))
 h4:w.heap[b4]?=some (.cells cs 27 (0,0))
 n3:¬WOwn wb w b3
 n4:¬WOwn wb w b4
theorem Bi {b:Nat} {o:Obj} (h:w.heap[b]?=some o) (hn:¬WOwn wb w b) (k:Wrote base wb w w' ys):w'.heap[b]?=some o/\¬WOwn wb w' b:=by
 have hlt:=(Array.getElem?_eq_some_iff.1 h).1;exact⟨(k.turn.block b hlt hn).trans h,fun hk=>(k.own b hk).elim hn (fun h=>by omega)⟩
theorem ExClo.went {b3 b4:Nat} {cs:Array Value} (h:ExClo wb b3 b4 w cs) (k:Wrote base wb w w' ys):ExClo wb b3 b4 w' cs:=
 ⟨(Bi h.h3 h.n3 k).1,(Bi h.h4 h.n4 k).1,(Bi h.h3 h.n3 k).2,(Bi h.h4 h.n4 k).2⟩
theorem ExClo.cells {b3 b4:Nat} {op:Int} {t n:Bytes} {v:V} {a:Option Addr} {m c:Nat} (h:ExClo wb b3 b4 w #[.int .i64 op,.string ⟨t.toArray⟩,.string ⟨n.toArray⟩,.int .i64 v.k,.int .i64 v.n,.string v.s,.slice a m c]):
 w.cell? ⟨b3,0,none⟩=some (.pointer (some ⟨wb,0,none⟩))/\w.cell? ⟨b4,1,none⟩=some (.string ⟨t.toArray⟩)/\w.cell? ⟨b4,2,none⟩=some (.string ⟨n.toArray⟩)/\w.cell? ⟨b4,3,none⟩=some (.int .i64 v.k)/\w.cell? ⟨b4,4,none⟩=some (.int .i64 v.n)/\w.cell? ⟨b4,5,none⟩=some (.string v.s)/\w.cell? ⟨b4,6,none⟩=some (.slice a m c):=by
 have h3:=h.h3
 have h4:=h.h4
 refine⟨?_,?_,?_,?_,?_,?_,?_⟩
 ·simp only[World.cell?,h3];rfl
 all_goals(simp only[World.cell?,h4];rfl)
theorem dg (b3 b4:Nat) (op:Int) (t n:Bytes) (v:V) (a:Option Addr) (m c:Nat) (w:World) (hc:ExClo wb b3 b4 w #[.int .i64 op,.string ⟨t.toArray⟩,.string ⟨n.toArray⟩,.int .i64 v.k,.int .i64 v.n,.string v.s,.slice a m c]) (h:Wrt base w wb xs) (he:Env base w) (hn:xs.length+10<=1000000000):
 Calls prog 190 #[.pointer (some ⟨b3,0,none⟩),.pointer (some ⟨b4,0,none⟩)] w (Puts base wb w (xs++(whenP (decide (t≠[])) [t,[46]]++[n]))):=by
 have S0:=Lib.hid (WFr.start h)
 have H:=Lib.hid h
 have HE:=Lib.hid he
 have HC:=Lib.hid hc
 obtain⟨y0,y1,y2,_,_,_,_⟩:=hc.cells
 have ht:(!t.isEmpty)=decide (t≠[]):=by cases t<;>simp
 have ht2:(t != [])=decide (t≠[]):=by cases t<;>simp
 obtain⟨b,hb⟩:∃b,decide (t≠[])=b:=⟨_,rfl⟩
 rw[hb]at ht ht2 ⊢
 have hlen:(whenP b [t,[46]]).length<=2:=by cases b<;>simp[whenP]
 clear h he hc hb
 go_enter func190,ntmps190
 go_wp2_with fail
 all_goals(refine(WFr.alloc S0.out).call (A4 b [t,[46]] _ _ (WFr.alloc S0.out).wrt ((WFr.alloc S0.out).env H.out HE.out).hi (slAt_parts ((WFr.alloc S0.out).blk 0 rfl) rfl rfl (by decide)) (by simp) (by simp;omega)) ?_)
 intro w1 S1
 have HC1:=Lib.hid (HC.out.went S1.out.wr)
 clear y0 y1 y2
 obtain⟨y0,y1,y2,_,_,_,_⟩:=HC1.out.cells
 go_wp2_with fail
 refine(WFr.alloc S1.out).call (put_any [n] _ _ (WFr.alloc S1.out).wrt ((WFr.alloc S1.out).env H.out HE.out).hi (slAt_parts ((WFr.alloc S1.out).blk 0 rfl) rfl rfl (by decide)) (by simp) (by simp;omega)) ?_
 intro w2 S2
 go_wp2_with fail
 go_returns
 rw[<- List.append_assoc]
 exact S2.out.done
theorem c163 (b3 b4:Nat) (op:Int) (t n:Bytes) (v:V) (a:Option Addr) (m c:Nat) (w:World) (hc:ExClo wb b3 b4 w #[.int .i64 op,.string ⟨t.toArray⟩,.string ⟨n.toArray⟩,.int .i64 v.k,.int .i64 v.n,.string v.s,.slice a m c]) (h:Wrt base w wb xs) (he:Env base w) (hv:v.right=true) (hn:xs.length+10<=1000000000):
 Calls prog 191 #[.pointer (some ⟨b3,0,none⟩),.pointer (some ⟨b4,0,none⟩)] w (Puts base wb w (xs++pVal v)):=by
 have S0:=Lib.hid (WFr.start h)
 have C:=Lib.hid (Ts v hv w h he (by omega))
 obtain⟨y0,_,_,y3,y4,y5,_⟩:=hc.cells
 generalize pVal v=ps at *
 clear h he hc hv
 go_enter func191,ntmps191
 go_wp2_with fail
 refine S0.out.call C.out ?_
 intro w1 S1
 go_wp2_with fail
 go_returns
 exact S1.out.done
def ExprC (base wb:Nat) (e:Ex):Prop:=∀(rule:Int) (xs:List Bytes) (cs:List Value) (w:World),0<=rule->rule<=6->ExIn (·<base) w e cs->e.formed=true->Wrt base w wb xs->Env base w->xs.length+(exPr e rule).length+10<=1000000000 ->
 Calls prog 132 #[.pointer (some ⟨wb,0,none⟩),.agg cs.toArray,.int .i64 rule] w (Puts base wb w (xs++exPr e rule))
theorem I7 {Q:Nat->Prop} {v:Value} {l:List Ex} {k:Nat} {e:Ex} (h:ExSl Q w v l) (hk:l[k]?=some e):∃b o cap a c,v=.slice (some ⟨b,o,none⟩) l.length cap/\
 ExIn Q w e [.int .i64 e.op,.string ⟨e.table.toArray⟩,.string ⟨e.name.toArray⟩,.int .i64 e.val.k,.int .i64 e.val.n,.string e.val.s,.slice a e.args.length c]/\
 w.cell? ⟨b,o+k * 7,none⟩=some (.int .i64 e.op)/\w.cell? ⟨b,o+k * 7+1,none⟩=some (.string ⟨e.table.toArray⟩)/\w.cell? ⟨b,o+k * 7+2,none⟩=some (.string ⟨e.name.toArray⟩)/\w.cell? ⟨b,o+k * 7+3,none⟩=some (.int .i64 e.val.k)/\w.cell? ⟨b,o+k * 7+4,none⟩=some (.int .i64 e.val.n)/\w.cell? ⟨b,o+k * 7+5,none⟩=some (.string e.val.s)/\w.cell? ⟨b,o+k * 7+6,none⟩=some (.slice a e.args.length c):=by
 obtain⟨b,o,cap,cs,e1,hin,hat⟩:=(Az h).at hk
 have hin':ExIn Q w e cs:=hin
 obtain⟨a,c,rfl⟩:∃a c,cs=[.int .i64 e.op,.string ⟨e.table.toArray⟩,.string ⟨e.name.toArray⟩,.int .i64 e.val.k,.int .i64 e.val.n,.string e.val.s,.slice a e.args.length c]:=by
  obtain⟨op,t,n,v,args⟩:=e;obtain⟨v0,rfl,hsl⟩:=A6 hin';obtain⟨ad,ac,rfl⟩:=(Az hsl).slice;exact⟨ad,ac,rfl⟩
 exact⟨b,o,cap,a,c,e1,hin',hat 0 _ rfl,hat 1 _ rfl,hat 2 _ rfl,hat 3 _ rfl,hat 4 _ rfl,hat 5 _ rfl,hat 6 _ rfl⟩
theorem df {e:Ex} (IH:ExprC base wb e) (b3 b4:Nat) (op:Int) (t n:Bytes) (v:V) (a:Option Addr) (c:Nat) (w:World) (hc:ExClo wb b3 b4 w #[.int .i64 op,.string ⟨t.toArray⟩,.string ⟨n.toArray⟩,.int .i64 v.k,.int .i64 v.n,.string v.s,.slice a 1 c])
 (hsl:ExSl (·<base) w (.slice a 1 c) [e]) (hf:e.formed=true) (h:Wrt base w wb xs) (he:Env base w) (hn:xs.length+(exPr e 2).length+11<=1000000000):
 Calls prog 192 #[.pointer (some ⟨b3,0,none⟩),.pointer (some ⟨b4,0,none⟩)] w (Puts base wb w (xs++([110,111,116]::exPr e 2))):=by
 have S0:=Lib.hid (WFr.start h)
 have H:=Lib.hid h
 have HE:=Lib.hid he
 have HC:=Lib.hid hc
 have HSL:=Lib.hid hsl
 obtain⟨y0,y1,y2,y3,y4,y5,y6⟩:=hc.cells
 clear h he hc hsl
 go_enter func192,ntmps192
 go_wp2_with fail
 refine(WFr.alloc S0.out).call (put_any [[110,111,116]] _ _ (WFr.alloc S0.out).wrt ((WFr.alloc S0.out).env H.out HE.out).hi (slAt_parts ((WFr.alloc S0.out).blk 0 rfl) rfl rfl (by decide)) (by simp) (by simp;omega)) ?_
 intro w1 S1
 have HC1:=Lib.hid (HC.out.went S1.out.wr)
 have HSL1:Hid (ExSl (·<base) w1 (.slice a 1 c) [e]):=HSL.out.turned (S1.out.old H.out) (fun b hb hk=>by omega)
 clear y0 y1 y2 y3 y4 y5 y6
 obtain⟨y0,_,_,_,_,_,y6⟩:=HC1.out.cells
 obtain⟨b,o,cap,a',c',e1,hin,z0,z1,z2,z3,z4,z5,z6⟩:=I7 (k:=0) HSL1.out rfl
 injection e1 with e1 e3 e2;clear e3
 subst e1 e2
 simp only[Nat.zero_mul,Nat.add_zero]at z0 z1 z2 z3 z4 z5 z6
 have HIN:=Lib.hid hin
 generalize e.op=op' at *
 generalize e.table=t' at *
 generalize e.name=n' at *
 generalize e.val=v' at *
 generalize e.args.length=m' at *
 clear HC HSL HSL1 hin
 replace y0:=cell_regrown y0;replace y6:=cell_regrown y6
 replace z0:=cell_regrown z0;replace z1:=cell_regrown z1;replace z2:=cell_regrown z2;replace z3:=cell_regrown z3;replace z4:=cell_regrown z4;replace z5:=cell_regrown z5;replace z6:=cell_regrown z6
 go_wp2_with fail
 refine Ab 5 [(0,false),(1,false),(2,false),(3,false),(4,false)] (by kernel_rfl) (by kernel_rfl) ?_
 repeat(refine An rfl (fun K hK=>?_);go_simp;first|(refine hK _ ?_;clear hK K)|(apply Exists.intro;refine⟨fun _=>?_,hK _ ?_⟩;(fail);clear hK K))
 refine Dc ?_
 intro w2 hb2 _
 have S2:=Lib.hid (S1.out.kept hb2)
 have HIN2:=Lib.hid (HIN.out.kept hb2)
 clear hb2 y0 y6 z0 z1 z2 z3 z4 z5 z6 HIN S1
 simp only[List.drop_succ_cons,List.drop_zero]
 go_wp2_with fail
 refine S2.out.call (IH 2 _ _ _ (by decide) (by decide) HIN2.out hf S2.out.wrt (S2.out.env H.out HE.out) (by simp;omega)) ?_
 intro w3 S3
 go_wp2_with fail
 go_returns
 have:=S3.out.done
 simpa using this
theorem de {e:Ex} (IH:ExprC base wb e) (b3 b4:Nat) (op:Int) (t n:Bytes) (v:V) (a:Option Addr) (c:Nat) (w:World) (hc:ExClo wb b3 b4 w #[.int .i64 op,.string ⟨t.toArray⟩,.string ⟨n.toArray⟩,.int .i64 v.k,.int .i64 v.n,.string v.s,.slice a 1 c])
 (hsl:ExSl (·<base) w (.slice a 1 c) [e]) (hf:e.formed=true) (h:Wrt base w wb xs) (he:Env base w) (hn:xs.length+(exPr e 4).length+12<=1000000000):
 Calls prog 193 #[.pointer (some ⟨b3,0,none⟩),.pointer (some ⟨b4,0,none⟩)] w (Puts base wb w (xs++(exPr e 4++[[105,115],[110,117,108,108]]))):=by
 have S1:=Lib.hid (WFr.start h)
 have H:=Lib.hid h
 have HE:=Lib.hid he
 have HC:=Lib.hid hc
 have HSL1:=Lib.hid hsl
 obtain⟨y0,_,_,_,_,_,y6⟩:=hc.cells
 clear h he hc hsl
 obtain⟨b,o,cap,a',c',e1,hin,z0,z1,z2,z3,z4,z5,z6⟩:=I7 (k:=0) HSL1.out rfl
 injection e1 with e1 e3 e2;clear e3
 subst e1 e2
 simp only[Nat.zero_mul,Nat.add_zero]at z0 z1 z2 z3 z4 z5 z6
 have HIN:=Lib.hid hin
 generalize e.op=op' at *
 generalize e.table=t' at *
 generalize e.name=n' at *
 generalize e.val=v' at *
 generalize e.args.length=m' at *
 clear HSL1 hin
 replace y0:=cell_regrown y0;replace y6:=cell_regrown y6
 replace z0:=cell_regrown z0;replace z1:=cell_regrown z1;replace z2:=cell_regrown z2;replace z3:=cell_regrown z3;replace z4:=cell_regrown z4;replace z5:=cell_regrown z5;replace z6:=cell_regrown z6
 go_enter func193,ntmps193
 go_wp2_with fail
 refine Ab 5 [(0,false),(1,false),(2,false),(3,false),(4,false)] (by kernel_rfl) (by kernel_rfl) ?_
 repeat(refine An rfl (fun K hK=>?_);go_simp;first|(refine hK _ ?_;clear hK K)|(apply Exists.intro;refine⟨fun _=>?_,hK _ ?_⟩;(fail);clear hK K))
 refine Dc ?_
 intro w2 hb2 _
 have S2:=Lib.hid (S1.out.kept hb2)
 have HIN2:=Lib.hid (HIN.out.kept hb2)
 clear hb2 y0 y6 z0 z1 z2 z3 z4 z5 z6 HIN S1
 simp only[List.drop_succ_cons,List.drop_zero]
 go_wp2_with fail
 refine S2.out.call (IH 4 _ _ _ (by decide) (by decide) HIN2.out hf S2.out.wrt (S2.out.env H.out HE.out) (by omega)) ?_
 intro w3 S3
 have HC3:=Lib.hid (HC.out.went S3.out.wr)
 obtain⟨y0,_,_,_,_,_,_⟩:=HC3.out.cells
 clear HC
 go_wp2_with fail
 refine(WFr.alloc S3.out).call (put_any [[105,115],[110,117,108,108]] _ _ (WFr.alloc S3.out).wrt ((WFr.alloc S3.out).env H.out HE.out).hi (slAt_parts ((WFr.alloc S3.out).blk 0 rfl) rfl rfl (by decide)) (by simp) (by simp;omega)) ?_
 intro w4 S4
 go_wp2_with fail
 go_returns
 rw[<- List.append_assoc]
 exact S4.out.done
end Go.Proofs.YtjmmbebkbkgefaaGreatDoor
namespace Go.Proofs.YtjmmbebkbkgefaaGreatDoor
open Go.RowKit Go.Sort Tryz
open Go.ChangeMaps (setBlock)
theorem Ud:∀y∈opTab,signP y.2.1=y.1/\levP y.2.1=y.2.2:=by decide+kernel
theorem Qc {op:Int} (h:∀y∈opTab,y.2.1≠op):signP op=[]/\levP op=0:=by
 have:opTab.find? (fun x=>x.2.1=op)=none:=by
  rw[List.find?_eq_none];intro y hy;simpa using h y hy
 unfold signP levP;rw[this];exact⟨rfl,rfl⟩
theorem R9 (B:Nat) (w:World):Below B w w.drew:=Below.drewN B w 1
theorem Gq {w:World} {r:Nat} {o p:Obj} (h:w.heap[r]?=some p):(setBlock w r o).heap[r]?=some o:=by
 have:=(Array.getElem?_eq_some_iff.1 h).1;simp[setBlock,this]
theorem Fx {w:World} {r k:Nat} {o:Obj} (h:k≠r):(setBlock w r o).heap[k]?=w.heap[k]?:=by
 simp[setBlock,Array.getElem?_setIfInBounds,Ne.symm h]
theorem Below.setBlock {B:Nat} {a w:World} (h:Below B a w) {r:Nat} {o:Obj} (hr:B<=r):Below B a (setBlock w r o):=
 ⟨h.os,h.tape,h.output,by have:=h.size;simpa[ChangeMaps.setBlock]using this,fun k hk=>by rw[Fx (by omega)];exact h.block k hk⟩
theorem Jp {B:Nat} (op:Int) (w:World) (he:Env B w):Calls prog 129 #[.int .i64 op] w (Says (.tuple #[.string ⟨(signP op).toArray⟩,.int .i64 (levP op)]) w):=by
 obtain⟨mb,es,clock,hmb,hg,hb,hes⟩:=he.ops;have hlt:mb<w.heap.size:=Nat.lt_of_lt_of_le hmb he.hi;have hrg:=run_range_map (P:=prog) w 244 9 246 mb es clock underlying244 hb;have HES:=Lib.hid hes;have HB:=Lib.hid hb;clear hes hb he;go_enter func129,ntmps129;go_wp2_with fail;clear hrg;go_loopw [4,5] (fun _ _ wr=>∃seen:Array Nat,∃c0:Nat,clock<=c0/\Below w.heap.size w wr/\wr.heap[w.heap.size]?=some (.mapIter (some mb) clock seen c0)/\∀x∈es.toList,seen.contains x.born=true->∃y∈opTab,x.key=.string ⟨y.1.toArray⟩/\y.2.1≠op) (fun _ _ wr=>(leftOf es (wr.iterSeen w.heap.size)).size)
 case atStart=>exact⟨#[],clock,Nat.le_refl _,(Below.refl _ _).alloc (Nat.le_refl _) _,World.alloc_heap_new _ _,fun x _ h=>by simp at h⟩
 case round=>
  obtain⟨seen,c0,hc0,hbel,hit,hno⟩:=hrel;have HBEL:=Lib.hid hbel;have HIT:=Lib.hid hit;have HNO:=Lib.hid hno;have hb1:=hbel.blk_kept HB.out;have law:=run_next_at (P:=prog) wr 0 w.heap.size mb clock c0 seen es clock hit hb1 HES.out.stamped.1 hc0;clear hbel hit hno hb1;rcases law with⟨h0,hrun⟩|⟨e,he,w2,hal,hrun⟩
  ·have hnx:∀ty,(Instr.next (.pointer (some ⟨w.heap.size,0,none⟩)) false ty).run prog wr=_:=fun _=>hrun;have hN:Hid (signP op=[]/\levP op=0):=Qc fun y hy e=>by
    obtain⟨x,hx,ex⟩:=HES.out.all y hy;obtain⟨y2,hy2,e2,hne⟩:=HNO.out x hx (all_seen es seen h0 x hx);rw[ex]at e2;have e3:y.1=y2.1:=by simpa using e2
    exact hne ((Oi y hy y2 hy2 e3)▸e)
   clear hrun h0 HNO HIT;go_wp2_with fail;go_returns;exact⟨by rw[hN.out.1,hN.out.2];rfl,HBEL.out⟩
  ·obtain⟨y,hy,ek,ev⟩:=HES.out.mem e (mem_left he).1;rw[ek,ev]at hrun;have hb2:Below w.heap.size w w2:=by rcases hal with rfl|rfl;exact HBEL.out;exact HBEL.out.step (R9 _ _)
   have hit2:w2.heap[w.heap.size]?=some (.mapIter (some mb) clock seen c0):=by rcases hal with rfl|rfl<;>exact HIT.out
   have hit3:=Gq (o:=.mapIter (some mb) clock (seen.push e.born) clock) hit2;have hb3:=Below.setBlock hb2 (r:=w.heap.size) (o:=.mapIter (some mb) clock (seen.push e.born) clock) (Nat.le_refl _);have hmeas:(setBlock w2 w.heap.size (.mapIter (some mb) clock (seen.push e.born) clock)).iterSeen w.heap.size=seen.push e.born:=by unfold World.iterSeen;rw[hit3]
   generalize setBlock w2 w.heap.size (.mapIter (some mb) clock (seen.push e.born) clock)=w3 at *;have hnx:∀ty,(Instr.next (.pointer (some ⟨w.heap.size,0,none⟩)) false ty).run prog wr=_:=fun _=>hrun;have hen:=run_entry_at (P:=prog) w3 w.heap.size mb clock seen es clock e hit3 (hb3.blk_kept HB.out) (mem_left he).1 HES.out.stamped.2.1;rw[ek,ev]at hen;have HS:=Lib.hid (Ud y hy);have hm0:wr.iterSeen w.heap.size=seen:=by unfold World.iterSeen;rw[HIT.out]
   have HB3:=Lib.hid hb3;have HI3:=Lib.hid hit3;have HY:=Lib.hid hy;have HEK:=Lib.hid ek;have HELM:=Lib.hid he;have HM:=Lib.hid hmeas;have HM0:=Lib.hid hm0;clear hal hb2 hit2 hit3 hb3 hmeas hm0 hy ek ev he hrun HIT;obtain⟨yk,yo,yl⟩:=y;simp only at *;by_cases hop:yo=op
   ·subst hop;have hHS:=HS.out;go_wp2_with fail;have y1:∀d os,(grow (redrawn (w3.alloc (.cells #[.int .i64 yo,.int .i64 yl] 246)) d) os).cell? ⟨w3.heap.size,1,none⟩=some (.int .i64 yl):=fun d os=>cell_regrown (by simp only[World.cell?,World.alloc_heap_new];rfl) d os;refine Ab 5 [(0,false),(1,false),(2,false),(3,false),(4,false)] (by kernel_rfl) (by kernel_rfl) ?_;repeat(refine An rfl (fun K hK=>?_);go_simp;first|(refine hK _ ?_;clear hK K)|(apply Exists.intro;refine⟨fun _=>?_,hK _ ?_⟩;(fail);clear hK K))
    refine A3 ?_;intro w5 hb5 _;clear y1;go_wp2_with fail;go_returns;exact⟨by rw[HS.out.1,HS.out.2];rfl,(HB3.out.alloc HB3.out.size _).step hb5⟩
   ·have hop':(yo==op)=false:=beq_eq_false_iff_ne.2 hop;go_wp2_with fail;go_roundw
    case rel=>
     refine⟨seen.push e.born,clock,Nat.le_refl _,HB3.out.alloc HB3.out.size _,?_,fun x hx hc=>?_⟩
     ·rw[Below.heap_alloc _ _ _ (Array.getElem?_eq_some_iff.1 HI3.out).1];exact HI3.out
     ·rw[contains_push]at hc;rcases Bool.or_eq_true _ _▸hc with h1|h1
      ·exact HNO.out x hx h1
      ·have:x=e:=born_inj HES.out.stamped.2.1 hx (mem_left HELM.out).1 (beq_iff_eq.1 h1);subst this;exact⟨_,HY.out,HEK.out,hop⟩
    case measure=>
     rw[HM0.out];have e1:(w3.alloc (.cells #[.int .i64 yo,.int .i64 yl] 246)).iterSeen w.heap.size=seen.push e.born:=by
      unfold World.iterSeen;rw[Below.heap_alloc _ _ _ (Array.getElem?_eq_some_iff.1 HI3.out).1,HI3.out]
     rw[e1];exact left_shrinks es seen e HELM.out
end Go.Proofs.YtjmmbebkbkgefaaGreatDoor
namespace Go.Proofs.YtjmmbebkbkgefaaGreatDoor
open Go.RowKit Go.Sort Tryz
variable {base wb:Nat} {w0 w w' w2:World} {L:List Blk} {xs ys zs:List Bytes}
structure TwoClo (wb b3 b4 bl bs bv:Nat) (left lev:Int) (sign:Bytes) (w:World) (cs:Array Value):Prop where
 ex:ExClo wb b3 b4 w cs
 l:w.heap[bl]?=some (.cells #[.int .i64 left] 3 (0,0))
 s:w.heap[bs]?=some (.cells #[.string ⟨sign.toArray⟩] 9 (0,0))
 v:w.heap[bv]?=some (.cells #[.int .i64 lev] 3 (0,0))
 nl:¬WOwn wb w bl
 ns:¬WOwn wb w bs
 nv:¬WOwn wb w bv
theorem TwoClo.went {b3 b4 bl bs bv:Nat} {left lev:Int} {sign:Bytes} {cs:Array Value} (h:TwoClo wb b3 b4 bl bs bv left lev sign w cs) (k:Wrote base wb w w' ys):TwoClo wb b3 b4 bl bs bv left lev sign w' cs:=
 ⟨h.ex.went k,(Bi h.l h.nl k).1,(Bi h.s h.ns k).1,(Bi h.v h.nv k).1,(Bi h.l h.nl k).2,(Bi h.s h.ns k).2,(Bi h.v h.nv k).2⟩
theorem TwoClo.cells {b3 b4 bl bs bv:Nat} {left lev:Int} {sign:Bytes} {cs:Array Value} (h:TwoClo wb b3 b4 bl bs bv left lev sign w cs):
 w.cell? ⟨bl,0,none⟩=some (.int .i64 left)/\w.cell? ⟨bs,0,none⟩=some (.string ⟨sign.toArray⟩)/\w.cell? ⟨bv,0,none⟩=some (.int .i64 lev):=by
 have h1:=h.l
 have h2:=h.s
 have h3:=h.v
 exact⟨by simp only[World.cell?,h1];rfl,by simp only[World.cell?,h2];rfl,by simp only[World.cell?,h3];rfl⟩
theorem cw {e f:Ex} (IHe:ExprC base wb e) (IHf:ExprC base wb f) (b3 b4 bl bs bv:Nat) (left lev:Int) (sign:Bytes) (op:Int) (t n:Bytes) (v:V) (a:Option Addr) (c:Nat) (w:World) (hc:TwoClo wb b3 b4 bl bs bv left lev sign w #[.int .i64 op,.string ⟨t.toArray⟩,.string ⟨n.toArray⟩,.int .i64 v.k,.int .i64 v.n,.string v.s,.slice a 2 c])
 (h1:0<=left) (h2:left<=6) (h3:0<=lev) (h4:lev<=5) (hsl:ExSl (·<base) w (.slice a 2 c) [e,f]) (hfe:e.formed=true) (hff:f.formed=true) (h:Wrt base w wb xs) (he:Env base w) (hn:xs.length+(exPr e left).length+(exPr f (lev+1)).length+11<=1000000000):
 Calls prog 194 #[.pointer (some ⟨b3,0,none⟩),.pointer (some ⟨b4,0,none⟩),.pointer (some ⟨bl,0,none⟩),.pointer (some ⟨bs,0,none⟩),.pointer (some ⟨bv,0,none⟩)] w (Puts base wb w (xs++(exPr e left++[sign]++exPr f (lev+1)))):=by
 have S1:=Lib.hid (WFr.start h)
 have H:=Lib.hid h
 have HE:=Lib.hid he
 have HC:=Lib.hid hc
 have HSL1:=Lib.hid hsl
 have hw1:wrap64 (lev+1)=lev+1:=IntWalk.wrap64_in _ ⟨by omega,by omega⟩
 obtain⟨y0,_,_,_,_,_,y6⟩:=hc.ex.cells
 obtain⟨u0,_,_⟩:=hc.cells
 clear h he hc hsl
 obtain⟨b,o,cap,a',c',e1,hin,z0,z1,z2,z3,z4,z5,z6⟩:=I7 (k:=0) HSL1.out rfl
 injection e1 with e1 e3 e2
 clear e3
 subst e1 e2
 simp only[Nat.zero_mul,Nat.add_zero]at z0 z1 z2 z3 z4 z5 z6
 have HIN:=Lib.hid hin
 generalize e.op=op' at *
 generalize e.table=t' at *
 generalize e.name=n' at *
 generalize e.val=v' at *
 generalize e.args.length=m' at *
 clear hin
 replace y0:=cell_regrown y0;replace y6:=cell_regrown y6;replace u0:=cell_regrown u0
 replace z0:=cell_regrown z0;replace z1:=cell_regrown z1;replace z2:=cell_regrown z2;replace z3:=cell_regrown z3;replace z4:=cell_regrown z4;replace z5:=cell_regrown z5;replace z6:=cell_regrown z6
 go_enter func194,ntmps194
 go_wp2_with fail
 refine Ab 6 [(0,false),(1,false),(2,false),(3,false),(4,false),(5,false)] (by kernel_rfl) (by kernel_rfl) ?_
 repeat(refine An rfl (fun K hK=>?_);go_simp;first|(refine hK _ ?_;clear hK K)|(apply Exists.intro;refine⟨fun _=>?_,hK _ ?_⟩;(fail);clear hK K))
 refine Dc ?_
 intro w2 hb2 _
 have S2:=Lib.hid (S1.out.kept hb2)
 have HIN2:=Lib.hid (HIN.out.kept hb2)
 clear hb2 y0 y6 u0 z0 z1 z2 z3 z4 z5 z6 HIN S1
 simp only[List.drop_succ_cons,List.drop_zero]
 go_wp2_with fail
 refine S2.out.call (IHe left _ _ _ h1 h2 HIN2.out hfe S2.out.wrt (S2.out.env H.out HE.out) (by omega)) ?_
 intro w3 S3
 have HC3:=Lib.hid (HC.out.went S3.out.wr)
 obtain⟨y0,_,_,_,_,_,y6⟩:=HC3.out.ex.cells
 obtain⟨u0,u1,u2⟩:=HC3.out.cells
 clear HIN2 S2
 go_wp2_with fail
 refine(WFr.alloc S3.out).call (put_any [sign] _ _ (WFr.alloc S3.out).wrt ((WFr.alloc S3.out).env H.out HE.out).hi (slAt_parts ((WFr.alloc S3.out).blk 0 rfl) rfl rfl (by decide)) (by simp) (by simp;omega)) ?_
 intro w4 S4
 have HC4:=Lib.hid (HC.out.went S4.out.wr)
 have HSL4:Hid (ExSl (·<base) w4 (.slice (some ⟨b,o,none⟩) 2 c) [e,f]):=HSL1.out.turned (S4.out.old H.out) (fun b hb hk=>by omega)
 clear y0 y6 u0 u1 u2 S3 HC3 HC HSL1
 obtain⟨y0,_,_,_,_,_,y6⟩:=HC4.out.ex.cells
 obtain⟨_,_,u2⟩:=HC4.out.cells
 obtain⟨b',o',cap',a2,c2,e1,hin,z0,z1,z2,z3,z4,z5,z6⟩:=I7 (k:=1) HSL4.out rfl
 injection e1 with e1 e3 e2
 clear e3
 injection e1 with e1
 injection e1 with e1 e4 e5
 subst e1 e2 e4
 clear e5
 simp only[Nat.one_mul]at z0 z1 z2 z3 z4 z5 z6
 have HIN:=Lib.hid hin
 generalize f.op=op2 at *
 generalize f.table=t2 at *
 generalize f.name=n2 at *
 generalize f.val=v2 at *
 generalize f.args.length=m2 at *
 clear hin HSL4 HC4
 replace y0:=cell_regrown y0;replace y6:=cell_regrown y6;replace u2:=cell_regrown u2
 replace z0:=cell_regrown z0;replace z1:=cell_regrown z1;replace z2:=cell_regrown z2;replace z3:=cell_regrown z3;replace z4:=cell_regrown z4;replace z5:=cell_regrown z5;replace z6:=cell_regrown z6
 go_wp2_with fail
 refine Ab 7 [(0,false),(1,false),(2,false),(3,false),(4,false),(5,false),(6,false)] (by kernel_rfl) (by kernel_rfl) ?_
 repeat(refine An rfl (fun K hK=>?_);go_simp;first|(refine hK _ ?_;clear hK K)|(apply Exists.intro;refine⟨fun _=>?_,hK _ ?_⟩;(fail);clear hK K))
 refine Dc ?_
 intro w5 hb5 _
 have S5:=Lib.hid (S4.out.kept hb5)
 have HIN5:=Lib.hid (HIN.out.kept hb5)
 clear hb5 y0 y6 u2 z0 z1 z2 z3 z4 z5 z6 HIN S4
 simp only[List.drop_succ_cons,List.drop_zero]
 go_wp2_with fail
 refine S5.out.call (IHf (lev+1) _ _ _ (by omega) (by omega) HIN5.out hff S5.out.wrt (S5.out.env H.out HE.out) (by simp;omega)) ?_
 intro w6 S6
 go_wp2_with fail
 go_returns
 rw[<- List.append_assoc,<- List.append_assoc]
 exact S6.out.done
end Go.Proofs.YtjmmbebkbkgefaaGreatDoor
