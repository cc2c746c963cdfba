/- Laws that the last part needs. No condition. -/
import Derived.Maps.RangeRun
import Derived.Test.YtimoefagohifaaaGreatDoorA16
import Derived.Test.YtimoefagohifaaaGreatDoorA30
set_option maxHeartbeats 4000000
set_option maxRecDepth 100000
namespace Go.Proofs.YtimoefagohifaaaGreatDoor
open Go.RowKit Go.Sort Tryz
section
structure Wrt (base:Nat) (w:World) (wb:Nat) (xs:List Bytes):Prop where
 ge:base<=wb
 blk:∃v,w.heap[wb]?=some (.cells #[v] 87 (0,0))/\w.ownsRow base 9 1 v xs.length (strVals xs)/\v.ownBlock≠some wb
def WOwn (wb:Nat) (w:World) (k:Nat):Prop:=k=wb\/∃v,w.heap[wb]?=some (.cells #[v] 87 (0,0))/\v.ownBlock=some k
variable {base wb:Nat} {w0 w w' w2:World} {L:List Blk} {xs ys zs:List Bytes}
theorem Wrt.lt (h:Wrt base w wb xs):wb<w.heap.size:=by
 obtain⟨v,h1,_⟩:=h.blk;exact(uh.1 h1).1
theorem WOwn.at (h:Wrt base w wb xs) {k:Nat} (hk:WOwn wb w k):base<=k/\k<w.heap.size:=by
 obtain⟨v,h1,h2,h3⟩:=h.blk;rcases hk with rfl|⟨u,k1,k2⟩
 ·exact⟨h.ge,h.lt⟩
 ·rw[h1]at k1;simp only[uz,Obj.cells.injEq,aci,aa7,uo]at k1;subst k1;exact vx h2 k k2
theorem WOwn.same (hb:w'.heap[wb]?=w.heap[wb]?) {k:Nat}:WOwn wb w' k↔WOwn wb w k:=by unfold WOwn;rw[hb]
theorem Wrt.turned {M:Nat->Prop} (h:Wrt base w wb xs) (ht:Turn M w w') (hM:∀k,WOwn wb w k->¬M k):Wrt base w' wb xs/\w'.heap[wb]?=w.heap[wb]?:=by
 have h0:=ht.block wb h.lt (hM wb (.inl rfl));obtain⟨v,h1,h2,h3⟩:=h.blk;exact⟨⟨h.ge,v,h0.trans h1,h2.same (fun g hg=>ht.block g (vx h2 g hg).2 (hM g (.inr ⟨v,h1,hg⟩))),h3⟩,h0⟩
theorem Wrt.kept (h:Wrt base w wb xs) (hb:Below w.heap.size w w'):Wrt base w' wb xs/\w'.heap[wb]?=w.heap[wb]?:=h.turned (Turn.of_below (M:=fun _=>False) hb) (fun _ _ h=>h)
structure Wrote (base wb:Nat) (w w':World) (xs:List Bytes):Prop where
 wr:Wrt base w' wb xs
 turn:Turn (WOwn wb w) w w'
 own:∀k,WOwn wb w' k->WOwn wb w k\/w.heap.size<=k
theorem Wrote.refl (h:Wrt base w wb xs):Wrote base wb w w xs:=⟨h,Turn.refl _ _,fun _ hk=>.inl hk⟩
theorem Wrote.trans (h:Wrote base wb w w' xs) (k:Wrote base wb w' w2 ys):Wrote base wb w w2 ys:=
 ⟨k.wr,h.turn.trans k.turn (fun i hi hk=>(h.own i hk).elim id (fun h=>acw)),fun i hi=>(k.own i hi).elim (fun hk=>h.own i hk) (fun hk=>.inr (vj h.turn.size hk))⟩
theorem Wrote.kept (h:Wrote base wb w w' xs) (hb:Below w'.heap.size w' w2):Wrote base wb w w2 xs:=by
 obtain⟨h1,h2⟩:=h.wr.kept hb;exact⟨h1,h.turn.step hb,fun k hk=>h.own k ((WOwn.same h2).1 hk)⟩
theorem Wrote.of_below (h:Wrt base w wb xs) (hb:Below w.heap.size w w'):Wrote base wb w w' xs:=(Wrote.refl h).kept hb
def Puts (base wb:Nat) (w:World) (xs:List Bytes) (e:Ending) (w':World):Prop:=e=.returned (.tuple #[])/\Wrote base wb w w' xs
structure WFr (base wb:Nat) (w0 w:World) (L:List Blk) (xs:List Bytes):Prop where
 wr:Wrote base wb w0 w xs
 st:StM (WOwn wb w0) w0 w L
 ge:∀x∈L,w0.heap.size<=x.1
 apart:∀x∈L,¬WOwn wb w x.1
theorem WFr.start (h:Wrt base w wb xs):WFr base wb w w [] xs:=⟨Wrote.refl h,StM.start _ _,by simp,by simp⟩
theorem WFr.wrt (h:WFr base wb w0 w L xs):Wrt base w wb xs:=h.wr.wr
theorem WFr.facts (h:WFr base wb w0 w L xs):St.Facts w L:=h.st.facts
theorem WFr.size (h:WFr base wb w0 w L xs):w0.heap.size<=w.heap.size:=h.st.turn.size
theorem WFr.blk (h:WFr base wb w0 w L xs) (i:Nat) {b:Nat} {cs:Array Value} {t:TypeId} (hi:L[i]?=some (b,cs,t)):w.heap[b]?=some (.cells cs t (0,0)):=h.st.blk i hi
theorem WFr.lt (h:WFr base wb w0 w L xs) {x:Blk} (hx:x∈L):x.1<w.heap.size:=ko
theorem WFr.kept (h:WFr base wb w0 w L xs) (hb:Below w.heap.size w w'):WFr base wb w0 w' L xs:=
 ⟨h.wr.kept hb,h.st.kept hb,h.ge,fun x hx hk=>h.apart x hx ((WOwn.same (h.wrt.kept hb).2).1 hk)⟩
theorem WFr.laid {o:Obj} (h:WFr base wb w0 w L xs):WFr base wb w0 (w.alloc o) L xs:=h.kept ((uj _ _).alloc (tu _) o)
theorem WFr.alloc {cs:Array Value} {t:TypeId} (h:WFr base wb w0 w L xs):WFr base wb w0 (w.alloc (.cells cs t)) ((w.heap.size,cs,t)::L) xs:=by
 have hb:Below w.heap.size w (w.alloc (.cells cs t)):=(uj _ _).alloc (tu _) _;refine⟨h.wr.kept hb,StM.alloc h.st,fun x hx=>?_,fun x hx hk=>?_⟩
 ·rcases uw.1 hx with rfl|hx
  ·exact h.size
  ·exact h.ge x hx
 ·have hk':=(WOwn.same (h.wrt.kept hb).2).1 hk;rcases uw.1 hx with rfl|hx
  ·have:=(WOwn.at h.wrt hk').2;simp at this
  ·exact h.apart x hx hk'
theorem WFr.tail {x:Blk} (h:WFr base wb w0 w (x::L) xs):WFr base wb w0 w L xs:=⟨h.wr,h.st.tail,fun y hy=>h.ge y (zk _ hy),fun y hy=>h.apart y (zk _ hy)⟩
theorem WFr.set (i:Nat) {b o:Nat} {cs:Array Value} {t:TypeId} {v:Value} (h:WFr base wb w0 w L xs) (hi:L[i]?=some (b,cs,t)):WFr base wb w0 (w.setCell ⟨b,o,none⟩ v) (L.set i (b,cs.setIfInBounds o v,t)) xs:=by
 have hm:=uq hi;have ht:Turn (·=b) w (w.setCell ⟨b,o,none⟩ v):=(Turn.refl _ w).setCell (.inl rfl);have hw:=h.wrt.turned ht (fun k hk e=>by have e':k=b:=e;subst e';exact h.apart _ hm hk);have hge:w0.heap.size<=b:=h.ge _ hm;have hap:¬WOwn wb w b:=h.apart _ hm;refine⟨⟨hw.1,h.wr.turn.setCell (.inr hge),fun k hk=>h.wr.own k ((WOwn.same hw.2).1 hk)⟩,StM.set i h.st hi,fun x hx=>?_,fun x hx hk=>?_⟩
 ·rcases wu hx with hx|rfl
  ·exact h.ge x hx
  ·exact hge
 ·have hk':=(WOwn.same hw.2).1 hk;rcases wu hx with hx|rfl
  ·exact h.apart x hx hk'
  ·exact hap hk'
theorem WFr.went (h:WFr base wb w0 w L xs) (k:Wrote base wb w w' ys):WFr base wb w0 w' L ys:=
 ⟨h.wr.trans k,h.st.turned k.turn (fun i hi hk=>(h.wr.own i hk).elim id (fun h=>acw)) h.apart,h.ge,fun x hx hk=>(k.own _ hk).elim (h.apart x hx) (fun hl=>by have:=h.lt hx;omega)⟩
theorem WFr.call {f:FuncId} {args:Array Value} {K:Ending->World->Prop} (S:WFr base wb w0 w L xs) (C:Calls prog f args w (Puts base wb w ys)) (hK:∀w',Hid (WFr base wb w0 w' L ys)->K (.returned (.tuple #[])) w'):Calls prog f args w K:=by
 refine tp C ?_;rintro e w' ⟨rfl,h⟩;exact hK w' (S.went h)
theorem WFr.done (h:WFr base wb w0 w L xs):Puts base wb w0 xs (.returned (.tuple #[])) w:=⟨rfl,h.wr⟩
theorem WFr.gen {P:Program} {c:Code} {Q:Exit->Act->World->Prop} {a:Act} (h:WFr base wb w0 w L xs) (k:∀W,Hid (WFr base wb w0 W L xs)->Code.wp P c Q a W):Code.wp P c Q a w:=k w h
theorem WFr.old (h:WFr base wb w0 w L xs) (h0:Wrt base w0 wb zs):Turn (base≤·) w0 w:=h.wr.turn.mono (fun _k _ hk=>(WOwn.at h0 hk).1)
theorem Wrote.old (h:Wrote base wb w w' xs) (h0:Wrt base w wb zs):Turn (base≤·) w w':=h.turn.mono (fun _k _ hk=>(WOwn.at h0 hk).1)
theorem Ow (xs ys:List Bytes):strVals (xs++ys)=strVals xs++strVals ys:=by unfold strVals;rw[abk]
theorem Ov (xs:List Bytes):∀u∈strVals xs,u.oneCell'=true:=fun u hu=>by
 obtain⟨s,_,rfl⟩:=zd.1 hu;rfl
theorem slAt_parts {w:World} {nb:Nat} {ps:List Bytes} {t:TypeId} {cs:Array Value} {n cap:Nat} (h:w.heap[nb]?=some (.cells cs t (0,0))) (hcs:cs=(strVals ps).toArray) (hn:n=ps.length) (hc:n<=cap):SlAt w (.slice (O nb) n cap) ps.length (strVals ps):=by
 subst hn hcs;refine⟨_,cap,rfl,hc,fun _=>⟨nb,0,rfl,fun j u hu=>?_⟩⟩;exact ahh
theorem bj {ps:List Bytes} {a0:Option Addr} {c0 g cap:Nat} {w1:World} (h:Wrt base w wb xs) (h1:w.heap[wb]?=some (.cells #[.slice a0 xs.length c0] 87 (0,0))) (h3:(.slice a0 xs.length c0:Value).ownBlock≠some wb) (hown:w1.ownsRow base 9 1 (.slice (O g) (xs.length+ps.length) cap) (xs.length+ps.length) (strVals xs++strVals ps)) (hgr:w.grownBy w1 (.slice a0 xs.length c0:Value).ownBlock) (hblk:(.slice (O g) (xs.length+ps.length) cap:Value).ownBlock=(.slice a0 xs.length c0:Value).ownBlock\/∃g',(.slice (O g) (xs.length+ps.length) cap:Value).ownBlock=some g'/\w.heap.size<=g'):w1.frozen? ⟨wb,0,none⟩=false/\w1.cell? ⟨wb,0,none⟩=some (.slice a0 xs.length c0)/\Hid (Wrote base wb w (w1.setCell ⟨wb,0,none⟩ (.slice (O g) (xs.length+ps.length) cap)) (xs++ps)):=by
 have hlt:wb<w.heap.size:=h.lt;have hb:w1.heap[wb]?=some (.cells #[.slice a0 xs.length c0] 87 (0,0)):=(hgr.block wb hlt (Ne.symm h3)).trans h1;have hne:(.slice (O g) (xs.length+ps.length) cap:Value).ownBlock≠some wb:=by
  rcases hblk with e|⟨g',e,hg⟩
  ·rw[e];exact h3
  ·rw[e];intro e2
   cases e2;omega
 have hb2:(w1.setCell ⟨wb,0,none⟩ (.slice (O g) (xs.length+ps.length) cap)).heap[wb]?=some (.cells #[.slice (O g) (xs.length+ps.length) cap] 87 (0,0)):=by simp[World.setCell,yw,hb]
 refine⟨by simp[World.frozen?,hb],by simp only[World.cell?,hb];rfl,⟨⟨h.ge,_,hb2,?_,hne⟩,?_,?_⟩⟩
 ·rw[Ow,ua];refine World.ownsRow.same hown (fun k hk=>xk _ _ _ _ (fun e=>hne (by rw[hk];exact congrArg some e)))
 ·exact((Turn.of_grown hgr).mono (fun k _ hk=>.inr ⟨_,h1,hk⟩)).setCell (.inl (.inl rfl))
 ·rintro k (rfl|⟨u,k1,k2⟩)
  ·exact .inl (.inl rfl)
  ·rw[hb2]at k1;simp only[uz,Obj.cells.injEq,aci,aa7,uo]at k1;subst k1;rcases hblk with e|⟨g',e,hg⟩
   ·exact .inl (.inr ⟨_,h1,by rw[<- e];exact k2⟩)
   ·rw[e]at k2
    cases k2;exact .inr hg
theorem put_any (ps:List Bytes) (v:Value) (w:World) (h:Wrt base w wb xs) (hbase:base<=w.heap.size) (hv:SlAt w v ps.length (strVals ps)) (hp:0<ps.length) (hn:xs.length+ps.length<=1000000000):Calls prog 22 #[.pointer (some ⟨wb,0,none⟩),v] w (Puts base wb w (xs++ps)):=by
 obtain⟨v0,h1,h2,h3⟩:=h.blk;have y:w.cell? ⟨wb,0,none⟩=some v0:=pd;obtain⟨a0,c0,rfl⟩:∃a c,v0=.slice a xs.length c:=by
  obtain⟨a,cap,e,_⟩:=h2.slAt;exact⟨a,cap,e⟩
 obtain⟨a1,c1,rfl⟩:∃a c,v=.slice a ps.length c:=by
  obtain⟨a,cap,e,_⟩:=hv;exact⟨a,cap,e⟩
 have H:=tm h;have H1:=tm h1;have H2:=tm h2;have H3:=tm h3;have HV:=tm hv;clear h h1 h2 h3 hv;go_enter func22,ntmps22;go_wp2_with(refine wpList_append_at rfl (.tmp 8) (.tmp 9) 38 rfl 9 eS 1 16 underlying38 acz rfl acy base _ xs.length (strVals xs) rfl H2.out _ ps.length (strVals ps) rfl hp HV.out (by simp[strVals]) (Ov ps) acw (by unfold maxLen;omega) hbase ?_;intro v' w1 hown hgr hblk hsl;obtain⟨g,cap,rfl⟩:=hsl;obtain⟨f1,y1,HW⟩:=bj H.out H1.out H3.out hown hgr hblk;clear hown hgr hblk H H1 H2 H3 HV y hp hn hbase);go_returns;exact⟨rfl,HW.out⟩
end
section
variable {base wb:Nat} {w0 w w' w2:World} {L:List Blk} {xs ys zs:List Bytes}
theorem WFr.env (S:WFr base wb w0 w L xs) (h0:Wrt base w0 wb zs) (he:Env base w0):Env base w:=he.turned (S.old h0) (fun _ hk=>hk)
theorem itoa_env {B:Nat} (n:Int) (h0:-1000000000000000<=n) (h1:n<=1000000000000000) (W:World) (h:Env B W):Calls prog 78 #[.int .i64 n] W fun e w''=>e=.returned (.string ⟨(Lib.itoa n).toArray⟩)/\Below W.heap.size W w'':=by
 refine(Tryz.strconv_Itoa n acw acw W h.pow).mono ?_;rintro e w' ⟨rfl,d,os,rfl⟩;refine⟨rfl,?_⟩;exact Lib.below_grow _ _ (tu _) _ _
theorem when_any (b:Bool) (ps:List Bytes) (v:Value) (w:World) (h:Wrt base w wb xs) (hbase:base<=w.heap.size) (hv:SlAt w v ps.length (strVals ps)) (hp:0<ps.length) (hn:xs.length+ps.length<=1000000000):Calls prog 25 #[.pointer (some ⟨wb,0,none⟩),.bool b,v] w (Puts base wb w (xs++whenP b ps)):=by
 have C:=tm (put_any ps v w h hbase hv hp hn);have S:=tm (WFr.start h);obtain⟨a1,c1,rfl⟩:∃a c,v=.slice a ps.length c:=by
  obtain⟨a,cap,e,_⟩:=hv;exact⟨a,cap,e⟩
 clear h hv
 cases b with
 | false=>
  go_enter func25,ntmps25;go_wp2_with fail;go_returns;have:=S.out.done;simpa[whenP]using this
 | true=>
  go_enter func25,ntmps25;go_wp2_with fail;refine S.out.call C.out ?_;intro w1 S;exact z134
theorem number38_any (n:Int) (h0:-549755813888<=n) (h1:n<=549755813888) (w:World) (h:Wrt base w wb xs) (he:Env base w) (hn:xs.length+2<=1000000000):Calls prog 90 #[.pointer (some ⟨wb,0,none⟩),.int .i64 n] w (Puts base wb w (xs++pNum n)):=by
 have S:=tm (WFr.start h);refine z277 ?_;intro H HE;have hw:wrap64 (-n)= -n:=IntWalk.wrap64_in _ ⟨by omega,by omega⟩;clear h he;by_cases hneg:n<0
 ·have hm:max n (-n)= -n:=acw;have hP:Hid (pNum n=[[45],Lib.itoa (-n)]):=if_pos hneg;go_enter func90,ntmps90;go_wp2_with fail;refine(WFr.alloc S.out).call (when_any true [[45]] _ _ (WFr.alloc S.out).wrt ((WFr.alloc S.out).env H.out HE.out).hi (slAt_parts ((WFr.alloc S.out).blk 0 rfl) rfl rfl acy) acx (by simp;omega)) ?_;intro w1 S;go_wp2_with fail;refine tp (itoa_env (-n) acw acw _ (S.out.env H.out HE.out)) ?_;rintro e w2 ⟨rfl,hb⟩;have S:=tm (S.out.kept hb);clear hb;go_wp2_with fail;refine(WFr.alloc S.out).call (put_any [Lib.itoa (-n)] _ _ (WFr.alloc S.out).wrt ((WFr.alloc S.out).env H.out HE.out).hi (slAt_parts ((WFr.alloc S.out).blk 0 rfl) rfl rfl acy) acx (by simp[whenP];omega)) ?_;exact ah5
 ·have hm:max n (-n)=n:=acw;have hP:Hid (pNum n=[Lib.itoa n]):=if_neg hneg;have hneg':decide (n<0)=false:=vm hneg;go_enter func90,ntmps90;go_wp2_with fail;refine(WFr.alloc S.out).call (when_any false [[45]] _ _ (WFr.alloc S.out).wrt ((WFr.alloc S.out).env H.out HE.out).hi (slAt_parts ((WFr.alloc S.out).blk 0 rfl) rfl rfl acy) acx (by simp;omega)) ?_;intro w1 S;go_wp2_with fail;refine tp (itoa_env n acw acw _ (S.out.env H.out HE.out)) ?_;rintro e w2 ⟨rfl,hb⟩;have S:=tm (S.out.kept hb);clear hb;go_wp2_with fail;refine(WFr.alloc S.out).call (put_any [Lib.itoa n] _ _ (WFr.alloc S.out).wrt ((WFr.alloc S.out).env H.out HE.out).hi (slAt_parts ((WFr.alloc S.out).blk 0 rfl) rfl rfl acy) acx (by simp[whenP];omega)) ?_;exact ah5
theorem Wo {v:V} (h:v.right=true) (hk:v.k=1):-549755813888<=v.n/\v.n<=549755813887:=by
 obtain⟨k,n,s⟩:=v;simp only at hk;subst hk;simp[V.right]at h;show -549755813888<=n/\n<=549755813887;omega
theorem Iu (v:V) (hv:v.right=true) (w:World) (h:Wrt base w wb xs) (he:Env base w) (hn:xs.length+2<=1000000000):Calls prog 31 #[.pointer (some ⟨wb,0,none⟩),.agg #[.int .i64 v.k,.int .i64 v.n,.string v.s]] w (Puts base wb w (xs++pVal v)):=by
 have S:=tm (WFr.start h);refine z277 ?_;intro H HE;have hr:=Wo hv;have HV:=tm hv;clear h he hv;by_cases hk:v.k=1
 ·have hP:Hid (pVal v=pNum v.n):=if_pos hk;have h1:=hr hk;have C:=tm (fun xs w (h:Wrt base w wb xs) he hn=>number38_any (base:=base) (wb:=wb) (xs:=xs) v.n h1.1 acw w h he hn);rw[hP.out];clear hr h1 hP HV;generalize v.n=n at *;generalize v.s=s at *;rw[hk];go_enter func31,ntmps31;go_wp2_with fail;refine(WFr.alloc S.out).call (C.out _ _ (WFr.alloc S.out).wrt ((WFr.alloc S.out).env H.out HE.out) hn) ?_;intro w1 S;exact z134
 ·have hP:Hid (pVal v=[v.print]):=if_neg hk;have C:=tm (fun W (h:Env base W)=>Wz v HV.out W h.pow);unfold V.val at C;rw[hP.out];clear hr hP HV;generalize v.print=p at *;generalize v.n=n at *;generalize v.s=s at *;generalize v.k=k at *;have hk':(k==1)=false:=us.2 hk;go_enter func31,ntmps31;go_wp2_with fail;refine tp (C.out _ ((WFr.alloc S.out).env H.out HE.out)) ?_;rintro e w2 ⟨rfl,hb⟩;have S:=tm ((WFr.alloc S.out).kept hb);clear hb C;go_wp2_with fail;refine(WFr.alloc S.out).call (put_any [p] _ _ (WFr.alloc S.out).wrt ((WFr.alloc S.out).env H.out HE.out).hi (slAt_parts ((WFr.alloc S.out).blk 0 rfl) rfl rfl acy) acx (by simp;omega)) ?_;intro w3 S;exact z134
end
section
variable {base wb:Nat} {w0 w w' w2:World} {L:List Blk} {xs ys zs:List Bytes}
structure ExClo (wb b3 b4:Nat) (w:World) (cs:Array Value):Prop where
 h3:w.heap[b3]?=some (.cells #[.pointer (O wb)] 85 (0,0))
 h4:w.heap[b4]?=some (.cells cs 44 (0,0))
 n3:¬WOwn wb w b3
 n4:¬WOwn wb w b4
theorem Bn {b:Nat} {o:Obj} (h:w.heap[b]?=some o) (hn:¬WOwn wb w b) (k:Wrote base wb w w' ys):w'.heap[b]?=some o/\¬WOwn wb w' b:=by
 have hlt:=(uh.1 h).1;exact⟨(k.turn.block b hlt hn).trans h,fun hk=>(k.own b hk).elim hn (fun h=>acw)⟩
theorem ExClo.went {b3 b4:Nat} {cs:Array Value} (h:ExClo wb b3 b4 w cs) (k:Wrote base wb w w' ys):ExClo wb b3 b4 w' cs:=
 ⟨(Bn h.h3 h.n3 k).1,(Bn h.h4 h.n4 k).1,(Bn h.h3 h.n3 k).2,(Bn h.h4 h.n4 k).2⟩
theorem ExClo.cells {b3 b4:Nat} {op:Int} {t n:Bytes} {v:V} {a:Option Addr} {m c:Nat} (h:ExClo wb b3 b4 w #[U op,.string (Y t),.string (Y n),U v.k,U v.n,.string v.s,.slice a m c]):w.cell? ⟨b3,0,none⟩=some (.pointer (O wb))/\w.cell? ⟨b4,1,none⟩=some (.string (Y t))/\w.cell? ⟨b4,2,none⟩=some (.string (Y n))/\w.cell? ⟨b4,3,none⟩=some (U v.k)/\w.cell? ⟨b4,4,none⟩=some (U v.n)/\w.cell? ⟨b4,5,none⟩=some (.string v.s)/\w.cell? ⟨b4,6,none⟩=some (.slice a m c):=by
 have h3:=h.h3;have h4:=h.h4;refine⟨?_,?_,?_,?_,?_,?_,?_⟩
 ·simp only[World.cell?,h3];rfl
 all_goals(simp only[World.cell?,h4];rfl)
theorem tj (b3 b4:Nat) (op:Int) (t n:Bytes) (v:V) (a:Option Addr) (m c:Nat) (w:World) (hc:ExClo wb b3 b4 w #[U op,.string (Y t),.string (Y n),U v.k,U v.n,.string v.s,.slice a m c]) (h:Wrt base w wb xs) (he:Env base w) (hn:xs.length+10<=1000000000):Calls prog 162 #[.pointer (some ⟨b3,0,none⟩),.pointer (some ⟨b4,0,none⟩)] w (Puts base wb w (xs++(whenP (decide (t≠[])) [t,[46]]++[n]))):=by
 have S:=tm (WFr.start h);refine z277 ?_;intro H HE;have HC:=tm hc;obtain⟨y,y1,y2,_,_,_,_⟩:=hc.cells;have ht:(!t.isEmpty)=decide (t≠[]):=by cases t<;>simp
 have ht2:(t != [])=decide (t≠[]):=by cases t<;>simp
 obtain⟨b,hb⟩:∃b,decide (t≠[])=b:=⟨_,rfl⟩;rw[hb]at ht ht2 ⊢;have hlen:(whenP b [t,[46]]).length<=2:=by cases b<;>simp[whenP]
 clear h he hc hb;go_enter func162,ntmps162;go_wp2_with fail;all_goals(refine(WFr.alloc S.out).call (when_any b [t,[46]] _ _ (WFr.alloc S.out).wrt ((WFr.alloc S.out).env H.out HE.out).hi (slAt_parts ((WFr.alloc S.out).blk 0 rfl) rfl rfl acy) acx (by simp;omega)) ?_)
 intro w1 S;have HC1:=tm (HC.out.went S.out.wr);clear y y1 y2;obtain⟨y,y,y,_,_,_,_⟩:=HC1.out.cells;go_wp2_with fail;refine(WFr.alloc S.out).call (put_any [n] _ _ (WFr.alloc S.out).wrt ((WFr.alloc S.out).env H.out HE.out).hi (slAt_parts ((WFr.alloc S.out).blk 0 rfl) rfl rfl acy) acx (by simp;omega)) ?_;intro w2 S;exact z204
theorem c163 (b3 b4:Nat) (op:Int) (t n:Bytes) (v:V) (a:Option Addr) (m c:Nat) (w:World) (hc:ExClo wb b3 b4 w #[U op,.string (Y t),.string (Y n),U v.k,U v.n,.string v.s,.slice a m c]) (h:Wrt base w wb xs) (he:Env base w) (hv:v.right=true) (hn:xs.length+10<=1000000000):Calls prog 163 #[.pointer (some ⟨b3,0,none⟩),.pointer (some ⟨b4,0,none⟩)] w (Puts base wb w (xs++pVal v)):=by
 have S:=tm (WFr.start h);have C:=tm (Iu v hv w h he acw);obtain⟨y,_,_,y,y,y,_⟩:=hc.cells;generalize pVal v=ps at *;clear h he hc hv;go_enter func163,ntmps163;go_wp2_with fail;refine S.out.call C.out ?_;intro w1 S;exact z134
def ExprC (base wb:Nat) (e:Ex):Prop:=∀(rule:Int) (xs:List Bytes) (cs:List Value) (w:World),0<=rule->rule<=6->ExIn (·<base) w e cs->e.formed=true->Wrt base w wb xs->Env base w->xs.length+(exPr e rule).length+10<=1000000000 ->
 Calls prog 92 #[.pointer (some ⟨wb,0,none⟩),.agg cs.toArray,.int .i64 rule] w (Puts base wb w (xs++exPr e rule))
theorem J6 {Q:Nat->Prop} {v:Value} {l:List Ex} {k:Nat} {e:Ex} (h:ExSl Q w v l) (hk:l[k]?=some e):∃b o cap a c,v=.slice (some ⟨b,o,none⟩) l.length cap/\ ExIn Q w e [U e.op,.string (Y e.table),.string (Y e.name),U e.val.k,U e.val.n,.string e.val.s,.slice a e.args.length c]/\ w.cell? ⟨b,o+k * 7,none⟩=some (U e.op)/\w.cell? ⟨b,o+k * 7+1,none⟩=some (.string (Y e.table))/\w.cell? ⟨b,o+k * 7+2,none⟩=some (.string (Y e.name))/\w.cell? ⟨b,o+k * 7+3,none⟩=some (U e.val.k)/\w.cell? ⟨b,o+k * 7+4,none⟩=some (U e.val.n)/\w.cell? ⟨b,o+k * 7+5,none⟩=some (.string e.val.s)/\w.cell? ⟨b,o+k * 7+6,none⟩=some (.slice a e.args.length c):=by
 obtain⟨b,o,cap,cs,e1,hin,hat⟩:=(Cv h).at hk;have hin':ExIn Q w e cs:=hin;obtain⟨a,c,rfl⟩:∃a c,cs=[U e.op,.string (Y e.table),.string (Y e.name),U e.val.k,U e.val.n,.string e.val.s,.slice a e.args.length c]:=by
  obtain⟨op,t,n,v,args⟩:=e;obtain⟨v0,rfl,hsl⟩:=Ds hin';obtain⟨ad,ac,rfl⟩:=(Cv hsl).slice;exact⟨ad,ac,rfl⟩
 exact⟨b,o,cap,a,c,e1,hin',hat 0 _ rfl,hat 1 _ rfl,hat 2 _ rfl,hat 3 _ rfl,hat 4 _ rfl,hat 5 _ rfl,hat 6 _ rfl⟩
theorem ti {e:Ex} (IH:ExprC base wb e) (b3 b4:Nat) (op:Int) (t n:Bytes) (v:V) (a:Option Addr) (c:Nat) (w:World) (hc:ExClo wb b3 b4 w #[U op,.string (Y t),.string (Y n),U v.k,U v.n,.string v.s,.slice a 1 c]) (hsl:ExSl (·<base) w (.slice a 1 c) [e]) (hf:e.formed=true) (h:Wrt base w wb xs) (he:Env base w) (hn:xs.length+(exPr e 2).length+11<=1000000000):Calls prog 164 #[.pointer (some ⟨b3,0,none⟩),.pointer (some ⟨b4,0,none⟩)] w (Puts base wb w (xs++([110,111,116]::exPr e 2))):=by
 have S:=tm (WFr.start h);refine z277 ?_;intro H HE;have HC:=tm hc;have HSL:=tm hsl;obtain⟨y,y1,y2,y3,y4,y5,y6⟩:=hc.cells;clear h he hc hsl;go_enter func164,ntmps164;go_wp2_with fail;refine(WFr.alloc S.out).call (put_any [[110,111,116]] _ _ (WFr.alloc S.out).wrt ((WFr.alloc S.out).env H.out HE.out).hi (slAt_parts ((WFr.alloc S.out).blk 0 rfl) rfl rfl acy) acx (by simp;omega)) ?_;intro w1 S;have HC1:=tm (HC.out.went S.out.wr);have HSL1:Hid (ExSl (·<base) w1 (.slice a 1 c) [e]):=HSL.out.turned (S.out.old H.out) (fun b hb hk=>acw);clear y y1 y2 y3 y4 y5 y6;obtain⟨y,_,_,_,_,_,y6⟩:=HC1.out.cells;obtain⟨b,o,cap,a',c',e1,hin,z,z1,z2,z3,z4,z5,z6⟩:=J6 (k:=0) HSL1.out rfl;injection e1 with e1 e3 e2;clear e3;subst e1 e2;simp only[yg,u0]at z z1 z2 z3 z4 z5 z6;have HIN:=tm hin;generalize e.op=op' at *;generalize e.table=t' at *;generalize e.name=n' at *;generalize e.val=v' at *;generalize e.args.length=m' at *;clear HC HSL HSL1 hin;replace y:=ud y;replace y6:=ud y6;replace z:=ud z;replace z1:=ud z1;replace z2:=ud z2;replace z3:=ud z3;replace z4:=ud z4;replace z5:=ud z5;replace z6:=ud z6;go_wp2_with fail;refine wp_region_mixed 5 [(0,false),(1,false),(2,false),(3,false),(4,false)] acz acz ?_;refine z38 ?_;intro w2 hb2 _;replace S:=tm (S.out.kept hb2);have HIN2:=tm (HIN.out.kept hb2);clear hb2 y y6 z z1 z2 z3 z4 z5 z6 HIN;refine z279 ?_;go_wp2_with fail;refine S.out.call (IH 2 _ _ _ acy acy HIN2.out hf S.out.wrt (S.out.env H.out HE.out) (by simp;omega)) ?_;intro w3 S;go_wp2_with fail
 go_returns;have:=S.out.done;simpa using this
theorem th {e:Ex} (IH:ExprC base wb e) (b3 b4:Nat) (op:Int) (t n:Bytes) (v:V) (a:Option Addr) (c:Nat) (w:World) (hc:ExClo wb b3 b4 w #[U op,.string (Y t),.string (Y n),U v.k,U v.n,.string v.s,.slice a 1 c]) (hsl:ExSl (·<base) w (.slice a 1 c) [e]) (hf:e.formed=true) (h:Wrt base w wb xs) (he:Env base w) (hn:xs.length+(exPr e 4).length+12<=1000000000):Calls prog 165 #[.pointer (some ⟨b3,0,none⟩),.pointer (some ⟨b4,0,none⟩)] w (Puts base wb w (xs++(exPr e 4++[[105,115],[110,117,108,108]]))):=by
 have S:=tm (WFr.start h);refine z277 ?_;intro H HE;have HC:=tm hc;have HSL:=tm hsl;obtain⟨y,_,_,_,_,_,y6⟩:=hc.cells;clear h he hc hsl;obtain⟨b,o,cap,a',c',e1,hin,z,z1,z2,z3,z4,z5,z6⟩:=J6 (k:=0) HSL.out rfl;injection e1 with e1 e3 e2;clear e3;subst e1 e2;simp only[yg,u0]at z z1 z2 z3 z4 z5 z6;have HIN:=tm hin;generalize e.op=op' at *;generalize e.table=t' at *;generalize e.name=n' at *;generalize e.val=v' at *;generalize e.args.length=m' at *;clear HSL hin;replace y:=ud y;replace y6:=ud y6;replace z:=ud z;replace z1:=ud z1;replace z2:=ud z2;replace z3:=ud z3;replace z4:=ud z4;replace z5:=ud z5;replace z6:=ud z6;go_enter func165,ntmps165;go_wp2_with fail;refine wp_region_mixed 5 [(0,false),(1,false),(2,false),(3,false),(4,false)] acz acz ?_;refine z38 ?_;intro w2 hb _;refine z252 ?_;intro S;have HIN2:=tm (HIN.out.kept hb);clear hb y y6 z z1 z2 z3 z4 z5 z6 HIN;refine z279 ?_;go_wp2_with fail;refine S.out.call (IH 4 _ _ _ acy acy HIN2.out hf S.out.wrt (S.out.env H.out HE.out) acw) ?_;intro w3 S;have HC3:=tm (HC.out.went S.out.wr);obtain⟨y,_,_,_,_,_,_⟩:=HC3.out.cells;clear HC;go_wp2_with fail;refine(WFr.alloc S.out).call (put_any [[105,115],[110,117,108,108]] _ _ (WFr.alloc S.out).wrt ((WFr.alloc S.out).env H.out HE.out).hi (slAt_parts ((WFr.alloc S.out).blk 0 rfl) rfl rfl acy) acx (by simp;omega)) ?_;intro w4 S;exact z204
end
section
open Go.ChangeMaps (setBlock)
theorem signP_mem:∀y∈opTab,signP y.2.1=y.1/\levP y.2.1=y.2.2:=ac0
theorem Rx {op:Int} (h:∀y∈opTab,y.2.1≠op):signP op=[]/\levP op=0:=by
 have:opTab.find? (fun x=>x.2.1=op)=none:=by
  rw[List.find?_eq_none];intro y hy;simpa using h y hy
 unfold signP levP;rw[this];exact⟨rfl,rfl⟩
theorem Uq (B:Nat) (w:World):Below B w w.drew:=Below.drewN B w 1
theorem Hq {w:World} {r:Nat} {o p:Obj} (h:w.heap[r]?=some p):(setBlock w r o).heap[r]?=some o:=by
 have:=(uh.1 h).1;simp[setBlock,this]
theorem Hb {w:World} {r k:Nat} {o:Obj} (h:k≠r):(setBlock w r o).heap[k]?=w.heap[k]?:=by
 simp[setBlock,Ne.symm h]
theorem Below.setBlock {B:Nat} {a w:World} (h:Below B a w) {r:Nat} {o:Obj} (hr:B<=r):Below B a (setBlock w r o):=
 ⟨h.os,h.tape,h.output,by have:=h.size;simpa[ChangeMaps.setBlock]using this,fun k hk=>by rw[Hb acw];exact h.block k hk⟩
theorem Hm {B:Nat} (op:Int) (w:World) (he:Env B w):Calls prog 89 #[.int .i64 op] w (Says (.tuple #[.string ⟨(signP op).toArray⟩,U (levP op)]) w):=by
 obtain⟨mb,es,clock,hmb,hg,hb,hes⟩:=he.ops;have hlt:mb<w.heap.size:=vw hmb he.hi;have hrg:=run_range_map (P:=prog) w 213 9 215 mb es clock underlying213 hb;have HES:=tm hes;have HB:=tm hb;clear hes hb he;go_enter func89,ntmps89;go_wp2_with fail;clear hrg;go_loopw [4,5] (fun _ _ wr=>∃seen:Array Nat,∃c0:Nat,clock<=c0/\Below w.heap.size w wr/\wr.heap[w.heap.size]?=some (.mapIter (some mb) clock seen c0)/\∀x∈es.toList,seen.contains x.born=true->∃y∈opTab,x.key=.string (Y y.1)/\y.2.1≠op) (fun _ _ wr=>(leftOf es (wr.iterSeen w.heap.size)).size)
 case atStart=>exact⟨#[],clock,tu _,(uj _ _).alloc (tu _) _,World.alloc_heap_new _ _,fun x _ h=>by simp at h⟩
 case round=>
  obtain⟨seen,c0,hc0,hbel,hit,hno⟩:=hrel;have HBEL:=tm hbel;have HIT:=tm hit;have HNO:=tm hno;have hb1:=hbel.blk_kept HB.out;have law:=run_next_at (P:=prog) wr 0 w.heap.size mb clock c0 seen es clock hit hb1 HES.out.stamped.1 hc0;clear hbel hit hno hb1;rcases law with⟨h0,hrun⟩|⟨e,he,w2,hal,hrun⟩
  ·have hnx:∀ty,(Instr.next (.pointer (O w.heap.size)) false ty).run prog wr=_:=fun _=>hrun;have hN:Hid (signP op=[]/\levP op=0):=Rx fun y hy e=>by
    obtain⟨x,hx,ex⟩:=HES.out.all y hy;obtain⟨y2,hy2,e2,hne⟩:=HNO.out x hx (all_seen es seen h0 x hx);rw[ex]at e2;have e3:y.1=y2.1:=by simpa using e2
    exact hne ((Pr y hy y2 hy2 e3)▸e)
   clear hrun h0 HNO HIT;go_wp2_with fail;go_returns;exact⟨by rw[hN.out.1,hN.out.2];rfl,HBEL.out⟩
  ·obtain⟨y,hy,ek,ev⟩:=HES.out.mem e (mem_left he).1;rw[ek,ev]at hrun;have hb2:Below w.heap.size w w2:=by rcases hal with rfl|rfl;exact HBEL.out;exact HBEL.out.step (Uq _ _)
   have hit2:w2.heap[w.heap.size]?=some (.mapIter (some mb) clock seen c0):=by rcases hal with rfl|rfl<;>exact HIT.out
   have hit3:=Hq (o:=.mapIter (some mb) clock (seen.push e.born) clock) hit2;have hb3:=Below.setBlock hb2 (r:=w.heap.size) (o:=.mapIter (some mb) clock (seen.push e.born) clock) (tu _);have hmeas:(setBlock w2 w.heap.size (.mapIter (some mb) clock (seen.push e.born) clock)).iterSeen w.heap.size=seen.push e.born:=by unfold World.iterSeen;rw[hit3]
   generalize setBlock w2 w.heap.size (.mapIter (some mb) clock (seen.push e.born) clock)=w3 at *;have hnx:∀ty,(Instr.next (.pointer (O w.heap.size)) false ty).run prog wr=_:=fun _=>hrun;have hen:=run_entry_at (P:=prog) w3 w.heap.size mb clock seen es clock e hit3 (hb3.blk_kept HB.out) (mem_left he).1 HES.out.stamped.2.1;rw[ek,ev]at hen;have HS:=tm (signP_mem y hy);have hm:wr.iterSeen w.heap.size=seen:=by unfold World.iterSeen;rw[HIT.out]
   have HB3:=tm hb3;have HI:=tm hit3;have HY:=tm hy;have HEK:=tm ek;have HELM:=tm he;have HM:=tm hmeas;have HM0:=tm hm;clear hal hb2 hit2 hit3 hb3 hmeas hm hy ek ev he hrun HIT;obtain⟨yk,yo,yl⟩:=y;simp only at *;by_cases hop:yo=op
   ·subst hop;have hHS:=HS.out;go_wp2_with fail;have y1:∀d os,(grow (redrawn (w3.alloc (.cells #[U yo,U yl] 215)) d) os).cell? ⟨w3.heap.size,1,none⟩=some (U yl):=fun d os=>ud ai d os;refine wp_region_mixed 5 [(0,false),(1,false),(2,false),(3,false),(4,false)] acz acz ?_;refine z1053 ?_;refine Ba ?_;intro w5 hb5 _;clear y1;go_wp2_with fail;go_returns;exact⟨by rw[HS.out.1,HS.out.2];rfl,(HB3.out.alloc HB3.out.size _).step hb5⟩
   ·have hop':(yo==op)=false:=us.2 hop;go_wp2_with fail;go_roundw
    case rel=>
     refine⟨seen.push e.born,clock,tu _,HB3.out.alloc HB3.out.size _,?_,fun x hx hc=>?_⟩
     ·rw[xe _ _ _ (uh.1 HI.out).1];exact HI.out
     ·rw[contains_push]at hc;rcases vy _ _▸hc with h1|h1
      ·exact HNO.out x hx h1
      ·have:x=e:=born_inj HES.out.stamped.2.1 hx (mem_left HELM.out).1 (zp.1 h1);subst this;exact⟨_,HY.out,HEK.out,hop⟩
    case measure=>
     rw[HM0.out];have e1:(w3.alloc (.cells #[U yo,U yl] 215)).iterSeen w.heap.size=seen.push e.born:=by
      unfold World.iterSeen;rw[xe _ _ _ (uh.1 HI.out).1,HI.out]
     rw[e1];exact left_shrinks es seen e HELM.out
end
variable {base wb:Nat} {w0 w w' w2:World} {L:List Blk} {xs ys zs:List Bytes}
structure TwoClo (wb b3 b4 bl bs bv:Nat) (left lev:Int) (sign:Bytes) (w:World) (cs:Array Value):Prop where
 ex:ExClo wb b3 b4 w cs
 l:w.heap[bl]?=some (.cells #[U left] 3 (0,0))
 s:w.heap[bs]?=some (.cells #[.string (Y sign)] 9 (0,0))
 v:w.heap[bv]?=some (.cells #[U lev] 3 (0,0))
 nl:¬WOwn wb w bl
 ns:¬WOwn wb w bs
 nv:¬WOwn wb w bv
theorem TwoClo.went {b3 b4 bl bs bv:Nat} {left lev:Int} {sign:Bytes} {cs:Array Value} (h:TwoClo wb b3 b4 bl bs bv left lev sign w cs) (k:Wrote base wb w w' ys):TwoClo wb b3 b4 bl bs bv left lev sign w' cs:=
 ⟨h.ex.went k,(Bn h.l h.nl k).1,(Bn h.s h.ns k).1,(Bn h.v h.nv k).1,(Bn h.l h.nl k).2,(Bn h.s h.ns k).2,(Bn h.v h.nv k).2⟩
theorem TwoClo.cells {b3 b4 bl bs bv:Nat} {left lev:Int} {sign:Bytes} {cs:Array Value} (h:TwoClo wb b3 b4 bl bs bv left lev sign w cs):w.cell? ⟨bl,0,none⟩=some (U left)/\w.cell? ⟨bs,0,none⟩=some (.string (Y sign))/\w.cell? ⟨bv,0,none⟩=some (U lev):=by
 have h1:=h.l;have h2:=h.s;have h3:=h.v;exact⟨by simp only[World.cell?,h1];rfl,by simp only[World.cell?,h2];rfl,by simp only[World.cell?,h3];rfl⟩
theorem sy {e f:Ex} (IHe:ExprC base wb e) (IHf:ExprC base wb f) (b3 b4 bl bs bv:Nat) (left lev:Int) (sign:Bytes) (op:Int) (t n:Bytes) (v:V) (a:Option Addr) (c:Nat) (w:World) (hc:TwoClo wb b3 b4 bl bs bv left lev sign w #[U op,.string (Y t),.string (Y n),U v.k,U v.n,.string v.s,.slice a 2 c]) (h1:0<=left) (h2:left<=6) (h3:0<=lev) (h4:lev<=5) (hsl:ExSl (·<base) w (.slice a 2 c) [e,f]) (hfe:e.formed=true) (hff:f.formed=true) (h:Wrt base w wb xs) (he:Env base w) (hn:xs.length+(exPr e left).length+(exPr f (lev+1)).length+11<=1000000000):Calls prog 166 #[.pointer (some ⟨b3,0,none⟩),.pointer (some ⟨b4,0,none⟩),.pointer (some ⟨bl,0,none⟩),.pointer (some ⟨bs,0,none⟩),.pointer (some ⟨bv,0,none⟩)] w (Puts base wb w (xs++(exPr e left++[sign]++exPr f (lev+1)))):=by
 have S:=tm (WFr.start h);refine z277 ?_;intro H HE;have HC:=tm hc;have HSL:=tm hsl;have hw:wrap64 (lev+1)=lev+1:=IntWalk.wrap64_in _ ⟨by omega,by omega⟩;obtain⟨y,_,_,_,_,_,y6⟩:=hc.ex.cells;obtain⟨u,_,_⟩:=hc.cells;clear h he hc hsl;obtain⟨b,o,cap,a',c',e1,hin,z,z1,z2,z3,z4,z5,z6⟩:=J6 (k:=0) HSL.out rfl;injection e1 with e1 e3 e2;clear e3;subst e1 e2;simp only[yg,u0]at z z1 z2 z3 z4 z5 z6;have HIN:=tm hin;generalize e.op=op' at *;generalize e.table=t' at *;generalize e.name=n' at *;generalize e.val=v' at *;generalize e.args.length=m' at *;clear hin;replace y:=ud y;replace y6:=ud y6;replace u:=ud u;replace z:=ud z;replace z1:=ud z1;replace z2:=ud z2;replace z3:=ud z3;replace z4:=ud z4;replace z5:=ud z5;replace z6:=ud z6;go_enter func166,ntmps166;go_wp2_with fail;refine wp_region_mixed 6 [(0,false),(1,false),(2,false),(3,false),(4,false),(5,false)] acz acz ?_;refine z38 ?_;intro w2 hb2 _;replace S:=tm (S.out.kept hb2);have HIN2:=tm (HIN.out.kept hb2);clear hb2 y y6 u z z1 z2 z3 z4 z5 z6 HIN;refine z279 ?_;go_wp2_with fail;refine S.out.call (IHe left _ _ _ h1 h2 HIN2.out hfe S.out.wrt (S.out.env H.out HE.out) acw) ?_;clear S;intro w3 S;have HC3:=tm (HC.out.went S.out.wr);obtain⟨y,_,_,_,_,_,y6⟩:=HC3.out.ex.cells;obtain⟨u,u1,u2⟩:=HC3.out.cells;clear HIN2;go_wp2_with fail;refine(WFr.alloc S.out).call (put_any [sign] _ _ (WFr.alloc S.out).wrt ((WFr.alloc S.out).env H.out HE.out).hi (slAt_parts ((WFr.alloc S.out).blk 0 rfl) rfl rfl acy) acx (by simp;omega)) ?_;clear S;intro w4 S
 have HC4:=tm (HC.out.went S.out.wr);replace HSL:Hid (ExSl (·<base) w4 (.slice (some ⟨b,o,none⟩) 2 c) [e,f]):=HSL.out.turned (S.out.old H.out) (fun b hb hk=>acw);clear y y6 u u1 u2 HC3 HC;obtain⟨y,_,_,_,_,_,y6⟩:=HC4.out.ex.cells;obtain⟨_,_,u⟩:=HC4.out.cells;obtain⟨b',o',cap',a2,c2,e1,hin,z,z1,z2,z3,z4,z5,z6⟩:=J6 (k:=1) HSL.out rfl;injection e1 with e1 e3 e2;clear e3;injection e1 with e1;injection e1 with e1 e4 e5;subst e1 e2 e4;clear e5;simp only[abu]at z z1 z2 z3 z4 z5 z6;have HIN:=tm hin;generalize f.op=op2 at *;generalize f.table=t2 at *;generalize f.name=n2 at *;generalize f.val=v2 at *;generalize f.args.length=m at *;clear hin HSL HC4;replace y:=ud y;replace y6:=ud y6;replace u:=ud u;replace z:=ud z;replace z1:=ud z1;replace z2:=ud z2;replace z3:=ud z3;replace z4:=ud z4;replace z5:=ud z5;replace z6:=ud z6;go_wp2_with fail;refine wp_region_mixed 7 [(0,false),(1,false),(2,false),(3,false),(4,false),(5,false),(6,false)] acz acz ?_;refine z38 ?_;intro w5 hb5 _;replace S:=tm (S.out.kept hb5);have HIN5:=tm (HIN.out.kept hb5);clear hb5 y y6 u z z1 z2 z3 z4 z5 z6 HIN;refine z279 ?_;go_wp2_with fail;refine S.out.call (IHf (lev+1) _ _ _ acw acw HIN5.out hff S.out.wrt (S.out.env H.out HE.out) (by simp;omega)) ?_;intro w6 S;exact z182
end Go.Proofs.YtimoefagohifaaaGreatDoor
