/- Laws that the last part needs. No condition. -/
import Derived.RangeFuncBound
import Derived.Shelf.Abstract
import Derived.Shelf.RegionOpen
import Derived.OwnWalkIn
import Derived.TacticsInMore
import Derived.LoopNIn
import Derived.LoopIn
import Derived.Test.YtimoefagohifaaaGreatDoorA21
set_option maxHeartbeats 8000000
set_option maxRecDepth 100000
namespace Go.Proofs.YtimoefagohifaaaGreatDoor
open Go.RowKit Go.Sort Tryz
attribute [local go_sem] Oper.semAt_some
theorem R0 {m k:Nat} {P:Program} {l:Nat} {f:FuncId} {tmps:Array Value} {assign body:Code} {w:World} {R:Ending->World->Prop} (h:RoundIn Fence.wide m P l f tmps assign body w R):RoundIn Fence.wide k P l f tmps assign body w R:=
 ⟨h.1,fun c cs _=>h.2 c cs (fun d h=>by cases h)⟩
theorem Kc {m:Nat} (k:Nat) {P:Program} {l:Nat} {args:Array Value} {W:World} {R:Ending->World->Prop} (h:YieldAt Fence.wide m P l args W R):YieldAt Fence.wide k P l args W R:=by
 obtain⟨fn,tmps,assign,body,hy,hR⟩:=h;exact⟨fn,tmps,assign,body,hy,R0 hR⟩
theorem mh (n:Nat):Fence.wide.depth.isSome=true->1<=n:=fun h=>by simp[Fence.wide]at h
theorem Rm (n l:Nat) (op xn:Int) (v:V) (a:Option Addr) (c:Nat) (J Jx:World->Prop) (W:World) (HY:YieldAt Fence.wide (n - 1) prog l #[.agg #[U op,U xn,U v.k,U v.n,.string v.s,.slice a 0 c]] (W.alloc (.cells #[U op,U xn,U v.k,U v.n,.string v.s,.slice a 0 c] 69)) fun e W'=>(e=.returned (.bool true)/\J W'/\W'.heap[W.heap.size]?=some (.cells #[U op,U xn,U v.k,U v.n,.string v.s,.slice a 0 c] 69 (0,0)))\/(e=.returned (.bool false)/\Jx W')):CallsIn Fence.wide n prog 279 #[.agg #[U op,U xn,U v.k,U v.n,.string v.s,.slice a 0 c],.func (.yield l) #[] #[]] W fun e W'=>(e=.returned (.bool true)/\J W')\/(e=.returned (.bool false)/\Jx W'):=by
 obtain⟨fn,tmps,assign,body,hy,hR⟩:=HY
 refine callsIn_of_wp func279 rfl trivial ?_ rfl
 simp only[ntmps279,abd,tw,tx,Nat.reduceAdd,Nat.reduceSub,aax,aaw,abe,aa4,uc,tz]
 gi_wp2
 refine⟨mh _,hR.mono ?_⟩
 clear hy hR
 rintro e w2 (⟨rfl,hj2,hb2⟩|⟨rfl,hx2⟩)
 ·have y:w2.cell? ⟨W.heap.size,5,none⟩=some (.slice a 0 c):=by simp only[World.cell?,hb2];rfl
  have HJ:=tm hj2
  clear hb2 hj2
  gi_wp2
  refine wpIn_loop_rounds 1 ?_
  rw[roundsIn_succ]
  gi_wp2
  refine ue (results_tmp rfl _ _ _) rfl ?_
  exact .inl ⟨rfl,HJ.out⟩
 ·have HX:=tm hx2
  clear hx2
  gi_wp2
  refine ue (results_tmp rfl _ _ _) rfl ?_
  exact .inr ⟨rfl,HX.out⟩
structure RgI (w:World) (D:Nat) (lp:Loop) (L:List Blk) (W:World):Prop where
 st:St w W L
 lt:∀x∈L,x.1<D
 ge:w.heap.size<=D
 loop:W.heap[D+1]?=some (.loop lp)
 dfr:W.heap[D]?=some (.deferred (some []))
theorem RgI.start {w W0:World} {L:List Blk} (h:St w W0 L) (lp:Loop):RgI w W0.heap.size lp L ((W0.alloc (.deferred (some []))).alloc (.loop lp)):=by
 have hb:Below W0.heap.size W0 ((W0.alloc (.deferred (some []))).alloc (.loop lp)):=((uj _ _).alloc (tu _) _).alloc acx _;refine⟨h.kept hb,fun x hx=>?_,h.below.size,?_,?_⟩
 ·exact ko
 ·have:=World.alloc_heap_new (W0.alloc (.deferred (some []))) (.loop lp)
  rwa [ug]at this
 ·exact(xe _ _ _ acx).trans (World.alloc_heap_new W0 _)
theorem RgI.kept {w W W':World} {D:Nat} {lp:Loop} {L:List Blk} (h:RgI w D lp L W) (hb:Below W.heap.size W W'):RgI w D lp L W':=
 ⟨h.st.kept hb,h.lt,h.ge,(hb.block _ (uh.1 h.loop).1).trans h.loop,(hb.block _ (uh.1 h.dfr).1).trans h.dfr⟩
theorem RgI.put {w W:World} {D:Nat} {lp:Loop} {L:List Blk} (h:RgI w D lp L W) (lp':Loop):RgI w D lp' L (W.putObj (D+1) (.loop lp')):=
 ⟨h.st.turned (Turn.putObj W (D+1) _) (fun i hi=>by subst hi;have:=h.ge;omega) (fun x hx e=>by have:=h.lt x hx;have e':x.1=D+1:=e;omega),h.lt,h.ge,
  World.putObj_heap_same (uh.1 h.loop).1,(World.putObj_heap_other acw).trans h.dfr⟩
theorem RgI.set {w W:World} {D:Nat} {lp:Loop} {L:List Blk} (i:Nat) {b o:Nat} {cs:Array Value} {t:TypeId} {v:Value} (h:RgI w D lp L W) (hi:L[i]?=some (b,cs,t)):RgI w D lp (L.set i (b,cs.setIfInBounds o v,t)) (W.setCell ⟨b,o,none⟩ v):=by
 have hlt:=h.lt _ (uq hi);have ht:Turn (·=b) W (W.setCell ⟨b,o,none⟩ v):=(Turn.refl _ W).setCell (.inl rfl);refine⟨St.set i h.st hi,fun x hx=>?_,h.ge,(ht.block _ (uh.1 h.loop).1 (fun e=>by have e':D+1=b:=e;simp only at hlt;omega)).trans h.loop,(ht.block _ (uh.1 h.dfr).1 (fun e=>by have e':D=b:=e;simp only at hlt;omega)).trans h.dfr⟩;rcases wu hx with hx|rfl
 ·exact h.lt x hx
 ·exact hlt
theorem RgI.facts {w W:World} {D:Nat} {lp:Loop} {L:List Blk} (h:RgI w D lp L W):St.Facts W L:=h.st.facts
theorem RgI.fin {w W:World} {D:Nat} {lp:Loop} {L:List Blk} (h:RgI w D lp L W):St w (W.putObj D (.deferred none)) L:=
 h.st.turned (Turn.putObj W D _) (fun i hi=>by subst hi;have:=h.ge;omega) (fun x hx e=>by have:=h.lt x hx;have e':x.1=D:=e;omega)
def xcs (op xn:Int) (v:V) (a:Option Addr) (c:Nat):Array Value:=#[U op,U xn,U v.k,U v.n,.string v.s,.slice a 0 c]
theorem Mj (op xn:Int) (v:V) (a:Option Addr) (m c:Nat) (w:World):Calls prog 261 #[.agg #[.int .i64 op,.int .i64 xn,.int .i64 v.k,.int .i64 v.n,.string v.s,.slice a m c]] w fun e w'=>e=.returned (.func (.func 278) #[] #[.pointer (O w.heap.size)])/\w'=w.alloc (.cells #[U op,U xn,U v.k,U v.n,.string v.s,.slice a m c] 69):=by
 refine z125 ?_;intro hmf;go_enter func261,ntmps261;go_wp2_with fail;go_returns;exact⟨rfl,rfl⟩
theorem Jd (n l bs:Nat) (op xn:Int) (v:V) (a:Option Addr) (c:Nat) (J Jx:World->Prop) (W:World) (hb:W.heap[bs]?=some (.cells #[U op,U xn,U v.k,U v.n,.string v.s,.slice a 0 c] 69 (0,0))) (HY:∀m,YieldAt Fence.wide m prog l #[.agg #[U op,U xn,U v.k,U v.n,.string v.s,.slice a 0 c]] (W.alloc (.cells #[U op,U xn,U v.k,U v.n,.string v.s,.slice a 0 c] 69)) fun e W'=>(e=.returned (.bool true)/\J W'/\W'.heap[W.heap.size]?=some (.cells #[U op,U xn,U v.k,U v.n,.string v.s,.slice a 0 c] 69 (0,0)))\/(e=.returned (.bool false)/\Jx W')):CallsIn Fence.wide n prog 278 #[.func (.yield l) #[] #[],.pointer (O bs)] W fun e W'=>(∃v,e=.returned v)/\(J W'\/Jx W'):=by
 have C:Hid (∀m,CallsIn Fence.wide m prog 279 #[.agg #[U op,U xn,U v.k,U v.n,.string v.s,.slice a 0 c],.func (.yield l) #[] #[]] W fun e W'=>(e=.returned (.bool true)/\J W')\/(e=.returned (.bool false)/\Jx W')):=
  fun m=>Rm m l op xn v a c J Jx W (HY _)
 have y:W.cell? ⟨bs,0,none⟩=some (U op):=ng
 have y:W.cell? ⟨bs,1,none⟩=some (U xn):=ng
 have y:W.cell? ⟨bs,2,none⟩=some (U v.k):=ng
 have y:W.cell? ⟨bs,3,none⟩=some (U v.n):=ng
 have y:W.cell? ⟨bs,4,none⟩=some (.string v.s):=ng
 have y:W.cell? ⟨bs,5,none⟩=some (.slice a 0 c):=ng
 clear hb HY
 refine callsIn_of_wp func278 rfl trivial ?_ rfl
 simp only[ntmps278,abd,tw,tx,Nat.reduceAdd,Nat.reduceSub,aax,aaw,abe,aa4,uc,tz]
 gi_wp2
 refine⟨trivial,mh _,?_⟩
 refine CallsIn.mono (C.out _) ?_
 rintro e w1 (⟨rfl,hj⟩|⟨rfl,hj⟩)
 ·have HJ:=tm hj
  clear hj
  gi_wp2
  go_end0
  exact⟨⟨_,rfl⟩,.inl HJ.out⟩
 ·have HJ:=tm hj
  clear hj
  gi_wp2
  go_end0
  exact⟨⟨_,rfl⟩,.inr HJ.out⟩
theorem Zu (op xn:Int) (v:V) (a:Option Addr) (c:Nat) (w:World):CallsIn Fence.wide 5 prog 260 #[.agg #[U op,U xn,U v.k,U v.n,.string v.s,.slice a 0 c]] w (Says (U 1) w):=by
 refine callsIn_of_wp_marks func260 rfl trivial ?_ rfl
 simp only[ntmps260,abd,tw,tx,Nat.reduceAdd,Nat.reduceSub,aax,aaw,abe,aa4,uc,tz]
 gi_wp2
 refine⟨trivial,?_⟩
 refine CallsIn.mono (aat.2 (Mj op xn v a 0 c _)) ?_
 rintro e w1 ⟨rfl,rfl⟩
 gi_wp2
 refine St.genIn (St.alloc (St.alloc (St.alloc (St.start w)))) ?_
 intro W0 S
 simp only[ug,zx,Nat.reduceAdd]at S ⊢
 refine Fw acy (gf:=278) (lb:=#[.pointer (some ⟨w.heap.size+2,0,none⟩)]) rfl (enters_of func278 acz rfl)
  (fun rc W=>∃lp,RgI w W0.heap.size lp [(w.heap.size+2,#[U op,U xn,U v.k,U v.n,.string v.s,.slice a 0 c],69),(w.heap.size+1,#[U 1],3),(w.heap.size,#[U op,U xn,U v.k,U v.n,.string v.s,.slice a 0 c],69)] W) (fun _ _=>False) ?_ ?_ ?_
 ·intro rc hround;have HR:=tm hround;clear hround;have R:=RgI.start S.out (rc .ready none);have hl:=R.loop;refine CallsIn.mono (Jd 4 (W0.heap.size+1) (w.heap.size+2) op xn v a c (fun W=>RgI w W0.heap.size (rc .ready none) [(w.heap.size+2,#[U op,U xn,U v.k,U v.n,.string v.s,.slice a 0 c],69),(w.heap.size+1,#[U 1],3),(w.heap.size,#[U op,U xn,U v.k,U v.n,.string v.s,.slice a 0 c],69)] W) (fun _=>False) _ (R.st.blk 0 rfl) ?_) ?_
  ·intro m
   replace R:=tm (R.kept ((uj _ _).alloc (tu _) (.cells #[U op,U xn,U v.k,U v.n,.string v.s,.slice a 0 c] 69)))
   have hbx:=World.alloc_heap_new ((W0.alloc (.deferred (some []))).alloc (.loop (rc .ready none))) (.cells #[U op,U xn,U v.k,U v.n,.string v.s,.slice a 0 c] 69)
   have HBX:=tm hbx
   have hbD:((W0.alloc (.deferred (some []))).alloc (.loop (rc .ready none))).heap.size=W0.heap.size+2:=acx
   have hW:=S.out.below.size
   generalize ((W0.alloc (.deferred (some []))).alloc (.loop (rc .ready none))).heap.size=bx at *
   generalize ((W0.alloc (.deferred (some []))).alloc (.loop (rc .ready none))).alloc (.cells #[U op,U xn,U v.k,U v.n,.string v.s,.slice a 0 c] 69)=W1 at *
   clear hl hbx
   refine Kc m (HR.out W1 _ _ R.out.loop rfl ?_)
   clear HR
   gi_wp2
   refine⟨R.out.loop,?_⟩
   replace R:=tm (R.out.put (rc .busy none))
   have HB:Hid ((W1.putObj (W0.heap.size+1) (.loop (rc .busy none))).heap[bx]?=some (.cells #[U op,U xn,U v.k,U v.n,.string v.s,.slice a 0 c] 69 (0,0))):=(World.putObj_heap_other acw).trans HBX.out
   generalize W1.putObj (W0.heap.size+1) (.loop (rc .busy none))=Wb at *
   clear HBX
   have F:=fx_ R.out.facts
   gi_wp2
   have R3:=R.out.set 1 (o:=0) (v:=U 1) rfl
   refine⟨R3.loop,.inl ⟨rfl,R3.put _,?_⟩⟩
   have hlt:=R.out.lt (w.heap.size+1,#[U 0],3) acx
   simp only at hlt
   exact(World.putObj_heap_other acw).trans ((xk _ _ _ _ (by simp;omega)).trans HB.out)
  ·exact ahw
 ·rintro rc W o ⟨lp,h⟩ hl
  have R:=tm (h.put o)
  clear h hl
  generalize W.putObj (W0.heap.size+1) (.loop o)=W1 at *
  have F:=fx_ R.out.facts
  gi_wp2
  refine⟨by simp,.inl ⟨_,_,rfl,run_takeDeferred R.out.dfr,?_⟩⟩
  exact⟨_,results_tmp rfl _ _ _,rfl,R.out.fin.below⟩
 ·rintro rc W o h hl;exact h.elim
theorem xsize_leaf (op xn:Int) (v:V) (a:Option Addr) (c:Nat) (w:World):Calls prog 260 #[.agg #[.int .i64 op,.int .i64 xn,.int .i64 v.k,.int .i64 v.n,.string v.s,.slice a 0 c]] w (Says (U 1) w):=aat.1 (Zu op xn v a c w)
attribute [local go_sem] Oper.semAt_some
theorem Y9 (w:World):Calls prog 280 #[.int .i64 1] w (Says (U 0) w):=by
 go_enter func280,ntmps280;exact U5
theorem Of (n:Int) (a:Option Addr) (c:Nat) (w:World):Calls prog 262 #[.agg #[.int .i64 1,.int .i64 n,.int .i64 0,.int .i64 0,.string ⟨#[]⟩,.slice a 0 c]] w (Says (.bool true) w):=by
 have S:Hid (St w (w.alloc (.cells #[U 1,U n,U 0,U 0,eS,.slice a 0 c] 69)) [(w.heap.size,#[U 1,U n,U 0,U 0,eS,.slice a 0 c],69)]):=St.alloc (St.start w);have C:Hid (∀(W:World) (d:Nat) (os:Array Obj),Calls prog 280 #[.int .i64 1] (grow (redrawn W d) os) fun e w'=>e=.returned (U 0)/\Laid (grow (redrawn W d) os) w'):=fun W d os=>Y9 _;go_enter func262,ntmps262;go_upto_region 1 with fail;refine St.gen S.out ?_;clear S;intro w1 S;have F:=S.out.factsG;simp only[St.FactsG,cellFactsG,uo]at F;by_cases hn:n=0;all_goals
  have hn1:(n==0)=decide (n=0):=rfl
  simp only[hn,zj,zt]at hn1
  try subst hn
  refine wp_region_mixed 29 [(0,false),(1,false),(2,false),(3,false),(4,false),(5,false),(6,false),(7,false),(8,false),(9,false),(10,false),(11,false),(12,false),(13,false),(14,false),(15,false),(16,false),(17,false),(18,false),(19,false),(20,false),(21,false),(22,false),(23,false),(24,false),(25,false),(26,false),(27,false),(28,false)] acz acz ?_
  repeat(refine wpM_mild rfl (fun K hK=>?_);go_simp;first|(refine hK _ ?_;clear hK K)|(apply Exists.intro;refine⟨fun _=>?_,hK _ ?_⟩;(exact C.out _ _ _);clear hK K))
  refine Ba ?_
  intro w2 hb _
  have HB:=tm (S.out.kept hb).below
  clear hb C F S
  go_wp2_with fail
  go_returns
  exact⟨rfl,HB.out⟩
theorem c8 (Q:Nat->Prop) (kinds:List Int) (kv:Value) (n:Int) (a:Option Addr) (c:Nat) (k:Int) (w:World) (hv:RSl intE Q w kv kinds) (h0:0<=n) (hn:kinds[n.toNat]?=some k) (hk:0<=k/\k<=3) (hl:kinds.length<=1000000):Calls prog 263 #[kv,.agg #[.int .i64 1,.int .i64 n,.int .i64 0,.int .i64 0,.string ⟨#[]⟩,.slice a 0 c]] w (Says (.tuple #[U k,U 0]) w):=by
 have hlt:n.toNat<kinds.length:=(uu.1 hn).1;have hlti:n<(kinds.length:Int):=acw;obtain⟨b,o,cap,cs,rfl,hin,hat⟩:=hv.at hn;have e:cs=[U k]:=hin;subst e;have z:=hat 0 _ rfl;simp only[show intE.k=1 from rfl,aac,u0]at z;have S:Hid (St w ((w.alloc (.cells #[U 1,U n,U 0,U 0,eS,.slice a 0 c] 69)).alloc (.cells #[eL] 61)) [(w.heap.size+1,#[eL],61),(w.heap.size,#[U 1,U n,U 0,U 0,eS,.slice a 0 c],69)]):=by
  have:=St.alloc (St.alloc (St.start w) (cs:=#[U 1,U n,U 0,U 0,eS,.slice a 0 c]) (t:=69)) (cs:=#[eL]) (t:=61);exact re
 refine z125 ?_;intro hmf;have hb:=S.out.below.cell_kept z;have hg:¬n<0:=acw;have hg:¬(kinds.length:Int)<=n:=acw;have hg:¬k<0:=acw;have hg:¬3<k:=acw;clear hat hin hv z hn;go_enter func263,ntmps263;go_upto_region 2 with fail;refine wp_gen (fun W=>St w W [(w.heap.size+1,#[eL],61),(w.heap.size,#[U 1,U n,U 0,U 0,eS,.slice a 0 c],69)]/\W.cell? ⟨b,o+n.toNat,none⟩=some (U k)) ⟨S.out,hb⟩ ?_;clear S;rintro w1 ⟨S,z⟩;replace S:=tm S;clear hb;refine z1076 ?_;intro F;go_wp2_with fail;refine wm 1 ?_;rw[vq];exact z1033
theorem check_col_in (Q:Nat->Prop) (kinds:List Int) (kv:Value) (n:Int) (a:Option Addr) (c:Nat) (k:Int) (w:World) (hv:RSl intE Q w kv kinds) (h0:0<=n) (hn:kinds[n.toNat]?=some k) (hk:0<=k/\k<=3) (hl:kinds.length<=1000000):CallsIn Fence.wide 5 prog 241 #[kv,.agg #[U 1,U n,U 0,U 0,eS,.slice a 0 c]] w (Says (.tuple #[U k,U 0]) w):=by
 have CK:Hid (∀W,Below w.heap.size w W->Calls prog 263 #[kv,.agg #[.int .i64 1,.int .i64 n,.int .i64 0,.int .i64 0,.string ⟨#[]⟩,.slice a 0 c]] W (Says (.tuple #[U k,U 0]) W)):=fun W hW=>c8 Q kinds kv n a c k W (hv.kept acy hW) h0 hn hk hl
 obtain⟨ka,kc,rfl⟩:=hv.slice
 have S:Hid (St w (((w.alloc (.cells #[U 1,U n,U 0,U 0,eS,.slice a 0 c] 69)).alloc (.cells #[U 0] 3)).alloc (.cells #[U 0] 24)) [(w.heap.size+2,#[U 0],24),(w.heap.size+1,#[U 0],3),(w.heap.size,#[U 1,U n,U 0,U 0,eS,.slice a 0 c],69)]):=by
  have:=St.alloc (St.alloc (St.alloc (St.start w) (cs:=#[U 1,U n,U 0,U 0,eS,.slice a 0 c]) (t:=69)) (cs:=#[U 0]) (t:=3)) (cs:=#[U 0]) (t:=24);simp only[ug,zx,Nat.reduceAdd]at this;exact this
 clear hv h0 hn hk hl
 refine callsIn_of_wp_marks func241 rfl trivial ?_ rfl
 simp only[ntmps241,abd,tw,tx,Nat.reduceAdd,Nat.reduceSub,aax,aaw,abe,aa4,uc,tz]
 gi_wp2
 refine⟨trivial,?_⟩
 refine CallsIn.mono (aat.2 (xsize_leaf 1 n V.null a c _)) ?_
 rintro e w1 ⟨rfl,hb⟩
 replace S:=tm (S.out.kept hb)
 clear hb
 have F:=fx_ S.out.facts
 gi_wp2
 refine⟨trivial,?_⟩
 refine CallsIn.mono (aat.2 (Mj 1 n V.null a 0 c _)) ?_
 rintro e w2 ⟨rfl,rfl⟩
 gi_wp2
 refine St.genIn (St.alloc S.out) ?_
 clear S
 intro W0 S
 have hW0:=S.out.below.size
 clear F
 refine Fw acy (gf:=278) (lb:=#[.pointer (O w1.heap.size)]) rfl (enters_of func278 acz rfl)
  (fun rc W=>∃lp,RgI w W0.heap.size lp [(w1.heap.size,#[U 1,U n,U 0,U 0,eS,.slice a 0 c],69),(w.heap.size+2,#[U 0],24),(w.heap.size+1,#[U 0],3),(w.heap.size,#[U 1,U n,U 0,U 0,eS,.slice a 0 c],69)] W) (fun _ _=>False) ?_ ?_ ?_
 ·intro rc hround;have HR:=tm hround;clear hround;have R:=RgI.start S.out (rc .ready none);have hl:=R.loop;refine CallsIn.mono (Jd 4 (W0.heap.size+1) w1.heap.size 1 n V.null a c (fun W=>RgI w W0.heap.size (rc .ready none) [(w1.heap.size,#[U 1,U n,U 0,U 0,eS,.slice a 0 c],69),(w.heap.size+2,#[U 0],24),(w.heap.size+1,#[U 0],3),(w.heap.size,#[U 1,U n,U 0,U 0,eS,.slice a 0 c],69)] W) (fun _=>False) _ (R.st.blk 0 rfl) ?_) ?_
  ·intro m
   replace R:=tm (R.kept ((uj _ _).alloc (tu _) (.cells #[U 1,U n,U 0,U 0,eS,.slice a 0 c] 69)))
   have hbx:=World.alloc_heap_new ((W0.alloc (.deferred (some []))).alloc (.loop (rc .ready none))) (.cells #[U 1,U n,U 0,U 0,eS,.slice a 0 c] 69)
   have HBX:=tm hbx
   have hbD:((W0.alloc (.deferred (some []))).alloc (.loop (rc .ready none))).heap.size=W0.heap.size+2:=acx
   show YieldAt Fence.wide m prog (W0.heap.size+1) #[.agg #[U 1,U n,U 0,U 0,eS,.slice a 0 c]] (((W0.alloc (.deferred (some []))).alloc (.loop (rc .ready none))).alloc (.cells #[U 1,U n,U 0,U 0,eS,.slice a 0 c] 69)) fun e W'=>(e=.returned (.bool true)/\RgI w W0.heap.size (rc .ready none) [(w1.heap.size,#[U 1,U n,U 0,U 0,eS,.slice a 0 c],69),(w.heap.size+2,#[U 0],24),(w.heap.size+1,#[U 0],3),(w.heap.size,#[U 1,U n,U 0,U 0,eS,.slice a 0 c],69)] W'/\W'.heap[((W0.alloc (.deferred (some []))).alloc (.loop (rc .ready none))).heap.size]?=some (.cells #[U 1,U n,U 0,U 0,eS,.slice a 0 c] 69 (0,0)))\/(e=.returned (.bool false)/\False)
   generalize ((W0.alloc (.deferred (some []))).alloc (.loop (rc .ready none))).heap.size=bx at *
   generalize ((W0.alloc (.deferred (some []))).alloc (.loop (rc .ready none))).alloc (.cells #[U 1,U n,U 0,U 0,eS,.slice a 0 c] 69)=W1 at *
   clear hl hbx
   refine Kc m (HR.out W1 _ _ R.out.loop rfl ?_)
   clear HR
   gi_wp2
   have Rb:=tm (R.out.kept ((uj _ _).alloc (tu _) (.cells #[U 1,U n,U 0,U 0,eS,.slice a 0 c] 69)))
   have HB:Hid ((W1.alloc (.cells #[U 1,U n,U 0,U 0,eS,.slice a 0 c] 69)).heap[bx]?=some (.cells #[U 1,U n,U 0,U 0,eS,.slice a 0 c] 69 (0,0))):=(xe _ _ _ (uh.1 HBX.out).1).trans HBX.out
   have HY:Hid ((W1.alloc (.cells #[U 1,U n,U 0,U 0,eS,.slice a 0 c] 69)).heap[W1.heap.size]?=some (.cells #[U 1,U n,U 0,U 0,eS,.slice a 0 c] 69 (0,0))):=World.alloc_heap_new _ _
   have hyb:bx<W1.heap.size:=(uh.1 HBX.out).1
   refine⟨Rb.out.loop,?_⟩
   replace R:=tm (Rb.out.put (rc .busy none))
   replace HB:Hid (((W1.alloc (.cells #[U 1,U n,U 0,U 0,eS,.slice a 0 c] 69)).putObj (W0.heap.size+1) (.loop (rc .busy none))).heap[bx]?=some (.cells #[U 1,U n,U 0,U 0,eS,.slice a 0 c] 69 (0,0))):=(World.putObj_heap_other acw).trans HB.out
   have HY2:Hid (((W1.alloc (.cells #[U 1,U n,U 0,U 0,eS,.slice a 0 c] 69)).putObj (W0.heap.size+1) (.loop (rc .busy none))).heap[W1.heap.size]?=some (.cells #[U 1,U n,U 0,U 0,eS,.slice a 0 c] 69 (0,0))):=(World.putObj_heap_other acw).trans HY.out
   generalize W1.heap.size=bv at *
   generalize (W1.alloc (.cells #[U 1,U n,U 0,U 0,eS,.slice a 0 c] 69)).putObj (W0.heap.size+1) (.loop (rc .busy none))=Wb at *
   clear Rb HBX HY
   have F:=fx_ R.out.facts
   have G:=Al HY2.out (#[U 1,U n,U 0,U 0,eS,.slice a 0 c]:Array Value).toList 0 (fun j=>acx)
   simp only[cellFacts,uo]at G
   gi_wp2
   refine⟨trivial,?_⟩
   refine CallsIn.mono (CallsIn.inRound _ (aat.2 (Of n a c _))) ?_
   rintro e w3 ⟨rfl,hb⟩
   replace R:=tm (R.out.kept hb)
   replace HB:Hid (w3.heap[bx]?=some (.cells #[U 1,U n,U 0,U 0,eS,.slice a 0 c] 69 (0,0))):=hb.blk_kept HB.out
   clear hb F G HY2
   gi_wp2
   exact⟨R.out.loop,.inl ⟨rfl,R.out.put _,(World.putObj_heap_other acw).trans HB.out⟩⟩
  ·exact ahw
 ·rintro rc W o ⟨lp,h⟩ hl
  have R:=tm (h.put o)
  clear h hl
  generalize W.putObj (W0.heap.size+1) (.loop o)=W1 at *
  have F:=fx_ R.out.facts
  gi_wp2
  refine⟨trivial,?_⟩
  refine CallsIn.mono (aat.2 (CK.out _ R.out.st.below)) ?_
  rintro e w3 ⟨rfl,hb⟩
  replace R:=tm (R.out.kept hb)
  clear F hb
  have F:=fx_ R.out.facts
  gi_wp2
  have R:=tm (RgI.set 1 (o:=0) (v:=U 0) (RgI.set 2 (o:=0) (v:=U k) R.out rfl) rfl)
  refine⟨by simp,.inl ⟨_,_,rfl,run_takeDeferred R.out.dfr,?_⟩⟩
  have S:=R.out.fin
  have F5:=S.facts
  simp only[St.Facts,cellFacts,apartFacts,uo,ub,ui,um]at F5
  exact⟨.tuple #[U k,U 0],by simp[results,results241,go_sem,F5],rfl,S.below⟩
 ·rintro rc W o h hl;exact h.elim
theorem check_col (Q:Nat->Prop) (kinds:List Int) (kv:Value) (n:Int) (a:Option Addr) (c:Nat) (k:Int) (w:World) (hv:RSl intE Q w kv kinds) (h0:0<=n) (hn:kinds[n.toNat]?=some k) (hk:0<=k/\k<=3) (hl:kinds.length<=1000000):
 Calls prog 241 #[kv,.agg #[.int .i64 1,.int .i64 n,.int .i64 0,.int .i64 0,.string ⟨#[]⟩,.slice a 0 c]] w (Says (.tuple #[U k,U 0]) w):=aat.1 (check_col_in Q kinds kv n a c k w hv h0 hn hk hl)
def intVals (l:List Int):List Value:=l.map fun n=>U n
theorem Gs {Q:Nat->Prop} {w:World}:∀l:List Int,LIn intE Q w l (intVals l)
 | []=>rfl
 | n::l=>⟨[U n],intVals l,rfl,rfl,Gs l⟩
theorem Je {Q:Nat->Prop} {w:World}:∀{l:List Int} {acs:List Value},LIn intE Q w l acs->acs=intVals l
 | [],acs,h=>h
 | n::l,acs,h=>by
  obtain⟨c1,c2,rfl,h1,h2⟩:=h;have e:c1=[U n]:=h1;rw[e,Je h2];rfl
theorem Bk {W:World} {cs:Array Value} {t:TypeId} {n cap:Nat} (hc:n<=cap):SlAt (W.alloc (.cells cs t)) (.slice (O W.heap.size) n cap) n cs.toList:=by
 refine⟨_,cap,rfl,hc,fun _=>⟨W.heap.size,0,rfl,fun j u hu=>?_⟩⟩;simp only[World.cell?,World.alloc_heap_new,xr];simpa using hu
def RetInts (w:World) (out:List Int) (e:Ending) (w':World):Prop:=∃v,e=.returned (.tuple #[v,U 0])/\RSl intE (w.heap.size≤·) w' v out/\Below w.heap.size w w'
theorem R1 {w W:World} {v:Value} {out:List Int} (h:W.ownsRow w.heap.size 3 1 v out.length (intVals out)) (hb:Below w.heap.size w W):RetInts w out (.returned (.tuple #[v,U 0])) W:=
 ⟨v,rfl,⟨intVals out,h.slIn,Gs out⟩,hb⟩
theorem Ra {B:Nat} {w W W':World} {v:Value} (hb:Below B w W) (hg:W.grownBy W' v.ownBlock) (hv:∀g,v.ownBlock=some g->B<=g) (hB:B<=W.heap.size):Below B w W':=by
 have ht:=Turn.of_grown hg;exact⟨ht.os.trans hb.os,ht.tape.trans hb.tape,ht.output.trans hb.output,vj hb.size ht.size,fun k hk=>(ht.block k acw (fun e=>by have:=hv k e;omega)).trans (hb.block k hk)⟩
theorem infoInt:(prog.info? 3).map (fun i=>(i.zero,i.size,i.bytes))=some (some (U 0),1,8):=acz
def pick (ins ns:List Int):List Int:=ns.map fun n=>ins.getD n.toNat 0
theorem W9 {ins ns:List Int} {k:Nat} {n:Int} (h:ns[k]?=some n):pick ins (ns.take (k+1))=pick ins (ns.take k)++[ins.getD n.toNat 0]:=by
 obtain⟨hk,rfl⟩:=uu.1 h;unfold pick;rw[yd hk,abk];rfl
theorem projects_cols (Q:Nat->Prop) (ins ns:List Int) (kv ev:Value) (w:World) (hv:RSl intE Q w kv ins) (he:RSl xpE Q w ev (ns.map Xp.col)) (hl:ins.length<=1000000) (hn:1<=ns.length/\ns.length<=32) (hin:∀n∈ns,0<=n/\n.toNat<ins.length/\0<=ins.getD n.toNat 0/\ins.getD n.toNat 0<=3):Calls prog 204 #[kv,ev] w (RetInts w (pick ins ns)):=by
 have HV:=tm hv;have HE:=tm he;have HI:=tm hin;obtain⟨ka,kc,rfl⟩:=hv.slice;obtain⟨ea,ec,rfl⟩:=he.slice;rw[zr];have h:¬(ns.length=0):=acw;have hi:((ns.length:Int)==0)=false:=by rw[us];omega
 have h1n:ns≠[]:=by rintro rfl;simp at hn
 have hi:¬(32<(ns.length:Int)):=acw;clear hv he hin;go_enter func204,ntmps204;go_wp2_with fail;go_loopw [6,8,9,10,21] (fun ov _ _ _ i wr=>∃k:Nat,k<=ns.length/\i=U k/\Hid (wr.ownsRow w.heap.size 3 1 ov k (intVals (pick ins (ns.take k))))/\Hid (Below w.heap.size w wr)) (fun _ _ _ _ i _=>ns.length - (intOf i).toNat)
 case atStart=>exact⟨0,by omega,rfl,aah _ _ _ _,uj _ _⟩
 case round=>
  obtain⟨k,hk,rfl,HO,HB⟩:=hrel;by_cases hlt:k<ns.length
  ·obtain⟨n,hx⟩:∃x,ns[k]?=some x:=⟨ns[k],by simp[hlt]⟩;obtain⟨b,o,cap,cs,hbo,hc,hat⟩:=(HE.out.kept acy HB.out).at (k:=k) (a:=Xp.col n) (by rw[aai,hx];rfl);rw[zr]at hbo;injection hbo with e1 _ e2;subst e1;subst e2;obtain⟨v,rfl,hs⟩:=Co.1 (show XpIn Q wr (.mk 1 n V.null []) cs from hc);obtain⟨ad,ac,rfl⟩:=hs.slice;have x0:=hat 0 _ rfl;have x1:=hat 1 _ rfl;have x2:=hat 2 _ rfl;have x3:=hat 3 _ rfl;have x4:=hat 4 _ rfl;have x5:=hat 5 _ rfl;simp only[show xpE.k=6 from rfl,u0,tx]at x0 x1 x2 x3 x4 x5;have hst:=W9 (ins:=ins) hx;have hf:=HI.out n (uq hx);have HST:=tm hst;have CK:Hid (∀W,Below w.heap.size w W->Calls prog 241 #[.slice ka ins.length kc,.agg #[.int .i64 1,.int .i64 n,.int .i64 V.null.k,.int .i64 V.null.n,.string V.null.s,.slice ad 0 ac]] W (Says (.tuple #[U (ins.getD n.toNat 0),U 0]) W)):=
    fun W hW=>check_col Q ins _ n ad ac _ W (HV.out.kept acy hW) hf.1 (by rw[zb,vd hf.2.1];rfl) hf.2.2 hl
   generalize ins.getD n.toNat 0=kd at *;have HB1:=tm (HB.out.alloc HB.out.size (.cells #[U 1,U n,U V.null.k,U V.null.n,.string V.null.s,.slice ad 0 ac] 69));have HO1:=tm (HO.out.later ((uj _ _).alloc (tu _) (.cells #[U 1,U n,U V.null.k,U V.null.n,.string V.null.s,.slice ad 0 ac] 69)));clear hat hc hs hst hf;go_wp2_with fail;refine tp (CK.out _ HB1.out) ?_;rintro e w1 ⟨rfl,hb⟩;have HB2:=tm (HB1.out.step hb);have HO2:=tm (HO1.out.later hb);have hs:=HB2.out.size;clear hb x0 x1 x2 x3 x4 x5 HB HB1 HO HO1 CK;go_wp2_with(refine wpList_append_at rfl (.tmp 34) (.tmp 36) 61 rfl 3 (U 0) 1 8 underlying61 infoInt rfl acy w.heap.size _ k (intVals (pick ins (ns.take k))) rfl (HO2.out.later ((uj _ _).alloc (tu _) _)) _ 1 [U kd] rfl acy (Bk acy) rfl (by simp[Value.oneCell']) acw (by unfold maxLen;omega) (by simp;omega) ?_;intro v' w3 hown hgr hblk hsl;obtain⟨g,cp,rfl⟩:=hsl);have HB3:Hid (Below w.heap.size w w3):=Ra (HB2.out.alloc hs _) hgr (fun g hg=>(vx HO2.out g hg).1) (by simp;omega);have HO3:Hid (w3.ownsRow w.heap.size 3 1 (.slice (O g) (k+1) cp) (k+1) (intVals (pick ins (ns.take (k+1))))):=by
    rw[HST.out];unfold intVals at hown ⊢;rw[abk];exact hown
   clear hown hgr hblk HB2 HO2;go_wp2_with fail;go_roundw
   case rel=>exact⟨k+1,by omega,by go_num,HO3.out,HB3.out⟩
   case measure=>simp[intOf];omega
  ·obtain rfl:k=ns.length:=acw;go_wp2_with fail;go_returns;have:=HO.out;rw[xu]at this;exact R1 (by rw[show(pick ins ns).length=ns.length by simp[pick]];exact this) HB.out
end Go.Proofs.YtimoefagohifaaaGreatDoor
namespace Go
open Go.Sort Go.RowKit
theorem Xg {l:List Nat} {i a:Nat} (hn:l.Nodup) (ha:∀j,j≠i->l[j]?≠some a):(l.set i a).Nodup:=by
 refine zq.2 fun j k hj hk hjk e=>?_;simp only[List.length_set]at hj hk;rw[List.getElem_set,List.getElem_set]at e;have hp:=zq.1 hn j k hj hk hjk;by_cases h:i=j
 ·subst h;have h:i≠k:=acw;rw[if_pos rfl,if_neg h]at e;exact ha k (Ne.symm h) (by rw[vd hk,e])
 ·rw[if_neg h]at e;by_cases h2:i=k
  ·subst h2;rw[if_pos rfl]at e;exact ha j (Ne.symm h) (by rw[vd hj,e])
  ·rw[if_neg h2]at e;exact hp e
theorem St.grewNil {w0 w w':World} {L:List Blk} {g:Nat} {cur:Array Value} {e:TypeId} (h:St w0 w L) (hg:w.grownBy w' none) (hge:w.heap.size<=g) (hb:w'.heap[g]?=some (.cells cur e (0,0))):St w0 w' ((g,cur,e)::L):=by
 have hk:=h.kept ((Turn.of_grown hg).mono (N:=fun _=>False) (fun i _ hi=>by cases hi)).below;exact mw
theorem St.grewAt {w0 w w':World} {L:List Blk} {i g g':Nat} {cs cur:Array Value} {t:TypeId} (h:St w0 w L) (hi:L[i]?=some (g,cs,t)) (hg:w.grownBy w' (some g)) (hge:g'=g\/w.heap.size<=g') (hb:w'.heap[g']?=some (.cells cur t (0,0))):St w0 w' (L.set i (g',cur,t)):=by
 have hgo:=h.own _ (uq hi);have ht:=Turn.of_grown hg;have hsz:=h.below.size;refine⟨⟨ht.os.trans h.below.os,ht.tape.trans h.below.tape,ht.output.trans h.below.output,vj hsz ht.size,fun k hk=>?_⟩,fun x hx=>?_,?_⟩
 ·refine(ht.block k acw (fun e=>?_)).trans (h.below.block k hk);have e':g=k:=by simpa using e
  have:=hgo.1;simp only at this;omega
 ·obtain⟨j,hj⟩:=yi.1 hx;rw[xj]at hj;split at hj
  ·split at hj
   ·cases hj;refine⟨?_,hb⟩;rcases hge with rfl|hge
    ·exact hgo.1
    ·exact vj hsz hge
   ·cases hj
  ·rename_i hne;have hox:=h.own x (uq hj);have hlt:=(uh.1 hox.2).1;have hap:=G9 h.apart hi hj hne;refine⟨hox.1,?_⟩;rw[ht.block x.1 hlt (fun e=>hap (by simpa using e))];exact hox.2
 ·rw[abm];refine Xg h.apart (fun j hne e=>?_);rw[aai]at e;obtain⟨x,hj,e⟩:=aaa.1 e;have hox:=h.own x (uq hj);have hlt:=(uh.1 hox.2).1;have hap:=G9 h.apart hi hj (Ne.symm hne);rcases hge with rfl|hge
  ·exact hap e.symm
  ·omega
theorem Vb {cur:Array Value} {k:Nat} {xs:List Value} (h:cur.toList.take k=xs):cur=(xs++cur.toList.drop k).toArray:=by
 rw[<- h,aae]
theorem wpList_append_nil {P:Program} {ops:Array Oper} {rest:List Oper} {o:Oper} {a:Act} {Q:Exit->Act->World->Prop} {W:World} (hgd:o.guard=none) (s x:Operand) (t:TypeId) (ho:o.op=.call {callee:=.builtin .append,args:=#[s,x],argTypes:=#[t,t]}) (e:TypeId) (z:Value) (size bytes:Nat) (ht:P.underlying t=some (.slice e)) (hinfo:(P.info? e).map (fun i=>(i.zero,i.size,i.bytes))=some (some z,size,bytes)) (hzs:z.cells.size=size) (hsz:0<size) {w0:World} {L:List Blk} (S:St w0 W L) (hs:a.eval s=eL) (xv:Value) (m:Nat) (news:List Value) (hx:a.eval x=xv) (hm:0<m) (hsl:SlAt W xv m news) (hl:news.length=m * size) (h1:∀u∈news,u.oneCell'=true) (hbytes:m * bytes<=140737488355328) (h63:m<=maxLen) (h:∀g cap zs w',Hid (St w0 w' ((g,(news++zs).toArray,e)::L))->m<=cap->cap<=maxLen->(news++zs).length=cap * size->wpList P ops Q rest (a.put o.dst (.slice (O g) m cap)) w'):wpList P ops Q (o::rest) a W:=by
 refine wpList_append_at hgd s x t ho e z size bytes ht hinfo hzs hsz W.heap.size eL 0 [] hs (aah _ _ _ _) xv m news hx hm hsl hl h1 (by simpa using hbytes) (by simpa using h63) (tu _) ?_;intro v' w' hown hgr hblk hsl';obtain⟨hl',⟨rfl,h0⟩|⟨g,cap,cur,rfl,hb,hbk,k1,k2,k3,k4⟩⟩:=hown
 ·omega
 ·rw[xr,uc]at k4;have hc:=Vb k4;have S':=S.grewNil hgr hb hbk;have hlen:cur.toList.length=cap * size:=by simpa using k3
  have:=h g cap (cur.toList.drop (m * size)) w' (by rw[<- hc];exact S') acw k2 (by rw[<- k4,aae];exact hlen);rw[xr];exact this
theorem wpList_append_on {P:Program} {ops:Array Oper} {rest:List Oper} {o:Oper} {a:Act} {Q:Exit->Act->World->Prop} {W:World} (hgd:o.guard=none) (s x:Operand) (t:TypeId) (ho:o.op=.call {callee:=.builtin .append,args:=#[s,x],argTypes:=#[t,t]}) (e:TypeId) (z:Value) (size bytes:Nat) (ht:P.underlying t=some (.slice e)) (hinfo:(P.info? e).map (fun i=>(i.zero,i.size,i.bytes))=some (some z,size,bytes)) (hzs:z.cells.size=size) (hsz:0<size) {w0:World} {L:List Blk} (i:Nat) {g n cap:Nat} {xs zs:List Value} (S:St w0 W L) (hi:L[i]?=some (g,(xs++zs).toArray,e)) (hs:a.eval s=.slice (O g) n cap) (hxl:xs.length=n * size) (hnc:n<=cap) (hcm:cap<=maxLen) (hzl:(xs++zs).length=cap * size) (xv:Value) (m:Nat) (news:List Value) (hx:a.eval x=xv) (hm:0<m) (hsl:SlAt W xv m news) (hl:news.length=m * size) (h1:∀u∈news,u.oneCell'=true) (hbytes:(n+m) * bytes<=140737488355328) (h63:n+m<=maxLen) (h:∀g' cap' zs' w',Hid (St w0 w' (L.set i (g',(xs++news++zs').toArray,e)))->n+m<=cap'->cap'<=maxLen->(xs++news++zs').length=cap' * size->wpList P ops Q rest (a.put o.dst (.slice (O g') (n+m) cap')) w'):wpList P ops Q (o::rest) a W:=by
 have hgo:=S.own _ (uq hi);have hown:W.ownsRow w0.heap.size e size (.slice (O g) n cap) n xs:=by
  refine⟨hxl,.inr ⟨g,cap,(xs++zs).toArray,rfl,hgo.1,hgo.2,hnc,hcm,by simpa using hzl,?_⟩⟩;rw[<- hxl];simp
 refine wpList_append_at hgd s x t ho e z size bytes ht hinfo hzs hsz w0.heap.size _ n xs hs hown xv m news hx hm hsl hl h1 hbytes h63 S.below.size ?_;intro v' w' hown' hgr hblk hsl';obtain⟨hl',⟨rfl,h0⟩|⟨g',cap',cur,rfl,hb,hbk,k1,k2,k3,k4⟩⟩:=hown'
 ·omega
 ·have hc:=Vb k4;have S':=S.grewAt hi hgr (g':=g') (by simpa[Value.ownBlock]using hblk) hbk;have hlen:cur.toList.length=cap' * size:=by simpa using k3
  have:=h g' cap' (cur.toList.drop ((n+m) * size)) w' (by rw[<- hc];exact S') acw k2 (by rw[<- k4,aae];exact hlen);exact this
end Go
namespace Go.Proofs.YtimoefagohifaaaGreatDoor
open Go.RowKit Go.Sort Tryz
def exTbl:Tbl:=⟨[116],[⟨[97],1,false⟩,⟨[98],1,false⟩],[],[]⟩
structure TblAt (w:World) (tb tq:Nat) (cb co cc:Nat) (ia:Option Addr) (ic:Nat) (ka:Option Addr) (kc:Nat):Prop where
 t0:w.cell? ⟨tb,tq,none⟩=some (.string (Y [116]))
 t1:w.cell? ⟨tb,tq+1,none⟩=some (.slice (some ⟨cb,co,none⟩) 2 cc)
 t2:w.cell? ⟨tb,tq+2,none⟩=some (.slice ia 0 ic)
 t3:w.cell? ⟨tb,tq+3,none⟩=some (.slice ka 0 kc)
 a0:w.cell? ⟨cb,co,none⟩=some (.string (Y [97]))
 a1:w.cell? ⟨cb,co+1,none⟩=some (U 1)
 a2:w.cell? ⟨cb,co+2,none⟩=some (.bool false)
 b0:w.cell? ⟨cb,co+3,none⟩=some (.string (Y [98]))
 b1:w.cell? ⟨cb,co+3+1,none⟩=some (U 1)
 b2:w.cell? ⟨cb,co+3+2,none⟩=some (.bool false)
theorem TblAt.kept {w w':World} {tb tq cb co cc:Nat} {ia:Option Addr} {ic:Nat} {ka:Option Addr} {kc:Nat} (h:TblAt w tb tq cb co cc ia ic ka kc) (hb:Below w.heap.size w w'):TblAt w' tb tq cb co cc ia ic ka kc:=
 ⟨hb.cell_kept h.t0,hb.cell_kept h.t1,hb.cell_kept h.t2,hb.cell_kept h.t3,hb.cell_kept h.a0,hb.cell_kept h.a1,hb.cell_kept h.a2,hb.cell_kept h.b0,hb.cell_kept h.b1,hb.cell_kept h.b2⟩
theorem H4 {Q:Nat->Prop} {w:World} {v:Value} (h:RSl tblE Q w v [exTbl]):∃tb tq tc cb co cc ia ic ka kc,v=.slice (some ⟨tb,tq,none⟩) 1 tc/\TblAt w tb tq cb co cc ia ic ka kc:=by
 obtain⟨tb,tq,tc,tcs,rfl,ht,hat⟩:=h.at (k:=0) rfl;obtain⟨ca,cc,ia,ic,ka,kc,rfl,hc⟩:=ht;obtain⟨cb,co,cc',ccs,hcb,hci,hcat⟩:=hc.at (k:=0) rfl;injection hcb with e1 e3 e2;subst e1 e2;clear e3;have e:ccs=[.string (Y [97]),U 1,.bool false]:=hci;subst e;obtain⟨cb',co',cc',ccs,hcb,hci,hcat'⟩:=hc.at (k:=1) rfl;injection hcb with e1 e4 e2;clear e4;injection e1 with e1;injection e1 with e1 e3;subst e1 e2 e3;have e:ccs=[.string (Y [98]),U 1,.bool false]:=hci;subst e;have t:=hat 0 _ rfl;have t1:=hat 1 _ rfl;have t2:=hat 2 _ rfl;have t3:=hat 3 _ rfl;have a:=hcat 0 _ rfl;have a1:=hcat 1 _ rfl;have a2:=hcat 2 _ rfl;have b:=hcat' 0 _ rfl;have b1:=hcat' 1 _ rfl;have b2:=hcat' 2 _ rfl;simp only[yg,u0,abu,show colE.k=3 from rfl]at t t1 t2 t3 a a1 a2 b b1 b2;exact⟨tb,tq,tc,cb,co,cc,ia,ic,ka,kc,rfl,⟨t,t1,t2,t3,a,a1,a2,b,b1,b2⟩⟩
theorem bodyGen {P:Program} {fn:Func} {R:Ending->World->Prop} {x:Exit} {a:Act} {w:World} (R2:World->Prop) (h:R2 w) (k:∀W,R2 W->bodyPost P fn R x a W):bodyPost P fn R x a w:=k w h
theorem Mf (Q:Nat->Prop) (tv:Value) (na:Option Addr) (nc:Nat) (w:World) (ht:RSl tblE Q w tv [exTbl]):Calls prog 144 #[tv,.agg #[.int .i64 1,.string ⟨#[]⟩,.string ⟨[97].toArray⟩,.int .i64 0,.int .i64 0,.string ⟨#[]⟩,.slice na 0 nc]] w (Says (.tuple #[.agg #[U 1,U 0,U 0,U 0,eS,eL],U 0]) w):=by
 obtain⟨tb,tq,tc,cb,co,cc,ia,ic,ka,kc,rfl,H⟩:=H4 ht;clear ht;have HT:=tm H;go_enter func144,ntmps144;refine z57k6 ?_;intro _ _ _ _ _ _ w1 S;have F:=fx_ S.out.facts;obtain⟨t,t1,t2,t3,a,a1,a2,b,b1,b2⟩:=HT.out.kept S.out.below;go_upto_region 5 with fail;refine wm 2 ?_;rw[vq];go_upto_region 8 with fail;clear F t t1 t2 t3 a a1 a2 b b1 b2;refine St.gen (St.alloc (S.out)) ?_;clear S;intro w2 S;try(simp only[ub,ui,um,ug]at S)
 have F:=fx_ S.out.facts;obtain⟨t,t1,t2,t3,a,a1,a2,b,b1,b2⟩:=HT.out.kept S.out.below;refine wm 3 ?_;rw[vq];clear H;go_upto_region 11 with fail;clear F t t1 t2 t3 a a1 a2 b b1 b2;refine St.gen (St.laid (S.out)) ?_;clear S;intro w3 S;try(simp only[ub,ui,um,ug]at S)
 have F:=fx_ S.out.facts;go_wp2_with(refine wpList_append_nil rfl (.tmp 50) (.tmp 52) 61 rfl 3 (U 0) 1 8 underlying61 infoInt rfl acy (St.laid S.out) rfl _ 1 [U 0] rfl acy (Bk acy) rfl (by simp[Value.oneCell']) acy (by unfold maxLen;decide) ?_;intro g cap zs w4 S4 hc1 hc2 hc3;simp only[tz,uc]at S4);clear F S;obtain⟨t,t1,t2,t3,a,a1,a2,b,b1,b2⟩:=HT.out.kept S4.out.below;have hx:w4.heap[w.heap.size]?=some (.cells #[U 1,eS,.string (Y [97]),U 0,U 0,eS,.slice na 0 nc] 44 (0,0)):=S4.out.blk 3 rfl;have x:w4.cell? ⟨w.heap.size,2,none⟩=some (.string (Y [97])):=Rf;have x9:=vp x;clear hx;rw[vq];go_upto_region 12 with fail;clear t t1 t2 t3 a a1 a2 b b1 b2 x x9;refine St.gen (St.laid (S4.out)) ?_;intro w5 S;try(simp only[ub,ui,um,ug]at S)
 clear S4;have y:w5.cell? ⟨g,0,none⟩=some (U 0):=by simp only[World.cell?,S.out.blk 0 rfl];rfl
 have y1:=vp y;have hbo:w5.heap[w.heap.size+1]?=some (.cells #[U 0,U 0,U 0,U 0,eS,eL] 69 (0,0)):=S.out.blk 2 rfl;have z:w5.cell? ⟨w.heap.size+1,0,none⟩=some (U 0):=gd;have f:w5.frozen? ⟨w.heap.size+1,0,none⟩=false:=by simp[World.frozen?,hbo]
 have z1:w5.cell? ⟨w.heap.size+1,1,none⟩=some (U 0):=gd;have f:w5.frozen? ⟨w.heap.size+1,1,none⟩=false:=by simp[World.frozen?,hbo]
 have z2:w5.cell? ⟨w.heap.size+1,2,none⟩=some (U 0):=gd;have f:w5.frozen? ⟨w.heap.size+1,2,none⟩=false:=by simp[World.frozen?,hbo]
 have z3:w5.cell? ⟨w.heap.size+1,3,none⟩=some (U 0):=gd;have f:w5.frozen? ⟨w.heap.size+1,3,none⟩=false:=by simp[World.frozen?,hbo]
 have z4:w5.cell? ⟨w.heap.size+1,4,none⟩=some eS:=gd;have f:w5.frozen? ⟨w.heap.size+1,4,none⟩=false:=by simp[World.frozen?,hbo]
 have z5:w5.cell? ⟨w.heap.size+1,5,none⟩=some eL:=gd;have f:w5.frozen? ⟨w.heap.size+1,5,none⟩=false:=by simp[World.frozen?,hbo]
 have z9:=vp z;clear hbo;go_upto_region 8 with fail;rw[vq];go_upto_region 5 with fail;rw[vq];go_upto_region 19 with fail;go_wp2_with fail;refine bodyGen (fun W=>St w W _) (St.setsL (i:=2) [U 1,U 0,U 0,U 0,eS,eL] 0 _ _ _ S.out rfl) ?_;intro w9 S;replace S:=tm S;simp only[ub,ui]at S;have F:w9.heap[w.heap.size+1]?=some (.cells #[U 1,U 0,U 0,U 0,eS,eL] 69 (0,0)):=S.out.blk 2 rfl;have c:w9.cell? ⟨w.heap.size+1,0,none⟩=some (U 1):=Zq;have c1:w9.cell? ⟨w.heap.size+1,1,none⟩=some (U 0):=Zq;have c2:w9.cell? ⟨w.heap.size+1,2,none⟩=some (U 0):=Zq;have c3:w9.cell? ⟨w.heap.size+1,3,none⟩=some (U 0):=Zq;have c4:w9.cell? ⟨w.heap.size+1,4,none⟩=some eS:=Zq;have c5:w9.cell? ⟨w.heap.size+1,5,none⟩=some eL:=Zq;refine ue (v:=.tuple #[.agg #[U 1,U 0,U 0,U 0,eS,eL],U 0]) (by simp[results,results144,go_sem,c,c1,c2,c3,c4,c5]) rfl ?_;exact⟨rfl,S.out.below⟩
theorem Wp (Q:Nat->Prop) (tv:Value) (na:Option Addr) (nc:Nat) (w:World) (ht:RSl tblE Q w tv [exTbl]):Calls prog 144 #[tv,.agg #[.int .i64 1,.string ⟨#[]⟩,.string ⟨[98].toArray⟩,.int .i64 0,.int .i64 0,.string ⟨#[]⟩,.slice na 0 nc]] w (Says (.tuple #[.agg #[U 1,U 1,U 0,U 0,eS,eL],U 0]) w):=by
 obtain⟨tb,tq,tc,cb,co,cc,ia,ic,ka,kc,rfl,H⟩:=H4 ht;clear ht;have HT:=tm H;go_enter func144,ntmps144;refine z57k6 ?_;intro _ _ _ _ _ _ w1 S;have F:=fx_ S.out.facts;obtain⟨t,t1,t2,t3,a,a1,a2,b,b1,b2⟩:=HT.out.kept S.out.below;go_upto_region 5 with fail;refine wm 2 ?_;rw[vq];go_upto_region 8 with fail;clear F t t1 t2 t3 a a1 a2 b b1 b2;refine St.gen (St.alloc (S.out)) ?_;clear S;intro w2 S;try(simp only[ub,ui,um,ug]at S)
 have F:=fx_ S.out.facts;obtain⟨t,t1,t2,t3,a,a1,a2,b,b1,b2⟩:=HT.out.kept S.out.below;refine wm 3 ?_;rw[vq];clear H;go_upto_region 12 with fail;clear F t t1 t2 t3 a a1 a2 b b1 b2;refine St.gen (St.laid (S.out)) ?_;clear S;intro w3 S;try(simp only[ub,ui,um,ug]at S)
 have F:=fx_ S.out.facts;obtain⟨t,t1,t2,t3,a,a1,a2,b,b1,b2⟩:=HT.out.kept S.out.below;go_upto_region 8 with fail;rw[vq];go_upto_region 11 with fail;clear F t t1 t2 t3 a a1 a2 b b1 b2;refine St.gen (St.laid (S.out)) ?_;clear S;intro w4 S;try(simp only[ub,ui,um,ug]at S)
 have F:=fx_ S.out.facts;go_wp2_with(refine wpList_append_nil rfl (.tmp 50) (.tmp 52) 61 rfl 3 (U 0) 1 8 underlying61 infoInt rfl acy (St.laid S.out) rfl _ 1 [U 1] rfl acy (Bk acy) rfl (by simp[Value.oneCell']) acy (by unfold maxLen;decide) ?_;intro g cap zs w5 S5 hc1 hc2 hc3;simp only[tz,uc]at S5);clear F S;have y:w5.cell? ⟨g,0,none⟩=some (U 1):=by simp only[World.cell?,S5.out.blk 0 rfl];rfl
 have y1:=vp y;have hbo:w5.heap[w.heap.size+1]?=some (.cells #[U 0,U 0,U 0,U 0,eS,eL] 69 (0,0)):=S5.out.blk 2 rfl;have z:w5.cell? ⟨w.heap.size+1,0,none⟩=some (U 0):=gd;have f:w5.frozen? ⟨w.heap.size+1,0,none⟩=false:=by simp[World.frozen?,hbo]
 have z1:w5.cell? ⟨w.heap.size+1,1,none⟩=some (U 0):=gd;have f:w5.frozen? ⟨w.heap.size+1,1,none⟩=false:=by simp[World.frozen?,hbo]
 have z2:w5.cell? ⟨w.heap.size+1,2,none⟩=some (U 0):=gd;have f:w5.frozen? ⟨w.heap.size+1,2,none⟩=false:=by simp[World.frozen?,hbo]
 have z3:w5.cell? ⟨w.heap.size+1,3,none⟩=some (U 0):=gd;have f:w5.frozen? ⟨w.heap.size+1,3,none⟩=false:=by simp[World.frozen?,hbo]
 have z4:w5.cell? ⟨w.heap.size+1,4,none⟩=some eS:=gd;have f:w5.frozen? ⟨w.heap.size+1,4,none⟩=false:=by simp[World.frozen?,hbo]
 have z5:w5.cell? ⟨w.heap.size+1,5,none⟩=some eL:=gd;have f:w5.frozen? ⟨w.heap.size+1,5,none⟩=false:=by simp[World.frozen?,hbo]
 have z9:=vp z;clear hbo;rw[vq];go_upto_region 5 with fail;rw[vq];go_upto_region 19 with fail;go_wp2_with fail;refine bodyGen (fun W=>St w W _) (St.setsL (i:=2) [U 1,U 1,U 0,U 0,eS,eL] 0 _ _ _ S5.out rfl) ?_;intro w9 S;replace S:=tm S;simp only[ub,ui]at S;have F:w9.heap[w.heap.size+1]?=some (.cells #[U 1,U 1,U 0,U 0,eS,eL] 69 (0,0)):=S.out.blk 2 rfl;have c:w9.cell? ⟨w.heap.size+1,0,none⟩=some (U 1):=Zq;have c1:w9.cell? ⟨w.heap.size+1,1,none⟩=some (U 1):=Zq;have c2:w9.cell? ⟨w.heap.size+1,2,none⟩=some (U 0):=Zq;have c3:w9.cell? ⟨w.heap.size+1,3,none⟩=some (U 0):=Zq;have c4:w9.cell? ⟨w.heap.size+1,4,none⟩=some eS:=Zq;have c5:w9.cell? ⟨w.heap.size+1,5,none⟩=some eL:=Zq;refine ue (v:=.tuple #[.agg #[U 1,U 1,U 0,U 0,eS,eL],U 0]) (by simp[results,results144,go_sem,c,c1,c2,c3,c4,c5]) rfl ?_;exact⟨rfl,S.out.below⟩
end Go.Proofs.YtimoefagohifaaaGreatDoor
