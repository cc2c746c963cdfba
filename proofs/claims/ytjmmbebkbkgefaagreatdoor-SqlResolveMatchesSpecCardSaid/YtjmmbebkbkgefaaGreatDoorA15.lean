/- Part 15; the last part says what is proved. No condition. -/
import Derived.RangeFuncBound
import Derived.Shelf.Abstract
import Derived.Shelf.RegionOpen
import Derived.OwnWalkIn
import Derived.TacticsInMore
import Derived.LoopNIn
import Derived.LoopIn
import Derived.Test.YtjmmbebkbkgefaaGreatDoorA14
namespace Go.Proofs.YtjmmbebkbkgefaaGreatDoor
open Go.RowKit Go.Sort
theorem nodesQs_take {l : List Qy} {k : Nat} {a : Qy} (h : l[k]? = some a) : nodesQs (l.take (k + 1)) = nodesQs (l.take k) + nodesQ a:=by
 induction l generalizing k with
 | nil=>simp at h
 | cons b l ih=>
  cases k with
  | zero=>simp only [List.getElem?_cons_zero,Option.some.injEq] at h; subst h; simp [nodesQs]
  | succ k=>simp only [List.getElem?_cons_succ] at h; simp only [List.take_succ_cons,nodesQs,ih h]; omega
theorem nodesQs_le (l : List Qy) (k : Nat) : nodesQs (l.take k)≤nodesQs l:=by
 induction l generalizing k with
 | nil=>simp
 | cons b l ih=>
  cases k with
  | zero=>simp [nodesQs]
  | succ k=>have:=ih k; simp only [List.take_succ_cons,nodesQs]; omega
theorem nodesQ_pos (q : Qy) : 1≤nodesQ q:=by obtain ⟨_,_,_,_,_,_,_,_,_⟩:=q; simp only [nodesQ]; omega
theorem nodesQs_len (l : List Qy) : l.length≤nodesQs l:=by
 induction l with
 | nil=>simp
 | cons b l ih=>have:=nodesQ_pos b; simp only [nodesQs,List.length_cons]; omega
set_option maxRecDepth 100000 in
set_option maxHeartbeats 4000000 in
theorem qsize_any (Q : Nat→Prop) (q : Qy) : ∀ (cs : List Value) (w : World),QyIn Q w q cs→nodesQ q≤1000000000→Calls Tryz.prog 49 #[.agg cs.toArray] w (Says (.int .i64 (nodesQ q)) w):=by
 refine Qy.ind (P:=fun q=>∀ (cs : List Value) (w : World),QyIn Q w q cs→nodesQ q≤1000000000→Calls Tryz.prog 49 #[.agg cs.toArray] w (Says (.int .i64 (nodesQ q)) w)) ?_ q
 intro k0 tab subs cond cols group aggs order n0 ih cs w hin hn
 obtain ⟨xop,xn,xv,xargs⟩:=cond
 obtain ⟨sa,sc,xa,xc,ca,cc,ga,gc,aa,ac,oa,oc,rfl,hs,_⟩:=qyIn_of hin
 have IH:=Lib.hid ih
 have HS:=Lib.hid hs
 have hnq : nodesQ (.mk k0 tab subs (.mk xop xn xv xargs) cols group aggs order n0) = 1 + nodesQs subs:=rfl
 rw [hnq] at hn ⊢
 have hsl:=nodesQs_len subs
 clear ih hin hs hnq
 show Calls Tryz.prog 49 #[.agg #[.int .i64 k0,.string ⟨tab.toArray⟩,.slice sa subs.length sc,.int .i64 xop,.int .i64 xn,.int .i64 xv.k,.int .i64 xv.n,.string xv.s,.slice xa xargs.length xc,.slice ca cols.length cc,.slice ga group.length gc,.slice aa aggs.length ac,.slice oa order.length oc,.int .i64 n0]] w _
 have HB0 : Hid (Below w.heap.size w (w.alloc (.cells #[.int .i64 k0,.string ⟨tab.toArray⟩,.slice sa subs.length sc,.int .i64 xop,.int .i64 xn,.int .i64 xv.k,.int .i64 xv.n,.string xv.s,.slice xa xargs.length xc,.slice ca cols.length cc,.slice ga group.length gc,.slice aa aggs.length ac,.slice oa order.length oc,.int .i64 n0] 59))):=(Below.refl _ _).alloc (Nat.le_refl _) _
 go_enter Tryz.func49,Tryz.ntmps49
 go_wp2_with fail
 go_loopw [3,9] (fun nv i wr=>∃ k : Nat,k≤subs.length∧i = .int .i64 k∧nv = .int .i64 (1 + nodesQs (subs.take k) : Nat)∧Hid (Below w.heap.size w wr)) (fun _ i _=>subs.length - (intOf i).toNat)
 case atStart=>exact ⟨0,by omega,rfl,by simp [nodesQs],HB0.out⟩
 case round=>
  obtain ⟨k,hk,rfl,rfl,HB⟩:=hrel
  by_cases hlt : k < subs.length
  ·obtain ⟨a,hx⟩ : ∃ x,subs[k]? = some x:=⟨subs[k],by simp [hlt]⟩
   obtain ⟨b,o,cap,cs,hbo,hin,hat⟩:=(HS.out.kept (by decide) HB.out).at hx
   injection hbo with e1 _ e2
   subst e1
   subst e2
   have hma:=List.mem_of_getElem? hx
   have hst:=nodesQs_take hx
   have hle:=nodesQs_le subs (k + 1)
   have C1:=Lib.hid (fun W (hin : QyIn Q W a cs)=>IH.out a hma cs W hin (by omega))
   obtain ⟨z,hz⟩ : ∃ z,nodesQ a = z:=⟨_,rfl⟩
   rw [hz] at C1 hst
   have hin0 : Hid (QyIn Q wr a cs):=hin
   replace hin : QyIn Q wr a cs:=hin
   obtain ⟨k1,tab1,subs1,⟨xop1,xn1,xv1,xargs1⟩,cols1,group1,aggs1,order1,n1⟩:=a
   obtain ⟨sa1,sc1,xa1,xc1,ca1,cc1,ga1,gc1,aa1,ac1,oa1,oc1,rfl,_⟩:=qyIn_of hin
   have x0:=hat 0 _ rfl
   have x1:=hat 1 _ rfl
   have x2:=hat 2 _ rfl
   have x3:=hat 3 _ rfl
   have x4:=hat 4 _ rfl
   have x5:=hat 5 _ rfl
   have x6:=hat 6 _ rfl
   have x7:=hat 7 _ rfl
   have x8:=hat 8 _ rfl
   have x9:=hat 9 _ rfl
   have x10:=hat 10 _ rfl
   have x11:=hat 11 _ rfl
   have x12:=hat 12 _ rfl
   have x13:=hat 13 _ rfl
   simp only [show qyE.k = 14 from rfl,Nat.add_zero] at x0 x1 x2 x3 x4 x5 x6 x7 x8 x9 x10 x11 x12 x13
   have HB1 : Hid (Below w.heap.size w (wr.alloc (.cells #[.int .i64 k1,.string ⟨tab1.toArray⟩,.slice sa1 subs1.length sc1,.int .i64 xop1,.int .i64 xn1,.int .i64 xv1.k,.int .i64 xv1.n,.string xv1.s,.slice xa1 xargs1.length xc1,.slice ca1 cols1.length cc1,.slice ga1 group1.length gc1,.slice aa1 aggs1.length ac1,.slice oa1 order1.length oc1,.int .i64 n1] 59))):=HB.out.alloc (by have:=HB.out.size; omega) _
   have HI1 : Hid (QyIn Q (wr.alloc (.cells #[.int .i64 k1,.string ⟨tab1.toArray⟩,.slice sa1 subs1.length sc1,.int .i64 xop1,.int .i64 xn1,.int .i64 xv1.k,.int .i64 xv1.n,.string xv1.s,.slice xa1 xargs1.length xc1,.slice ca1 cols1.length cc1,.slice ga1 group1.length gc1,.slice aa1 aggs1.length ac1,.slice oa1 order1.length oc1,.int .i64 n1] 59)) _ _):=qyIn_move (fun b hl k=>⟨k,Below.heap_alloc _ _ _ hl⟩) _ _ hin0.out
   rw [hst] at hle
   generalize nodesQs (subs.take k) = m at *
   have hw2 : wrap64 (((1 + m : Nat) : Int) + (z : Int)) = ((1 + m : Nat) : Int) + (z : Int):=IntWalk.wrap64_in _ ⟨by omega,by omega⟩
   clear hx hat hma hz HB hin0 hin
   go_wp2_with fail
   refine Calls.mono (C1.out _ HI1.out) ?_
   rintro e w1 ⟨rfl,hb1⟩
   have HB2:=Lib.hid (HB1.out.step hb1)
   clear hb1 x0 x1 x2 x3 x4 x5 x6 x7 x8 x9 x10 x11 x12 x13
   go_wp2_with fail
   go_roundw
   case rel=>exact ⟨k + 1,by omega,by go_num,by rw [hst]; congr 1; omega,HB2.out⟩
   case measure=>simp [intOf]; omega
  ·obtain rfl : k = subs.length:=by omega
   rw [List.take_length]
   go_wp2_with fail
   go_returns
   exact ⟨rfl,HB.out⟩
set_option maxRecDepth 100000 in
set_option maxHeartbeats 8000000 in
theorem qequal_bare (k0 : Int) (xa ca ga aa oa : Option Addr) (xc cc gc ac oc : Nat) (w : World) : Calls Tryz.prog 98 #[.agg #[.int .i64 k0,.string ⟨#[]⟩,.slice none 0 0,.int .i64 0,.int .i64 0,.int .i64 0,.int .i64 0,.string ⟨#[]⟩,.slice xa 0 xc,.slice ca 0 cc,.slice ga 0 gc,.slice aa 0 ac,.slice oa 0 oc,.int .i64 0],.agg #[.int .i64 k0,.string ⟨#[]⟩,.slice none 0 0,.int .i64 0,.int .i64 0,.int .i64 0,.int .i64 0,.string ⟨#[]⟩,.slice none 0 0,.slice none 0 0,.slice none 0 0,.slice none 0 0,.slice none 0 0,.int .i64 0]] w (Says (.bool true) w):=by
 have S0 : Hid (St w ((w.alloc (.cells #[.int .i64 k0,.string ⟨#[]⟩,.slice none 0 0,.int .i64 0,.int .i64 0,.int .i64 0,.int .i64 0,.string ⟨#[]⟩,.slice xa 0 xc,.slice ca 0 cc,.slice ga 0 gc,.slice aa 0 ac,.slice oa 0 oc,.int .i64 0] 59)).alloc (.cells #[.int .i64 k0,.string ⟨#[]⟩,.slice none 0 0,.int .i64 0,.int .i64 0,.int .i64 0,.int .i64 0,.string ⟨#[]⟩,.slice none 0 0,.slice none 0 0,.slice none 0 0,.slice none 0 0,.slice none 0 0,.int .i64 0] 59)) [(w.heap.size + 1,#[.int .i64 k0,.string ⟨#[]⟩,.slice none 0 0,.int .i64 0,.int .i64 0,.int .i64 0,.int .i64 0,.string ⟨#[]⟩,.slice none 0 0,.slice none 0 0,.slice none 0 0,.slice none 0 0,.slice none 0 0,.int .i64 0],59),(w.heap.size,#[.int .i64 k0,.string ⟨#[]⟩,.slice none 0 0,.int .i64 0,.int .i64 0,.int .i64 0,.int .i64 0,.string ⟨#[]⟩,.slice xa 0 xc,.slice ca 0 cc,.slice ga 0 gc,.slice aa 0 ac,.slice oa 0 oc,.int .i64 0],59)]):=by
  have:=St.alloc (St.alloc (St.start w) (cs:=#[.int .i64 k0,.string ⟨#[]⟩,.slice none 0 0,.int .i64 0,.int .i64 0,.int .i64 0,.int .i64 0,.string ⟨#[]⟩,.slice xa 0 xc,.slice ca 0 cc,.slice ga 0 gc,.slice aa 0 ac,.slice oa 0 oc,.int .i64 0]) (t:=59)) (cs:=#[.int .i64 k0,.string ⟨#[]⟩,.slice none 0 0,.int .i64 0,.int .i64 0,.int .i64 0,.int .i64 0,.string ⟨#[]⟩,.slice none 0 0,.slice none 0 0,.slice none 0 0,.slice none 0 0,.slice none 0 0,.int .i64 0]) (t:=59)
  simp only [World.size_alloc] at this
  exact this
 go_enter Tryz.func98,Tryz.ntmps98
 go_upto_region 2 with fail
 refine St.gen S0.out ?_
 intro w1 S1
 clear S0
 have F1:=S1.out.facts
 simp only [St.Facts,cellFacts,apartFacts,and_true] at F1
 go_wp2_with fail
 refine Calls.mono (exprEq 0 0 V.null xa none xc 0 _) ?_
 rintro e w2 ⟨rfl,hb2⟩
 have S2:=Lib.hid (S1.out.kept hb2)
 clear hb2 F1 S1
 have F2:=S2.out.facts
 simp only [St.Facts,cellFacts,apartFacts,and_true] at F2
 go_wp2_with fail
 refine Calls.mono (eqf234 ca none cc 0 _ _) ?_
 rintro e w3 ⟨rfl,hb3⟩
 have S3:=Lib.hid (S2.out.kept hb3)
 clear hb3 F2 S2
 have F3:=S3.out.facts
 simp only [St.Facts,cellFacts,apartFacts,and_true] at F3
 go_wp2_with fail
 refine Calls.mono (eq235 ga none gc 0 _) ?_
 rintro e w4 ⟨rfl,hb4⟩
 have S4:=Lib.hid (S3.out.kept hb4)
 clear hb4 F3 S3
 have F4:=S4.out.facts
 simp only [St.Facts,cellFacts,apartFacts,and_true] at F4
 go_wp2_with fail
 refine Calls.mono (eqf236 aa none ac 0 _ _) ?_
 rintro e w5 ⟨rfl,hb5⟩
 have S5:=Lib.hid (S4.out.kept hb5)
 clear hb5 F4 S4
 have F5:=S5.out.facts
 simp only [St.Facts,cellFacts,apartFacts,and_true] at F5
 go_wp2_with fail
 refine Calls.mono (eq237 oa none oc 0 _) ?_
 rintro e w6 ⟨rfl,hb6⟩
 have S6:=Lib.hid (S5.out.kept hb6)
 clear hb6 F5 S5
 have F6:=S6.out.facts
 simp only [St.Facts,cellFacts,apartFacts,and_true] at F6
 go_wp2_with fail
 refine Calls.mono (eqf238 none none 0 0 _ _) ?_
 rintro e w7 ⟨rfl,hb7⟩
 have S7:=Lib.hid (S6.out.kept hb7)
 clear hb7 F6 S6
 go_wp2_with fail
 go_returns
 exact ⟨rfl,S7.out.below⟩
set_option maxRecDepth 100000 in
set_option maxHeartbeats 4000000 in
theorem qzero_any (a : Option Addr) (c : Nat) (w : World) : Calls Tryz.prog 97 #[.agg #[.int .i64 0,.int .i64 0,.int .i64 0,.int .i64 0,.string ⟨#[]⟩,.slice a 0 c]] w (Says (.bool true) w):=by
 go_enter Tryz.func97,Tryz.ntmps97
 go_wp2_with fail
 refine Calls.mono (exprEq 0 0 V.null a none c 0 _) ?_
 rintro e w1 ⟨rfl,hb1⟩
 go_wp2_with fail
 go_returns
 exact ⟨rfl,((Below.refl _ _).alloc (Nat.le_refl _) _).step hb1⟩
theorem Xp.isZero_eq {x : Xp} (h : x.isZero = true) : x = Xp.zero:=by
 obtain ⟨op,n,v,args⟩:=x
 simp only [Xp.isZero,Bool.and_eq_true] at h
 obtain ⟨⟨⟨h1,h2⟩,h3⟩,h4⟩:=h
 have e1 : op = 0:=of_decide_eq_true h1
 have e2 : n = 0:=of_decide_eq_true h2
 have e3 : v = V.null:=of_decide_eq_true h3
 have e4 : args.length = 0:=of_decide_eq_true h4
 rw [e1,e2,e3,List.eq_nil_of_length_eq_zero e4]
 rfl
set_option maxRecDepth 100000 in
set_option maxHeartbeats 4000000 in
theorem qcounts_any (Q : Nat→Prop) (p : Ag) (cs : List Value) (w : World) (hin : agE.In Q w p cs) (hp : (decide (p.fn ≠ 1) || p.arg.isZero) = true) : Calls Tryz.prog 96 #[agE.val cs] w (Says (.bool false) w):=by
 obtain ⟨fn,⟨xop,xn,xv,xargs⟩⟩:=p
 obtain ⟨c0,rfl,hin⟩:=hin
 obtain ⟨v0,rfl,hs⟩:=xpIn_iff.1 hin
 obtain ⟨a,c,rfl⟩:=hs.slice
 by_cases h1 : fn = 1
 ·have hz : (Xp.mk xop xn xv xargs).isZero = true:=by simpa [h1] using hp
  have hz:=Xp.isZero_eq hz
  simp only [Xp.zero,Xp.mk.injEq] at hz
  obtain ⟨rfl,rfl,rfl,rfl⟩:=hz
  subst h1
  show Calls Tryz.prog 96 #[.agg #[.int .i64 1,.int .i64 0,.int .i64 0,.int .i64 0,.int .i64 0,.string ⟨#[]⟩,.slice a 0 c]] w _
  clear hin hs hp
  go_enter Tryz.func96,Tryz.ntmps96
  go_wp2_with fail
  refine Calls.mono (qzero_any a c _) ?_
  rintro e w1 ⟨rfl,hb1⟩
  go_wp2_with fail
  go_returns
  exact ⟨rfl,((Below.refl _ _).alloc (Nat.le_refl _) _).step hb1⟩
 ·show Calls Tryz.prog 96 #[.agg #[.int .i64 fn,.int .i64 xop,.int .i64 xn,.int .i64 xv.k,.int .i64 xv.n,.string xv.s,.slice a xargs.length c]] w _
  have h2 : (fn == 1) = false:=by simpa using h1
  clear hin hs hp
  go_enter Tryz.func96,Tryz.ntmps96
  go_wp2_with fail
  go_returns
  exact ⟨rfl,((Below.refl _ _).alloc (Nat.le_refl _) _)⟩
theorem enters195 : En 96:=enters_of Tryz.func96 (by kernel_rfl) rfl
theorem enters200 : En 101:=enters_of Tryz.func101 (by kernel_rfl) rfl
theorem any_none {α : Type} (l : List α) : (l.any fun _=>false) = false:=by induction l <;> simp_all
set_option maxRecDepth 100000 in
set_option maxHeartbeats 4000000 in
theorem qunformed_any (Q : Nat→Prop) (q : Qy) (cs : List Value) (w : World) (hin : qyE.In Q w q cs) (HF : Hid (∀ W,QyIn Q W q cs→Calls Tryz.prog 50 #[.agg cs.toArray] W (Says (.bool true) W))) : Calls Tryz.prog 101 #[qyE.val cs] w (Says (.bool false) w):=by
 have C1 : Hid (Calls Tryz.prog 50 #[.agg cs.toArray] (w.alloc (.cells cs.toArray 59)) (Says (.bool true) (w.alloc (.cells cs.toArray 59)))):=HF.out _ (qyIn_move (fun b hl k=>⟨k,Below.heap_alloc _ _ _ hl⟩) _ _ hin)
 obtain ⟨k0,tab,subs,⟨xop,xn,xv,xargs⟩,cols,group,aggs,order,n0⟩:=q
 obtain ⟨sa,sc,xa,xc,ca,cc,ga,gc,aa,ac,oa,oc,rfl,_⟩:=qyIn_of hin
 show Calls Tryz.prog 101 #[.agg #[.int .i64 k0,.string ⟨tab.toArray⟩,.slice sa subs.length sc,.int .i64 xop,.int .i64 xn,.int .i64 xv.k,.int .i64 xv.n,.string xv.s,.slice xa xargs.length xc,.slice ca cols.length cc,.slice ga group.length gc,.slice aa aggs.length ac,.slice oa order.length oc,.int .i64 n0]] w _
 clear hin HF
 go_enter Tryz.func101,Tryz.ntmps101
 go_wp2_with fail
 refine Calls.mono C1.out ?_
 rintro e w1 ⟨rfl,hb1⟩
 go_wp2_with fail
 go_returns
 exact ⟨rfl,((Below.refl _ _).alloc (Nat.le_refl _) _).step hb1⟩
theorem St.setsL {w0 : World} {i b : Nat} {t : TypeId} : ∀ (vs : List Value) (o : Nat) (cs : Array Value) (w : World) (L : List Blk),St w0 w L→L[i]? = some (b,cs,t)→St w0 (w.setCells b o vs) (L.set i (b,setArr cs o vs,t))
 | [],o,cs,w,L,h,hi=>by
  have : L.set i (b,cs,t) = L:=by
   apply List.ext_getElem?
   intro q
   rw [List.getElem?_set]
   split
   ·rename_i e; subst e; split
    ·exact hi.symm
    ·rename_i hq; simp at hq; simp [List.getElem?_eq_none hq]
   ·rfl
  unfold setArr
  rw [this]
  exact h
 | v :: vs,o,cs,w,L,h,hi=>by
  have h1:=St.set i (o:=o) (v:=v) h hi
  have hlt:=(List.getElem?_eq_some_iff.1 hi).1
  have h2:=St.setsL (i:=i) (b:=b) (t:=t) vs (o + 1) (cs.setIfInBounds o v) _ _ h1 (by rw [List.getElem?_set]; simp [hlt])
  rw [List.set_set] at h2
  exact h2
set_option maxRecDepth 100000 in
set_option maxHeartbeats 8000000 in
theorem qformed_1 (tab : Bytes) (sa xa ca ga aa oa : Option Addr) (sc xc cc gc ac oc : Nat) (w : World)
  (HA : Hid (∀ W,Below w.heap.size w W→Calls Tryz.prog 99 #[.slice aa 0 ac,.func (.func 96) #[] #[]] W (Says (.bool false) W))) (HS : Hid (∀ W,Below w.heap.size w W→Calls Tryz.prog 100 #[.slice sa 0 sc,.func (.func 101) #[] #[]] W (Says (.bool false) W))) :
  Calls Tryz.prog 50 #[.agg #[.int .i64 1,.string ⟨tab.toArray⟩,.slice sa 0 sc,.int .i64 0,.int .i64 0,.int .i64 0,.int .i64 0,.string ⟨#[]⟩,.slice xa 0 xc,.slice ca 0 cc,.slice ga 0 gc,.slice aa 0 ac,.slice oa 0 oc,.int .i64 0]] w (Says (.bool true) w):=by
 go_enter Tryz.func50,Tryz.ntmps50
 go_upto_region 4 with fail
 refine St.gen (St.alloc (St.alloc (St.start _))) ?_
 intro w1 S1
 try (simp only [World.size_alloc] at S1)
 have F1:=S1.out.facts
 simp only [St.Facts,cellFacts,apartFacts,and_true] at F1
 go_wp2_with fail
 refine Calls.mono (qequal_bare 1 xa ca ga aa oa xc cc gc ac oc _) ?_
 rintro e w2 ⟨rfl,hb2⟩
 have S2:=Lib.hid ((St.set 0 (S1.out) rfl).kept hb2)
 try (simp only [List.set_cons_zero,List.set_cons_succ,List.setIfInBounds_toArray] at S2)
 clear hb2 F1 S1
 have F2:=S2.out.facts
 simp only [St.Facts,cellFacts,apartFacts,and_true] at F2
 go_wp2_with fail
 refine Calls.mono (HA.out _ S2.out.below) ?_
 rintro e w3 ⟨rfl,hb3⟩
 have S3:=Lib.hid (S2.out.kept hb3)
 clear hb3 F2 S2
 have F3:=S3.out.facts
 simp only [St.Facts,cellFacts,apartFacts,and_true] at F3
 go_wp2_with fail
 refine Calls.mono (HS.out _ S3.out.below) ?_
 rintro e w4 ⟨rfl,hb4⟩
 have HB:=Lib.hid (S3.out.kept hb4).below
 clear hb4 F3 S3
 go_wp2_with fail
 go_returns
 exact ⟨rfl,HB.out⟩
set_option maxRecDepth 100000 in
set_option maxHeartbeats 8000000 in
theorem qformed_3 (m : Nat) (sa xa ca ga aa oa : Option Addr) (sc xc cc gc ac oc : Nat) (w : World)
  (HA : Hid (∀ W,Below w.heap.size w W→Calls Tryz.prog 99 #[.slice aa 0 ac,.func (.func 96) #[] #[]] W (Says (.bool false) W))) (HS : Hid (∀ W,Below w.heap.size w W→Calls Tryz.prog 100 #[.slice sa 1 sc,.func (.func 101) #[] #[]] W (Says (.bool false) W))) :
  Calls Tryz.prog 50 #[.agg #[.int .i64 3,.string ⟨#[]⟩,.slice sa 1 sc,.int .i64 0,.int .i64 0,.int .i64 0,.int .i64 0,.string ⟨#[]⟩,.slice xa 0 xc,.slice ca m cc,.slice ga 0 gc,.slice aa 0 ac,.slice oa 0 oc,.int .i64 0]] w (Says (.bool true) w):=by
 go_enter Tryz.func50,Tryz.ntmps50
 go_upto_region 4 with fail
 refine St.gen (St.alloc (St.alloc (St.start _))) ?_
 intro w1 S1
 try (simp only [World.size_alloc] at S1)
 have F1:=S1.out.facts
 simp only [St.Facts,cellFacts,apartFacts,and_true] at F1
 go_wp2_with fail
 refine Calls.mono (qequal_bare 3 xa none ga aa oa xc 0 gc ac oc _) ?_
 rintro e w2 ⟨rfl,hb2⟩
 have S2:=Lib.hid ((St.set 0 (S1.out) rfl).kept hb2)
 try (simp only [List.set_cons_zero,List.set_cons_succ,List.setIfInBounds_toArray] at S2)
 clear hb2 F1 S1
 have F2:=S2.out.facts
 simp only [St.Facts,cellFacts,apartFacts,and_true] at F2
 go_wp2_with fail
 refine Calls.mono (HA.out _ S2.out.below) ?_
 rintro e w3 ⟨rfl,hb3⟩
 have S3:=Lib.hid (S2.out.kept hb3)
 clear hb3 F2 S2
 have F3:=S3.out.facts
 simp only [St.Facts,cellFacts,apartFacts,and_true] at F3
 go_wp2_with fail
 refine Calls.mono (HS.out _ S3.out.below) ?_
 rintro e w4 ⟨rfl,hb4⟩
 have HB:=Lib.hid (S3.out.kept hb4).below
 clear hb4 F3 S3
 go_wp2_with fail
 go_returns
 exact ⟨rfl,HB.out⟩
set_option maxRecDepth 100000 in
set_option maxHeartbeats 8000000 in
theorem qformed_5 (m m2 : Nat) (sa xa ca ga aa oa : Option Addr) (sc xc cc gc ac oc : Nat) (w : World)
  (HA : Hid (∀ W,Below w.heap.size w W→Calls Tryz.prog 99 #[.slice aa m2 ac,.func (.func 96) #[] #[]] W (Says (.bool false) W))) (HS : Hid (∀ W,Below w.heap.size w W→Calls Tryz.prog 100 #[.slice sa 1 sc,.func (.func 101) #[] #[]] W (Says (.bool false) W))) :
  Calls Tryz.prog 50 #[.agg #[.int .i64 5,.string ⟨#[]⟩,.slice sa 1 sc,.int .i64 0,.int .i64 0,.int .i64 0,.int .i64 0,.string ⟨#[]⟩,.slice xa 0 xc,.slice ca 0 cc,.slice ga m gc,.slice aa m2 ac,.slice oa 0 oc,.int .i64 0]] w (Says (.bool true) w):=by
 go_enter Tryz.func50,Tryz.ntmps50
 go_upto_region 4 with fail
 refine St.gen (St.alloc (St.alloc (St.start _))) ?_
 intro w1 S1
 try (simp only [World.size_alloc] at S1)
 have F1:=S1.out.facts
 simp only [St.Facts,cellFacts,apartFacts,and_true] at F1
 go_wp2_with fail
 refine Calls.mono (qequal_bare 5 xa ca none none oa xc cc 0 0 oc _) ?_
 rintro e w2 ⟨rfl,hb2⟩
 have S2:=Lib.hid ((St.set 0 (St.set 0 (S1.out) rfl) rfl).kept hb2)
 try (simp only [List.set_cons_zero,List.set_cons_succ,List.setIfInBounds_toArray] at S2)
 clear hb2 F1 S1
 have F2:=S2.out.facts
 simp only [St.Facts,cellFacts,apartFacts,and_true] at F2
 go_wp2_with fail
 refine Calls.mono (HA.out _ S2.out.below) ?_
 rintro e w3 ⟨rfl,hb3⟩
 have S3:=Lib.hid (S2.out.kept hb3)
 clear hb3 F2 S2
 have F3:=S3.out.facts
 simp only [St.Facts,cellFacts,apartFacts,and_true] at F3
 go_wp2_with fail
 refine Calls.mono (HS.out _ S3.out.below) ?_
 rintro e w4 ⟨rfl,hb4⟩
 have HB:=Lib.hid (S3.out.kept hb4).below
 clear hb4 F3 S3
 go_wp2_with fail
 go_returns
 exact ⟨rfl,HB.out⟩
set_option maxRecDepth 100000 in
set_option maxHeartbeats 8000000 in
theorem qformed_6 (m : Nat) (sa xa ca ga aa oa : Option Addr) (sc xc cc gc ac oc : Nat) (w : World)
  (HA : Hid (∀ W,Below w.heap.size w W→Calls Tryz.prog 99 #[.slice aa 0 ac,.func (.func 96) #[] #[]] W (Says (.bool false) W))) (HS : Hid (∀ W,Below w.heap.size w W→Calls Tryz.prog 100 #[.slice sa 1 sc,.func (.func 101) #[] #[]] W (Says (.bool false) W))) :
  Calls Tryz.prog 50 #[.agg #[.int .i64 6,.string ⟨#[]⟩,.slice sa 1 sc,.int .i64 0,.int .i64 0,.int .i64 0,.int .i64 0,.string ⟨#[]⟩,.slice xa 0 xc,.slice ca 0 cc,.slice ga 0 gc,.slice aa 0 ac,.slice oa m oc,.int .i64 0]] w (Says (.bool true) w):=by
 go_enter Tryz.func50,Tryz.ntmps50
 go_upto_region 4 with fail
 refine St.gen (St.alloc (St.alloc (St.start _))) ?_
 intro w1 S1
 try (simp only [World.size_alloc] at S1)
 have F1:=S1.out.facts
 simp only [St.Facts,cellFacts,apartFacts,and_true] at F1
 go_wp2_with fail
 refine Calls.mono (qequal_bare 6 xa ca ga aa none xc cc gc ac 0 _) ?_
 rintro e w2 ⟨rfl,hb2⟩
 have S2:=Lib.hid ((St.set 0 (S1.out) rfl).kept hb2)
 try (simp only [List.set_cons_zero,List.set_cons_succ,List.setIfInBounds_toArray] at S2)
 clear hb2 F1 S1
 have F2:=S2.out.facts
 simp only [St.Facts,cellFacts,apartFacts,and_true] at F2
 go_wp2_with fail
 refine Calls.mono (HA.out _ S2.out.below) ?_
 rintro e w3 ⟨rfl,hb3⟩
 have S3:=Lib.hid (S2.out.kept hb3)
 clear hb3 F2 S2
 have F3:=S3.out.facts
 simp only [St.Facts,cellFacts,apartFacts,and_true] at F3
 go_wp2_with fail
 refine Calls.mono (HS.out _ S3.out.below) ?_
 rintro e w4 ⟨rfl,hb4⟩
 have HB:=Lib.hid (S3.out.kept hb4).below
 clear hb4 F3 S3
 go_wp2_with fail
 go_returns
 exact ⟨rfl,HB.out⟩
set_option maxRecDepth 100000 in
set_option maxHeartbeats 8000000 in
theorem qformed_7 (n0 : Int) (sa xa ca ga aa oa : Option Addr) (sc xc cc gc ac oc : Nat) (w : World)
  (HA : Hid (∀ W,Below w.heap.size w W→Calls Tryz.prog 99 #[.slice aa 0 ac,.func (.func 96) #[] #[]] W (Says (.bool false) W))) (HS : Hid (∀ W,Below w.heap.size w W→Calls Tryz.prog 100 #[.slice sa 1 sc,.func (.func 101) #[] #[]] W (Says (.bool false) W))) :
  Calls Tryz.prog 50 #[.agg #[.int .i64 7,.string ⟨#[]⟩,.slice sa 1 sc,.int .i64 0,.int .i64 0,.int .i64 0,.int .i64 0,.string ⟨#[]⟩,.slice xa 0 xc,.slice ca 0 cc,.slice ga 0 gc,.slice aa 0 ac,.slice oa 0 oc,.int .i64 n0]] w (Says (.bool true) w):=by
 go_enter Tryz.func50,Tryz.ntmps50
 go_upto_region 4 with fail
 refine St.gen (St.alloc (St.alloc (St.start _))) ?_
 intro w1 S1
 try (simp only [World.size_alloc] at S1)
 have F1:=S1.out.facts
 simp only [St.Facts,cellFacts,apartFacts,and_true] at F1
 go_wp2_with fail
 refine Calls.mono (qequal_bare 7 xa ca ga aa oa xc cc gc ac oc _) ?_
 rintro e w2 ⟨rfl,hb2⟩
 have S2:=Lib.hid ((St.set 0 (S1.out) rfl).kept hb2)
 try (simp only [List.set_cons_zero,List.set_cons_succ,List.setIfInBounds_toArray] at S2)
 clear hb2 F1 S1
 have F2:=S2.out.facts
 simp only [St.Facts,cellFacts,apartFacts,and_true] at F2
 go_wp2_with fail
 refine Calls.mono (HA.out _ S2.out.below) ?_
 rintro e w3 ⟨rfl,hb3⟩
 have S3:=Lib.hid (S2.out.kept hb3)
 clear hb3 F2 S2
 have F3:=S3.out.facts
 simp only [St.Facts,cellFacts,apartFacts,and_true] at F3
 go_wp2_with fail
 refine Calls.mono (HS.out _ S3.out.below) ?_
 rintro e w4 ⟨rfl,hb4⟩
 have HB:=Lib.hid (S3.out.kept hb4).below
 clear hb4 F3 S3
 go_wp2_with fail
 go_returns
 exact ⟨rfl,HB.out⟩
mutual
def Qy.lin : Qy→Bool
 | .mk k _ subs _ _ _ _ _ _=>(decide (k = 1) || decide (k = 3) || decide (k = 5) || decide (k = 6) || decide (k = 7)) && linQs subs
def linQs : List Qy→Bool
 | []=>true
 | a :: l=>a.lin && linQs l
end
theorem linQs_mem {l : List Qy} (h : linQs l = true) : ∀ a ∈ l,a.lin = true:=by
 induction l with
 | nil=>intro a ha; cases ha
 | cons b l ih=>
  intro a ha
  simp only [linQs,Bool.and_eq_true] at h
  rcases List.mem_cons.1 ha with rfl | ha
  ·exact h.1
  ·exact ih h.2 a ha
theorem qformed_any (Q : Nat→Prop) (q : Qy) : ∀ (cs : List Value) (w : World),QyIn Q w q cs→q.formed = true→q.lin = true→Calls Tryz.prog 50 #[.agg cs.toArray] w (Says (.bool true) w):=by
 refine Qy.ind (P:=fun q=>∀ (cs : List Value) (w : World),QyIn Q w q cs→q.formed = true→q.lin = true→Calls Tryz.prog 50 #[.agg cs.toArray] w (Says (.bool true) w)) ?_ q
 intro k tab subs cond cols group aggs order n ih cs w hin hf hl
 obtain ⟨xop,xn,xv,xargs⟩:=cond
 obtain ⟨sa,sc,xa,xc,ca,cc,ga,gc,aa,ac,oa,oc,rfl,h1,h2,h3,h4,h5,h6⟩:=qyIn_of hin
 simp only [Qy.formed,formedQs_all,nodeQ,Bool.and_eq_true,Bool.or_eq_true,decide_eq_true_eq,List.all_eq_true] at hf
 simp only [Qy.lin,Bool.and_eq_true,Bool.or_eq_true,decide_eq_true_eq] at hl
 obtain ⟨⟨⟨⟨⟨⟨⟨⟨⟨⟨⟨f1,f2⟩,f3⟩,f4⟩,f5⟩,f6⟩,f7⟩,f8⟩,f9⟩,f10⟩,f11⟩,f12⟩:=hf
 have hlm:=linQs_mem hl.2
 have HA : Hid (∀ W,Below w.heap.size w W→Calls Tryz.prog 99 #[.slice aa aggs.length ac,.func (.func 96) #[] #[]] W (Says (.bool false) W)):=fun W hW=>by
  have:=contains198_any 96 Q (fun _=>false) aggs _ W enters195 (h5.kept (by decide) hW) (by omega) (fun W2 a cs hW2 ha hin2=>qcounts_any Q a cs W2 hin2 (by simpa using f11 a ha))
  rwa [any_none] at this
 have HS : Hid (∀ W,Below w.heap.size w W→Calls Tryz.prog 100 #[.slice sa subs.length sc,.func (.func 101) #[] #[]] W (Says (.bool false) W)):=fun W hW=>by
  have:=contains199_any 101 Q (fun _=>false) subs _ W enters200 (h1.kept (by decide) hW) (by split at f9; omega; split at f9 <;> omega) (fun W2 a cs hW2 ha hin2=>qunformed_any Q a cs W2 hin2 (fun W3 hin3=>ih a ha cs W3 hin3 (f12 a ha) (hlm a ha)))
  rwa [any_none] at this
 have hz : k ≠ 2→k ≠ 4→xop = 0∧xn = 0∧xv = V.null∧xargs = []:=fun k2 k4=>by
  have : (Xp.mk xop xn xv xargs).isZero = true:=by rcases f4 with (h | h) | h; exact absurd h k2; exact absurd h k4; exact h
  have:=Xp.isZero_eq this
  simpa [Xp.zero] using this
 clear hin ih h1 h2 h3 h4 h5 h6 f11 f12 hlm
 rcases hl.1 with (((rfl | rfl) | rfl) | rfl) | rfl
 all_goals
  obtain ⟨rfl,rfl,rfl,rfl⟩:=hz (by decide) (by decide)
  try (rcases f3 with h | rfl; exact absurd h (by decide))
  try (rcases f5 with h | h5; exact absurd h (by decide))
  try (rcases f6 with h | h6; exact absurd h (by decide))
  try (rcases f7 with h | h7; exact absurd h (by decide))
  try (rcases f8 with h | rfl; exact absurd h (by decide))
 ·rw [h5,h6.1]
  rw [h6.2] at HA ⊢
  rw [h7]
  have e : subs.length = 0:=by simpa using f9
  rw [e] at HS ⊢
  exact qformed_1 tab sa xa ca ga aa oa sc xc cc gc ac oc w HA HS
 ·rw [h6.1]
  rw [h6.2] at HA ⊢
  rw [h7]
  have e : subs.length = 1:=by simp at f9; omega
  rw [e] at HS ⊢
  exact qformed_3 cols.length sa xa ca ga aa oa sc xc cc gc ac oc w HA HS
 ·rw [h5,h7]
  have e : subs.length = 1:=by simp at f9; omega
  rw [e] at HS ⊢
  exact qformed_5 group.length aggs.length sa xa ca ga aa oa sc xc cc gc ac oc w HA HS
 ·rw [h5,h6.1]
  rw [h6.2] at HA ⊢
  have e : subs.length = 1:=by simp at f9; omega
  rw [e] at HS ⊢
  exact qformed_6 order.length sa xa ca ga aa oa sc xc cc gc ac oc w HA HS
 ·rw [h5,h6.1]
  rw [h6.2] at HA ⊢
  rw [h7]
  have e : subs.length = 1:=by simp at f9; omega
  rw [e] at HS ⊢
  exact qformed_7 n sa xa ca ga aa oa sc xc cc gc ac oc w HA HS
attribute [local go_sem] Oper.semAt_some
theorem roundDepth {m k : Nat} {P : Program} {l : Nat} {f : FuncId} {tmps : Array Value} {assign body : Code} {w : World} {R : Ending→World→Prop} (h : RoundIn Fence.wide m P l f tmps assign body w R) : RoundIn Fence.wide k P l f tmps assign body w R:=
 ⟨h.1,fun c cs _=>h.2 c cs (fun d h=>by cases h)⟩
theorem yieldDepth {m : Nat} (k : Nat) {P : Program} {l : Nat} {args : Array Value} {W : World} {R : Ending→World→Prop} (h : YieldAt Fence.wide m P l args W R) : YieldAt Fence.wide k P l args W R:=by
 obtain ⟨fn,tmps,assign,body,hy,hR⟩:=h
 exact ⟨fn,tmps,assign,body,hy,roundDepth hR⟩
theorem wideD (n : Nat) : Fence.wide.depth.isSome = true→1≤n:=fun h=>by simp [Fence.wide] at h
set_option maxRecDepth 100000 in
set_option maxHeartbeats 2000000 in
theorem visit_leaf (n l : Nat) (op xn : Int) (v : V) (a : Option Addr) (c : Nat) (J Jx : World→Prop) (W : World)
  (HY : YieldAt Fence.wide (n - 1) Tryz.prog l #[.agg #[.int .i64 op,.int .i64 xn,.int .i64 v.k,.int .i64 v.n,.string v.s,.slice a 0 c]] (W.alloc (.cells #[.int .i64 op,.int .i64 xn,.int .i64 v.k,.int .i64 v.n,.string v.s,.slice a 0 c] 49))
   fun e W'=>(e = .returned (.bool true)∧J W'∧W'.heap[W.heap.size]? = some (.cells #[.int .i64 op,.int .i64 xn,.int .i64 v.k,.int .i64 v.n,.string v.s,.slice a 0 c] 49 (0,0)))∨(e = .returned (.bool false)∧Jx W')) :
  CallsIn Fence.wide n Tryz.prog 230 #[.agg #[.int .i64 op,.int .i64 xn,.int .i64 v.k,.int .i64 v.n,.string v.s,.slice a 0 c],.func (.yield l) #[] #[]] W fun e W'=>(e = .returned (.bool true)∧J W')∨(e = .returned (.bool false)∧Jx W'):=by
 obtain ⟨fn,tmps,assign,body,hy,hR⟩:=HY
 refine callsIn_of_wp Tryz.func230 rfl trivial ?_ rfl
 simp only [Tryz.ntmps230,List.size_toArray,List.length_cons,List.length_nil,Nat.reduceAdd,Nat.reduceSub,Array.replicate_succ,Array.replicate_zero,List.push_toArray,List.append_toArray,List.nil_append,List.cons_append]
 gi_wp2
 refine ⟨wideD _,hR.mono ?_⟩
 clear hy hR
 rintro e w2 (⟨rfl,hj2,hb2⟩ | ⟨rfl,hx2⟩)
 ·have y0 : w2.cell? ⟨W.heap.size,5,none⟩ = some (.slice a 0 c):=by simp only [World.cell?,hb2]; rfl
  have HJ:=Lib.hid hj2
  clear hb2 hj2
  gi_wp2
  refine wpIn_loop_rounds 1 ?_
  rw [roundsIn_succ]
  gi_wp2
  refine bodyPost_ret (results_tmp rfl _ _ _) rfl ?_
  exact .inl ⟨rfl,HJ.out⟩
 ·have HX:=Lib.hid hx2
  clear hx2
  gi_wp2
  refine bodyPost_ret (results_tmp rfl _ _ _) rfl ?_
  exact .inr ⟨rfl,HX.out⟩
structure RgI (w : World) (D : Nat) (lp : Loop) (L : List Blk) (W : World) : Prop where
 st : St w W L
 lt : ∀ x ∈ L,x.1 < D
 ge : w.heap.size≤D
 loop : W.heap[D + 1]? = some (.loop lp)
 dfr : W.heap[D]? = some (.deferred (some []))
theorem RgI.start {w W0 : World} {L : List Blk} (h : St w W0 L) (lp : Loop) : RgI w W0.heap.size lp L ((W0.alloc (.deferred (some []))).alloc (.loop lp)):=by
 have hb : Below W0.heap.size W0 ((W0.alloc (.deferred (some []))).alloc (.loop lp)):=((Below.refl _ _).alloc (Nat.le_refl _) _).alloc (by simp) _
 refine ⟨h.kept hb,fun x hx=>?_,h.below.size,?_,?_⟩
 ·obtain ⟨j,hj⟩:=List.mem_iff_getElem?.1 hx
  obtain ⟨b,cs,t⟩:=x
  exact (Array.getElem?_eq_some_iff.1 (h.blk j hj)).1
 ·have:=World.alloc_heap_new (W0.alloc (.deferred (some []))) (.loop lp); rwa [World.size_alloc] at this
 ·exact (Below.heap_alloc _ _ _ (by simp)).trans (World.alloc_heap_new W0 _)
theorem RgI.kept {w W W' : World} {D : Nat} {lp : Loop} {L : List Blk} (h : RgI w D lp L W) (hb : Below W.heap.size W W') : RgI w D lp L W':=
 ⟨h.st.kept hb,h.lt,h.ge,(hb.block _ (Array.getElem?_eq_some_iff.1 h.loop).1).trans h.loop,(hb.block _ (Array.getElem?_eq_some_iff.1 h.dfr).1).trans h.dfr⟩
theorem RgI.put {w W : World} {D : Nat} {lp : Loop} {L : List Blk} (h : RgI w D lp L W) (lp' : Loop) : RgI w D lp' L (W.putObj (D + 1) (.loop lp')):=
 ⟨h.st.turned (Turn.putObj W (D + 1) _) (fun i hi=>by subst hi; have:=h.ge; omega) (fun x hx e=>by have:=h.lt x hx; have e' : x.1 = D + 1:=e; omega),h.lt,h.ge,
  World.putObj_heap_same (Array.getElem?_eq_some_iff.1 h.loop).1,(World.putObj_heap_other (by omega)).trans h.dfr⟩
theorem RgI.set {w W : World} {D : Nat} {lp : Loop} {L : List Blk} (i : Nat) {b o : Nat} {cs : Array Value} {t : TypeId} {v : Value} (h : RgI w D lp L W) (hi : L[i]? = some (b,cs,t)) : RgI w D lp (L.set i (b,cs.setIfInBounds o v,t)) (W.setCell ⟨b,o,none⟩ v):=by
 have hlt:=h.lt _ (List.mem_of_getElem? hi)
 have ht : Turn (· = b) W (W.setCell ⟨b,o,none⟩ v):=(Turn.refl _ W).setCell (.inl rfl)
 refine ⟨St.set i h.st hi,fun x hx=>?_,h.ge,(ht.block _ (Array.getElem?_eq_some_iff.1 h.loop).1 (fun e=>by have e' : D + 1 = b:=e; simp only at hlt; omega)).trans h.loop,(ht.block _ (Array.getElem?_eq_some_iff.1 h.dfr).1 (fun e=>by have e' : D = b:=e; simp only at hlt; omega)).trans h.dfr⟩
 rcases List.mem_or_eq_of_mem_set hx with hx | rfl
 ·exact h.lt x hx
 ·exact hlt
theorem RgI.facts {w W : World} {D : Nat} {lp : Loop} {L : List Blk} (h : RgI w D lp L W) : St.Facts W L:=h.st.facts
theorem RgI.fin {w W : World} {D : Nat} {lp : Loop} {L : List Blk} (h : RgI w D lp L W) : St w (W.putObj D (.deferred none)) L:=
 h.st.turned (Turn.putObj W D _) (fun i hi=>by subst hi; have:=h.ge; omega) (fun x hx e=>by have:=h.lt x hx; have e' : x.1 = D:=e; omega)
def xcs (op xn : Int) (v : V) (a : Option Addr) (c : Nat) : Array Value:=#[.int .i64 op,.int .i64 xn,.int .i64 v.k,.int .i64 v.n,.string v.s,.slice a 0 c]
set_option maxRecDepth 100000 in
set_option maxHeartbeats 2000000 in
theorem nodes_any (op xn : Int) (v : V) (a : Option Addr) (m c : Nat) (w : World) : Calls Tryz.prog 210 #[.agg #[.int .i64 op,.int .i64 xn,.int .i64 v.k,.int .i64 v.n,.string v.s,.slice a m c]] w
  fun e w'=>e = .returned (.func (.func 229) #[] #[.pointer (some ⟨w.heap.size,0,none⟩)])∧w' = w.alloc (.cells #[.int .i64 op,.int .i64 xn,.int .i64 v.k,.int .i64 v.n,.string v.s,.slice a m c] 49):=by
 have hmf : ∀ (fn : Fn) (first cap : Array Value) (w : World),(Instr.makeFunc fn first cap).run Tryz.prog w = .ok (.func fn first cap) w:=fun _ _ _ _=>rfl
 go_enter Tryz.func210,Tryz.ntmps210
 go_wp2_with fail
 go_returns
 exact ⟨rfl,rfl⟩
set_option maxRecDepth 100000 in
set_option maxHeartbeats 2000000 in
theorem nodes1_leaf (n l bs : Nat) (op xn : Int) (v : V) (a : Option Addr) (c : Nat) (J Jx : World→Prop) (W : World) (hb : W.heap[bs]? = some (.cells #[.int .i64 op,.int .i64 xn,.int .i64 v.k,.int .i64 v.n,.string v.s,.slice a 0 c] 49 (0,0)))
  (HY : ∀ m,YieldAt Fence.wide m Tryz.prog l #[.agg #[.int .i64 op,.int .i64 xn,.int .i64 v.k,.int .i64 v.n,.string v.s,.slice a 0 c]] (W.alloc (.cells #[.int .i64 op,.int .i64 xn,.int .i64 v.k,.int .i64 v.n,.string v.s,.slice a 0 c] 49))
   fun e W'=>(e = .returned (.bool true)∧J W'∧W'.heap[W.heap.size]? = some (.cells #[.int .i64 op,.int .i64 xn,.int .i64 v.k,.int .i64 v.n,.string v.s,.slice a 0 c] 49 (0,0)))∨(e = .returned (.bool false)∧Jx W')) :
  CallsIn Fence.wide n Tryz.prog 229 #[.func (.yield l) #[] #[],.pointer (some ⟨bs,0,none⟩)] W fun e W'=>(∃ v,e = .returned v)∧(J W'∨Jx W'):=by
 have C : Hid (∀ m,CallsIn Fence.wide m Tryz.prog 230 #[.agg #[.int .i64 op,.int .i64 xn,.int .i64 v.k,.int .i64 v.n,.string v.s,.slice a 0 c],.func (.yield l) #[] #[]] W fun e W'=>(e = .returned (.bool true)∧J W')∨(e = .returned (.bool false)∧Jx W')):=
  fun m=>visit_leaf m l op xn v a c J Jx W (HY _)
 have y0 : W.cell? ⟨bs,0,none⟩ = some (.int .i64 op):=by simp only [World.cell?,hb]; rfl
 have y1 : W.cell? ⟨bs,1,none⟩ = some (.int .i64 xn):=by simp only [World.cell?,hb]; rfl
 have y2 : W.cell? ⟨bs,2,none⟩ = some (.int .i64 v.k):=by simp only [World.cell?,hb]; rfl
 have y3 : W.cell? ⟨bs,3,none⟩ = some (.int .i64 v.n):=by simp only [World.cell?,hb]; rfl
 have y4 : W.cell? ⟨bs,4,none⟩ = some (.string v.s):=by simp only [World.cell?,hb]; rfl
 have y5 : W.cell? ⟨bs,5,none⟩ = some (.slice a 0 c):=by simp only [World.cell?,hb]; rfl
 clear hb HY
 refine callsIn_of_wp Tryz.func229 rfl trivial ?_ rfl
 simp only [Tryz.ntmps229,List.size_toArray,List.length_cons,List.length_nil,Nat.reduceAdd,Nat.reduceSub,Array.replicate_succ,Array.replicate_zero,List.push_toArray,List.append_toArray,List.nil_append,List.cons_append]
 gi_wp2
 refine ⟨trivial,wideD _,?_⟩
 refine CallsIn.mono (C.out _) ?_
 rintro e w1 (⟨rfl,hj⟩ | ⟨rfl,hj⟩)
 ·have HJ:=Lib.hid hj
  clear hj
  gi_wp2
  go_end0
  exact ⟨⟨_,rfl⟩,.inl HJ.out⟩
 ·have HJ:=Lib.hid hj
  clear hj
  gi_wp2
  go_end0
  exact ⟨⟨_,rfl⟩,.inr HJ.out⟩
set_option maxRecDepth 100000 in
set_option maxHeartbeats 2000000 in
theorem xsize_in (op xn : Int) (v : V) (a : Option Addr) (c : Nat) (w : World) : CallsIn Fence.wide 5 Tryz.prog 209 #[.agg #[.int .i64 op,.int .i64 xn,.int .i64 v.k,.int .i64 v.n,.string v.s,.slice a 0 c]] w (Says (.int .i64 1) w):=by
 refine callsIn_of_wp_marks Tryz.func209 rfl trivial ?_ rfl
 simp only [Tryz.ntmps209,List.size_toArray,List.length_cons,List.length_nil,Nat.reduceAdd,Nat.reduceSub,Array.replicate_succ,Array.replicate_zero,List.push_toArray,List.append_toArray,List.nil_append,List.cons_append]
 gi_wp2
 refine ⟨trivial,?_⟩
 refine CallsIn.mono (callsIn_wide.2 (nodes_any op xn v a 0 c _)) ?_
 rintro e w1 ⟨rfl,rfl⟩
 gi_wp2
 refine St.genIn (St.alloc (St.alloc (St.alloc (St.start w)))) ?_
 intro W0 S0
 simp only [World.size_alloc,Nat.add_assoc,Nat.reduceAdd] at S0 ⊢
 refine wpIn_range_wide (by decide) (gf:=229) (lb:=#[.pointer (some ⟨w.heap.size + 2,0,none⟩)]) rfl (enters_of Tryz.func229 (by kernel_rfl) rfl)
  (fun rc W=>∃ lp,RgI w W0.heap.size lp [(w.heap.size + 2,#[.int .i64 op,.int .i64 xn,.int .i64 v.k,.int .i64 v.n,.string v.s,.slice a 0 c],49),(w.heap.size + 1,#[.int .i64 1],3),(w.heap.size,#[.int .i64 op,.int .i64 xn,.int .i64 v.k,.int .i64 v.n,.string v.s,.slice a 0 c],49)] W) (fun _ _=>False) ?_ ?_ ?_
 ·intro rc hround
  have HR:=Lib.hid hround
  clear hround
  have R0:=RgI.start S0.out (rc .ready none)
  have hl:=R0.loop
  refine CallsIn.mono (nodes1_leaf 4 (W0.heap.size + 1) (w.heap.size + 2) op xn v a c (fun W=>RgI w W0.heap.size (rc .ready none) [(w.heap.size + 2,#[.int .i64 op,.int .i64 xn,.int .i64 v.k,.int .i64 v.n,.string v.s,.slice a 0 c],49),(w.heap.size + 1,#[.int .i64 1],3),(w.heap.size,#[.int .i64 op,.int .i64 xn,.int .i64 v.k,.int .i64 v.n,.string v.s,.slice a 0 c],49)] W) (fun _=>False) _ (R0.st.blk 0 rfl) ?_) ?_
  ·intro m
   have R1:=Lib.hid (R0.kept ((Below.refl _ _).alloc (Nat.le_refl _) (.cells #[.int .i64 op,.int .i64 xn,.int .i64 v.k,.int .i64 v.n,.string v.s,.slice a 0 c] 49)))
   have hbx:=World.alloc_heap_new ((W0.alloc (.deferred (some []))).alloc (.loop (rc .ready none))) (.cells #[.int .i64 op,.int .i64 xn,.int .i64 v.k,.int .i64 v.n,.string v.s,.slice a 0 c] 49)
   have HBX:=Lib.hid hbx
   have hbD : ((W0.alloc (.deferred (some []))).alloc (.loop (rc .ready none))).heap.size = W0.heap.size + 2:=by simp
   have hW0:=S0.out.below.size
   generalize ((W0.alloc (.deferred (some []))).alloc (.loop (rc .ready none))).heap.size = bx at *
   generalize ((W0.alloc (.deferred (some []))).alloc (.loop (rc .ready none))).alloc (.cells #[.int .i64 op,.int .i64 xn,.int .i64 v.k,.int .i64 v.n,.string v.s,.slice a 0 c] 49) = W1 at *
   clear R0 hl hbx
   refine yieldDepth m (HR.out W1 _ _ R1.out.loop rfl ?_)
   clear HR
   gi_wp2
   refine ⟨R1.out.loop,?_⟩
   have R2:=Lib.hid (R1.out.put (rc .busy none))
   have HB2 : Hid ((W1.putObj (W0.heap.size + 1) (.loop (rc .busy none))).heap[bx]? = some (.cells #[.int .i64 op,.int .i64 xn,.int .i64 v.k,.int .i64 v.n,.string v.s,.slice a 0 c] 49 (0,0))):=(World.putObj_heap_other (by omega)).trans HBX.out
   generalize W1.putObj (W0.heap.size + 1) (.loop (rc .busy none)) = Wb at *
   clear R1 HBX
   have F:=R2.out.facts
   simp only [St.Facts,cellFacts,apartFacts,and_true] at F
   gi_wp2
   have R3:=R2.out.set 1 (o:=0) (v:=.int .i64 1) rfl
   refine ⟨R3.loop,.inl ⟨rfl,R3.put _,?_⟩⟩
   have hlt:=R2.out.lt (w.heap.size + 1,#[.int .i64 0],3) (by simp)
   simp only at hlt
   exact (World.putObj_heap_other (by omega)).trans ((Below.heap_setCell _ _ _ _ (by simp; omega)).trans HB2.out)
  ·rintro e W2 ⟨hv,h | h⟩
   ·exact ⟨hv,.inl ⟨⟨_,h⟩,h.loop⟩⟩
   ·exact h.elim
 ·rintro rc W o ⟨lp,h⟩ hl
  have R1:=Lib.hid (h.put o)
  clear h hl
  generalize W.putObj (W0.heap.size + 1) (.loop o) = W1 at *
  have F:=R1.out.facts
  simp only [St.Facts,cellFacts,apartFacts,and_true] at F
  gi_wp2
  refine ⟨by simp,.inl ⟨_,_,rfl,run_takeDeferred R1.out.dfr,?_⟩⟩
  exact ⟨_,results_tmp rfl _ _ _,rfl,R1.out.fin.below⟩
 ·rintro rc W o h hl
  exact h.elim
theorem xsize_leaf (op xn : Int) (v : V) (a : Option Addr) (c : Nat) (w : World) : Calls Tryz.prog 209 #[.agg #[.int .i64 op,.int .i64 xn,.int .i64 v.k,.int .i64 v.n,.string v.s,.slice a 0 c]] w (Says (.int .i64 1) w):=callsIn_wide.1 (xsize_in op xn v a c w)
attribute [local go_sem] Oper.semAt_some
set_option maxRecDepth 100000 in
set_option maxHeartbeats 2000000 in
theorem arity_col (w : World) : Calls Tryz.prog 231 #[.int .i64 1] w (Says (.int .i64 0) w):=by
 go_enter Tryz.func231,Tryz.ntmps231
 go_wp2_with fail
 go_returns
 exact ⟨rfl,Below.refl _ _⟩
set_option maxRecDepth 100000 in
set_option maxHeartbeats 2000000 in
theorem xformed_col (n : Int) (a : Option Addr) (c : Nat) (w : World) : Calls Tryz.prog 211 #[.agg #[.int .i64 1,.int .i64 n,.int .i64 0,.int .i64 0,.string ⟨#[]⟩,.slice a 0 c]] w (Says (.bool true) w):=by
 have S0 : Hid (St w (w.alloc (.cells #[.int .i64 1,.int .i64 n,.int .i64 0,.int .i64 0,.string ⟨#[]⟩,.slice a 0 c] 49)) [(w.heap.size,#[.int .i64 1,.int .i64 n,.int .i64 0,.int .i64 0,.string ⟨#[]⟩,.slice a 0 c],49)]):=St.alloc (St.start w)
 have C : Hid (∀ (W : World) (d : Nat) (os : Array Obj),Calls Tryz.prog 231 #[.int .i64 1] (grow (redrawn W d) os) fun e w'=>e = .returned (.int .i64 0)∧Laid (grow (redrawn W d) os) w'):=fun W d os=>arity_col _
 go_enter Tryz.func211,Tryz.ntmps211
 go_upto_region 1 with fail
 refine St.gen S0.out ?_
 intro w1 S1
 clear S0
 have F1:=S1.out.factsG
 simp only [St.FactsG,cellFactsG,and_true] at F1
 by_cases hn : n = 0
 all_goals
  have hn1 : (n == 0) = decide (n = 0):=rfl
  simp only [hn,decide_true,decide_false] at hn1
  try subst hn
  refine wp_region_mixed 29 [(0,false),(1,false),(2,false),(3,false),(4,false),(5,false),(6,false),(7,false),(8,false),(9,false),(10,false),(11,false),(12,false),(13,false),(14,false),(15,false),(16,false),(17,false),(18,false),(19,false),(20,false),(21,false),(22,false),(23,false),(24,false),(25,false),(26,false),(27,false),(28,false)] (by kernel_rfl) (by kernel_rfl) ?_
  repeat (refine wpM_mild rfl (fun K hK=>?_); go_simp; first | (refine hK _ ?_; clear hK K) | (apply Exists.intro; refine ⟨fun _=>?_,hK _ ?_⟩; (exact C.out _ _ _); clear hK K))
  refine wpM_end ?_
  intro w2 hb2 _
  have HB2:=Lib.hid (S1.out.kept hb2).below
  clear hb2 C F1 S1
  go_wp2_with fail
  go_returns
  exact ⟨rfl,HB2.out⟩
set_option maxRecDepth 100000 in
set_option maxHeartbeats 2000000 in
theorem kind_col (Q : Nat→Prop) (kinds : List Int) (kv : Value) (n : Int) (a : Option Addr) (c : Nat) (k : Int) (w : World) (hv : RSl intE Q w kv kinds) (h0 : 0≤n) (hn : kinds[n.toNat]? = some k) (hk : 0≤k∧k≤3) (hl : kinds.length≤1000000) :
  Calls Tryz.prog 212 #[kv,.agg #[.int .i64 1,.int .i64 n,.int .i64 0,.int .i64 0,.string ⟨#[]⟩,.slice a 0 c]] w (Says (.tuple #[.int .i64 k,.int .i64 0]) w):=by
 have hlt : n.toNat < kinds.length:=(List.getElem?_eq_some_iff.1 hn).1
 have hlti : n < (kinds.length : Int):=by omega
 obtain ⟨b,o,cap,cs,rfl,hin,hat⟩:=hv.at hn
 have e : cs = [.int .i64 k]:=hin
 subst e
 have z0:=hat 0 _ rfl
 simp only [show intE.k = 1 from rfl,Nat.mul_one,Nat.add_zero] at z0
 have S0 : Hid (St w ((w.alloc (.cells #[.int .i64 1,.int .i64 n,.int .i64 0,.int .i64 0,.string ⟨#[]⟩,.slice a 0 c] 49)).alloc (.cells #[.slice none 0 0] 55)) [(w.heap.size + 1,#[.slice none 0 0],55),(w.heap.size,#[.int .i64 1,.int .i64 n,.int .i64 0,.int .i64 0,.string ⟨#[]⟩,.slice a 0 c],49)]):=by
  have:=St.alloc (St.alloc (St.start w) (cs:=#[.int .i64 1,.int .i64 n,.int .i64 0,.int .i64 0,.string ⟨#[]⟩,.slice a 0 c]) (t:=49)) (cs:=#[.slice none 0 0]) (t:=55)
  simp only [World.size_alloc] at this
  exact this
 have hmf : ∀ (fn : Fn) (first cap : Array Value) (w : World),(Instr.makeFunc fn first cap).run Tryz.prog w = .ok (.func fn first cap) w:=fun _ _ _ _=>rfl
 have hb0:=S0.out.below.cell_kept z0
 have hg1 : ¬ n < 0:=by omega
 have hg2 : ¬ (kinds.length : Int)≤n:=by omega
 have hg3 : ¬ k < 0:=by omega
 have hg4 : ¬ 3 < k:=by omega
 clear hat hin hv z0 hn
 go_enter Tryz.func212,Tryz.ntmps212
 go_upto_region 2 with fail
 refine wp_gen (fun W=>St w W [(w.heap.size + 1,#[.slice none 0 0],55),(w.heap.size,#[.int .i64 1,.int .i64 n,.int .i64 0,.int .i64 0,.string ⟨#[]⟩,.slice a 0 c],49)]∧W.cell? ⟨b,o + n.toNat,none⟩ = some (.int .i64 k)) ⟨S0.out,hb0⟩ ?_
 rintro w1 ⟨S1',z1⟩
 have S1:=Lib.hid S1'
 clear S1' S0 hb0
 have F1:=S1.out.facts
 simp only [St.Facts,cellFacts,apartFacts,and_true] at F1
 go_wp2_with fail
 refine wp_loop_rounds 1 ?_
 rw [rounds_succ]
 go_wp2_with fail
 go_returns
 exact ⟨rfl,S1.out.below⟩
set_option maxRecDepth 100000 in
set_option maxHeartbeats 4000000 in
theorem check_col_in (Q : Nat→Prop) (kinds : List Int) (kv : Value) (n : Int) (a : Option Addr) (c : Nat) (k : Int) (w : World) (hv : RSl intE Q w kv kinds) (h0 : 0≤n) (hn : kinds[n.toNat]? = some k) (hk : 0≤k∧k≤3) (hl : kinds.length≤1000000) :
  CallsIn Fence.wide 5 Tryz.prog 174 #[kv,.agg #[.int .i64 1,.int .i64 n,.int .i64 0,.int .i64 0,.string ⟨#[]⟩,.slice a 0 c]] w (Says (.tuple #[.int .i64 k,.int .i64 0]) w):=by
 have CK : Hid (∀ W,Below w.heap.size w W→Calls Tryz.prog 212 #[kv,.agg #[.int .i64 1,.int .i64 n,.int .i64 0,.int .i64 0,.string ⟨#[]⟩,.slice a 0 c]] W (Says (.tuple #[.int .i64 k,.int .i64 0]) W)):=fun W hW=>kind_col Q kinds kv n a c k W (hv.kept (by decide) hW) h0 hn hk hl
 obtain ⟨ka,kc,rfl⟩:=hv.slice
 have S0 : Hid (St w (((w.alloc (.cells #[.int .i64 1,.int .i64 n,.int .i64 0,.int .i64 0,.string ⟨#[]⟩,.slice a 0 c] 49)).alloc (.cells #[.int .i64 0] 3)).alloc (.cells #[.int .i64 0] 30)) [(w.heap.size + 2,#[.int .i64 0],30),(w.heap.size + 1,#[.int .i64 0],3),(w.heap.size,#[.int .i64 1,.int .i64 n,.int .i64 0,.int .i64 0,.string ⟨#[]⟩,.slice a 0 c],49)]):=by
  have:=St.alloc (St.alloc (St.alloc (St.start w) (cs:=#[.int .i64 1,.int .i64 n,.int .i64 0,.int .i64 0,.string ⟨#[]⟩,.slice a 0 c]) (t:=49)) (cs:=#[.int .i64 0]) (t:=3)) (cs:=#[.int .i64 0]) (t:=30)
  simp only [World.size_alloc,Nat.add_assoc,Nat.reduceAdd] at this
  exact this
 clear hv h0 hn hk hl
 refine callsIn_of_wp_marks Tryz.func174 rfl trivial ?_ rfl
 simp only [Tryz.ntmps174,List.size_toArray,List.length_cons,List.length_nil,Nat.reduceAdd,Nat.reduceSub,Array.replicate_succ,Array.replicate_zero,List.push_toArray,List.append_toArray,List.nil_append,List.cons_append]
 gi_wp2
 refine ⟨trivial,?_⟩
 refine CallsIn.mono (callsIn_wide.2 (xsize_leaf 1 n V.null a c _)) ?_
 rintro e w1 ⟨rfl,hb1⟩
 have S1:=Lib.hid (S0.out.kept hb1)
 clear hb1 S0
 have F:=S1.out.facts
 simp only [St.Facts,cellFacts,apartFacts,and_true] at F
 gi_wp2
 refine ⟨trivial,?_⟩
 refine CallsIn.mono (callsIn_wide.2 (nodes_any 1 n V.null a 0 c _)) ?_
 rintro e w2 ⟨rfl,rfl⟩
 gi_wp2
 refine St.genIn (St.alloc S1.out) ?_
 intro W0 S2
 have hW0:=S2.out.below.size
 clear F S1
 refine wpIn_range_wide (by decide) (gf:=229) (lb:=#[.pointer (some ⟨w1.heap.size,0,none⟩)]) rfl (enters_of Tryz.func229 (by kernel_rfl) rfl)
  (fun rc W=>∃ lp,RgI w W0.heap.size lp [(w1.heap.size,#[.int .i64 1,.int .i64 n,.int .i64 0,.int .i64 0,.string ⟨#[]⟩,.slice a 0 c],49),(w.heap.size + 2,#[.int .i64 0],30),(w.heap.size + 1,#[.int .i64 0],3),(w.heap.size,#[.int .i64 1,.int .i64 n,.int .i64 0,.int .i64 0,.string ⟨#[]⟩,.slice a 0 c],49)] W) (fun _ _=>False) ?_ ?_ ?_
 ·intro rc hround
  have HR:=Lib.hid hround
  clear hround
  have R0:=RgI.start S2.out (rc .ready none)
  have hl:=R0.loop
  refine CallsIn.mono (nodes1_leaf 4 (W0.heap.size + 1) w1.heap.size 1 n V.null a c (fun W=>RgI w W0.heap.size (rc .ready none) [(w1.heap.size,#[.int .i64 1,.int .i64 n,.int .i64 0,.int .i64 0,.string ⟨#[]⟩,.slice a 0 c],49),(w.heap.size + 2,#[.int .i64 0],30),(w.heap.size + 1,#[.int .i64 0],3),(w.heap.size,#[.int .i64 1,.int .i64 n,.int .i64 0,.int .i64 0,.string ⟨#[]⟩,.slice a 0 c],49)] W) (fun _=>False) _ (R0.st.blk 0 rfl) ?_) ?_
  ·intro m
   have R1:=Lib.hid (R0.kept ((Below.refl _ _).alloc (Nat.le_refl _) (.cells #[.int .i64 1,.int .i64 n,.int .i64 0,.int .i64 0,.string ⟨#[]⟩,.slice a 0 c] 49)))
   have hbx:=World.alloc_heap_new ((W0.alloc (.deferred (some []))).alloc (.loop (rc .ready none))) (.cells #[.int .i64 1,.int .i64 n,.int .i64 0,.int .i64 0,.string ⟨#[]⟩,.slice a 0 c] 49)
   have HBX:=Lib.hid hbx
   have hbD : ((W0.alloc (.deferred (some []))).alloc (.loop (rc .ready none))).heap.size = W0.heap.size + 2:=by simp
   show YieldAt Fence.wide m Tryz.prog (W0.heap.size + 1) #[.agg #[.int .i64 1,.int .i64 n,.int .i64 0,.int .i64 0,.string ⟨#[]⟩,.slice a 0 c]] (((W0.alloc (.deferred (some []))).alloc (.loop (rc .ready none))).alloc (.cells #[.int .i64 1,.int .i64 n,.int .i64 0,.int .i64 0,.string ⟨#[]⟩,.slice a 0 c] 49)) fun e W'=>(e = .returned (.bool true)∧RgI w W0.heap.size (rc .ready none) [(w1.heap.size,#[.int .i64 1,.int .i64 n,.int .i64 0,.int .i64 0,.string ⟨#[]⟩,.slice a 0 c],49),(w.heap.size + 2,#[.int .i64 0],30),(w.heap.size + 1,#[.int .i64 0],3),(w.heap.size,#[.int .i64 1,.int .i64 n,.int .i64 0,.int .i64 0,.string ⟨#[]⟩,.slice a 0 c],49)] W'∧W'.heap[((W0.alloc (.deferred (some []))).alloc (.loop (rc .ready none))).heap.size]? = some (.cells #[.int .i64 1,.int .i64 n,.int .i64 0,.int .i64 0,.string ⟨#[]⟩,.slice a 0 c] 49 (0,0)))∨(e = .returned (.bool false)∧False)
   generalize ((W0.alloc (.deferred (some []))).alloc (.loop (rc .ready none))).heap.size = bx at *
   generalize ((W0.alloc (.deferred (some []))).alloc (.loop (rc .ready none))).alloc (.cells #[.int .i64 1,.int .i64 n,.int .i64 0,.int .i64 0,.string ⟨#[]⟩,.slice a 0 c] 49) = W1 at *
   clear R0 hl hbx
   refine yieldDepth m (HR.out W1 _ _ R1.out.loop rfl ?_)
   clear HR
   gi_wp2
   have R1b:=Lib.hid (R1.out.kept ((Below.refl _ _).alloc (Nat.le_refl _) (.cells #[.int .i64 1,.int .i64 n,.int .i64 0,.int .i64 0,.string ⟨#[]⟩,.slice a 0 c] 49)))
   have HB1 : Hid ((W1.alloc (.cells #[.int .i64 1,.int .i64 n,.int .i64 0,.int .i64 0,.string ⟨#[]⟩,.slice a 0 c] 49)).heap[bx]? = some (.cells #[.int .i64 1,.int .i64 n,.int .i64 0,.int .i64 0,.string ⟨#[]⟩,.slice a 0 c] 49 (0,0))):=(Below.heap_alloc _ _ _ (Array.getElem?_eq_some_iff.1 HBX.out).1).trans HBX.out
   have HY : Hid ((W1.alloc (.cells #[.int .i64 1,.int .i64 n,.int .i64 0,.int .i64 0,.string ⟨#[]⟩,.slice a 0 c] 49)).heap[W1.heap.size]? = some (.cells #[.int .i64 1,.int .i64 n,.int .i64 0,.int .i64 0,.string ⟨#[]⟩,.slice a 0 c] 49 (0,0))):=World.alloc_heap_new _ _
   have hyb : bx < W1.heap.size:=(Array.getElem?_eq_some_iff.1 HBX.out).1
   refine ⟨R1b.out.loop,?_⟩
   have R2:=Lib.hid (R1b.out.put (rc .busy none))
   have HB2 : Hid (((W1.alloc (.cells #[.int .i64 1,.int .i64 n,.int .i64 0,.int .i64 0,.string ⟨#[]⟩,.slice a 0 c] 49)).putObj (W0.heap.size + 1) (.loop (rc .busy none))).heap[bx]? = some (.cells #[.int .i64 1,.int .i64 n,.int .i64 0,.int .i64 0,.string ⟨#[]⟩,.slice a 0 c] 49 (0,0))):=(World.putObj_heap_other (by omega)).trans HB1.out
   have HY2 : Hid (((W1.alloc (.cells #[.int .i64 1,.int .i64 n,.int .i64 0,.int .i64 0,.string ⟨#[]⟩,.slice a 0 c] 49)).putObj (W0.heap.size + 1) (.loop (rc .busy none))).heap[W1.heap.size]? = some (.cells #[.int .i64 1,.int .i64 n,.int .i64 0,.int .i64 0,.string ⟨#[]⟩,.slice a 0 c] 49 (0,0))):=(World.putObj_heap_other (by omega)).trans HY.out
   generalize W1.heap.size = bv at *
   generalize (W1.alloc (.cells #[.int .i64 1,.int .i64 n,.int .i64 0,.int .i64 0,.string ⟨#[]⟩,.slice a 0 c] 49)).putObj (W0.heap.size + 1) (.loop (rc .busy none)) = Wb at *
   clear R1 R1b HBX HB1 HY
   have F:=R2.out.facts
   simp only [St.Facts,cellFacts,apartFacts,and_true] at F
   have G:=cellFacts_of HY2.out (#[.int .i64 1,.int .i64 n,.int .i64 0,.int .i64 0,.string ⟨#[]⟩,.slice a 0 c] : Array Value).toList 0 (fun j=>by simp)
   simp only [cellFacts,and_true] at G
   gi_wp2
   refine ⟨trivial,?_⟩
   refine CallsIn.mono (CallsIn.inRound _ (callsIn_wide.2 (xformed_col n a c _))) ?_
   rintro e w3 ⟨rfl,hb3⟩
   have R3:=Lib.hid (R2.out.kept hb3)
   have HB3 : Hid (w3.heap[bx]? = some (.cells #[.int .i64 1,.int .i64 n,.int .i64 0,.int .i64 0,.string ⟨#[]⟩,.slice a 0 c] 49 (0,0))):=hb3.blk_kept HB2.out
   clear hb3 F G HY2 HB2 R2
   gi_wp2
   exact ⟨R3.out.loop,.inl ⟨rfl,R3.out.put _,(World.putObj_heap_other (by omega)).trans HB3.out⟩⟩
  ·rintro e W2 ⟨hv,h | h⟩
   ·exact ⟨hv,.inl ⟨⟨_,h⟩,h.loop⟩⟩
   ·exact h.elim
 ·rintro rc W o ⟨lp,h⟩ hl
  have R1:=Lib.hid (h.put o)
  clear h hl
  generalize W.putObj (W0.heap.size + 1) (.loop o) = W1 at *
  have F:=R1.out.facts
  simp only [St.Facts,cellFacts,apartFacts,and_true] at F
  gi_wp2
  refine ⟨trivial,?_⟩
  refine CallsIn.mono (callsIn_wide.2 (CK.out _ R1.out.st.below)) ?_
  rintro e w3 ⟨rfl,hb3⟩
  have R3:=Lib.hid (R1.out.kept hb3)
  clear F hb3 R1
  have F:=R3.out.facts
  simp only [St.Facts,cellFacts,apartFacts,and_true] at F
  gi_wp2
  have R4:=Lib.hid (RgI.set 1 (o:=0) (v:=.int .i64 0) (RgI.set 2 (o:=0) (v:=.int .i64 k) R3.out rfl) rfl)
  refine ⟨by simp,.inl ⟨_,_,rfl,run_takeDeferred R4.out.dfr,?_⟩⟩
  have S5:=R4.out.fin
  have F5:=S5.facts
  simp only [St.Facts,cellFacts,apartFacts,and_true,List.set_cons_zero,List.set_cons_succ,List.setIfInBounds_toArray] at F5
  exact ⟨.tuple #[.int .i64 k,.int .i64 0],by simp [results,Tryz.results174,go_sem,F5],rfl,S5.below⟩
 ·rintro rc W o h hl
  exact h.elim
theorem check_col (Q : Nat→Prop) (kinds : List Int) (kv : Value) (n : Int) (a : Option Addr) (c : Nat) (k : Int) (w : World) (hv : RSl intE Q w kv kinds) (h0 : 0≤n) (hn : kinds[n.toNat]? = some k) (hk : 0≤k∧k≤3) (hl : kinds.length≤1000000) :
  Calls Tryz.prog 174 #[kv,.agg #[.int .i64 1,.int .i64 n,.int .i64 0,.int .i64 0,.string ⟨#[]⟩,.slice a 0 c]] w (Says (.tuple #[.int .i64 k,.int .i64 0]) w):=callsIn_wide.1 (check_col_in Q kinds kv n a c k w hv h0 hn hk hl)
end Go.Proofs.YtjmmbebkbkgefaaGreatDoor
