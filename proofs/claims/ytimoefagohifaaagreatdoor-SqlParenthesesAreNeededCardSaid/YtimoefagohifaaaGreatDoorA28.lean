/- Laws that the last part needs. No condition. -/
import Derived.Test.YtimoefagohifaaaGreatDoorA26
set_option maxHeartbeats 8000000
set_option maxRecDepth 100000
namespace Go.Proofs.YtimoefagohifaaaGreatDoor
open Go.RowKit Go.Sort Tryz
theorem Y3:CkK 10:=by
 intro Q x s w h hwf hk hl ht;refine z1037 ?_;clear hl ht h hwf;intro hmf SZ H HS HL HWF HNS hkx y HY;go_enter func14,ntmps14;go_upto_region 3 with(first|(refine ux rfl 50 (.tmp 1) rfl w.heap.size rfl 50 s.arr (0,0) _ (World.alloc_heap_new w _) underlying50 rfl (sv_size _) ?_)|(refine ur rfl 50 (.tmp 3) (.tmp 9) rfl (w.heap.size+1) s.arr rfl rfl 50 (SV.arr {}) (SZ.out.blk 0 rfl) (sv_size _) rfl (sv_one _) ?_;refine St.genL (St.row 0 s.arr SZ.out rfl) ?_;intro W2 S2;clear SZ));refine codeGenC (fun W=>CkSt w W W2.heap.size s true s) (St.toM (fun _=>False) (St.alloc S2.out (cs:=#[.bool true]) (t:=4))) ?_;clear S2;intro W3 S;replace S:=tm S;generalize W2.heap.size=bo at *;clear W2;have kd:=S.out.kind;go_upto_block 0 with fail;clear hmf;go_cut []from 15 (fun wc=>∃(b:Bool) (r:SV),CkSt w wc bo s b r/\y=(b&&r.unused)/\r.small)
 case first=>
  have hks:s.k=10:=hkx.trans hk;rw[hks]at kd;obtain⟨o0,o1,o2,o3,o4,o5⟩:=S.out.ok;have x1:W3.cell? ⟨w.heap.size,35,none⟩=some (U s.md):=Ze;have z:W3.cell? ⟨w.heap.size+1,35,none⟩=some (U s.md):=Zf;have zf:=A7 (o:=35) S.out.at.r;have hmd:Hid (s.md=x.mode):=HS.out.md;by_cases h1:0<=s.md
  ·by_cases h2:s.md<=2
   ·have k2:decide (s.md<=2)=true:=vf h2;go_wp2_with fail;go_meet;refine⟨true,{s with md:=0},(S.out.store 35 [U 0] (Z8 _)),?_,?_⟩
    ·rw[SvIs.unused (Nd HS.out),<- HY.out];unfold Stm.formed;rw[hk];show(decide (0<=x.mode)&&decide (x.mode<=2)&&_)=_;rw[<- hmd.out,vf h1,vf h2];rfl
    ·exact z35
   ·have k2:decide (s.md<=2)=false:=vm h2;go_wp2_with fail;go_meet;refine⟨false,{s with md:=0},(S.out.store 35 [U 0] (Z8 _)),?_,?_⟩
    ·rw[SvIs.unused (Nd HS.out),<- HY.out];unfold Stm.formed;rw[hk];show(decide (0<=x.mode)&&decide (x.mode<=2)&&_)=_;rw[<- hmd.out,vf h1,vm (show ¬s.md<=2 by omega)];rfl
    ·exact z35
  ·skip;go_wp2_with fail;go_meet;refine⟨false,{s with md:=0},(S.out.store 35 [U 0] (Z8 _)),?_,?_⟩
   ·rw[SvIs.unused (Nd HS.out),<- HY.out];unfold Stm.formed;rw[hk];show(decide (0<=x.mode)&&decide (x.mode<=2)&&_)=_;rw[<- hmd.out,vm (show ¬0<=s.md by omega)];rfl
   ·exact z35
 case rest=>
  obtain⟨b,r,hS,hy,hsm⟩:=hcut;replace S:Hid (CkSt w wc bo s b r):=hS;have HR:=tm hy;have C:=tm (fun W=>Bg r hsm.1 hsm.2 W);obtain⟨o0,_,_,_,_,_⟩:=S.out.ok;clear hS hy hsm HS HL HWF HNS HY H kd;generalize r.unused=u at *
  cases b with
  | false=>exact z58
  | true=>
   have HF:Hid (y=u):=by show _=_;rw[HR.out,wk]
   go_wp2_with(refine Ap rfl 50 (.tmp 3) rfl (w.heap.size+1) rfl 50 r.arr (0,0) _ S.out.at.r underlying50 rfl (sv_size _) ?_);refine tp (C.out _) ?_;rintro e w5 ⟨rfl,hb⟩;replace S:=tm (S.out.kept hb);clear hb HR C o0
   cases u with
   | false=>exact z26
   | true=>exact z26
theorem Y2:CkK 11:=by
 intro Q x s w h hwf hk hl ht;refine z1037 ?_;clear hl ht h hwf;intro hmf SZ H HS HL HWF HNS hkx y HY;go_enter func14,ntmps14;go_upto_region 3 with(first|(refine ux rfl 50 (.tmp 1) rfl w.heap.size rfl 50 s.arr (0,0) _ (World.alloc_heap_new w _) underlying50 rfl (sv_size _) ?_)|(refine ur rfl 50 (.tmp 3) (.tmp 9) rfl (w.heap.size+1) s.arr rfl rfl 50 (SV.arr {}) (SZ.out.blk 0 rfl) (sv_size _) rfl (sv_one _) ?_;refine St.genL (St.row 0 s.arr SZ.out rfl) ?_;intro W2 S2;clear SZ));refine codeGenC (fun W=>CkSt w W W2.heap.size s true s) (St.toM (fun _=>False) (St.alloc S2.out (cs:=#[.bool true]) (t:=4))) ?_;clear S2;intro W3 S;replace S:=tm S;generalize W2.heap.size=bo at *;clear W2;have kd:=S.out.kind;go_upto_block 0 with fail;clear hmf;go_cut []from 15 (fun wc=>∃(b:Bool) (r:SV),CkSt w wc bo s b r/\y=(b&&r.unused)/\r.small)
 case first=>
  have hks:s.k=11:=hkx.trans hk;rw[hks]at kd;go_wp2_with fail;go_meet;refine⟨true,s,S.out,?_,?_⟩
  ·skip;rw[SvIs.unused HS.out,<- HY.out];exact U4
  ·exact z35
 case rest=>
  obtain⟨b,r,hS,hy,hsm⟩:=hcut;replace S:Hid (CkSt w wc bo s b r):=hS;have HR:=tm hy;have C:=tm (fun W=>Bg r hsm.1 hsm.2 W);obtain⟨o,_,_,_,_,_⟩:=S.out.ok;clear hS hy hsm HS HL HWF HNS HY H kd;generalize r.unused=u at *
  cases b with
  | false=>exact z58
  | true=>
   have HF:Hid (y=u):=by show _=_;rw[HR.out,wk]
   go_wp2_with(refine Ap rfl 50 (.tmp 3) rfl (w.heap.size+1) rfl 50 r.arr (0,0) _ S.out.at.r underlying50 rfl (sv_size _) ?_);refine tp (C.out _) ?_;rintro e w5 ⟨rfl,hb⟩;replace S:=tm (S.out.kept hb);clear hb HR C o
   cases u with
   | false=>exact z26
   | true=>exact z26
theorem Y1:CkK 12:=by
 intro Q x s w h hwf hk hl ht;refine z1037 ?_;clear hl ht h hwf;intro hmf SZ H HS HL HWF HNS hkx y HY;go_enter func14,ntmps14;go_upto_region 3 with(first|(refine ux rfl 50 (.tmp 1) rfl w.heap.size rfl 50 s.arr (0,0) _ (World.alloc_heap_new w _) underlying50 rfl (sv_size _) ?_)|(refine ur rfl 50 (.tmp 3) (.tmp 9) rfl (w.heap.size+1) s.arr rfl rfl 50 (SV.arr {}) (SZ.out.blk 0 rfl) (sv_size _) rfl (sv_one _) ?_;refine St.genL (St.row 0 s.arr SZ.out rfl) ?_;intro W2 S2;clear SZ));refine codeGenC (fun W=>CkSt w W W2.heap.size s true s) (St.toM (fun _=>False) (St.alloc S2.out (cs:=#[.bool true]) (t:=4))) ?_;clear S2;intro W3 S;replace S:=tm S;generalize W2.heap.size=bo at *;clear W2;have kd:=S.out.kind;go_upto_block 0 with fail;clear hmf;go_cut []from 15 (fun wc=>∃(b:Bool) (r:SV),CkSt w wc bo s b r/\y=(b&&r.unused)/\r.small)
 case first=>
  have hks:s.k=12:=hkx.trans hk;rw[hks]at kd;have x2:W3.cell? ⟨w.heap.size,2,none⟩=some (.string (Y s.nm)):=Ze;have hnm:Hid (s.nm=x.name):=HS.out.nm;by_cases h0:s.nm=[]
  ·rw[h0]at x2;go_wp2_with fail;go_meet;refine⟨true,s,S.out,?_,?_⟩
   ·skip;rw[SvIs.unused HS.out,<- HY.out];unfold Stm.formed;rw[hk];show(if x.name=[]then _ else _)=_;rw[if_pos (hnm.out▸h0)];rfl
   ·exact z35
  ·have hz:(s.nm==[])=false:=by simpa using h0
   have hz2:s.nm.isEmpty=false:=by cases hc:s.nm with|nil=>exact absurd hc h0|cons a l=>rfl
   go_wp2_with fail;refine tp (j9 bo (w.heap.size+1) w.heap.size (true) (isName x.name) (s) s _ S.out.at (fun W _=>by rw[show s.nm=x.name from HS.out.nm];exact Ah x.name W)) ?_;intro e w4 hp;obtain⟨rfl,S⟩:=S.out.went hp;clear hp;generalize hq:(true&&isName x.name)=q at S;go_wp2_with fail;go_meet;refine⟨q,{s with nm:=[]},S.out,?_,?_⟩
   ·skip;rw[SvIs.unused (J1 HS.out),<- HY.out,<- hq];unfold Stm.formed;rw[hk];show(if x.name=[]then _ else _)=_;rw[if_neg (fun e=>h0 (hnm.out.trans e))];rfl
   ·exact z35
 case rest=>
  obtain⟨b,r,hS,hy,hsm⟩:=hcut;replace S:Hid (CkSt w wc bo s b r):=hS;have HR:=tm hy;have C:=tm (fun W=>Bg r hsm.1 hsm.2 W);obtain⟨o,_,_,_,_,_⟩:=S.out.ok;clear hS hy hsm HS HL HWF HNS HY H kd;generalize r.unused=u at *
  cases b with
  | false=>exact z58
  | true=>
   have HF:Hid (y=u):=by show _=_;rw[HR.out,wk]
   go_wp2_with(refine Ap rfl 50 (.tmp 3) rfl (w.heap.size+1) rfl 50 r.arr (0,0) _ S.out.at.r underlying50 rfl (sv_size _) ?_);refine tp (C.out _) ?_;rintro e w5 ⟨rfl,hb⟩;replace S:=tm (S.out.kept hb);clear hb HR C o
   cases u with
   | false=>exact z26
   | true=>exact z26
theorem Y0:CkK 13:=by
 intro Q x s w h hwf hk hl ht;refine z1037 ?_;clear hl ht h hwf;intro hmf SZ H HS HL HWF HNS hkx y HY;go_enter func14,ntmps14;go_upto_region 3 with(first|(refine ux rfl 50 (.tmp 1) rfl w.heap.size rfl 50 s.arr (0,0) _ (World.alloc_heap_new w _) underlying50 rfl (sv_size _) ?_)|(refine ur rfl 50 (.tmp 3) (.tmp 9) rfl (w.heap.size+1) s.arr rfl rfl 50 (SV.arr {}) (SZ.out.blk 0 rfl) (sv_size _) rfl (sv_one _) ?_;refine St.genL (St.row 0 s.arr SZ.out rfl) ?_;intro W2 S2;clear SZ));refine codeGenC (fun W=>CkSt w W W2.heap.size s true s) (St.toM (fun _=>False) (St.alloc S2.out (cs:=#[.bool true]) (t:=4))) ?_;clear S2;intro W3 S;replace S:=tm S;generalize W2.heap.size=bo at *;clear W2;have kd:=S.out.kind;go_upto_block 0 with fail;clear hmf;go_cut []from 15 (fun wc=>∃(b:Bool) (r:SV),CkSt w wc bo s b r/\y=(b&&r.unused)/\r.small)
 case first=>
  have hks:s.k=13:=hkx.trans hk;exact ma
 case rest=>
  obtain⟨b,r,hS,hy,hsm⟩:=hcut;replace S:Hid (CkSt w wc bo s b r):=hS;have HR:=tm hy;have C:=tm (fun W=>Bg r hsm.1 hsm.2 W);obtain⟨o,_,_,_,_,_⟩:=S.out.ok;clear hS hy hsm HS HL HWF HNS HY H kd;generalize r.unused=u at *
  cases b with
  | false=>exact z58
  | true=>
   have HF:Hid (y=u):=by show _=_;rw[HR.out,wk]
   go_wp2_with(refine Ap rfl 50 (.tmp 3) rfl (w.heap.size+1) rfl 50 r.arr (0,0) _ S.out.at.r underlying50 rfl (sv_size _) ?_);refine tp (C.out _) ?_;rintro e w5 ⟨rfl,hb⟩;replace S:=tm (S.out.kept hb);clear hb HR C o
   cases u with
   | false=>exact z26
   | true=>exact z26
theorem Yz:CkK 14:=by
 intro Q x s w h hwf hk hl ht;refine z1037 ?_;clear hl ht h hwf;intro hmf SZ H HS HL HWF HNS hkx y HY;go_enter func14,ntmps14;go_upto_region 3 with(first|(refine ux rfl 50 (.tmp 1) rfl w.heap.size rfl 50 s.arr (0,0) _ (World.alloc_heap_new w _) underlying50 rfl (sv_size _) ?_)|(refine ur rfl 50 (.tmp 3) (.tmp 9) rfl (w.heap.size+1) s.arr rfl rfl 50 (SV.arr {}) (SZ.out.blk 0 rfl) (sv_size _) rfl (sv_one _) ?_;refine St.genL (St.row 0 s.arr SZ.out rfl) ?_;intro W2 S2;clear SZ));refine codeGenC (fun W=>CkSt w W W2.heap.size s true s) (St.toM (fun _=>False) (St.alloc S2.out (cs:=#[.bool true]) (t:=4))) ?_;clear S2;intro W3 S;replace S:=tm S;generalize W2.heap.size=bo at *;clear W2;have kd:=S.out.kind;go_upto_block 0 with fail;clear hmf;go_cut []from 15 (fun wc=>∃(b:Bool) (r:SV),CkSt w wc bo s b r/\y=(b&&r.unused)/\r.small)
 case first=>
  have hks:s.k=14:=hkx.trans hk;exact ma
 case rest=>
  obtain⟨b,r,hS,hy,hsm⟩:=hcut;replace S:Hid (CkSt w wc bo s b r):=hS;have HR:=tm hy;have C:=tm (fun W=>Bg r hsm.1 hsm.2 W);obtain⟨o,_,_,_,_,_⟩:=S.out.ok;clear hS hy hsm HS HL HWF HNS HY H kd;generalize r.unused=u at *
  cases b with
  | false=>exact z58
  | true=>
   have HF:Hid (y=u):=by show _=_;rw[HR.out,wk]
   go_wp2_with(refine Ap rfl 50 (.tmp 3) rfl (w.heap.size+1) rfl 50 r.arr (0,0) _ S.out.at.r underlying50 rfl (sv_size _) ?_);refine tp (C.out _) ?_;rintro e w5 ⟨rfl,hb⟩;replace S:=tm (S.out.kept hb);clear hb HR C o
   cases u with
   | false=>exact z26
   | true=>exact z26
theorem er (Q:Nat->Prop) (x:Stm) (s:SV) (w:World) (h:StmIn Q w s x) (hwf:x.Wf) (hk:x.kind<1\/14<x.kind) (hl:x.lists<=4611686018427387904) (ht:x.txt<=4611686018427387904):Calls prog 14 #[.agg s.arr] w (Says (U (errF x.formed)) w):=by
 refine z1037 ?_;clear hl ht h hwf;intro hmf SZ H HS HL HWF HNS hkx y HY;go_enter func14,ntmps14;go_upto_region 3 with(first|(refine ux rfl 50 (.tmp 1) rfl w.heap.size rfl 50 s.arr (0,0) _ (World.alloc_heap_new w _) underlying50 rfl (sv_size _) ?_)|(refine ur rfl 50 (.tmp 3) (.tmp 9) rfl (w.heap.size+1) s.arr rfl rfl 50 (SV.arr {}) (SZ.out.blk 0 rfl) (sv_size _) rfl (sv_one _) ?_;refine St.genL (St.row 0 s.arr SZ.out rfl) ?_;intro W2 S2;clear SZ));refine codeGenC (fun W=>CkSt w W W2.heap.size s true s) (St.toM (fun _=>False) (St.alloc S2.out (cs:=#[.bool true]) (t:=4))) ?_;clear S2;intro W3 S;replace S:=tm S;generalize W2.heap.size=bo at *;clear W2;have kd:=S.out.kind;go_upto_block 0 with fail;clear hmf;go_cut []from 15 (fun wc=>∃(b:Bool) (r:SV),CkSt w wc bo s b r/\y=(b&&r.unused)/\r.small)
 case first=>
  have hks:s.k<1\/14<s.k:=by rw[hkx];exact hk
  obtain⟨o,o,o,o,o,o⟩:=S.out.ok;have k1:(s.k==1)=false:=us.2 acw;have k2:(s.k==2)=false:=us.2 acw;have k3:(s.k==3)=false:=us.2 acw;have k4:(s.k==4)=false:=us.2 acw;have k5:(s.k==5)=false:=us.2 acw;have k6:(s.k==6)=false:=us.2 acw;have k7:(s.k==7)=false:=us.2 acw;have k8:(s.k==8)=false:=us.2 acw;have k9:(s.k==9)=false:=us.2 acw;have k10:(s.k==10)=false:=us.2 acw;have k11:(s.k==11)=false:=us.2 acw;have k12:(s.k==12)=false:=us.2 acw;have k13:(s.k==13)=false:=us.2 acw;have k14:(s.k==14)=false:=us.2 acw;go_wp2_with fail;go_meet;refine⟨false,s,S.out.storeO,?_,HL.out⟩;rw[<- HY.out];unfold Stm.formed;simp only[zm];rw[if_neg (show ¬x.kind=1 by omega),if_neg (show ¬x.kind=2 by omega),if_neg (show ¬x.kind=3 by omega),if_neg (show ¬x.kind=4 by omega),if_neg (show ¬x.kind=5 by omega),if_neg (show ¬x.kind=6 by omega),if_neg (show ¬x.kind=7 by omega),if_neg (show ¬x.kind=8 by omega),if_neg (show ¬x.kind=9 by omega),if_neg (show ¬x.kind=10 by omega),if_neg (show ¬x.kind=11 by omega),if_neg (show ¬x.kind=12 by omega),if_neg (show ¬(x.kind=13\/x.kind=14) by omega)]
 case rest=>
  obtain⟨b,r,hS,hy,hsm⟩:=hcut;replace S:Hid (CkSt w wc bo s b r):=hS;have HR:=tm hy;have C:=tm (fun W=>Bg r hsm.1 hsm.2 W);obtain⟨o,_,_,_,_,_⟩:=S.out.ok;clear hS hy hsm HS HL HWF HNS HY H kd;generalize r.unused=u at *
  cases b with
  | false=>exact z58
  | true=>
   have HF:Hid (y=u):=by show _=_;rw[HR.out,wk]
   go_wp2_with(refine Ap rfl 50 (.tmp 3) rfl (w.heap.size+1) rfl 50 r.arr (0,0) _ S.out.at.r underlying50 rfl (sv_size _) ?_);refine tp (C.out _) ?_;rintro e w5 ⟨rfl,hb⟩;replace S:=tm (S.out.kept hb);clear hb HR C o
   cases u with
   | false=>exact z26
   | true=>exact z26
theorem sqlCheck_any (Q:Nat->Prop) (x:Stm) (s:SV) (w:World) (h:StmIn Q w s x) (hwf:x.Wf) (hl:x.lists<=4611686018427387904) (ht:x.txt<=4611686018427387904):Calls prog 14 #[.agg s.arr] w (Says (U (errF x.formed)) w):=by
 by_cases h1:x.kind=1
 ·exact ep Q x s w h hwf h1 hl ht
 by_cases h2:x.kind=2
 ·exact eo Q x s w h hwf h2 hl ht
 by_cases h3:x.kind=3
 ·exact en Q x s w h hwf h3 hl ht
 by_cases h4:x.kind=4
 ·exact em Q x s w h hwf h4 hl ht
 by_cases h5:x.kind=5
 ·exact ej Q x s w h hwf h5 hl ht
 by_cases h6:x.kind=6
 ·exact ei Q x s w h hwf h6 hl ht
 by_cases h7:x.kind=7
 ·exact eh Q x s w h hwf h7 hl ht
 by_cases h8:x.kind=8
 ·exact ee Q x s w h hwf h8 hl ht
 by_cases h9:x.kind=9
 ·exact ed Q x s w h hwf h9 hl ht
 by_cases h10:x.kind=10
 ·exact Y3 Q x s w h hwf h10 hl ht
 by_cases h11:x.kind=11
 ·exact Y2 Q x s w h hwf h11 hl ht
 by_cases h12:x.kind=12
 ·exact Y1 Q x s w h hwf h12 hl ht
 by_cases h13:x.kind=13
 ·exact Y0 Q x s w h hwf h13 hl ht
 by_cases h14:x.kind=14
 ·exact Yz Q x s w h hwf h14 hl ht
 exact er Q x s w h hwf acw hl ht
end Go.Proofs.YtimoefagohifaaaGreatDoor
