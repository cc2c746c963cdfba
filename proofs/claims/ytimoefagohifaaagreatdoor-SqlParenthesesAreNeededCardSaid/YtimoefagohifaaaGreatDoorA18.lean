/- Laws that the last part needs. No condition. -/
import Derived.RegionTactic
import Derived.Test.YtimoefagohifaaaGreatDoorA16
import Derived.Test.YtimoefagohifaaaGreatDoorA17
set_option maxHeartbeats 8000000
set_option maxRecDepth 100000
namespace Go.Proofs.YtimoefagohifaaaGreatDoor
open Go.RowKit Go.Sort Tryz
def exZ (op:Int) (t n:Bytes) (v:V) (m:Nat):Bool:=decide (op=0)&&decide (t=[])&&decide (n=[])&&decide (v=V.null)&&decide (m=0)
theorem Lc (op:Int) (t n:Bytes) (v:V) (a:Option Addr) (m c:Nat) (w:World):Calls prog 66 #[.agg #[.int .i64 op,.string ⟨t.toArray⟩,.string ⟨n.toArray⟩,.int .i64 v.k,.int .i64 v.n,.string v.s,.slice a m c]] w (Says (.bool (exZ op t n v m)) w):=by
 go_enter func66,ntmps66;go_wp2_with fail;all_goals go_returns
 all_goals refine⟨Gf ?_,by go_grown⟩
 all_goals(simp[exZ,V.null,V.ext_iff,Nf, *];try(cases m<;>simp<;>omega))
def SV.lists (s:SV):Nat:=s.ns.2.1+s.rs.2.1+s.es.2.1+s.s1.2.1+s.s2.2.1+s.s3.2.1+s.xi.2.1+s.xf.2.1+s.xo.2.1+s.xg.2.1+s.xs.2.1
def SV.unused (s:SV):Bool:=
 decide (s.lists=0)&&decide (s.tb++s.nm++s.s0=[])&&decide (s.c0=[]/\s.c1=0/\s.c2=false)&&!s.un&&exZ s.wo s.wt s.wn s.wv s.wa.2.1&&decide (s.md=0)&&!s.xd&&
  exZ s.yo s.yt s.yn s.yv s.ya.2.1&&decide (s.xl=0)
theorem St.swap {w0 w:World} {x y:Blk} {L:List Blk} (h:St w0 w (x::y::L)):St w0 w (y::x::L):=by
 refine⟨h.below,fun z hz=>h.own z (by simp only[uw]at hz ⊢;rcases hz with h|h|h;exact .inr (.inl h);exact .inl h;exact .inr (.inr h)),?_⟩;have:=h.apart;simp only[yp,aaq,uw,not_or]at this ⊢;exact⟨⟨Ne.symm this.1.1,this.2.1⟩,this.1.2,this.2.2⟩
theorem Mb {w:World} {A B C:Array Value} {ta tb tc:TypeId}:St w ((((w.alloc (.cells A ta)).alloc (.cells B tb)).alloc (.cells C tc)).drew) [(w.heap.size+1+1,C,tc),(w.heap.size+1,B,tb),(w.heap.size,A,ta)]:=by
 have:=(St.alloc (St.alloc (St.alloc (St.start w) (cs:=A) (t:=ta)) (cs:=B) (t:=tb)) (cs:=C) (t:=tc)).kept (Below.drewN _ _ 1);exact re
def SV.schA (s:SV):Array Value:=#[.string (Y s.s0),sl s.s1,sl s.s2,sl s.s3]
def SV.selA (s:SV):Array Value:=#[.bool s.xd,sl s.xi,sl s.xf,sl s.xo,U s.yo,.string (Y s.yt),.string (Y s.yn),U s.yv.k,U s.yv.n,.string s.yv.s,sl s.ya,sl s.xg,sl s.xs,U s.xl]
theorem Z2 {w W:World} {s:SV} {b3 b4:Nat} (h:St w W [(b4,s.schA,35),(b3,s.selA,48),(w.heap.size,s.arr,50)]):W.cell? ⟨w.heap.size,10,none⟩=some (.slice s.ns.1 s.ns.2.1 s.ns.2.2)/\W.cell? ⟨w.heap.size,12,none⟩=some (.slice s.rs.1 s.rs.2.1 s.rs.2.2)/\W.cell? ⟨w.heap.size,13,none⟩=some (.slice s.es.1 s.es.2.1 s.es.2.2)/\W.cell? ⟨b4,1,none⟩=some (.slice s.s1.1 s.s1.2.1 s.s1.2.2)/\W.cell? ⟨b4,2,none⟩=some (.slice s.s2.1 s.s2.2.1 s.s2.2.2)/\W.cell? ⟨b4,3,none⟩=some (.slice s.s3.1 s.s3.2.1 s.s3.2.2)/\W.cell? ⟨b3,1,none⟩=some (.slice s.xi.1 s.xi.2.1 s.xi.2.2)/\W.cell? ⟨b3,2,none⟩=some (.slice s.xf.1 s.xf.2.1 s.xf.2.2)/\W.cell? ⟨b3,3,none⟩=some (.slice s.xo.1 s.xo.2.1 s.xo.2.2)/\W.cell? ⟨b3,11,none⟩=some (.slice s.xg.1 s.xg.2.1 s.xg.2.2)/\W.cell? ⟨b3,12,none⟩=some (.slice s.xs.1 s.xs.2.1 s.xs.2.2):=by
 have h0:=h.blk 0 rfl
 have h1:=h.blk 1 rfl
 have h2:=h.blk 2 rfl
 and_intros
 ·exact z91
 ·exact z91
 ·exact z91
 ·simp only[World.cell?,h0];rfl
 ·simp only[World.cell?,h0];rfl
 ·simp only[World.cell?,h0];rfl
 ·exact z98
 ·exact z98
 ·exact z98
 ·exact z98
 ·exact z98
theorem Z0 {w W:World} {s:SV} {b3 b4:Nat} (h:St w W [(b4,s.schA,35),(b3,s.selA,48),(w.heap.size,s.arr,50)]):W.cell? ⟨w.heap.size,1,none⟩=some (.string (Y s.tb))/\W.cell? ⟨w.heap.size,2,none⟩=some (.string (Y s.nm))/\W.cell? ⟨w.heap.size,7,none⟩=some (.string (Y s.c0))/\W.cell? ⟨w.heap.size,8,none⟩=some (U s.c1)/\W.cell? ⟨w.heap.size,9,none⟩=some (.bool s.c2)/\W.cell? ⟨w.heap.size,11,none⟩=some (.bool s.un)/\W.cell? ⟨b4,0,none⟩=some (.string (Y s.s0)):=by
 have h0:=h.blk 0 rfl
 have h1:=h.blk 1 rfl
 have h2:=h.blk 2 rfl
 and_intros
 ·exact z91
 ·exact z91
 ·exact z91
 ·exact z91
 ·exact z91
 ·exact z91
 ·simp only[World.cell?,h0];rfl
theorem Ol {w W:World} {s:SV} {b3 b4:Nat} (h:St w W [(b4,s.schA,35),(b3,s.selA,48),(w.heap.size,s.arr,50)]):W.cell? ⟨w.heap.size,14,none⟩=some (U s.wo)/\W.cell? ⟨w.heap.size,15,none⟩=some (.string (Y s.wt))/\W.cell? ⟨w.heap.size,16,none⟩=some (.string (Y s.wn))/\W.cell? ⟨w.heap.size,17,none⟩=some (U s.wv.k)/\W.cell? ⟨w.heap.size,18,none⟩=some (U s.wv.n)/\W.cell? ⟨w.heap.size,19,none⟩=some (.string s.wv.s)/\W.cell? ⟨w.heap.size,20,none⟩=some (.slice s.wa.1 s.wa.2.1 s.wa.2.2)/\W.cell? ⟨w.heap.size,35,none⟩=some (U s.md)/\W.cell? ⟨b3,0,none⟩=some (.bool s.xd):=by
 have h0:=h.blk 0 rfl
 have h1:=h.blk 1 rfl
 have h2:=h.blk 2 rfl
 and_intros
 ·exact z91
 ·exact z91
 ·exact z91
 ·exact z91
 ·exact z91
 ·exact z91
 ·exact z91
 ·exact z91
 ·exact z98
theorem Z1 {w W:World} {s:SV} {b3 b4:Nat} (h:St w W [(b4,s.schA,35),(b3,s.selA,48),(w.heap.size,s.arr,50)]):W.cell? ⟨b3,4,none⟩=some (U s.yo)/\W.cell? ⟨b3,5,none⟩=some (.string (Y s.yt))/\W.cell? ⟨b3,6,none⟩=some (.string (Y s.yn))/\W.cell? ⟨b3,7,none⟩=some (U s.yv.k)/\W.cell? ⟨b3,8,none⟩=some (U s.yv.n)/\W.cell? ⟨b3,9,none⟩=some (.string s.yv.s)/\W.cell? ⟨b3,10,none⟩=some (.slice s.ya.1 s.ya.2.1 s.ya.2.2)/\W.cell? ⟨b3,13,none⟩=some (U s.xl):=by
 have h0:=h.blk 0 rfl
 have h1:=h.blk 1 rfl
 have h2:=h.blk 2 rfl
 and_intros
 ·exact z98
 ·exact z98
 ·exact z98
 ·exact z98
 ·exact z98
 ·exact z98
 ·exact z98
 ·exact z98
theorem Bg (s:SV) (hl:s.lists<=4611686018427387904) (ht:s.tb.length+s.nm.length+s.s0.length<=4611686018427387904) (w:World):Calls prog 52 #[.agg s.arr] w (Says (.bool s.unused) w):=by
 have C:=tm (fun W=>Lc s.wo s.wt s.wn s.wv s.wa.1 s.wa.2.1 s.wa.2.2 W);have C2:=tm (fun W=>Lc s.yo s.yt s.yn s.yv s.ya.1 s.ya.2.1 s.ya.2.2 W);obtain⟨y,hy⟩:∃y,s.unused=y:=⟨_,rfl⟩;have HU:Hid (y=s.unused):=hy.symm;rw[hy];clear hy;unfold SV.lists at hl
 have HF:Hid ((wrap64 ((s.ns.2.1:Int)+(s.rs.2.1:Int))=(s.ns.2.1:Int)+(s.rs.2.1:Int))/\(wrap64 ((s.ns.2.1:Int)+(s.rs.2.1:Int)+(s.es.2.1:Int))=(s.ns.2.1:Int)+(s.rs.2.1:Int)+(s.es.2.1:Int))/\(wrap64 ((s.ns.2.1:Int)+(s.rs.2.1:Int)+(s.es.2.1:Int)+(s.s1.2.1:Int))=(s.ns.2.1:Int)+(s.rs.2.1:Int)+(s.es.2.1:Int)+(s.s1.2.1:Int))/\(wrap64 ((s.ns.2.1:Int)+(s.rs.2.1:Int)+(s.es.2.1:Int)+(s.s1.2.1:Int)+(s.s2.2.1:Int))=(s.ns.2.1:Int)+(s.rs.2.1:Int)+(s.es.2.1:Int)+(s.s1.2.1:Int)+(s.s2.2.1:Int))/\(wrap64 ((s.ns.2.1:Int)+(s.rs.2.1:Int)+(s.es.2.1:Int)+(s.s1.2.1:Int)+(s.s2.2.1:Int)+(s.s3.2.1:Int))=(s.ns.2.1:Int)+(s.rs.2.1:Int)+(s.es.2.1:Int)+(s.s1.2.1:Int)+(s.s2.2.1:Int)+(s.s3.2.1:Int))/\(wrap64 ((s.ns.2.1:Int)+(s.rs.2.1:Int)+(s.es.2.1:Int)+(s.s1.2.1:Int)+(s.s2.2.1:Int)+(s.s3.2.1:Int)+(s.xi.2.1:Int))=(s.ns.2.1:Int)+(s.rs.2.1:Int)+(s.es.2.1:Int)+(s.s1.2.1:Int)+(s.s2.2.1:Int)+(s.s3.2.1:Int)+(s.xi.2.1:Int))/\(wrap64 ((s.ns.2.1:Int)+(s.rs.2.1:Int)+(s.es.2.1:Int)+(s.s1.2.1:Int)+(s.s2.2.1:Int)+(s.s3.2.1:Int)+(s.xi.2.1:Int)+(s.xf.2.1:Int))=(s.ns.2.1:Int)+(s.rs.2.1:Int)+(s.es.2.1:Int)+(s.s1.2.1:Int)+(s.s2.2.1:Int)+(s.s3.2.1:Int)+(s.xi.2.1:Int)+(s.xf.2.1:Int))/\(wrap64 ((s.ns.2.1:Int)+(s.rs.2.1:Int)+(s.es.2.1:Int)+(s.s1.2.1:Int)+(s.s2.2.1:Int)+(s.s3.2.1:Int)+(s.xi.2.1:Int)+(s.xf.2.1:Int)+(s.xo.2.1:Int))=(s.ns.2.1:Int)+(s.rs.2.1:Int)+(s.es.2.1:Int)+(s.s1.2.1:Int)+(s.s2.2.1:Int)+(s.s3.2.1:Int)+(s.xi.2.1:Int)+(s.xf.2.1:Int)+(s.xo.2.1:Int))/\(wrap64 ((s.ns.2.1:Int)+(s.rs.2.1:Int)+(s.es.2.1:Int)+(s.s1.2.1:Int)+(s.s2.2.1:Int)+(s.s3.2.1:Int)+(s.xi.2.1:Int)+(s.xf.2.1:Int)+(s.xo.2.1:Int)+(s.xg.2.1:Int))=(s.ns.2.1:Int)+(s.rs.2.1:Int)+(s.es.2.1:Int)+(s.s1.2.1:Int)+(s.s2.2.1:Int)+(s.s3.2.1:Int)+(s.xi.2.1:Int)+(s.xf.2.1:Int)+(s.xo.2.1:Int)+(s.xg.2.1:Int))/\(wrap64 ((s.ns.2.1:Int)+(s.rs.2.1:Int)+(s.es.2.1:Int)+(s.s1.2.1:Int)+(s.s2.2.1:Int)+(s.s3.2.1:Int)+(s.xi.2.1:Int)+(s.xf.2.1:Int)+(s.xo.2.1:Int)+(s.xg.2.1:Int)+(s.xs.2.1:Int))=(s.ns.2.1:Int)+(s.rs.2.1:Int)+(s.es.2.1:Int)+(s.s1.2.1:Int)+(s.s2.2.1:Int)+(s.s3.2.1:Int)+(s.xi.2.1:Int)+(s.xf.2.1:Int)+(s.xo.2.1:Int)+(s.xg.2.1:Int)+(s.xs.2.1:Int))):=⟨IntWalk.wrap64_in _ ⟨by omega,by omega⟩,IntWalk.wrap64_in _ ⟨by omega,by omega⟩,IntWalk.wrap64_in _ ⟨by omega,by omega⟩,IntWalk.wrap64_in _ ⟨by omega,by omega⟩,IntWalk.wrap64_in _ ⟨by omega,by omega⟩,IntWalk.wrap64_in _ ⟨by omega,by omega⟩,IntWalk.wrap64_in _ ⟨by omega,by omega⟩,IntWalk.wrap64_in _ ⟨by omega,by omega⟩,IntWalk.wrap64_in _ ⟨by omega,by omega⟩,IntWalk.wrap64_in _ ⟨by omega,by omega⟩⟩
 have HZ:Hid (¬9223372036854775807<s.tb.length+s.nm.length/\¬9223372036854775807<s.tb.length+s.nm.length+s.s0.length):=⟨by omega,by omega⟩;clear hl ht;show Calls prog 52 #[.agg (id s.arr)] w _;unfold SV.arr sl id;go_enter func52,ntmps52;go_wp2_with fail;go_upto_region 1 with fail;go_cut [3,4]from 5 (fun v3 v4 wc=>∃b3 b4:Nat,v3=.pointer (O b3)/\v4=.pointer (O b4)/\St w wc [(b4,s.schA,35),(b3,s.selA,48),(w.heap.size,s.arr,50)])
 case first=>
  go_region
  ·go_wp2_with fail;go_meet;refine⟨_,_,rfl,rfl,?_⟩;have e:=@Mb w s.arr s.selA s.schA 50 48 35;unfold SV.arr SV.selA SV.schA sl at e ⊢;with_reducible exact e
  ·go_wp2_with fail;go_meet;refine⟨_,_,rfl,rfl,?_⟩;have e:=St.swap (@Mb w s.arr s.schA s.selA 50 35 48);unfold SV.arr SV.selA SV.schA sl at e ⊢;with_reducible exact e
 case rest=>
  obtain⟨b3,b4,rfl,rfl,hS⟩:=hcut;have S:=tm hS;clear hS;go_upto_region 2 with fail;go_cut [5]from 6 (fun v wx=>v=U ((s.ns.2.1:Int)+(s.rs.2.1:Int)+(s.es.2.1:Int)+(s.s1.2.1:Int)+(s.s2.2.1:Int)+(s.s3.2.1:Int)+(s.xi.2.1:Int)+(s.xf.2.1:Int)+(s.xo.2.1:Int)+(s.xg.2.1:Int)+(s.xs.2.1:Int))/\wx=wc)
  case first=>
   obtain⟨w2,w3,w4,w5,w6,w7,w8,w9,w1,w11⟩:=HF.out;obtain⟨x,x,x,x,x,x,x,x,x,x,x⟩:=Z2 S.out;clear HF HU C C2 HZ;go_wp2_with fail;go_meet;exact⟨by rw[w11],rfl⟩
  case rest=>
   obtain⟨rfl,rfl⟩:=hcut;clear HF;obtain⟨x,x1,x2,x3,x4,x5,x6⟩:=Z0 S.out;by_cases h0:s.ns.2.1+s.rs.2.1+s.es.2.1+s.s1.2.1+s.s2.2.1+s.s3.2.1+s.xi.2.1+s.xf.2.1+s.xo.2.1+s.xg.2.1+s.xs.2.1=0
   ·have k:(s.ns.2.1:Int)+(s.rs.2.1:Int)+(s.es.2.1:Int)+(s.s1.2.1:Int)+(s.s2.2.1:Int)+(s.s3.2.1:Int)+(s.xi.2.1:Int)+(s.xf.2.1:Int)+(s.xo.2.1:Int)+(s.xg.2.1:Int)+(s.xs.2.1:Int)=0:=acw;rw[k];by_cases h1:s.tb++s.nm++s.s0=[]
    ·obtain⟨h9,e3⟩:=aab.1 h1;obtain⟨e1,e2⟩:=aab.1 h9;have ec:(⟨#[]⟩:ByteArray)++⟨#[]⟩=⟨#[]⟩:=by rw[ByteArray.mk_append_mk [] []];rfl
     rw[e1]at x;rw[e2]at x1;rw[e3]at x6;clear HZ h9;by_cases h2:s.c0=[]/\s.c1=0/\s.c2=false
     ·have h9:=h2;obtain⟨d,d2,d3⟩:=h2;rw[d]at x2;rw[d2]at x3;rw[d3]at x4
      cases h3:s.un with
      | false=>
       rw[h3]at x5;obtain⟨u,u1,u2,u3,u4,u5,u6,u7,u8⟩:=Ol S.out;go_wp2_with fail;refine tp (C.out _) ?_;rintro e w2 ⟨rfl,hb⟩;replace S:=tm (S.out.kept hb);clear hb x x1 x2 x3 x4 x5 x6 u u1 u2 u3 u4 u5 u6 u7 u8;obtain⟨u,u1,u2,u3,u4,u5,u6,u7,u8⟩:=Ol S.out
       cases h4:exZ s.wo s.wt s.wn s.wv s.wa.2.1 with
       | false=>
        have HR:Hid (y=false):=by show _=_;rw[HU.out];exact ym.2 (fun h=>by simp only[SV.unused,tr,uk,yj]at h;exact absurd h.1.1.1.1.2 (by rw[h4];decide))
        clear HU C C2;exact z28
       | true=>
        clear C;by_cases h5:s.md=0
        ·rw[h5]at u7
         cases h6:s.xd with
         | false=>
          rw[h6]at u8;obtain⟨v0,v1,v2,v3,v4,v5,v6,v7⟩:=Z1 S.out;go_wp2_with fail;refine tp (C2.out _) ?_;rintro e w3 ⟨rfl,hb⟩;replace S:=tm (S.out.kept hb);clear hb u u1 u2 u3 u4 u5 u6 u7 u8 v0 v1 v2 v3 v4 v5 v6 v7;obtain⟨v0,v1,v2,v3,v4,v5,v6,v7⟩:=Z1 S.out
          cases h7:exZ s.yo s.yt s.yn s.yv s.ya.2.1 with
          | false=>
           have HR:Hid (y=false):=by show _=_;rw[HU.out];exact ym.2 (fun h=>by simp only[SV.unused,tr,uk,yj]at h;exact absurd h.1.2 (by rw[h7];decide))
           clear HU C2;exact z28
          | true=>
           by_cases h8:s.xl=0
           ·have HR:Hid (y=true):=by
             show _=_;rw[HU.out];unfold SV.unused;rw[vf (show s.lists=0 from h0),vf h1,vf h9,h3,h4,vf h5,h6,h7,vf h8];rfl
            rw[h8]at v7;clear HU C2;exact z28
           ·have kx:(s.xl==0)=false:=us.2 h8;have HR:Hid (y=false):=by show _=_;rw[HU.out];exact ym.2 (fun h=>by simp only[SV.unused,tr,uk,yj]at h;exact h8 h.2)
            clear HU C2;exact z28
         | true=>
          rw[h6]at u8;have HR:Hid (y=false):=by show _=_;rw[HU.out];exact ym.2 (fun h=>by simp only[SV.unused,tr,uk,yj]at h;exact absurd h.1.1.2 (by rw[h6];decide))
          clear HU C2;exact z28
        ·skip;have HR:Hid (y=false):=by show _=_;rw[HU.out];exact ym.2 (fun h=>by simp only[SV.unused,tr,uk,yj]at h;exact h5 h.1.1.1.2)
         clear HU C2;exact z28
      | true=>
       rw[h3]at x5;have HR:Hid (y=false):=by show _=_;rw[HU.out];exact ym.2 (fun h=>by simp only[SV.unused,tr,uk,yj]at h;exact absurd h.1.1.1.1.1.2 (by rw[h3];decide))
       clear HU C C2;exact z28
     ·have hr3:¬s.c0=[]\/(s.c0=[]/\¬s.c1=0)\/(s.c0=[]/\s.c1=0/\s.c2=true):=by
       by_cases a1:s.c0=[]
       ·by_cases a2:s.c1=0
        ·exact .inr (.inr ⟨a1,a2,by cases a3:s.c2 with|true=>rfl|false=>exact absurd ⟨a1,a2,a3⟩ h2⟩)
        ·exact .inr (.inl ⟨a1,a2⟩)
       ·exact .inl a1
      have HR:Hid (y=false):=by show _=_;rw[HU.out];exact ym.2 (fun h=>by simp only[SV.unused,tr,uk,yj]at h;exact h2 h.1.1.1.1.1.1.2)
      clear HU C C2;rcases hr3 with a1|⟨a1,a2⟩|⟨a1,a2,a3⟩
      ·skip;exact z28
      ·skip;rw[a1]at x2;exact z28
      ·skip;rw[a1]at x2;rw[a2]at x3;rw[a3]at x4;exact z28
    ·obtain⟨z,z⟩:=HZ.out;have k:¬(s.tb=[]/\s.nm=[]/\s.s0=[]):=fun h=>h1 (by rw[h.1,h.2.1,h.2.2];rfl);have e1:=ByteArray.mk_append_mk s.tb s.nm;have e2:=ByteArray.mk_append_mk (s.tb++s.nm) s.s0;have HR:Hid (y=false):=by show _=_;rw[HU.out];exact ym.2 (fun h=>by simp only[SV.unused,tr,uk,yj]at h;exact h1 h.1.1.1.1.1.1.1.2)
     clear HU C C2 HZ;exact z28
   ·have k:¬((s.ns.2.1:Int)+(s.rs.2.1:Int)+(s.es.2.1:Int)+(s.s1.2.1:Int)+(s.s2.2.1:Int)+(s.s3.2.1:Int)+(s.xi.2.1:Int)+(s.xf.2.1:Int)+(s.xo.2.1:Int)+(s.xg.2.1:Int)+(s.xs.2.1:Int)=0):=acw;have HR:Hid (y=false):=by show _=_;rw[HU.out];exact ym.2 (fun h=>by simp only[SV.unused,tr,uk,yj]at h;exact(show ¬s.lists=0 from h0) h.1.1.1.1.1.1.1.1)
    clear HU C C2 HZ;exact z28
theorem T6 (Q:Nat->Prop) (e:Ex):∀(cs:List Value) (w:World),ExIn Q w e cs->e.Wf->Calls prog 116 #[.agg cs.toArray] w (Says (.bool e.formed) w):=by
 refine Ex.ind (P:=fun e=>∀(cs:List Value) (w:World),ExIn Q w e cs->e.Wf->Calls prog 116 #[.agg cs.toArray] w (Says (.bool e.formed) w)) ?_ e;intro op t n v args ih cs w h hwf;obtain⟨⟨ht,hn⟩,hv,hargs⟩:=hwf;have hwa:∀a∈args,a.Wf:=M0 hargs;obtain⟨v0,rfl,hsl⟩:=Ds h;have hr:=Cv hsl;obtain⟨ad,ac,rfl⟩:=hr.slice;have HC:Hid (args.length<=1000000->∀W,Below w.heap.size w W->Calls prog 113 #[.slice ad args.length ac,.func (.func 179) #[] #[]] W (Says (.bool (args.any fun a=>!a.formed)) W)):=by
  intro hl W hW;refine contains113_plain 179 Q (fun a=>!a.formed) args _ W Yg (hr.kept acy hW) acw ?_;intro W' a cs' hW' ha hin;exact notFormed_any Q a cs' W' hin (fun cs2 W2 h2=>ih a ha cs2 W2 h2 (hwa a ha))
 show Calls prog 116 #[.agg #[.int .i64 op,.string ⟨t.toArray⟩,.string ⟨n.toArray⟩,.int .i64 v.k,.int .i64 v.n,.string v.s,.slice ad args.length ac]] w _;have hnt:n.length+t.length<=4611686018427387904:=acw;by_cases h0:op<1\/15<op
 ·exact T4 h0 hv hnt HC
 by_cases h1:op=1
 ·subst h1;exact di hv hnt HC
 by_cases h2:op=2
 ·subst h2;exact dh hv hnt HC
 by_cases h3:op=14
 ·subst h3;exact X0 hv hnt HC
 by_cases h3:op=15
 ·subst h3;exact Xz hv hnt HC
 exact Xy acw acw hv hnt HC
theorem Fq {Q:Nat->Prop} {w:World} {e:Ex} {cs:List Value} (h:ExIn Q w e cs):∃a c,cs=[U e.op,.string (Y e.table),.string (Y e.name),U e.val.k,U e.val.n,.string e.val.s,.slice a e.args.length c]:=qa
theorem B6 (Q:Nat->Prop) (e:Ex) (cs:List Value) (w:World) (h:ExIn Q w e cs) (hwf:e.Wf):Calls prog 50 #[.agg cs.toArray] w (Says (.bool e.good) w):=by
 obtain⟨a,c,rfl⟩:=Fq h;have C:=tm (fun W (hW:Below w.heap.size w W)=>ae Q e _ 200 W (h.kept hW) hwf acy acy);have C2:=tm (fun W (hW:Below w.heap.size w W)=>T6 Q e _ W (h.kept hW) hwf);have HG:Hid (e.good=(decide (sizeE e 200<=200)&&e.formed)):=rfl;obtain⟨y,hy⟩:∃y,e.good=y:=⟨_,rfl⟩;rw[hy]at HG ⊢;generalize sizeE e 200=z at *;generalize e.formed=f at *;generalize e.op=op at *;generalize e.table=t at *;generalize e.name=n at *;generalize e.val=v at *;generalize e.args.length=m at *;clear h hwf hy;show Calls prog 50 #[.agg #[.int .i64 op,.string ⟨t.toArray⟩,.string ⟨n.toArray⟩,.int .i64 v.k,.int .i64 v.n,.string v.s,.slice a m c]] w _;have S:Hid (St w (w.alloc (.cells #[U op,.string (Y t),.string (Y n),U v.k,U v.n,.string v.s,.slice a m c] 44)) [(w.heap.size,#[U op,.string (Y t),.string (Y n),U v.k,U v.n,.string v.s,.slice a m c],44)]):=St.alloc (St.start w);go_enter func50,ntmps50;go_wp2_with fail;refine tp (C.out _ S.out.below) ?_;rintro e w1 ⟨rfl,hb⟩;refine z252 ?_;intro S;clear hb;refine z1076 ?_;intro F;by_cases hz:z<=200
 ·have HR:Hid (y=f):=by show _=_;rw[HG.out,vf hz,wk]
  go_wp2_with fail;refine tp (C2.out _ S.out.below) ?_;rintro e w2 ⟨rfl,hb⟩;refine z252 ?_;intro S;clear hb F HG C C2;go_wp2_with fail;exact ue (v:=.bool f) (by simp[results,results50,go_sem]) rfl ⟨by rw[HR.out],S.out.below⟩
 ·have HR:Hid (y=false):=by show _=_;rw[HG.out,vm hz,zm]
  clear HG C C2;exact z23
theorem Li:En 37:=enters_of func37 acz rfl
theorem dy:En 48:=enters_of func48 acz rfl
theorem Qw:En 50:=enters_of func50 acz rfl
theorem d0:En 44:=enters_of func44 acz rfl
theorem dz:En 46:=enters_of func46 acz rfl
theorem Yw:En 106:=enters_of func106 acz rfl
theorem Ys:En 118:=enters_of func118 acz rfl
theorem Yr:En 119:=enters_of func119 acz rfl
theorem Yq:En 121:=enters_of func121 acz rfl
theorem Es (Q:Nat->Prop) (e:Ex) (cs:List Value) (w:World) (h:ExIn Q w e cs) (hwf:e.Wf):Calls prog 42 #[.agg cs.toArray] w (Says (.bool (condR e)) w):=by
 obtain⟨a,c,rfl⟩:=Fq h;have C:=tm (fun W (hW:Below w.heap.size w W)=>Fm Q e _ W (h.kept hW));have C2:=tm (fun W (hW:Below w.heap.size w W)=>B6 Q e _ W (h.kept hW) hwf);have HG:Hid (condR e=(e.isZero||e.good)):=rfl;obtain⟨y,hy⟩:∃y,condR e=y:=⟨_,rfl⟩;rw[hy]at HG ⊢;generalize e.isZero=z at *;generalize e.good=f at *;generalize e.op=op at *;generalize e.table=t at *;generalize e.name=n at *;generalize e.val=v at *;generalize e.args.length=m at *;clear h hwf hy;show Calls prog 42 #[.agg #[.int .i64 op,.string ⟨t.toArray⟩,.string ⟨n.toArray⟩,.int .i64 v.k,.int .i64 v.n,.string v.s,.slice a m c]] w _;have S:Hid (St w (w.alloc (.cells #[U op,.string (Y t),.string (Y n),U v.k,U v.n,.string v.s,.slice a m c] 44)) [(w.heap.size,#[U op,.string (Y t),.string (Y n),U v.k,U v.n,.string v.s,.slice a m c],44)]):=St.alloc (St.start w);go_enter func42,ntmps42;go_wp2_with fail;refine tp (C.out _ S.out.below) ?_;rintro e w1 ⟨rfl,hb⟩;replace S:=tm (S.out.kept hb);clear hb;have F:=fx_ S.out.facts
 cases z with
 | false=>
  have HR:Hid (y=f):=by show _=_;rw[HG.out,aam]
  go_wp2_with fail;refine tp (C2.out _ S.out.below) ?_;rintro e w2 ⟨rfl,hb⟩;refine z252 ?_;intro S;clear hb F HG C C2;go_wp2_with fail;exact ue (v:=.bool f) (by simp[results,results42,go_sem]) rfl ⟨by rw[HR.out],S.out.below⟩
 | true=>
  have HR:Hid (y=true):=by show _=_;rw[HG.out,aa9]
  clear HG C C2;exact z23
theorem Sj (Q:Nat->Prop) (p:Pk) (cs:List Value) (w:World) (h:pkE.In Q w p cs) (hwf:p.arg.Wf):Calls prog 118 #[.agg cs.toArray] w (Says (.bool p.picked) w):=by
 obtain⟨c0,rfl,h⟩:=h;obtain⟨a,c,rfl⟩:=Fq h;have C:=tm (fun W (hW:Below w.heap.size w W)=>Fm Q p.arg _ W (h.kept hW));have C2:=tm (fun W (hW:Below w.heap.size w W)=>B6 Q p.arg _ W (h.kept hW) hwf);have HG:Hid (p.picked=if p.fn=1 then p.arg.isZero else decide (0<=p.fn)&&decide (p.fn<=4)&&p.arg.good):=rfl;obtain⟨y,hy⟩:∃y,p.picked=y:=⟨_,rfl⟩;rw[hy]at HG ⊢;generalize p.arg.isZero=z at *;generalize p.arg.good=f at *;generalize p.arg.op=op at *;generalize p.arg.table=t at *;generalize p.arg.name=n at *;generalize p.arg.val=v at *;generalize p.arg.args.length=m at *;generalize p.fn=fn at *;clear h hwf hy;show Calls prog 118 #[.agg #[.int .i64 fn,.int .i64 op,.string ⟨t.toArray⟩,.string ⟨n.toArray⟩,.int .i64 v.k,.int .i64 v.n,.string v.s,.slice a m c]] w _;have S:Hid (St w (w.alloc (.cells #[U fn,U op,.string (Y t),.string (Y n),U v.k,U v.n,.string v.s,.slice a m c] 132)) [(w.heap.size,#[U fn,U op,.string (Y t),.string (Y n),U v.k,U v.n,.string v.s,.slice a m c],132)]):=St.alloc (St.start w);by_cases h1:fn=1
 ·have HR:Hid (y=z):=by show _=_;rw[HG.out,if_pos h1]
  subst h1;go_enter func118,ntmps118;go_wp2_with fail;refine tp (C.out _ S.out.below) ?_;rintro e w1 ⟨rfl,hb⟩;refine z252 ?_;intro S;clear hb HG C C2;go_wp2_with fail;exact ue (v:=.bool z) (by simp[results,results118,go_sem]) rfl ⟨by rw[HR.out],S.out.below⟩
 ·by_cases h2:0<=fn/\fn<=4
  ·have HR:Hid (y=f):=by show _=_;rw[HG.out,if_neg h1,vf h2.1,vf h2.2];rfl
   obtain⟨h2,h3⟩:=h2;go_enter func118,ntmps118;go_wp2_with fail;refine tp (C2.out _ S.out.below) ?_;rintro e w1 ⟨rfl,hb⟩;refine z252 ?_;intro S;clear hb HG C C2;go_wp2_with fail;exact ue (v:=.bool f) (by simp[results,results118,go_sem]) rfl ⟨by rw[HR.out],S.out.below⟩
  ·have HR:Hid (y=false):=by
    show _=_;rw[HG.out,if_neg h1];have:(decide (0<=fn)&&decide (fn<=4))=false:=by rw[ym];intro h;simp at h;exact h2 h
    rw[this];rfl
   have h3:fn<0\/4<fn:=acw;clear HG C C2 h2;rcases h3 with h3|h3
   all_goals
    go_enter func118,ntmps118
    go_wp2_with fail
    go_returns
    exact⟨by rw[HR.out];rfl,S.out.below⟩
theorem K6 (c:Col) (w:World):Calls prog 44 #[.agg #[.string ⟨c.name.toArray⟩,.int .i64 c.kind,.bool c.null]] w (Says (.bool c.kinded) w):=by
 have C:=tm (fun W=>Ah c.name W);have HG:Hid (c.kinded=(isName c.name&&decide (1<=c.kind)&&decide (c.kind<=3))):=rfl;obtain⟨y,hy⟩:∃y,c.kinded=y:=⟨_,rfl⟩;rw[hy]at HG ⊢;obtain⟨nm,kd,nl⟩:=c;simp only at *;clear hy;have S:Hid (St w (w.alloc (.cells #[.string (Y nm),U kd,.bool nl] 37)) [(w.heap.size,#[.string (Y nm),U kd,.bool nl],37)]):=St.alloc (St.start w);go_enter func44,ntmps44;go_wp2_with fail;refine tp (C.out _) ?_;rintro e w1 ⟨rfl,hb⟩;replace S:=tm (S.out.kept hb);clear hb;have F:=fx_ S.out.facts
 cases hn:isName nm with
 | false=>
  have HR:Hid (y=false):=by show _=_;rw[HG.out,hn];rfl
  clear HG C;exact z23
 | true=>
  by_cases h:1<=kd
  ·by_cases h2:kd<=3
   ·have HR:Hid (y=true):=by show _=_;rw[HG.out,hn,vf h,vf h2];rfl
    have k:decide (kd<=3)=true:=vf h2;clear HG C;exact z28
   ·have HR:Hid (y=false):=by show _=_;rw[HG.out,hn,vf h,vm h2];rfl
    have k:decide (kd<=3)=false:=vm h2;clear HG C;exact z28
  ·have HR:Hid (y=false):=by show _=_;rw[HG.out,hn,vm h];rfl
   clear HG C;exact z28
theorem Xx (Q:Nat->Prop) (e:Ex) (cs:List Value) (w:World) (h:ExIn Q w e cs) (hwf:e.Wf):Calls prog 119 #[.agg cs.toArray] w (Says (.bool (groupOk e)) w):=by
 obtain⟨a,c,rfl⟩:=Fq h;have C:=tm (fun W (hW:Below w.heap.size w W)=>B6 Q e _ W (h.kept hW) hwf);have HG:Hid (groupOk e=(decide (e.op=1)&&e.good)):=rfl;obtain⟨y,hy⟩:∃y,groupOk e=y:=⟨_,rfl⟩;rw[hy]at HG ⊢;generalize e.good=f at *;generalize e.op=op at *;generalize e.table=t at *;generalize e.name=n at *;generalize e.val=v at *;generalize e.args.length=m at *;clear h hwf hy;show Calls prog 119 #[.agg #[.int .i64 op,.string ⟨t.toArray⟩,.string ⟨n.toArray⟩,.int .i64 v.k,.int .i64 v.n,.string v.s,.slice a m c]] w _;have S:Hid (St w (w.alloc (.cells #[U op,.string (Y t),.string (Y n),U v.k,U v.n,.string v.s,.slice a m c] 44)) [(w.heap.size,#[U op,.string (Y t),.string (Y n),U v.k,U v.n,.string v.s,.slice a m c],44)]):=St.alloc (St.start w);by_cases h1:op=1
 ·have HR:Hid (y=f):=by show _=_;rw[HG.out,vf h1,wk]
  subst h1;go_enter func119,ntmps119;go_wp2_with fail;refine tp (C.out _ S.out.below) ?_;rintro e w1 ⟨rfl,hb⟩;refine z252 ?_;intro S;clear hb HG C;go_wp2_with fail;exact ue (v:=.bool f) (by simp[results,results119,go_sem]) rfl ⟨by rw[HR.out],S.out.below⟩
 ·have HR:Hid (y=false):=by show _=_;rw[HG.out,vm h1,zm]
  have k1:(op==1)=false:=us.2 h1;clear HG C;go_enter func119,ntmps119;exact z28
theorem Xd (s:Srt) (w:World):Calls prog 121 #[.agg #[.int .i64 s.place,.bool s.down]] w (Says (.bool s.okS) w):=by
 have HG:Hid (s.okS=(decide (0<=s.place)&&decide (s.place<=549755813887))):=rfl;obtain⟨y,hy⟩:∃y,s.okS=y:=⟨_,rfl⟩;rw[hy]at HG ⊢;obtain⟨pl,dn⟩:=s;simp only at *;clear hy;by_cases h:0<=pl
 ·by_cases h2:pl<=549755813887
  ·have HR:Hid (y=true):=by show _=_;rw[HG.out,vf h,vf h2];rfl
   have k:decide (pl<=549755813887)=true:=vf h2;exact rh
  ·have HR:Hid (y=false):=by show _=_;rw[HG.out,vf h,vm h2];rfl
   have k:decide (pl<=549755813887)=false:=vm h2;exact rh
 ·have HR:Hid (y=false):=by show _=_;rw[HG.out,vm h];rfl
  exact rh
theorem Rz (Q:Nat->Prop) (r:List V) (v:Value) (w:World) (h:RSl valE Q w v r) (hwf:∀x∈r,x.Wf):Calls prog 46 #[v] w (Says (.bool (rowOk r)) w):=by
 have C:=tm (Za 48 Q V.right 1 8 r v w dy h acy (fun W a cs _ ha hin=>by
  have e:cs=[U a.k,U a.n,.string a.s]:=hin;subst e;exact Bw a (hwf a ha) W))
 obtain⟨a,c,rfl⟩:=h.slice;clear h hwf;unfold rowOk;generalize allR r 1 8 V.right=y at *;go_enter func46,ntmps46;go_wp2_with fail;refine tp C.out ?_;rintro e w1 ⟨rfl,hb⟩;go_wp2_with fail;exact ue (v:=.bool y) (by simp[results,results46,go_sem]) rfl ⟨rfl,hb⟩
theorem Ms {Q:Nat->Prop} {w:World}:∀{l:List Col} {acs:List Value},LIn colE Q w l acs->acs=colVals l
 | [],acs,h=>h
 | c::l,acs,h=>by
  obtain⟨c1,c2,rfl,h1,h2⟩:=h;have e1:c1=c.cells:=h1;rw[e1,Ms h2];rfl
theorem Pa {Q:Nat->Prop} {w:World} {v:Value} {l:List Col} (h:RSl colE Q w v l):SlAt w v l.length (colVals l):=by
 obtain⟨acs,⟨ad,cap,e,hc,h1⟩,h2⟩:=h;rw[<- Ms h2];exact⟨ad,cap,e,hc,fun hn=>by obtain⟨b,o,e2,_,h3⟩:=h1 hn;exact⟨b,o,e2,h3⟩⟩
theorem Oq (tb:Nat) (nm:Bytes) (cols:List Col) (ca ia ka:Option Addr) (cc il ic kl kc:Nat) (x:Chk) (w:World) (hb:w.heap[tb]?=some (.cells #[.string (Y nm),.slice ca cols.length cc,.slice ia il ic,.slice ka kl kc] 35 (0,0))) (hv:SlAt w (.slice ca cols.length cc) cols.length (colVals cols)) (hl:cols.length<=1000000) (hx:x.val.Wf):Calls prog 106 #[.agg #[.int .i64 x.col,.int .i64 x.op,.int .i64 x.val.k,.int .i64 x.val.n,.string x.val.s],.pointer (some ⟨tb,0,none⟩)] w (Says (.bool (x.okIn cols)) w):=by
 obtain⟨col,op,v⟩:=x;simp only at hx ⊢;have HG:Hid ((Chk.mk col op v).okIn cols=(decide (0<=col)&&decide (col<(cols.length:Int))&&decide (6<=op)&&decide (op<=11)&&v.right&&
  decide ((colIdx ((cols.map (·.name)).getD col.toNat []) cols).map (fun k:Nat=>(k:Int))=some col))):=rfl
 obtain⟨y,hy⟩:∃y,(Chk.mk col op v).okIn cols=y:=⟨_,rfl⟩;rw[hy]at HG ⊢;clear hy;have S:Hid (St w (w.alloc (.cells #[U col,U op,U v.k,U v.n,.string v.s] 151)) [(w.heap.size,#[U col,U op,U v.k,U v.n,.string v.s],151)]):=St.alloc (St.start w);have HB:Hid ((w.alloc (.cells #[U col,U op,U v.k,U v.n,.string v.s] 151)).heap[tb]?=some (.cells #[.string (Y nm),.slice ca cols.length cc,.slice ia il ic,.slice ka kl kc] 35 (0,0))):=((uj _ _).alloc (tu _) _:Below w.heap.size w _).blk_kept hb;have HV:=tm hv;have C:=tm (fun W=>Bw v hx W);have y1:(w.alloc (.cells #[U col,U op,U v.k,U v.n,.string v.s] 151)).cell? ⟨tb,1,none⟩=some (.slice ca cols.length cc):=by simp only[World.cell?,HB.out];rfl
 clear hb hv hx;unfold V.val at C;have dead:∀W:World,St w W []->y=false->Says (.bool y) w (.returned (.bool false)) W:=fun W hS hy=>⟨by rw[hy],hS.below⟩;by_cases h1:0<=col
 ·by_cases h2:col<(cols.length:Int)
  ·by_cases h3:6<=op
   ·by_cases h4:op<=11
    ·have HG2:Hid (y=(v.right&&decide ((colIdx ((cols.map (·.name)).getD col.toNat []) cols).map (fun k:Nat=>(k:Int))=some col))):=by
      show _=_;rw[HG.out,vf h1,vf h2,vf h3,vf h4];rfl
     have t:¬col<0:=acw;have t2:¬(cols.length:Int)<=col:=acw;have t3:¬op<6:=acw;have t4:¬11<op:=acw;clear HG h3 h4;go_enter func106,ntmps106;go_wp2_with fail;refine tp (C.out _) ?_;rintro e w1 ⟨rfl,hb1⟩;replace S:=tm (S.out.kept hb1);replace HB:=tm (hb1.blk_kept HB.out);clear hb1 y1 C t t2 t3 t4;have F:=fx_ S.out.facts
     cases hr:v.right with
     | false=>
      have HR:Hid (y=false):=by show _=_;rw[HG2.out,hr];rfl
      clear HG2;exact z23
     | true=>
      obtain⟨k,rfl⟩:∃k:Nat,col=(k:Int):=⟨col.toNat,by omega⟩;have hk:k<cols.length:=acw;obtain⟨c,hc⟩:∃c,cols[k]?=some c:=⟨cols[k],by simp[hk]⟩;have hnm:(cols.map (·.name)).getD (k:Int).toNat []=c.name:=by simp[List.getD,hc]
      obtain⟨j,hj⟩:∃j,colIdx c.name cols=some j:=by
       have:(colIdx c.name cols).isSome=true:=by
        unfold colIdx;rw[List.findIdx?_isSome,List.any_eq_true];exact⟨c,uq hc,by simp⟩
       exact ye.1 this
      have HR:Hid (y=decide ((j:Int)=(k:Int))):=by
       show _=_;rw[HG2.out,hr,hnm,hj];simp
      have hcf:colFrom c.name 0 cols=(j:Int):=by rw[Ft,hj];simp
      have HV1:=tm (HV.out.kept S.out.below);obtain⟨ca',cc',e,hcc,hcells⟩:=HV1.out
      cases e;obtain⟨b,o,rfl,hat⟩:=hcells acw;have hcell:=(Fs hat hc).1;have HC:Hid (∀d os,Calls prog 107 #[.agg #[.string ⟨nm.toArray⟩,.slice (some ⟨b,o,none⟩) cols.length cc,.slice ia il ic,.slice ka kl kc],.string ⟨c.name.toArray⟩] (grow (redrawn w1 d) os) fun e w'=>e=.returned (.tuple #[U (j:Int),.bool true])/\Laid (grow (redrawn w1 d) os) w'):=by
       intro d os;refine(colAt_any c.name nm (.slice ia il ic) (.slice ka kl kc) (.slice (some ⟨b,o,none⟩) cols.length cc) cols _ (HV1.out.kept (vt _ d os)) hl rfl rfl).mono ?_;rintro e w' ⟨rfl,h⟩;rw[hcf];refine⟨?_,h⟩;have e1:max 0 (j:Int)=(j:Int):=acw;have e2:decide (0<=(j:Int))=true:=vf acw;rw[e1,e2]
      have hbl:=HB.out;have z:∀d os,(grow (redrawn w1 d) os).cell? ⟨tb,0,none⟩=some (.string (Y nm)):=fun d os=>ud qd d os;have z1:∀d os,(grow (redrawn w1 d) os).cell? ⟨tb,1,none⟩=some (.slice (some ⟨b,o,none⟩) cols.length cc):=fun d os=>ud qd d os;have z2:∀d os,(grow (redrawn w1 d) os).cell? ⟨tb,2,none⟩=some (.slice ia il ic):=fun d os=>ud qd d os;have z3:∀d os,(grow (redrawn w1 d) os).cell? ⟨tb,3,none⟩=some (.slice ka kl kc):=fun d os=>ud qd d os;have z4:∀d os,(grow (redrawn w1 d) os).cell? ⟨b,o+3 * k,none⟩=some (.string (Y c.name)):=fun d os=>ud hcell d os;have hkm:k * 3=3 * k:=acw;clear HG2 HV HV1 hcells hat hcell hcc hnm hj hcf hc hbl hr F;go_wp2_with fail;have F:=S.out.factsG;simp only[St.FactsG,cellFactsG,uo]at F;refine wp_region_mixed 14 [(0,false),(1,false),(2,false),(3,false),(4,false),(5,false),(6,false),(7,false),(8,false),(9,false),(10,false),(11,false),(12,false),(13,false)] acz acz ?_;repeat(refine wpM_mild rfl (fun K hK=>?_);go_simp;first|(refine hK _ ?_;clear hK K)|(apply Exists.intro;refine⟨fun _=>?_,hK _ ?_⟩;(with_reducible exact HC.out _ _);clear hK K))
      refine Ba ?_;intro w2 hb2 _;replace S:=tm (S.out.kept hb2);clear hb2 z z1 z2 z3 z4 F HB;refine z1003 ?_;intro F;refine ue (v:=.bool (decide ((j:Int)=(k:Int)))) ?_ rfl ⟨by rw[HR.out],S.out.below⟩;simp[results,results106,go_sem];rw[yx,zp,aan]
    ·have HR:Hid (y=false):=by show _=_;rw[HG.out,vm h4];simp
     have t:¬col<0:=acw;have t:¬(cols.length:Int)<=col:=acw;have t:¬op<6:=acw;have t:11<op:=acw;exact rp
   ·have HR:Hid (y=false):=by show _=_;rw[HG.out,vm h3];simp
    have t:¬col<0:=acw;have t:¬(cols.length:Int)<=col:=acw;have t:op<6:=acw;exact rp
  ·have HR:Hid (y=false):=by show _=_;rw[HG.out,vm h2];simp
   have t:¬col<0:=acw;have t:(cols.length:Int)<=col:=acw;exact rp
 ·have HR:Hid (y=false):=by show _=_;rw[HG.out,vm h1];simp
  have t:col<0:=acw;exact rp
def RTblI (Q:Nat->Prop) (w:World) (t:Tbl) (v:Value):Prop:=∃ca cc ia ic ka kc,v=.agg #[.string (Y t.name),.slice ca t.cols.length cc,.slice ia t.indexes.length ic,.slice ka t.checks.length kc]/\RSl colE Q w (.slice ca t.cols.length cc) t.cols/\RSl chkE Q w (.slice ka t.checks.length kc) t.checks
theorem RTblQ.toI {Q:Nat->Prop} {w:World} {t:Tbl} {v:Value} (h:RTblQ Q w t v):RTblI Q w t v:=by
 obtain⟨ca,cc,ka,kc,h1,h2,h3,h4⟩:=h;exact⟨ca,cc,none,0,ka,kc,by rw[h2];exact h1,h3,h4⟩
theorem Rr (Q:Nat->Prop) (t:Tbl) (v:Value) (w:World) (h:RTblI Q w t v) (hwf:∀c∈t.checks,c.val.Wf):Calls prog 43 #[v] w (Says (.bool t.tabled) w):=by
 obtain⟨ca,cc,ia,ic,ka,kc,rfl,h1,h2⟩:=h;have HG:Hid (t.tabled=(isName t.name&&decide (t.indexes.length=0)&&allR t.cols 1 8 Col.kinded&&allR t.checks 0 4 (Chk.okIn t.cols))):=rfl;obtain⟨y,hy⟩:∃y,t.tabled=y:=⟨_,rfl⟩;rw[hy]at HG ⊢;clear hy;have S:Hid (St w (w.alloc (.cells #[.string (Y t.name),.slice ca t.cols.length cc,.slice ia t.indexes.length ic,.slice ka t.checks.length kc] 35)) [(w.heap.size,#[.string (Y t.name),.slice ca t.cols.length cc,.slice ia t.indexes.length ic,.slice ka t.checks.length kc],35)]):=St.alloc (St.start w);have C:=tm (fun W=>Ah t.name W);have C2:Hid (∀W,Below w.heap.size w W->Calls prog 104 #[.slice ca t.cols.length cc,.int .i64 1,.int .i64 8,.func (.func 44) #[] #[]] W (Says (.bool (allR t.cols 1 8 Col.kinded)) W)):=fun W hW=>
  Uy 44 Q Col.kinded 1 8 t.cols _ W d0 (h1.kept acy hW) acy (fun W' a cs _ _ hin=>by
   have e:cs=a.cells:=hin;subst e;exact K6 a W')
 have C3:Hid (∀W,St w W [(w.heap.size,#[.string (Y t.name),.slice ca t.cols.length cc,.slice ia t.indexes.length ic,.slice ka t.checks.length kc],35)]->t.cols.length<=1000000->Calls prog 105 #[.slice ka t.checks.length kc,.int .i64 0,.int .i64 4,.func (.func 106) #[] #[.pointer (some ⟨w.heap.size,0,none⟩)]] W (Says (.bool (allR t.checks 0 4 (Chk.okIn t.cols))) W)):=fun W hW hl=>
  Ux 106 w.heap.size Q (Chk.okIn t.cols) 0 4 t.checks _ W Yw (h2.kept acy hW.below) acy (fun W' a cs hW' ha hin=>by
   have e:cs=chkCells a:=hin;subst e;exact Oq w.heap.size t.name t.cols ca ia ka cc _ ic _ kc a W' (hW'.blk_kept (hW.blk 0 rfl)) (Pa (h1.kept acy (hW.below.step hW'))) hl (hwf a ha))
 clear h1 h2 hwf;have hcl:Hid (allR t.cols 1 8 Col.kinded=true->t.cols.length<=1000000):=fun h=>by
  unfold allR at h;simp only[tr,uk]at h;have:=h.1.2;omega
 generalize allR t.cols 1 8 Col.kinded=b at *;generalize allR t.checks 0 4 (Chk.okIn t.cols)=b3 at *;generalize t.name=nm at *;generalize t.cols.length=n at *;generalize t.indexes.length=n2 at *;generalize t.checks.length=n at *;go_enter func43,ntmps43;go_wp2_with fail;refine tp (C.out _) ?_;rintro e w1 ⟨rfl,hb⟩;replace S:=tm (S.out.kept hb);clear hb C;have F:=fx_ S.out.facts
 cases hn:isName nm with
 | false=>
  have HR:Hid (y=false):=by show _=_;rw[HG.out,hn];rfl
  clear HG C2 C3;exact z23
 | true=>
  by_cases h0:n2=0
  ·subst h0;go_wp2_with fail;refine tp (C2.out _ S.out.below) ?_;rintro e w2 ⟨rfl,hb⟩;replace S:=tm (S.out.kept hb);clear hb C2 F;have F:=fx_ S.out.facts
   cases b with
   | false=>
    have HR:Hid (y=false):=by show _=_;rw[HG.out,hn];rfl
    clear HG C3;exact z23
   | true=>
    have HR:Hid (y=b3):=by show _=_;rw[HG.out,hn];rfl
    clear HG;go_wp2_with fail;refine tp (C3.out _ S.out (hcl.out trivial)) ?_;rintro e w3 ⟨rfl,hb⟩;refine z252 ?_;intro S;clear hb C3 F;go_wp2_with fail;exact ue (v:=.bool b3) (by simp[results,results43,go_sem]) rfl ⟨by rw[HR.out],S.out.below⟩
  ·have HR:Hid (y=false):=by show _=_;rw[HG.out,hn,vm h0];rfl
   have k:((n2:Int)==0)=false:=us.2 acw;clear HG C2 C3;exact z28
theorem Uj (Q:Nat->Prop) (x:Sel) (v:Value) (w:World) (h:RSelQ Q w x v) (hwf:x.Wf):Calls prog 51 #[v] w (Says (.bool x.chosen) w):=by
 obtain⟨ia,ic,fa,fc,oa,oc,wa,wc,ga,gc,sa,sc,rfl,h1,h2,h3,h4,h5,h6⟩:=h;obtain⟨fi,fo,fw,fg⟩:=hwf;have HG:Hid (x.chosen=(allR x.items 0 16 Pk.picked&&allR x.from_ 1 4 isName&&allR x.on ((x.from_.length:Int) - 1) ((x.from_.length:Int) - 1) Ex.good&&condR x.where_&&allR x.group 0 16 groupOk&&allR x.sort 0 16 Srt.okS&&decide (-1<=x.limit)&&decide (x.limit<=549755813887))):=rfl;obtain⟨y,hy⟩:∃y,x.chosen=y:=⟨_,rfl⟩;rw[hy]at HG ⊢;clear hy;have C:Hid (∀W,Below w.heap.size w W->Calls prog 117 #[.slice ia x.items.length ic,.int .i64 0,.int .i64 16,.func (.func 118) #[] #[]] W (Says (.bool (allR x.items 0 16 Pk.picked)) W)):=fun W hW=>
  Uw 118 Q Pk.picked 0 16 x.items _ W Ys (h1.kept acy hW) acy (fun W' a cs _ ha hin=>Sj Q a cs W' hin (fi a ha))
 have C2:Hid (∀W,Below w.heap.size w W->Calls prog 40 #[.slice fa x.from_.length fc,.int .i64 1,.int .i64 4,.func (.func 37) #[] #[]] W (Says (.bool (allR x.from_ 1 4 isName)) W)):=fun W hW=>
  I4 37 Q isName 1 4 x.from_ _ W Li (h2.kept acy hW) acy (fun W' a cs _ _ hin=>by
   have e:cs=[.string (Y a)]:=hin;subst e;exact Ah a W')
 have C3:Hid (∀W,Below w.heap.size w W->(x.from_.length:Int) - 1<=1000000->Calls prog 49 #[.slice oa x.on.length oc,.int .i64 ((x.from_.length:Int) - 1),.int .i64 ((x.from_.length:Int) - 1),.func (.func 50) #[] #[]] W (Says (.bool (allR x.on ((x.from_.length:Int) - 1) ((x.from_.length:Int) - 1) Ex.good)) W)):=fun W hW hl=>
  I3 50 Q Ex.good _ _ x.on _ W Qw (h3.kept acy hW) acw (fun W' a cs _ ha hin=>B6 Q a cs W' hin (fo a ha))
 have C4:Hid (∀W,Below w.heap.size w W->Calls prog 42 #[.agg #[.int .i64 x.where_.op,.string ⟨x.where_.table.toArray⟩,.string ⟨x.where_.name.toArray⟩,.int .i64 x.where_.val.k,.int .i64 x.where_.val.n,.string x.where_.val.s,.slice wa x.where_.args.length wc]] W (Says (.bool (condR x.where_)) W)):=fun W hW=>
  Es Q x.where_ [U x.where_.op,.string (Y x.where_.table),.string (Y x.where_.name),U x.where_.val.k,U x.where_.val.n,.string x.where_.val.s,.slice wa x.where_.args.length wc] W (by
   generalize x.where_=e at *;obtain⟨op,t,n,v,args⟩:=e;exact Bc (h4.kept hW)) fw
 have C5:Hid (∀W,Below w.heap.size w W->Calls prog 49 #[.slice ga x.group.length gc,.int .i64 0,.int .i64 16,.func (.func 119) #[] #[]] W (Says (.bool (allR x.group 0 16 groupOk)) W)):=fun W hW=>
  I3 119 Q groupOk 0 16 x.group _ W Yr (h5.kept acy hW) acy (fun W' a cs _ ha hin=>Xx Q a cs W' hin (fg a ha))
 have C6:Hid (∀W,Below w.heap.size w W->Calls prog 120 #[.slice sa x.sort.length sc,.int .i64 0,.int .i64 16,.func (.func 121) #[] #[]] W (Says (.bool (allR x.sort 0 16 Srt.okS)) W)):=fun W hW=>
  Uv 121 Q Srt.okS 0 16 x.sort _ W Yq (h6.kept acy hW) acy (fun W' a cs _ _ hin=>by
   have e:cs=[U a.place,.bool a.down]:=hin;subst e;exact Xd a W')
 have HF:Hid (allR x.from_ 1 4 isName=true->1<=x.from_.length/\x.from_.length<=4):=fun h=>by
  unfold allR at h;simp only[tr,uk]at h;omega
 clear h1 h2 h3 h4 h5 h6 fi fo fw fg;generalize allR x.items 0 16 Pk.picked=b at *;generalize allR x.from_ 1 4 isName=b2 at *;generalize allR x.on ((x.from_.length:Int) - 1) ((x.from_.length:Int) - 1) Ex.good=b3 at *;generalize condR x.where_=b4 at *;generalize allR x.group 0 16 groupOk=b5 at *;generalize allR x.sort 0 16 Srt.okS=b6 at *;generalize x.distinct=xd at *;generalize x.items.length=n1 at *;generalize x.from_.length=n2 at *;generalize x.on.length=n3 at *;generalize x.where_.op=op at *;generalize x.where_.table=wt at *;generalize x.where_.name=wn at *;generalize x.where_.val=wv at *;generalize x.where_.args.length=n4 at *;generalize x.group.length=n5 at *;generalize x.sort.length=n6 at *;generalize x.limit=lim at *;have S:Hid (St w (w.alloc (.cells #[.bool xd,.slice ia n1 ic,.slice fa n2 fc,.slice oa n3 oc,U op,.string (Y wt),.string (Y wn),U wv.k,U wv.n,.string wv.s,.slice wa n4 wc,.slice ga n5 gc,.slice sa n6 sc,U lim] 48)) [(w.heap.size,#[.bool xd,.slice ia n1 ic,.slice fa n2 fc,.slice oa n3 oc,U op,.string (Y wt),.string (Y wn),U wv.k,U wv.n,.string wv.s,.slice wa n4 wc,.slice ga n5 gc,.slice sa n6 sc,U lim],48)]):=St.alloc (St.start w);go_enter func51,ntmps51;go_wp2_with fail;refine tp (C.out _ S.out.below) ?_;rintro e w1 ⟨rfl,hb⟩;replace S:=tm (S.out.kept hb);clear hb C;have F:=fx_ S.out.facts
 cases b with
 | false=>
  have HR:Hid (y=false):=by show _=_;rw[HG.out];simp
  clear HG HF C2 C3 C4 C5 C6;exact z28
 | true=>
  go_wp2_with fail;refine tp (C2.out _ S.out.below) ?_;rintro e w2 ⟨rfl,hb⟩;replace S:=tm (S.out.kept hb);clear hb C2 F;have F:=fx_ S.out.facts
  cases b2 with
  | false=>
   have HR:Hid (y=false):=by show _=_;rw[HG.out];simp
   clear HG HF C3 C4 C5 C6;exact z28
  | true=>
   obtain⟨f,f⟩:=HF.out rfl;have hw:wrap64 ((n2:Int) - 1)=(n2:Int) - 1:=IntWalk.wrap64_in _ ⟨by omega,by omega⟩;go_wp2_with fail;refine tp (C3.out _ S.out.below acw) ?_;rintro e w3 ⟨rfl,hb⟩;replace S:=tm (S.out.kept hb);clear hb C3 F;have F:=fx_ S.out.facts
   cases b3 with
   | false=>
    have HR:Hid (y=false):=by show _=_;rw[HG.out];simp
    clear HG HF C4 C5 C6;exact z28
   | true=>
    go_wp2_with fail;refine tp (C4.out _ S.out.below) ?_;rintro e w4 ⟨rfl,hb⟩;replace S:=tm (S.out.kept hb);clear hb C4 F;have F:=fx_ S.out.facts
    cases b4 with
    | false=>
     have HR:Hid (y=false):=by show _=_;rw[HG.out];simp
     clear HG HF C5 C6;exact z28
    | true=>
     go_wp2_with fail;refine tp (C5.out _ S.out.below) ?_;rintro e w5 ⟨rfl,hb⟩;replace S:=tm (S.out.kept hb);clear hb C5 F;have F:=fx_ S.out.facts
     cases b5 with
     | false=>
      have HR:Hid (y=false):=by show _=_;rw[HG.out];simp
      clear HG HF C6;exact z28
     | true=>
      go_wp2_with fail;refine tp (C6.out _ S.out.below) ?_;rintro e w6 ⟨rfl,hb⟩;replace S:=tm (S.out.kept hb);clear hb C6 F;have F:=fx_ S.out.facts
      cases b6 with
      | false=>
       have HR:Hid (y=false):=by show _=_;rw[HG.out];simp
       clear HG HF;exact z28
      | true=>
       by_cases hl1:-1<=lim
       ·by_cases hl2:lim<=549755813887
        ·have HR:Hid (y=true):=by show _=_;rw[HG.out,vf hl1,vf hl2];rfl
         have k2:decide (lim<=549755813887)=true:=vf hl2;clear HG HF;exact z28
        ·have HR:Hid (y=false):=by show _=_;rw[HG.out,vm hl2];simp
         have k2:decide (lim<=549755813887)=false:=vm hl2;clear HG HF;exact z28
       ·have HR:Hid (y=false):=by show _=_;rw[HG.out,vm hl1];simp
        clear HG HF;exact z28
end Go.Proofs.YtimoefagohifaaaGreatDoor
