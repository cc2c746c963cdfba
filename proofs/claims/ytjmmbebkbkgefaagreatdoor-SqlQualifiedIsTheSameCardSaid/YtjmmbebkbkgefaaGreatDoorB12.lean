/- Part 12; the last part says what is proved. No condition. -/
import Derived.RegionTactic
import Derived.Test.YtjmmbebkbkgefaaGreatDoorB11
set_option linter.unusedVariables false
set_option linter.unusedSimpArgs false
set_option maxHeartbeats 8000000
set_option maxRecDepth 100000
namespace Go.Proofs.YtjmmbebkbkgefaaGreatDoor
open Go.RowKit Go.Sort Tryz
def exZ (op:Int) (t n:Bytes) (v:V) (m:Nat):Bool:=decide (op=0)&&decide (t=[])&&decide (n=[])&&decide (v=V.null)&&decide (m=0)
theorem Kf (op:Int) (t n:Bytes) (v:V) (a:Option Addr) (m c:Nat) (w:World):
 Calls prog 42 #[.agg #[.int .i64 op,.string ⟨t.toArray⟩,.string ⟨n.toArray⟩,.int .i64 v.k,.int .i64 v.n,.string v.s,.slice a m c]] w (Says (.bool (exZ op t n v m)) w):=by
 go_enter func42,ntmps42
 go_wp2_with fail
 all_goals go_returns
 all_goals refine⟨Dh ?_,by go_grown⟩
 all_goals(simp[exZ,V.null,V.ext_iff,Eg, *];try(cases m<;>simp<;>omega))
def SV.lists (s:SV):Nat:=s.ns.2.1+s.rs.2.1+s.es.2.1+s.s1.2.1+s.s2.2.1+s.s3.2.1+s.xi.2.1+s.xf.2.1+s.xo.2.1+s.xg.2.1+s.xs.2.1
def SV.unused (s:SV):Bool:=
 decide (s.lists=0)&&decide (s.tb++s.nm++s.s0=[])&&decide (s.c0=[]/\s.c1=0/\s.c2=false)&&!s.un&&exZ s.wo s.wt s.wn s.wv s.wa.2.1&&decide (s.md=0)&&!s.xd&&
  exZ s.yo s.yt s.yn s.yv s.ya.2.1&&decide (s.xl=0)
theorem St.swap {w0 w:World} {x y:Blk} {L:List Blk} (h:St w0 w (x::y::L)):St w0 w (y::x::L):=by
 refine⟨h.below,fun z hz=>h.own z (by simp only[List.mem_cons]at hz ⊢;rcases hz with h|h|h;exact .inr (.inl h);exact .inl h;exact .inr (.inr h)),?_⟩;have:=h.apart;simp only[List.map_cons,List.nodup_cons,List.mem_cons,not_or]at this ⊢;exact⟨⟨Ne.symm this.1.1,this.2.1⟩,this.1.2,this.2.2⟩
theorem Lk {w:World} {A B C:Array Value} {ta tb tc:TypeId}:St w ((((w.alloc (.cells A ta)).alloc (.cells B tb)).alloc (.cells C tc)).drew) [(w.heap.size+1+1,C,tc),(w.heap.size+1,B,tb),(w.heap.size,A,ta)]:=by
 have:=(St.alloc (St.alloc (St.alloc (St.start w) (cs:=A) (t:=ta)) (cs:=B) (t:=tb)) (cs:=C) (t:=tc)).kept (Below.drewN _ _ 1);simp only[World.size_alloc]at this;exact this
def SV.schA (s:SV):Array Value:=#[.string ⟨s.s0.toArray⟩,sl s.s1,sl s.s2,sl s.s3]
def SV.selA (s:SV):Array Value:=#[.bool s.xd,sl s.xi,sl s.xf,sl s.xo,.int .i64 s.yo,.string ⟨s.yt.toArray⟩,.string ⟨s.yn.toArray⟩,.int .i64 s.yv.k,.int .i64 s.yv.n,.string s.yv.s,sl s.ya,sl s.xg,sl s.xs,.int .i64 s.xl]
theorem Wu {w W:World} {s:SV} {b3 b4:Nat} (h:St w W [(b4,s.schA,36),(b3,s.selA,44),(w.heap.size,s.arr,46)]):
 W.cell? ⟨w.heap.size,10,none⟩=some (.slice s.ns.1 s.ns.2.1 s.ns.2.2)/\W.cell? ⟨w.heap.size,12,none⟩=some (.slice s.rs.1 s.rs.2.1 s.rs.2.2)/\W.cell? ⟨w.heap.size,13,none⟩=some (.slice s.es.1 s.es.2.1 s.es.2.2)/\W.cell? ⟨b4,1,none⟩=some (.slice s.s1.1 s.s1.2.1 s.s1.2.2)/\W.cell? ⟨b4,2,none⟩=some (.slice s.s2.1 s.s2.2.1 s.s2.2.2)/\W.cell? ⟨b4,3,none⟩=some (.slice s.s3.1 s.s3.2.1 s.s3.2.2)/\W.cell? ⟨b3,1,none⟩=some (.slice s.xi.1 s.xi.2.1 s.xi.2.2)/\W.cell? ⟨b3,2,none⟩=some (.slice s.xf.1 s.xf.2.1 s.xf.2.2)/\W.cell? ⟨b3,3,none⟩=some (.slice s.xo.1 s.xo.2.1 s.xo.2.2)/\W.cell? ⟨b3,11,none⟩=some (.slice s.xg.1 s.xg.2.1 s.xg.2.2)/\W.cell? ⟨b3,12,none⟩=some (.slice s.xs.1 s.xs.2.1 s.xs.2.2):=by
 have h0:=h.blk 0 rfl
 have h1:=h.blk 1 rfl
 have h2:=h.blk 2 rfl
 and_intros
 ·simp only[World.cell?,h2];rfl
 ·simp only[World.cell?,h2];rfl
 ·simp only[World.cell?,h2];rfl
 ·simp only[World.cell?,h0];rfl
 ·simp only[World.cell?,h0];rfl
 ·simp only[World.cell?,h0];rfl
 ·simp only[World.cell?,h1];rfl
 ·simp only[World.cell?,h1];rfl
 ·simp only[World.cell?,h1];rfl
 ·simp only[World.cell?,h1];rfl
 ·simp only[World.cell?,h1];rfl
theorem Ws {w W:World} {s:SV} {b3 b4:Nat} (h:St w W [(b4,s.schA,36),(b3,s.selA,44),(w.heap.size,s.arr,46)]):
 W.cell? ⟨w.heap.size,1,none⟩=some (.string ⟨s.tb.toArray⟩)/\W.cell? ⟨w.heap.size,2,none⟩=some (.string ⟨s.nm.toArray⟩)/\W.cell? ⟨w.heap.size,7,none⟩=some (.string ⟨s.c0.toArray⟩)/\W.cell? ⟨w.heap.size,8,none⟩=some (.int .i64 s.c1)/\W.cell? ⟨w.heap.size,9,none⟩=some (.bool s.c2)/\W.cell? ⟨w.heap.size,11,none⟩=some (.bool s.un)/\W.cell? ⟨b4,0,none⟩=some (.string ⟨s.s0.toArray⟩):=by
 have h0:=h.blk 0 rfl
 have h1:=h.blk 1 rfl
 have h2:=h.blk 2 rfl
 and_intros
 ·simp only[World.cell?,h2];rfl
 ·simp only[World.cell?,h2];rfl
 ·simp only[World.cell?,h2];rfl
 ·simp only[World.cell?,h2];rfl
 ·simp only[World.cell?,h2];rfl
 ·simp only[World.cell?,h2];rfl
 ·simp only[World.cell?,h0];rfl
theorem Nr {w W:World} {s:SV} {b3 b4:Nat} (h:St w W [(b4,s.schA,36),(b3,s.selA,44),(w.heap.size,s.arr,46)]):
 W.cell? ⟨w.heap.size,14,none⟩=some (.int .i64 s.wo)/\W.cell? ⟨w.heap.size,15,none⟩=some (.string ⟨s.wt.toArray⟩)/\W.cell? ⟨w.heap.size,16,none⟩=some (.string ⟨s.wn.toArray⟩)/\W.cell? ⟨w.heap.size,17,none⟩=some (.int .i64 s.wv.k)/\W.cell? ⟨w.heap.size,18,none⟩=some (.int .i64 s.wv.n)/\W.cell? ⟨w.heap.size,19,none⟩=some (.string s.wv.s)/\W.cell? ⟨w.heap.size,20,none⟩=some (.slice s.wa.1 s.wa.2.1 s.wa.2.2)/\W.cell? ⟨w.heap.size,35,none⟩=some (.int .i64 s.md)/\W.cell? ⟨b3,0,none⟩=some (.bool s.xd):=by
 have h0:=h.blk 0 rfl
 have h1:=h.blk 1 rfl
 have h2:=h.blk 2 rfl
 and_intros
 ·simp only[World.cell?,h2];rfl
 ·simp only[World.cell?,h2];rfl
 ·simp only[World.cell?,h2];rfl
 ·simp only[World.cell?,h2];rfl
 ·simp only[World.cell?,h2];rfl
 ·simp only[World.cell?,h2];rfl
 ·simp only[World.cell?,h2];rfl
 ·simp only[World.cell?,h2];rfl
 ·simp only[World.cell?,h1];rfl
theorem Wt {w W:World} {s:SV} {b3 b4:Nat} (h:St w W [(b4,s.schA,36),(b3,s.selA,44),(w.heap.size,s.arr,46)]):
 W.cell? ⟨b3,4,none⟩=some (.int .i64 s.yo)/\W.cell? ⟨b3,5,none⟩=some (.string ⟨s.yt.toArray⟩)/\W.cell? ⟨b3,6,none⟩=some (.string ⟨s.yn.toArray⟩)/\W.cell? ⟨b3,7,none⟩=some (.int .i64 s.yv.k)/\W.cell? ⟨b3,8,none⟩=some (.int .i64 s.yv.n)/\W.cell? ⟨b3,9,none⟩=some (.string s.yv.s)/\W.cell? ⟨b3,10,none⟩=some (.slice s.ya.1 s.ya.2.1 s.ya.2.2)/\W.cell? ⟨b3,13,none⟩=some (.int .i64 s.xl):=by
 have h0:=h.blk 0 rfl
 have h1:=h.blk 1 rfl
 have h2:=h.blk 2 rfl
 and_intros
 ·simp only[World.cell?,h1];rfl
 ·simp only[World.cell?,h1];rfl
 ·simp only[World.cell?,h1];rfl
 ·simp only[World.cell?,h1];rfl
 ·simp only[World.cell?,h1];rfl
 ·simp only[World.cell?,h1];rfl
 ·simp only[World.cell?,h1];rfl
 ·simp only[World.cell?,h1];rfl
theorem Lf (s:SV) (hl:s.lists<=4611686018427387904) (ht:s.tb.length+s.nm.length+s.s0.length<=4611686018427387904) (w:World):Calls prog 36 #[.agg s.arr] w (Says (.bool s.unused) w):=by
 have C1:=Lib.hid (fun W=>Kf s.wo s.wt s.wn s.wv s.wa.1 s.wa.2.1 s.wa.2.2 W);have C2:=Lib.hid (fun W=>Kf s.yo s.yt s.yn s.yv s.ya.1 s.ya.2.1 s.ya.2.2 W);obtain⟨y,hy⟩:∃y,s.unused=y:=⟨_,rfl⟩;have HU:Hid (y=s.unused):=hy.symm;rw[hy];clear hy;unfold SV.lists at hl
 have HF:Hid ((wrap64 ((s.ns.2.1:Int)+(s.rs.2.1:Int))=(s.ns.2.1:Int)+(s.rs.2.1:Int))/\(wrap64 ((s.ns.2.1:Int)+(s.rs.2.1:Int)+(s.es.2.1:Int))=(s.ns.2.1:Int)+(s.rs.2.1:Int)+(s.es.2.1:Int))/\(wrap64 ((s.ns.2.1:Int)+(s.rs.2.1:Int)+(s.es.2.1:Int)+(s.s1.2.1:Int))=(s.ns.2.1:Int)+(s.rs.2.1:Int)+(s.es.2.1:Int)+(s.s1.2.1:Int))/\(wrap64 ((s.ns.2.1:Int)+(s.rs.2.1:Int)+(s.es.2.1:Int)+(s.s1.2.1:Int)+(s.s2.2.1:Int))=(s.ns.2.1:Int)+(s.rs.2.1:Int)+(s.es.2.1:Int)+(s.s1.2.1:Int)+(s.s2.2.1:Int))/\(wrap64 ((s.ns.2.1:Int)+(s.rs.2.1:Int)+(s.es.2.1:Int)+(s.s1.2.1:Int)+(s.s2.2.1:Int)+(s.s3.2.1:Int))=(s.ns.2.1:Int)+(s.rs.2.1:Int)+(s.es.2.1:Int)+(s.s1.2.1:Int)+(s.s2.2.1:Int)+(s.s3.2.1:Int))/\(wrap64 ((s.ns.2.1:Int)+(s.rs.2.1:Int)+(s.es.2.1:Int)+(s.s1.2.1:Int)+(s.s2.2.1:Int)+(s.s3.2.1:Int)+(s.xi.2.1:Int))=(s.ns.2.1:Int)+(s.rs.2.1:Int)+(s.es.2.1:Int)+(s.s1.2.1:Int)+(s.s2.2.1:Int)+(s.s3.2.1:Int)+(s.xi.2.1:Int))/\(wrap64 ((s.ns.2.1:Int)+(s.rs.2.1:Int)+(s.es.2.1:Int)+(s.s1.2.1:Int)+(s.s2.2.1:Int)+(s.s3.2.1:Int)+(s.xi.2.1:Int)+(s.xf.2.1:Int))=(s.ns.2.1:Int)+(s.rs.2.1:Int)+(s.es.2.1:Int)+(s.s1.2.1:Int)+(s.s2.2.1:Int)+(s.s3.2.1:Int)+(s.xi.2.1:Int)+(s.xf.2.1:Int))/\(wrap64 ((s.ns.2.1:Int)+(s.rs.2.1:Int)+(s.es.2.1:Int)+(s.s1.2.1:Int)+(s.s2.2.1:Int)+(s.s3.2.1:Int)+(s.xi.2.1:Int)+(s.xf.2.1:Int)+(s.xo.2.1:Int))=(s.ns.2.1:Int)+(s.rs.2.1:Int)+(s.es.2.1:Int)+(s.s1.2.1:Int)+(s.s2.2.1:Int)+(s.s3.2.1:Int)+(s.xi.2.1:Int)+(s.xf.2.1:Int)+(s.xo.2.1:Int))/\(wrap64 ((s.ns.2.1:Int)+(s.rs.2.1:Int)+(s.es.2.1:Int)+(s.s1.2.1:Int)+(s.s2.2.1:Int)+(s.s3.2.1:Int)+(s.xi.2.1:Int)+(s.xf.2.1:Int)+(s.xo.2.1:Int)+(s.xg.2.1:Int))=(s.ns.2.1:Int)+(s.rs.2.1:Int)+(s.es.2.1:Int)+(s.s1.2.1:Int)+(s.s2.2.1:Int)+(s.s3.2.1:Int)+(s.xi.2.1:Int)+(s.xf.2.1:Int)+(s.xo.2.1:Int)+(s.xg.2.1:Int))/\(wrap64 ((s.ns.2.1:Int)+(s.rs.2.1:Int)+(s.es.2.1:Int)+(s.s1.2.1:Int)+(s.s2.2.1:Int)+(s.s3.2.1:Int)+(s.xi.2.1:Int)+(s.xf.2.1:Int)+(s.xo.2.1:Int)+(s.xg.2.1:Int)+(s.xs.2.1:Int))=(s.ns.2.1:Int)+(s.rs.2.1:Int)+(s.es.2.1:Int)+(s.s1.2.1:Int)+(s.s2.2.1:Int)+(s.s3.2.1:Int)+(s.xi.2.1:Int)+(s.xf.2.1:Int)+(s.xo.2.1:Int)+(s.xg.2.1:Int)+(s.xs.2.1:Int))):=⟨IntWalk.wrap64_in _ ⟨by omega,by omega⟩,IntWalk.wrap64_in _ ⟨by omega,by omega⟩,IntWalk.wrap64_in _ ⟨by omega,by omega⟩,IntWalk.wrap64_in _ ⟨by omega,by omega⟩,IntWalk.wrap64_in _ ⟨by omega,by omega⟩,IntWalk.wrap64_in _ ⟨by omega,by omega⟩,IntWalk.wrap64_in _ ⟨by omega,by omega⟩,IntWalk.wrap64_in _ ⟨by omega,by omega⟩,IntWalk.wrap64_in _ ⟨by omega,by omega⟩,IntWalk.wrap64_in _ ⟨by omega,by omega⟩⟩
 have HZ:Hid (¬9223372036854775807<s.tb.length+s.nm.length/\¬9223372036854775807<s.tb.length+s.nm.length+s.s0.length):=⟨by omega,by omega⟩;clear hl ht;show Calls prog 36 #[.agg (id s.arr)] w _;unfold SV.arr sl id;go_enter func36,ntmps36;go_wp2_with fail;go_upto_region 1 with fail;go_cut [3,4]from 5 (fun v3 v4 wc=>∃b3 b4:Nat,v3=.pointer (some ⟨b3,0,none⟩)/\v4=.pointer (some ⟨b4,0,none⟩)/\St w wc [(b4,s.schA,36),(b3,s.selA,44),(w.heap.size,s.arr,46)])
 case first=>
  go_region
  ·go_wp2_with fail;go_meet;refine⟨_,_,rfl,rfl,?_⟩;have e:=@Lk w s.arr s.selA s.schA 46 44 36;unfold SV.arr SV.selA SV.schA sl at e ⊢;with_reducible exact e
  ·go_wp2_with fail;go_meet;refine⟨_,_,rfl,rfl,?_⟩;have e:=St.swap (@Lk w s.arr s.schA s.selA 46 36 44);unfold SV.arr SV.selA SV.schA sl at e ⊢;with_reducible exact e
 case rest=>
  obtain⟨b3,b4,rfl,rfl,hS⟩:=hcut;have S1:=Lib.hid hS;clear hS;go_upto_region 2 with fail;go_cut [5]from 6 (fun v wx=>v=.int .i64 ((s.ns.2.1:Int)+(s.rs.2.1:Int)+(s.es.2.1:Int)+(s.s1.2.1:Int)+(s.s2.2.1:Int)+(s.s3.2.1:Int)+(s.xi.2.1:Int)+(s.xf.2.1:Int)+(s.xo.2.1:Int)+(s.xg.2.1:Int)+(s.xs.2.1:Int))/\wx=wc)
  case first=>
   obtain⟨w2,w3,w4,w5,w6,w7,w8,w9,w10,w11⟩:=HF.out;obtain⟨x0,x1,x2,x3,x4,x5,x6,x7,x8,x9,x10⟩:=Wu S1.out;clear HF HU C1 C2 HZ;go_wp2_with fail;go_meet;exact⟨by rw[w11],rfl⟩
  case rest=>
   obtain⟨rfl,rfl⟩:=hcut;clear HF;obtain⟨x0,x1,x2,x3,x4,x5,x6⟩:=Ws S1.out;by_cases h0:s.ns.2.1+s.rs.2.1+s.es.2.1+s.s1.2.1+s.s2.2.1+s.s3.2.1+s.xi.2.1+s.xf.2.1+s.xo.2.1+s.xg.2.1+s.xs.2.1=0
   ·have k0:(s.ns.2.1:Int)+(s.rs.2.1:Int)+(s.es.2.1:Int)+(s.s1.2.1:Int)+(s.s2.2.1:Int)+(s.s3.2.1:Int)+(s.xi.2.1:Int)+(s.xf.2.1:Int)+(s.xo.2.1:Int)+(s.xg.2.1:Int)+(s.xs.2.1:Int)=0:=by omega
    rw[k0];by_cases h1:s.tb++s.nm++s.s0=[]
    ·obtain⟨h12,e3⟩:=List.append_eq_nil_iff.1 h1;obtain⟨e1,e2⟩:=List.append_eq_nil_iff.1 h12;have ec:(⟨#[]⟩:ByteArray)++⟨#[]⟩=⟨#[]⟩:=by rw[ByteArray.mk_append_mk [] []];rfl
     rw[e1]at x0;rw[e2]at x1;rw[e3]at x6;clear HZ h12;by_cases h2:s.c0=[]/\s.c1=0/\s.c2=false
     ·have h2':=h2;obtain⟨d1,d2,d3⟩:=h2;rw[d1]at x2;rw[d2]at x3;rw[d3]at x4
      cases h3:s.un with
      | false=>
       rw[h3]at x5;obtain⟨u0,u1,u2,u3,u4,u5,u6,u7,u8⟩:=Nr S1.out;go_wp2_with fail;refine Calls.mono (C1.out _) ?_;rintro e w2 ⟨rfl,hb2⟩;have S2:=Lib.hid (S1.out.kept hb2);clear hb2 S1 x0 x1 x2 x3 x4 x5 x6 u0 u1 u2 u3 u4 u5 u6 u7 u8;obtain⟨u0,u1,u2,u3,u4,u5,u6,u7,u8⟩:=Nr S2.out
       cases h4:exZ s.wo s.wt s.wn s.wv s.wa.2.1 with
       | false=>
        have HR:Hid (y=false):=by show _=_;rw[HU.out];exact Bool.eq_false_iff.2 (fun h=>by simp only[SV.unused,Bool.and_eq_true,decide_eq_true_eq,Bool.not_eq_true']at h;exact absurd h.1.1.1.1.2 (by rw[h4];decide))
        clear HU C1 C2;go_wp2_with fail;all_goals go_returns
        all_goals exact⟨by rw[HR.out];rfl,S2.out.below⟩
       | true=>
        clear C1;by_cases h5:s.md=0
        ·rw[h5]at u7
         cases h6:s.xd with
         | false=>
          rw[h6]at u8;obtain⟨v0,v1,v2,v3,v4,v5,v6,v7⟩:=Wt S2.out;go_wp2_with fail;refine Calls.mono (C2.out _) ?_;rintro e w3 ⟨rfl,hb3⟩;have S3:=Lib.hid (S2.out.kept hb3);clear hb3 S2 u0 u1 u2 u3 u4 u5 u6 u7 u8 v0 v1 v2 v3 v4 v5 v6 v7;obtain⟨v0,v1,v2,v3,v4,v5,v6,v7⟩:=Wt S3.out
          cases h7:exZ s.yo s.yt s.yn s.yv s.ya.2.1 with
          | false=>
           have HR:Hid (y=false):=by show _=_;rw[HU.out];exact Bool.eq_false_iff.2 (fun h=>by simp only[SV.unused,Bool.and_eq_true,decide_eq_true_eq,Bool.not_eq_true']at h;exact absurd h.1.2 (by rw[h7];decide))
           clear HU C2;go_wp2_with fail;all_goals go_returns
           all_goals exact⟨by rw[HR.out];rfl,S3.out.below⟩
          | true=>
           by_cases h8:s.xl=0
           ·have HR:Hid (y=true):=by
             show _=_;rw[HU.out];unfold SV.unused;rw[decide_eq_true (show s.lists=0 from h0),decide_eq_true h1,decide_eq_true h2',h3,h4,decide_eq_true h5,h6,h7,decide_eq_true h8];rfl
            rw[h8]at v7;clear HU C2;go_wp2_with fail;all_goals go_returns
            all_goals exact⟨by rw[HR.out];rfl,S3.out.below⟩
           ·have kx:(s.xl==0)=false:=beq_eq_false_iff_ne.2 h8;have HR:Hid (y=false):=by show _=_;rw[HU.out];exact Bool.eq_false_iff.2 (fun h=>by simp only[SV.unused,Bool.and_eq_true,decide_eq_true_eq,Bool.not_eq_true']at h;exact h8 h.2)
            clear HU C2;go_wp2_with fail;all_goals go_returns
            all_goals exact⟨by rw[HR.out];rfl,S3.out.below⟩
         | true=>
          rw[h6]at u8;have HR:Hid (y=false):=by show _=_;rw[HU.out];exact Bool.eq_false_iff.2 (fun h=>by simp only[SV.unused,Bool.and_eq_true,decide_eq_true_eq,Bool.not_eq_true']at h;exact absurd h.1.1.2 (by rw[h6];decide))
          clear HU C2;go_wp2_with fail;all_goals go_returns
          all_goals exact⟨by rw[HR.out];rfl,S2.out.below⟩
        ·skip;have HR:Hid (y=false):=by show _=_;rw[HU.out];exact Bool.eq_false_iff.2 (fun h=>by simp only[SV.unused,Bool.and_eq_true,decide_eq_true_eq,Bool.not_eq_true']at h;exact h5 h.1.1.1.2)
         clear HU C2;go_wp2_with fail;all_goals go_returns
         all_goals exact⟨by rw[HR.out];rfl,S2.out.below⟩
      | true=>
       rw[h3]at x5;have HR:Hid (y=false):=by show _=_;rw[HU.out];exact Bool.eq_false_iff.2 (fun h=>by simp only[SV.unused,Bool.and_eq_true,decide_eq_true_eq,Bool.not_eq_true']at h;exact absurd h.1.1.1.1.1.2 (by rw[h3];decide))
       clear HU C1 C2;go_wp2_with fail;all_goals go_returns
       all_goals exact⟨by rw[HR.out];rfl,S1.out.below⟩
     ·have hr3:¬s.c0=[]\/(s.c0=[]/\¬s.c1=0)\/(s.c0=[]/\s.c1=0/\s.c2=true):=by
       by_cases a1:s.c0=[]
       ·by_cases a2:s.c1=0
        ·exact .inr (.inr ⟨a1,a2,by cases a3:s.c2 with|true=>rfl|false=>exact absurd ⟨a1,a2,a3⟩ h2⟩)
        ·exact .inr (.inl ⟨a1,a2⟩)
       ·exact .inl a1
      have HR:Hid (y=false):=by show _=_;rw[HU.out];exact Bool.eq_false_iff.2 (fun h=>by simp only[SV.unused,Bool.and_eq_true,decide_eq_true_eq,Bool.not_eq_true']at h;exact h2 h.1.1.1.1.1.1.2)
      clear HU C1 C2;rcases hr3 with a1|⟨a1,a2⟩|⟨a1,a2,a3⟩
      ·skip;go_wp2_with fail;all_goals go_returns
       all_goals exact⟨by rw[HR.out];rfl,S1.out.below⟩
      ·skip;rw[a1]at x2;go_wp2_with fail;all_goals go_returns
       all_goals exact⟨by rw[HR.out];rfl,S1.out.below⟩
      ·skip;rw[a1]at x2;rw[a2]at x3;rw[a3]at x4;go_wp2_with fail;all_goals go_returns
       all_goals exact⟨by rw[HR.out];rfl,S1.out.below⟩
    ·obtain⟨z1,z2⟩:=HZ.out;have k1:¬(s.tb=[]/\s.nm=[]/\s.s0=[]):=fun h=>h1 (by rw[h.1,h.2.1,h.2.2];rfl);have e1:=ByteArray.mk_append_mk s.tb s.nm;have e2:=ByteArray.mk_append_mk (s.tb++s.nm) s.s0;have HR:Hid (y=false):=by show _=_;rw[HU.out];exact Bool.eq_false_iff.2 (fun h=>by simp only[SV.unused,Bool.and_eq_true,decide_eq_true_eq,Bool.not_eq_true']at h;exact h1 h.1.1.1.1.1.1.1.2)
     clear HU C1 C2 HZ;go_wp2_with fail;all_goals go_returns
     all_goals exact⟨by rw[HR.out];rfl,S1.out.below⟩
   ·have k0:¬((s.ns.2.1:Int)+(s.rs.2.1:Int)+(s.es.2.1:Int)+(s.s1.2.1:Int)+(s.s2.2.1:Int)+(s.s3.2.1:Int)+(s.xi.2.1:Int)+(s.xf.2.1:Int)+(s.xo.2.1:Int)+(s.xg.2.1:Int)+(s.xs.2.1:Int)=0):=by omega
    have HR:Hid (y=false):=by show _=_;rw[HU.out];exact Bool.eq_false_iff.2 (fun h=>by simp only[SV.unused,Bool.and_eq_true,decide_eq_true_eq,Bool.not_eq_true']at h;exact(show ¬s.lists=0 from h0) h.1.1.1.1.1.1.1.1)
    clear HU C1 C2 HZ;go_wp2_with fail;all_goals go_returns
    all_goals exact⟨by rw[HR.out];rfl,S1.out.below⟩
theorem Rm (Q:Nat->Prop) (e:Ex):∀(cs:List Value) (w:World),ExIn Q w e cs->e.Wf->Calls prog 87 #[.agg cs.toArray] w (Says (.bool e.formed) w):=by
 refine Ex.ind (P:=fun e=>∀(cs:List Value) (w:World),ExIn Q w e cs->e.Wf->Calls prog 87 #[.agg cs.toArray] w (Says (.bool e.formed) w)) ?_ e;intro op t n v args ih cs w h hwf;obtain⟨⟨ht,hn⟩,hv,hargs⟩:=hwf;have hwa:∀a∈args,a.Wf:=L7 hargs;obtain⟨v0,rfl,hsl⟩:=A6 h;have hr:=Az hsl;obtain⟨ad,ac,rfl⟩:=hr.slice;have HC:Hid (args.length<=1000000->∀W,Below w.heap.size w W->Calls prog 84 #[.slice ad args.length ac,.func (.func 160) #[] #[]] W (Says (.bool (args.any fun a=>!a.formed)) W)):=by
  intro hl W hW;refine contains113_plain 160 Q (fun a=>!a.formed) args _ W V1 (hr.kept (by decide) hW) (by omega) ?_;intro W' a cs' hW' ha hin;exact notFormed_any Q a cs' W' hin (fun cs2 W2 h2=>ih a ha cs2 W2 h2 (hwa a ha))
 show Calls prog 87 #[.agg #[.int .i64 op,.string ⟨t.toArray⟩,.string ⟨n.toArray⟩,.int .i64 v.k,.int .i64 v.n,.string v.s,.slice ad args.length ac]] w _;have hnt:n.length+t.length<=4611686018427387904:=by omega
 by_cases h0:op<1\/15<op
 ·exact Rl h0 hv hnt HC
 by_cases h1:op=1
 ·subst h1;exact X9 hv hnt HC
 by_cases h2:op=2
 ·subst h2;exact X8 hv hnt HC
 by_cases h14:op=14
 ·subst h14;exact Vj hv hnt HC
 by_cases h15:op=15
 ·subst h15;exact Vi hv hnt HC
 exact Vh (by omega) (by omega) hv hnt HC
theorem Ep {Q:Nat->Prop} {w:World} {e:Ex} {cs:List Value} (h:ExIn Q w e cs):∃a c,cs=[.int .i64 e.op,.string ⟨e.table.toArray⟩,.string ⟨e.name.toArray⟩,.int .i64 e.val.k,.int .i64 e.val.n,.string e.val.s,.slice a e.args.length c]:=by
 obtain⟨op,t,n,v,args⟩:=e;obtain⟨v0,rfl,hsl⟩:=A6 h;obtain⟨ad,ac,rfl⟩:=(Az hsl).slice;exact⟨ad,ac,rfl⟩
theorem Cd (Q:Nat->Prop) (e:Ex) (cs:List Value) (w:World) (h:ExIn Q w e cs) (hwf:e.Wf):Calls prog 34 #[.agg cs.toArray] w (Says (.bool e.good) w):=by
 obtain⟨a,c,rfl⟩:=Ep h;have C1:=Lib.hid (fun W (hW:Below w.heap.size w W)=>W6 Q e _ 200 W (h.kept hW) hwf (by decide) (by decide));have C2:=Lib.hid (fun W (hW:Below w.heap.size w W)=>Rm Q e _ W (h.kept hW) hwf);have HG:Hid (e.good=(decide (sizeE e 200<=200)&&e.formed)):=rfl;obtain⟨y,hy⟩:∃y,e.good=y:=⟨_,rfl⟩;rw[hy]at HG ⊢;generalize sizeE e 200=z at *;generalize e.formed=f at *;generalize e.op=op at *;generalize e.table=t at *;generalize e.name=n at *;generalize e.val=v at *;generalize e.args.length=m at *;clear h hwf hy;show Calls prog 34 #[.agg #[.int .i64 op,.string ⟨t.toArray⟩,.string ⟨n.toArray⟩,.int .i64 v.k,.int .i64 v.n,.string v.s,.slice a m c]] w _;have S0:Hid (St w (w.alloc (.cells #[.int .i64 op,.string ⟨t.toArray⟩,.string ⟨n.toArray⟩,.int .i64 v.k,.int .i64 v.n,.string v.s,.slice a m c] 27)) [(w.heap.size,#[.int .i64 op,.string ⟨t.toArray⟩,.string ⟨n.toArray⟩,.int .i64 v.k,.int .i64 v.n,.string v.s,.slice a m c],27)]):=St.alloc (St.start w);go_enter func34,ntmps34;go_wp2_with fail;refine Calls.mono (C1.out _ S0.out.below) ?_;rintro e w1 ⟨rfl,hb1⟩;have S1:=Lib.hid (S0.out.kept hb1);clear hb1 S0;have F1:=S1.out.facts;simp only[St.Facts,cellFacts,apartFacts,and_true]at F1;by_cases hz:z<=200
 ·have HR:Hid (y=f):=by show _=_;rw[HG.out,decide_eq_true hz,Bool.true_and]
  go_wp2_with fail;refine Calls.mono (C2.out _ S1.out.below) ?_;rintro e w2 ⟨rfl,hb2⟩;have S2:=Lib.hid (S1.out.kept hb2);clear hb2 S1 F1 HG C1 C2;go_wp2_with fail;exact bodyPost_ret (v:=.bool f) (by simp[results,results34,go_sem]) rfl ⟨by rw[HR.out],S2.out.below⟩
 ·have HR:Hid (y=false):=by show _=_;rw[HG.out,decide_eq_false hz,Bool.false_and]
  clear HG C1 C2;go_wp2_with fail;go_returns;exact⟨by rw[HR.out];rfl,S1.out.below⟩
theorem Yq:En 21:=enters_of func21 (by kernel_rfl) rfl
theorem Yo:En 34:=enters_of func34 (by kernel_rfl) rfl
theorem V4:En 89:=enters_of func89 (by kernel_rfl) rfl
theorem V3:En 90:=enters_of func90 (by kernel_rfl) rfl
theorem V2:En 92:=enters_of func92 (by kernel_rfl) rfl
theorem La (Q:Nat->Prop) (e:Ex) (cs:List Value) (w:World) (h:ExIn Q w e cs) (hwf:e.Wf):Calls prog 26 #[.agg cs.toArray] w (Says (.bool (condR e)) w):=by
 obtain⟨a,c,rfl⟩:=Ep h;have C1:=Lib.hid (fun W (hW:Below w.heap.size w W)=>El Q e _ W (h.kept hW));have C2:=Lib.hid (fun W (hW:Below w.heap.size w W)=>Cd Q e _ W (h.kept hW) hwf);have HG:Hid (condR e=(e.isZero||e.good)):=rfl;obtain⟨y,hy⟩:∃y,condR e=y:=⟨_,rfl⟩;rw[hy]at HG ⊢;generalize e.isZero=z at *;generalize e.good=f at *;generalize e.op=op at *;generalize e.table=t at *;generalize e.name=n at *;generalize e.val=v at *;generalize e.args.length=m at *;clear h hwf hy;show Calls prog 26 #[.agg #[.int .i64 op,.string ⟨t.toArray⟩,.string ⟨n.toArray⟩,.int .i64 v.k,.int .i64 v.n,.string v.s,.slice a m c]] w _;have S0:Hid (St w (w.alloc (.cells #[.int .i64 op,.string ⟨t.toArray⟩,.string ⟨n.toArray⟩,.int .i64 v.k,.int .i64 v.n,.string v.s,.slice a m c] 27)) [(w.heap.size,#[.int .i64 op,.string ⟨t.toArray⟩,.string ⟨n.toArray⟩,.int .i64 v.k,.int .i64 v.n,.string v.s,.slice a m c],27)]):=St.alloc (St.start w);go_enter func26,ntmps26;go_wp2_with fail;refine Calls.mono (C1.out _ S0.out.below) ?_;rintro e w1 ⟨rfl,hb1⟩;have S1:=Lib.hid (S0.out.kept hb1);clear hb1 S0;have F1:=S1.out.facts;simp only[St.Facts,cellFacts,apartFacts,and_true]at F1
 cases z with
 | false=>
  have HR:Hid (y=f):=by show _=_;rw[HG.out,Bool.false_or]
  go_wp2_with fail;refine Calls.mono (C2.out _ S1.out.below) ?_;rintro e w2 ⟨rfl,hb2⟩;have S2:=Lib.hid (S1.out.kept hb2);clear hb2 S1 F1 HG C1 C2;go_wp2_with fail;exact bodyPost_ret (v:=.bool f) (by simp[results,results26,go_sem]) rfl ⟨by rw[HR.out],S2.out.below⟩
 | true=>
  have HR:Hid (y=true):=by show _=_;rw[HG.out,Bool.true_or]
  clear HG C1 C2;go_wp2_with fail;go_returns;exact⟨by rw[HR.out];rfl,S1.out.below⟩
theorem Ql (Q:Nat->Prop) (p:Pk) (cs:List Value) (w:World) (h:pkE.In Q w p cs) (hwf:p.arg.Wf):Calls prog 89 #[.agg cs.toArray] w (Says (.bool p.picked) w):=by
 obtain⟨c0,rfl,h⟩:=h;obtain⟨a,c,rfl⟩:=Ep h;have C1:=Lib.hid (fun W (hW:Below w.heap.size w W)=>El Q p.arg _ W (h.kept hW));have C2:=Lib.hid (fun W (hW:Below w.heap.size w W)=>Cd Q p.arg _ W (h.kept hW) hwf);have HG:Hid (p.picked=if p.fn=1 then p.arg.isZero else decide (0<=p.fn)&&decide (p.fn<=4)&&p.arg.good):=rfl;obtain⟨y,hy⟩:∃y,p.picked=y:=⟨_,rfl⟩;rw[hy]at HG ⊢;generalize p.arg.isZero=z at *;generalize p.arg.good=f at *;generalize p.arg.op=op at *;generalize p.arg.table=t at *;generalize p.arg.name=n at *;generalize p.arg.val=v at *;generalize p.arg.args.length=m at *;generalize p.fn=fn at *;clear h hwf hy;show Calls prog 89 #[.agg #[.int .i64 fn,.int .i64 op,.string ⟨t.toArray⟩,.string ⟨n.toArray⟩,.int .i64 v.k,.int .i64 v.n,.string v.s,.slice a m c]] w _;have S0:Hid (St w (w.alloc (.cells #[.int .i64 fn,.int .i64 op,.string ⟨t.toArray⟩,.string ⟨n.toArray⟩,.int .i64 v.k,.int .i64 v.n,.string v.s,.slice a m c] 70)) [(w.heap.size,#[.int .i64 fn,.int .i64 op,.string ⟨t.toArray⟩,.string ⟨n.toArray⟩,.int .i64 v.k,.int .i64 v.n,.string v.s,.slice a m c],70)]):=St.alloc (St.start w);by_cases h1:fn=1
 ·have HR:Hid (y=z):=by show _=_;rw[HG.out,if_pos h1]
  subst h1;go_enter func89,ntmps89;go_wp2_with fail;refine Calls.mono (C1.out _ S0.out.below) ?_;rintro e w1 ⟨rfl,hb1⟩;have S1:=Lib.hid (S0.out.kept hb1);clear hb1 S0 HG C1 C2;go_wp2_with fail;exact bodyPost_ret (v:=.bool z) (by simp[results,results89,go_sem]) rfl ⟨by rw[HR.out],S1.out.below⟩
 ·by_cases h2:0<=fn/\fn<=4
  ·have HR:Hid (y=f):=by show _=_;rw[HG.out,if_neg h1,decide_eq_true h2.1,decide_eq_true h2.2];rfl
   obtain⟨h2,h3⟩:=h2;go_enter func89,ntmps89;go_wp2_with fail;refine Calls.mono (C2.out _ S0.out.below) ?_;rintro e w1 ⟨rfl,hb1⟩;have S1:=Lib.hid (S0.out.kept hb1);clear hb1 S0 HG C1 C2;go_wp2_with fail;exact bodyPost_ret (v:=.bool f) (by simp[results,results89,go_sem]) rfl ⟨by rw[HR.out],S1.out.below⟩
  ·have HR:Hid (y=false):=by
    show _=_;rw[HG.out,if_neg h1];have:(decide (0<=fn)&&decide (fn<=4))=false:=by rw[Bool.eq_false_iff];intro h;simp at h;exact h2 h
    rw[this];rfl
   have h3:fn<0\/4<fn:=by omega
   clear HG C1 C2 h2;rcases h3 with h3|h3
   all_goals
    go_enter func89,ntmps89
    go_wp2_with fail
    go_returns
    exact⟨by rw[HR.out];rfl,S0.out.below⟩
theorem Vg (Q:Nat->Prop) (e:Ex) (cs:List Value) (w:World) (h:ExIn Q w e cs) (hwf:e.Wf):Calls prog 90 #[.agg cs.toArray] w (Says (.bool (groupOk e)) w):=by
 obtain⟨a,c,rfl⟩:=Ep h;have C2:=Lib.hid (fun W (hW:Below w.heap.size w W)=>Cd Q e _ W (h.kept hW) hwf);have HG:Hid (groupOk e=(decide (e.op=1)&&e.good)):=rfl;obtain⟨y,hy⟩:∃y,groupOk e=y:=⟨_,rfl⟩;rw[hy]at HG ⊢;generalize e.good=f at *;generalize e.op=op at *;generalize e.table=t at *;generalize e.name=n at *;generalize e.val=v at *;generalize e.args.length=m at *;clear h hwf hy;show Calls prog 90 #[.agg #[.int .i64 op,.string ⟨t.toArray⟩,.string ⟨n.toArray⟩,.int .i64 v.k,.int .i64 v.n,.string v.s,.slice a m c]] w _;have S0:Hid (St w (w.alloc (.cells #[.int .i64 op,.string ⟨t.toArray⟩,.string ⟨n.toArray⟩,.int .i64 v.k,.int .i64 v.n,.string v.s,.slice a m c] 27)) [(w.heap.size,#[.int .i64 op,.string ⟨t.toArray⟩,.string ⟨n.toArray⟩,.int .i64 v.k,.int .i64 v.n,.string v.s,.slice a m c],27)]):=St.alloc (St.start w);by_cases h1:op=1
 ·have HR:Hid (y=f):=by show _=_;rw[HG.out,decide_eq_true h1,Bool.true_and]
  subst h1;go_enter func90,ntmps90;go_wp2_with fail;refine Calls.mono (C2.out _ S0.out.below) ?_;rintro e w1 ⟨rfl,hb1⟩;have S1:=Lib.hid (S0.out.kept hb1);clear hb1 S0 HG C2;go_wp2_with fail;exact bodyPost_ret (v:=.bool f) (by simp[results,results90,go_sem]) rfl ⟨by rw[HR.out],S1.out.below⟩
 ·have HR:Hid (y=false):=by show _=_;rw[HG.out,decide_eq_false h1,Bool.false_and]
  have k1:(op==1)=false:=beq_eq_false_iff_ne.2 h1;clear HG C2;go_enter func90,ntmps90;go_wp2_with fail;all_goals go_returns
  all_goals exact⟨by rw[HR.out];rfl,S0.out.below⟩
theorem Uz (s:Srt) (w:World):Calls prog 92 #[.agg #[.int .i64 s.place,.bool s.down]] w (Says (.bool s.okS) w):=by
 have HG:Hid (s.okS=(decide (0<=s.place)&&decide (s.place<=549755813887))):=rfl;obtain⟨y,hy⟩:∃y,s.okS=y:=⟨_,rfl⟩;rw[hy]at HG ⊢;obtain⟨pl,dn⟩:=s;simp only at *;clear hy;by_cases h1:0<=pl
 ·by_cases h2:pl<=549755813887
  ·have HR:Hid (y=true):=by show _=_;rw[HG.out,decide_eq_true h1,decide_eq_true h2];rfl
   have k2:decide (pl<=549755813887)=true:=decide_eq_true h2;clear HG;go_enter func92,ntmps92;go_wp2_with fail;all_goals go_returns
   all_goals exact⟨by rw[HR.out];rfl,by go_grown⟩
  ·have HR:Hid (y=false):=by show _=_;rw[HG.out,decide_eq_true h1,decide_eq_false h2];rfl
   have k2:decide (pl<=549755813887)=false:=decide_eq_false h2;clear HG;go_enter func92,ntmps92;go_wp2_with fail;all_goals go_returns
   all_goals exact⟨by rw[HR.out];rfl,by go_grown⟩
 ·have HR:Hid (y=false):=by show _=_;rw[HG.out,decide_eq_false h1];rfl
  clear HG;go_enter func92,ntmps92;go_wp2_with fail;all_goals go_returns
  all_goals exact⟨by rw[HR.out];rfl,by go_grown⟩
def RTblI (Q:Nat->Prop) (w:World) (t:Tbl) (v:Value):Prop:=∃ca cc ia ic ka kc,v=.agg #[.string ⟨t.name.toArray⟩,.slice ca t.cols.length cc,.slice ia t.indexes.length ic,.slice ka t.checks.length kc]/\RSl colE Q w (.slice ca t.cols.length cc) t.cols/\RSl chkE Q w (.slice ka t.checks.length kc) t.checks
theorem RTblQ.toI {Q:Nat->Prop} {w:World} {t:Tbl} {v:Value} (h:RTblQ Q w t v):RTblI Q w t v:=by
 obtain⟨ca,cc,ka,kc,h1,h2,h3,h4⟩:=h;exact⟨ca,cc,none,0,ka,kc,by rw[h2];exact h1,h3,h4⟩
theorem Ry (Q:Nat->Prop) (x:Sel) (v:Value) (w:World) (h:RSelQ Q w x v) (hwf:x.Wf):Calls prog 35 #[v] w (Says (.bool x.chosen) w):=by
 obtain⟨ia,ic,fa,fc,oa,oc,wa,wc,ga,gc,sa,sc,rfl,h1,h2,h3,h4,h5,h6⟩:=h;obtain⟨fi,fo,fw,fg⟩:=hwf;have HG:Hid (x.chosen=(allR x.items 0 16 Pk.picked&&allR x.from_ 1 4 isName&&allR x.on ((x.from_.length:Int) - 1) ((x.from_.length:Int) - 1) Ex.good&&condR x.where_&&allR x.group 0 16 groupOk&&allR x.sort 0 16 Srt.okS&&decide (-1<=x.limit)&&decide (x.limit<=549755813887))):=rfl;obtain⟨y,hy⟩:∃y,x.chosen=y:=⟨_,rfl⟩;rw[hy]at HG ⊢;clear hy;have C1:Hid (∀W,Below w.heap.size w W->Calls prog 88 #[.slice ia x.items.length ic,.int .i64 0,.int .i64 16,.func (.func 89) #[] #[]] W (Says (.bool (allR x.items 0 16 Pk.picked)) W)):=fun W hW=>
  Se 89 Q Pk.picked 0 16 x.items _ W V4 (h1.kept (by decide) hW) (by decide) (fun W' a cs _ ha hin=>Ql Q a cs W' hin (fi a ha))
 have C2:Hid (∀W,Below w.heap.size w W->Calls prog 24 #[.slice fa x.from_.length fc,.int .i64 1,.int .i64 4,.func (.func 21) #[] #[]] W (Says (.bool (allR x.from_ 1 4 isName)) W)):=fun W hW=>
  Wo 21 Q isName 1 4 x.from_ _ W Yq (h2.kept (by decide) hW) (by decide) (fun W' a cs _ _ hin=>by
   have e:cs=[.string ⟨a.toArray⟩]:=hin;subst e;exact Av a W')
 have C3:Hid (∀W,Below w.heap.size w W->(x.from_.length:Int) - 1<=1000000->Calls prog 33 #[.slice oa x.on.length oc,.int .i64 ((x.from_.length:Int) - 1),.int .i64 ((x.from_.length:Int) - 1),.func (.func 34) #[] #[]] W (Says (.bool (allR x.on ((x.from_.length:Int) - 1) ((x.from_.length:Int) - 1) Ex.good)) W)):=fun W hW hl=>
  Me 34 Q Ex.good _ _ x.on _ W Yo (h3.kept (by decide) hW) (by omega) (fun W' a cs _ ha hin=>Cd Q a cs W' hin (fo a ha))
 have C4:Hid (∀W,Below w.heap.size w W->Calls prog 26 #[.agg #[.int .i64 x.where_.op,.string ⟨x.where_.table.toArray⟩,.string ⟨x.where_.name.toArray⟩,.int .i64 x.where_.val.k,.int .i64 x.where_.val.n,.string x.where_.val.s,.slice wa x.where_.args.length wc]] W (Says (.bool (condR x.where_)) W)):=fun W hW=>
  La Q x.where_ [.int .i64 x.where_.op,.string ⟨x.where_.table.toArray⟩,.string ⟨x.where_.name.toArray⟩,.int .i64 x.where_.val.k,.int .i64 x.where_.val.n,.string x.where_.val.s,.slice wa x.where_.args.length wc] W (by
   generalize x.where_=e at *;obtain⟨op,t,n,v,args⟩:=e;exact Bc (h4.kept hW)) fw
 have C5:Hid (∀W,Below w.heap.size w W->Calls prog 33 #[.slice ga x.group.length gc,.int .i64 0,.int .i64 16,.func (.func 90) #[] #[]] W (Says (.bool (allR x.group 0 16 groupOk)) W)):=fun W hW=>
  Me 90 Q groupOk 0 16 x.group _ W V3 (h5.kept (by decide) hW) (by decide) (fun W' a cs _ ha hin=>Vg Q a cs W' hin (fg a ha))
 have C6:Hid (∀W,Below w.heap.size w W->Calls prog 91 #[.slice sa x.sort.length sc,.int .i64 0,.int .i64 16,.func (.func 92) #[] #[]] W (Says (.bool (allR x.sort 0 16 Srt.okS)) W)):=fun W hW=>
  Sd 92 Q Srt.okS 0 16 x.sort _ W V2 (h6.kept (by decide) hW) (by decide) (fun W' a cs _ _ hin=>by
   have e:cs=[.int .i64 a.place,.bool a.down]:=hin;subst e;exact Uz a W')
 have HF:Hid (allR x.from_ 1 4 isName=true->1<=x.from_.length/\x.from_.length<=4):=fun h=>by
  unfold allR at h;simp only[Bool.and_eq_true,decide_eq_true_eq]at h;omega
 clear h1 h2 h3 h4 h5 h6 fi fo fw fg;generalize allR x.items 0 16 Pk.picked=b1 at *;generalize allR x.from_ 1 4 isName=b2 at *;generalize allR x.on ((x.from_.length:Int) - 1) ((x.from_.length:Int) - 1) Ex.good=b3 at *;generalize condR x.where_=b4 at *;generalize allR x.group 0 16 groupOk=b5 at *;generalize allR x.sort 0 16 Srt.okS=b6 at *;generalize x.distinct=xd at *;generalize x.items.length=n1 at *;generalize x.from_.length=n2 at *;generalize x.on.length=n3 at *;generalize x.where_.op=op at *;generalize x.where_.table=wt at *;generalize x.where_.name=wn at *;generalize x.where_.val=wv at *;generalize x.where_.args.length=n4 at *;generalize x.group.length=n5 at *;generalize x.sort.length=n6 at *;generalize x.limit=lim at *;have S0:Hid (St w (w.alloc (.cells #[.bool xd,.slice ia n1 ic,.slice fa n2 fc,.slice oa n3 oc,.int .i64 op,.string ⟨wt.toArray⟩,.string ⟨wn.toArray⟩,.int .i64 wv.k,.int .i64 wv.n,.string wv.s,.slice wa n4 wc,.slice ga n5 gc,.slice sa n6 sc,.int .i64 lim] 44)) [(w.heap.size,#[.bool xd,.slice ia n1 ic,.slice fa n2 fc,.slice oa n3 oc,.int .i64 op,.string ⟨wt.toArray⟩,.string ⟨wn.toArray⟩,.int .i64 wv.k,.int .i64 wv.n,.string wv.s,.slice wa n4 wc,.slice ga n5 gc,.slice sa n6 sc,.int .i64 lim],44)]):=St.alloc (St.start w);go_enter func35,ntmps35;go_wp2_with fail;refine Calls.mono (C1.out _ S0.out.below) ?_;rintro e w1 ⟨rfl,hb1⟩;have S1:=Lib.hid (S0.out.kept hb1);clear hb1 S0 C1;have F1:=S1.out.facts;simp only[St.Facts,cellFacts,apartFacts,and_true]at F1
 cases b1 with
 | false=>
  have HR:Hid (y=false):=by show _=_;rw[HG.out];simp
  clear HG HF C2 C3 C4 C5 C6;go_wp2_with fail;all_goals go_returns
  all_goals exact⟨by rw[HR.out];rfl,S1.out.below⟩
 | true=>
  go_wp2_with fail;refine Calls.mono (C2.out _ S1.out.below) ?_;rintro e w2 ⟨rfl,hb2⟩;have S2:=Lib.hid (S1.out.kept hb2);clear hb2 S1 C2 F1;have F2:=S2.out.facts;simp only[St.Facts,cellFacts,apartFacts,and_true]at F2
  cases b2 with
  | false=>
   have HR:Hid (y=false):=by show _=_;rw[HG.out];simp
   clear HG HF C3 C4 C5 C6;go_wp2_with fail;all_goals go_returns
   all_goals exact⟨by rw[HR.out];rfl,S2.out.below⟩
  | true=>
   obtain⟨f1,f4⟩:=HF.out rfl;have hw1:wrap64 ((n2:Int) - 1)=(n2:Int) - 1:=IntWalk.wrap64_in _ ⟨by omega,by omega⟩;go_wp2_with fail;refine Calls.mono (C3.out _ S2.out.below (by omega)) ?_;rintro e w3 ⟨rfl,hb3⟩;have S3:=Lib.hid (S2.out.kept hb3);clear hb3 S2 C3 F2;have F3:=S3.out.facts;simp only[St.Facts,cellFacts,apartFacts,and_true]at F3
   cases b3 with
   | false=>
    have HR:Hid (y=false):=by show _=_;rw[HG.out];simp
    clear HG HF C4 C5 C6;go_wp2_with fail;all_goals go_returns
    all_goals exact⟨by rw[HR.out];rfl,S3.out.below⟩
   | true=>
    go_wp2_with fail;refine Calls.mono (C4.out _ S3.out.below) ?_;rintro e w4 ⟨rfl,hb4⟩;have S4:=Lib.hid (S3.out.kept hb4);clear hb4 S3 C4 F3;have F4:=S4.out.facts;simp only[St.Facts,cellFacts,apartFacts,and_true]at F4
    cases b4 with
    | false=>
     have HR:Hid (y=false):=by show _=_;rw[HG.out];simp
     clear HG HF C5 C6;go_wp2_with fail;all_goals go_returns
     all_goals exact⟨by rw[HR.out];rfl,S4.out.below⟩
    | true=>
     go_wp2_with fail;refine Calls.mono (C5.out _ S4.out.below) ?_;rintro e w5 ⟨rfl,hb5⟩;have S5:=Lib.hid (S4.out.kept hb5);clear hb5 S4 C5 F4;have F5:=S5.out.facts;simp only[St.Facts,cellFacts,apartFacts,and_true]at F5
     cases b5 with
     | false=>
      have HR:Hid (y=false):=by show _=_;rw[HG.out];simp
      clear HG HF C6;go_wp2_with fail;all_goals go_returns
      all_goals exact⟨by rw[HR.out];rfl,S5.out.below⟩
     | true=>
      go_wp2_with fail;refine Calls.mono (C6.out _ S5.out.below) ?_;rintro e w6 ⟨rfl,hb6⟩;have S6:=Lib.hid (S5.out.kept hb6);clear hb6 S5 C6 F5;have F6:=S6.out.facts;simp only[St.Facts,cellFacts,apartFacts,and_true]at F6
      cases b6 with
      | false=>
       have HR:Hid (y=false):=by show _=_;rw[HG.out];simp
       clear HG HF;go_wp2_with fail;all_goals go_returns
       all_goals exact⟨by rw[HR.out];rfl,S6.out.below⟩
      | true=>
       by_cases hl1:-1<=lim
       ·by_cases hl2:lim<=549755813887
        ·have HR:Hid (y=true):=by show _=_;rw[HG.out,decide_eq_true hl1,decide_eq_true hl2];rfl
         have k2:decide (lim<=549755813887)=true:=decide_eq_true hl2;clear HG HF;go_wp2_with fail;all_goals go_returns
         all_goals exact⟨by rw[HR.out];rfl,S6.out.below⟩
        ·have HR:Hid (y=false):=by show _=_;rw[HG.out,decide_eq_false hl2];simp
         have k2:decide (lim<=549755813887)=false:=decide_eq_false hl2;clear HG HF;go_wp2_with fail;all_goals go_returns
         all_goals exact⟨by rw[HR.out];rfl,S6.out.below⟩
       ·have HR:Hid (y=false):=by show _=_;rw[HG.out,decide_eq_false hl1];simp
        clear HG HF;go_wp2_with fail;all_goals go_returns
        all_goals exact⟨by rw[HR.out];rfl,S6.out.below⟩
end Go.Proofs.YtjmmbebkbkgefaaGreatDoor
namespace Go.Proofs.YtjmmbebkbkgefaaGreatDoor
open Go.RowKit Go.Sort Tryz
variable {M:Nat->Prop} {w0 w:World} {L:List Blk}
theorem StM.setsL {i b:Nat} {t:TypeId}:∀(vs:List Value) (o:Nat) (cs:Array Value) (w:World) (L:List Blk),StM M w0 w L->L[i]?=some (b,cs,t)->StM M w0 (w.setCells b o vs) (L.set i (b,setArr cs o vs,t))
 | [],o,cs,w,L,h,hi=>by
  have e:L.set i (b,setArr cs o [],t)=L:=by
   apply List.ext_getElem?;intro q;rw[List.getElem?_set];split
   ·rename_i e;subst e;rw[setArr,hi,if_pos (by simpa using(List.getElem?_eq_some_iff.1 hi).1)]
   ·rfl
  rw[e];exact h
 | v::vs,o,cs,w,L,h,hi=>by
  have h1:=StM.set i (o:=o) (v:=v) h hi;have hlt:=(List.getElem?_eq_some_iff.1 hi).1;have h2:=StM.setsL vs (o+1) _ _ _ h1 (by rw[List.getElem?_set_self hlt]);rw[List.set_set]at h2;exact h2
def CkPost (bo br:Nat) (w:World) (b:Bool) (r:SV) (e:Ending) (w':World):Prop:=
 e=.returned (.tuple #[])/\Turn (fun k=>k=bo\/k=br) w w'/\w'.heap[bo]?=some (.cells #[.bool b] 4 (0,0))/\w'.heap[br]?=some (.cells r.arr 46 (0,0))
structure CkAt (bo br bx:Nat) (w:World) (b:Bool) (r s:SV):Prop where
 o:w.heap[bo]?=some (.cells #[.bool b] 4 (0,0))
 r:w.heap[br]?=some (.cells r.arr 46 (0,0))
 x:w.heap[bx]?=some (.cells s.arr 46 (0,0))
 or:bo≠br
 ox:bo≠bx
 rx:br≠bx
theorem CkAt.kept {bo br bx:Nat} {w w':World} {b:Bool} {r s:SV} (h:CkAt bo br bx w b r s) (hb:Below w.heap.size w w'):CkAt bo br bx w' b r s:=⟨hb.blk_kept h.o,hb.blk_kept h.r,hb.blk_kept h.x,h.or,h.ox,h.rx⟩
theorem CkAt.ck {bo br bx:Nat} {w:World} {b:Bool} {r s:SV} (h:CkAt bo br bx w b r s):StM (fun k=>k=bo\/k=br) w w [(bo,#[.bool b],4),(br,r.arr,46)]:=by
 refine⟨Turn.refl _ _,fun x hx=>?_,by simp[h.or]⟩;simp only[List.mem_cons,List.not_mem_nil,or_false]at hx;rcases hx with rfl|rfl
 ·exact⟨.inl (.inl rfl),h.o⟩
 ·exact⟨.inl (.inr rfl),h.r⟩
theorem Cv {w:World} {b o:Nat} {cs:Array Value} {t:TypeId} (h:w.heap[b]?=some (.cells cs t (0,0))):w.frozen? ⟨b,o,none⟩=false:=by simp[World.frozen?,h]
end Go.Proofs.YtjmmbebkbkgefaaGreatDoor
namespace Go.Proofs.YtjmmbebkbkgefaaGreatDoor
open Go.RowKit Go.Sort Tryz
structure StmIn (Q:Nat->Prop) (w:World) (s:SV) (x:Stm):Prop where
 k:s.k=x.kind
 tb:s.tb=x.table
 nm:s.nm=x.name
 sch:RTblI Q w x.schema s.sch
 col:s.col=.agg #[.string ⟨x.column.name.toArray⟩,.int .i64 x.column.kind,.bool x.column.null]
 ns:RSl strE Q w (sl s.ns) x.names
 un:s.un=x.unique
 rs:RSl rowE Q w (sl s.rs) x.rows
 es:RSl exE Q w (sl s.es) x.exprs
 wh:s.wo=x.where_.op/\s.wt=x.where_.table/\s.wn=x.where_.name/\s.wv=x.where_.val/\ExSl Q w (sl s.wa) x.where_.args
 sel:RSelQ Q w x.select s.sel
 md:s.md=x.mode
theorem StmIs.toIn {Q:Nat->Prop} {w:World} {s:SV} {x:Stm} (h:StmIs Q w s x):StmIn Q w s x:=⟨h.k,h.tb,h.nm,h.sch.toI,h.col,h.ns,h.un,h.rs,h.es,h.wh,h.sel,h.md⟩
theorem StmIn.move {Q R:Nat->Prop} {w w':World} {s:SV} {x:Stm} (hq:∀b,b<w.heap.size->Q b->R b/\w'.heap[b]?=w.heap[b]?) (h:StmIn Q w s x):StmIn R w' s x:=by
 refine⟨h.k,h.tb,h.nm,?_,h.col,Ad (by decide) hq h.ns,h.un,Ad (by decide) hq h.rs,Ad (by decide) hq h.es,⟨h.wh.1,h.wh.2.1,h.wh.2.2.1,h.wh.2.2.2.1,A8 hq h.wh.2.2.2.2⟩,?_,h.md⟩
 ·obtain⟨ca,cc,ia,ic,ka,kc,e,h1,h2⟩:=h.sch;exact⟨ca,cc,ia,ic,ka,kc,e,Ad (by decide) hq h1,Ad (by decide) hq h2⟩
 ·obtain⟨ia,ic,fa,fc,oa,oc,wa,wc,ga,gc,sa,sc,h0,h1,h2,h3,h4,h5,h6⟩:=h.sel;exact⟨ia,ic,fa,fc,oa,oc,wa,wc,ga,gc,sa,sc,h0,Ad (by decide) hq h1,Ad (by decide) hq h2,Ad (by decide) hq h3,A8 hq h4,Ad (by decide) hq h5,Ad (by decide) hq h6⟩
theorem StmIn.kept {Q:Nat->Prop} {w w':World} {s:SV} {x:Stm} (h:StmIn Q w s x) (hb:Below w.heap.size w w'):StmIn Q w' s x:=h.move (fun b hl k=>⟨k,hb.block b hl⟩)
theorem StmIn.mono {Q R:Nat->Prop} {w:World} {s:SV} {x:Stm} (h:StmIn Q w s x) (hq:∀b,Q b->R b):StmIn R w s x:=h.move (fun b _ hb=>⟨hq b hb,rfl⟩)
theorem StmIn.turned {Q M:Nat->Prop} {w w':World} {s:SV} {x:Stm} (h:StmIn Q w s x) (ht:Turn M w w') (hq:∀b,Q b->¬M b):StmIn Q w' s x:=h.move (fun b hb k=>⟨k,ht.block b hb (hq b k)⟩)
theorem I2 {α:Type} {E:ElRep α} {Q:Nat->Prop} {w:World} {p:SlP} {l:List α} (h:RSl E Q w (sl p) l):p.2.1=l.length:=by
 obtain⟨a,c,e⟩:=h.slice;unfold sl at e;injection e
theorem Yj {op:Int} {t n:Bytes} {v:V} {m:Nat} {e:Ex} (h1:op=e.op) (h2:t=e.table) (h3:n=e.name) (h4:v=e.val) (h5:m=e.args.length):exZ op t n v m=e.isZero:=by
 subst h1 h2 h3 h4 h5;obtain⟨op,t,n,v,args⟩:=e;rfl
structure SvIs (s:SV) (x:Stm):Prop where
 k:s.k=x.kind
 tb:s.tb=x.table
 nm:s.nm=x.name
 s0:s.s0=x.schema.name
 s1:s.s1.2.1=x.schema.cols.length
 s2:s.s2.2.1=x.schema.indexes.length
 s3:s.s3.2.1=x.schema.checks.length
 c0:s.c0=x.column.name
 c1:s.c1=x.column.kind
 c2:s.c2=x.column.null
 ns:s.ns.2.1=x.names.length
 un:s.un=x.unique
 rs:s.rs.2.1=x.rows.length
 es:s.es.2.1=x.exprs.length
 wz:exZ s.wo s.wt s.wn s.wv s.wa.2.1=x.where_.isZero
 xd:s.xd=x.select.distinct
 xi:s.xi.2.1=x.select.items.length
 xf:s.xf.2.1=x.select.from_.length
 xo:s.xo.2.1=x.select.on.length
 yz:exZ s.yo s.yt s.yn s.yv s.ya.2.1=x.select.where_.isZero
 xg:s.xg.2.1=x.select.group.length
 xs:s.xs.2.1=x.select.sort.length
 xl:s.xl=x.select.limit
 md:s.md=x.mode
theorem StmIn.sv {Q:Nat->Prop} {w:World} {s:SV} {x:Stm} (h:StmIn Q w s x):SvIs s x:=by
 obtain⟨ca,cc,ia,ic,ka,kc,e,h1,h2⟩:=h.sch;obtain⟨ja,jc,fa,fc,oa,oc,wa,wc,ga,gc,sa,sc,g0,g1,g2,g3,g4,g5,g6⟩:=h.sel;have hc:=h.col;unfold SV.sch sl at e;unfold SV.sel sl at g0;unfold SV.col at hc;simp only[Value.agg.injEq,Array.mk.injEq,List.cons.injEq,and_true,Value.string.injEq,Value.int.injEq,Value.bool.injEq,Value.slice.injEq,ByteArray.mk.injEq,true_and,List.toArray_inj]at e g0 hc;have a1:=I2 (Az h.wh.2.2.2.2);obtain⟨e0,⟨_,e1,_⟩,⟨_,e2,_⟩,⟨_,e3,_⟩⟩:=e;obtain⟨g0,⟨_,g1',_⟩,⟨_,g2',_⟩,⟨_,g3',_⟩,k1,k2,k3,k4,k5,k6,⟨_,k7,_⟩,⟨_,g5',_⟩,⟨_,g6',_⟩,k8⟩:=g0;exact⟨h.k,h.tb,h.nm,e0,e1,e2,e3,hc.1,hc.2.1,hc.2.2,I2 h.ns,h.un,I2 h.rs,I2 h.es,Yj h.wh.1 h.wh.2.1 h.wh.2.2.1 h.wh.2.2.2.1 a1,g0,g1',g2',g3',Yj k1 k2 k3 ((V.ext_iff _ _).2 ⟨k4,k5,k6⟩) k7,g5',g6',k8,h.md⟩
theorem SvIs.unused {s:SV} {x:Stm} (h:SvIs s x):s.unused=x.unused:=by
 have hl:s.lists=x.names.length+x.rows.length+x.exprs.length+x.schema.cols.length+x.schema.indexes.length+x.schema.checks.length+x.select.items.length+x.select.from_.length+x.select.on.length+x.select.group.length+x.select.sort.length:=by
  unfold SV.lists;rw[h.ns,h.rs,h.es,h.s1,h.s2,h.s3,h.xi,h.xf,h.xo,h.xg,h.xs]
 unfold SV.unused Stm.unused;rw[hl,h.tb,h.nm,h.s0,h.un,h.wz,h.md,h.xd,h.yz,h.xl];have hc:decide (s.c0=[]/\s.c1=0/\s.c2=false)=decide (x.column=Col.zero):=by
  rw[h.c0,h.c1,h.c2];obtain⟨a,b,c⟩:=x.column;simp[Col.zero]
 rw[hc]
theorem SvIs.lists {s:SV} {x:Stm} (h:SvIs s x):s.lists=x.lists:=by
 unfold SV.lists Stm.lists Sel.lists;rw[h.ns,h.rs,h.es,h.s1,h.s2,h.s3,h.xi,h.xf,h.xo,h.xg,h.xs];omega
end Go.Proofs.YtjmmbebkbkgefaaGreatDoor
