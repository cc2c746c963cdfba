/- Part 26; the last part says what is proved. No condition. -/
import Derived.Deep.CutBlock
import Derived.Test.YtjmmbebkbkgefaaGreatDoorB12
set_option linter.unusedVariables false
set_option linter.unusedSimpArgs false
set_option maxHeartbeats 8000000
set_option maxRecDepth 100000
namespace Go.Proofs.YtjmmbebkbkgefaaGreatDoor
open Go.RowKit Go.Sort Tryz
theorem codeGenC {P:Program} {c:Code} {Q:Exit->Act->World->Prop} {a:Act} {w:World} (R:World->Prop) (h:R w) (k:∀W,R W->Code.wp P c Q a W):Code.wp P c Q a w:=k w h
def errF (b:Bool):Int:=if b then 0 else 3
section
variable {s:SV} {x:Stm} (h:SvIs s x)
include h
theorem Ty:SvIs {s with xd:=false,xi:=sl0,xf:=sl0,xo:=sl0,yo:=0,yt:=[],yn:=[],yv:=V.null,ya:=sl0,xg:=sl0,xs:=sl0,xl:=0} {x with select:=Sel.zero}:={h with xd:=rfl,xi:=rfl,xf:=rfl,xo:=rfl,yz:=rfl,xg:=rfl,xs:=rfl,xl:=rfl}
theorem Mn:SvIs {s with md:=0} {x with mode:=0}:={h with md:=rfl}
end
def SV.small (s:SV):Prop:=s.lists<=4611686018427387904/\s.tb.length+s.nm.length+s.s0.length<=4611686018427387904
def CkSt (w W:World) (bo:Nat) (s:SV) (b:Bool) (r:SV):Prop:=StM (fun _=>False) w W [(bo,#[.bool b],4),(w.heap.size+1,r.arr,46),(w.heap.size,s.arr,46)]
theorem CkSt.at {w W:World} {bo:Nat} {s r:SV} {b:Bool} (h:CkSt w W bo s b r):CkAt bo (w.heap.size+1) w.heap.size W b r s:=by
 have hn:=StM.facts h;simp only[St.Facts,apartFacts,and_true]at hn;exact⟨StM.blk h 0 rfl,StM.blk h 1 rfl,StM.blk h 2 rfl,hn.2.2.1.1.1,hn.2.2.1.2.1,by omega⟩
theorem CkSt.kept {w W W':World} {bo:Nat} {s r:SV} {b:Bool} (h:CkSt w W bo s b r) (hb:Below W.heap.size W W'):CkSt w W' bo s b r:=StM.kept h hb
theorem CkSt.below {w W:World} {bo:Nat} {s r:SV} {b:Bool} (h:CkSt w W bo s b r):Below w.heap.size w W:=Turn.below h.turn
theorem CkSt.went {w W W':World} {bo:Nat} {s r r':SV} {b b':Bool} {e:Ending} (h:CkSt w W bo s b r) (k:CkPost bo (w.heap.size+1) W b' r' e W'):e=.returned (.tuple #[])/\Hid (CkSt w W' bo s b' r'):=by
 obtain⟨e1,ht,h1,h2⟩:=k;have ha:=h.at;have g0:=StM.own h (bo,#[.bool b],4) (by simp);refine⟨e1,⟨?_,?_,?_⟩⟩
 ·exact h.turn.trans ht (fun i hi hk=>by
   rcases hk with rfl|rfl
   ·rcases g0.1 with g|g
    ·exact g
    ·have g':w.heap.size<=i:=g;omega
   ·omega)
 ·intro y hy;simp only[List.mem_cons,List.not_mem_nil,or_false]at hy;rcases hy with rfl|rfl|rfl
  ·exact⟨g0.1,h1⟩
  ·exact⟨.inr (by show w.heap.size<=w.heap.size+1;omega),h2⟩
  ·refine⟨.inr (Nat.le_refl _),?_⟩;have hlt:w.heap.size<W.heap.size:=(Array.getElem?_eq_some_iff.1 ha.x).1;exact(ht.block _ hlt (by rintro(e|e);exact ha.ox e.symm;omega)).trans ha.x
 ·simp[ha.or,ha.ox]
theorem CkSt.kind {w W:World} {bo:Nat} {s r:SV} {b:Bool} (h:CkSt w W bo s b r):W.cell? ⟨w.heap.size,0,none⟩=some (.int .i64 s.k):=by simp only[World.cell?,h.at.x];rfl
theorem CkSt.ok {w W:World} {bo:Nat} {s r:SV} {b:Bool} (h:CkSt w W bo s b r):W.cell? ⟨bo,0,none⟩=some (.bool b)/\W.frozen? ⟨bo,0,none⟩=false/\bo≠w.heap.size+1/\w.heap.size+1≠bo/\bo≠w.heap.size/\w.heap.size≠bo:=
 ⟨by simp only[World.cell?,h.at.o];rfl,Cv h.at.o,h.at.or,Ne.symm h.at.or,h.at.ox,Ne.symm h.at.ox⟩
theorem Wz (r:SV):setArr r.arr 35 [.int .i64 0]={r with md:=0}.arr:=by kernel_rfl
theorem ar (r:SV):setArr r.arr 21 [.bool false,.slice none 0 0,.slice none 0 0,.slice none 0 0,.int .i64 0,.string ⟨#[]⟩,.string ⟨#[]⟩,.int .i64 0,.int .i64 0,.string ⟨#[]⟩,.slice none 0 0,.slice none 0 0,.slice none 0 0,.int .i64 0]={r with xd:=false,xi:=sl0,xf:=sl0,xo:=sl0,yo:=0,yt:=[],yn:=[],yv:=V.null,ya:=sl0,xg:=sl0,xs:=sl0,xl:=0}.arr:=by kernel_rfl
theorem CkSt.store {w W:World} {bo:Nat} {s r r':SV} {b b':Bool} (h:CkSt w W bo s b r) (o:Nat) (vs:List Value) (e:setArr r.arr o vs=r'.arr):CkSt w ((W.setCell ⟨bo,0,none⟩ (.bool b')).setCells (w.heap.size+1) o vs) bo s b' r':=by
 have k:=StM.setsL (i:=1) vs o _ _ _ (StM.set 0 (o:=0) (v:=.bool b') h rfl) rfl;simp only[List.set_cons_zero,List.set_cons_succ,List.setIfInBounds_toArray]at k;rw[e]at k;exact k
end Go.Proofs.YtjmmbebkbkgefaaGreatDoor
namespace Go.Proofs.YtjmmbebkbkgefaaGreatDoor
open Go.RowKit Go.Sort Tryz
theorem Kr (Q:Nat->Prop) (x:Stm) (s:SV) (w:World) (h:StmIn Q w s x) (hwf:x.Wf) (hk:x.kind=9) (hl:x.lists<=4611686018427387904) (ht:x.txt<=4611686018427387904):Calls prog 8 #[.agg s.arr] w (Says (.int .i64 (errF x.formed)) w):=by
 have hmf:∀(fn:Fn) (first cap:Array Value) (w:World),(Instr.makeFunc fn first cap).run prog w=.ok (.func fn first cap) w:=fun _ _ _ _=>rfl;have SZ:Hid (St w ((w.alloc (.cells s.arr 46)).alloc (.cells (SV.arr {}) 46)) [(w.heap.size+1,SV.arr {},46),(w.heap.size,s.arr,46)]):=by
  show St _ _ _;have:=St.alloc (St.alloc (St.start w) (cs:=s.arr) (t:=46)) (cs:=SV.arr {}) (t:=46);simpa only[World.size_alloc]using this
 have H:=Lib.hid h;have HS:=Lib.hid h.sv;have HL:Hid (s.small):=⟨by rw[h.sv.lists];exact hl,by rw[h.sv.tb,h.sv.nm,h.sv.s0];exact ht⟩;have HWF:=Lib.hid hwf;have HNS:Hid ((x.names.length:Int)<=4611686018427387904):=by show _<=_;unfold Stm.lists at hl;omega
 have hkx:s.k=x.kind:=h.k;obtain⟨y,hy⟩:∃y,x.formed=y:=⟨_,rfl⟩;rw[hy];have HY:=Lib.hid hy;clear hl ht h hwf hy;go_enter func8,ntmps8;go_upto_region 3 with(first|(refine wpList_load_row rfl 46 (.tmp 1) rfl w.heap.size rfl 46 s.arr (0,0) _ (World.alloc_heap_new w _) underlying46 rfl (Al _) ?_)|(refine wpList_store_row rfl 46 (.tmp 3) (.tmp 9) rfl (w.heap.size+1) s.arr rfl rfl 46 (SV.arr {}) (SZ.out.blk 0 rfl) (Al _) rfl (Bh _) ?_;refine St.genL (St.row 0 s.arr SZ.out rfl) ?_;intro W2 S2;clear SZ));refine codeGenC (fun W=>CkSt w W W2.heap.size s true s) (St.toM (fun _=>False) (St.alloc S2.out (cs:=#[.bool true]) (t:=4))) ?_;clear S2;intro W3 S3';have S3:=Lib.hid S3';clear S3';generalize W2.heap.size=bo at *;clear W2;have kd:=S3.out.kind;go_upto_block 0 with fail;clear hmf;go_cut []from 15 (fun wc=>∃(b:Bool) (r:SV),CkSt w wc bo s b r/\y=(b&&r.unused)/\r.small)
 case first=>
  have hks:s.k=9:=hkx.trans hk;rw[hks]at kd;have x21:W3.cell? ⟨w.heap.size,21,none⟩=some (.bool s.xd):=by simp only[World.cell?,S3.out.at.x];rfl
  have x22:W3.cell? ⟨w.heap.size,22,none⟩=some (.slice s.xi.1 s.xi.2.1 s.xi.2.2):=by simp only[World.cell?,S3.out.at.x];rfl
  have x23:W3.cell? ⟨w.heap.size,23,none⟩=some (.slice s.xf.1 s.xf.2.1 s.xf.2.2):=by simp only[World.cell?,S3.out.at.x];rfl
  have x24:W3.cell? ⟨w.heap.size,24,none⟩=some (.slice s.xo.1 s.xo.2.1 s.xo.2.2):=by simp only[World.cell?,S3.out.at.x];rfl
  have x25:W3.cell? ⟨w.heap.size,25,none⟩=some (.int .i64 s.yo):=by simp only[World.cell?,S3.out.at.x];rfl
  have x26:W3.cell? ⟨w.heap.size,26,none⟩=some (.string ⟨s.yt.toArray⟩):=by simp only[World.cell?,S3.out.at.x];rfl
  have x27:W3.cell? ⟨w.heap.size,27,none⟩=some (.string ⟨s.yn.toArray⟩):=by simp only[World.cell?,S3.out.at.x];rfl
  have x28:W3.cell? ⟨w.heap.size,28,none⟩=some (.int .i64 s.yv.k):=by simp only[World.cell?,S3.out.at.x];rfl
  have x29:W3.cell? ⟨w.heap.size,29,none⟩=some (.int .i64 s.yv.n):=by simp only[World.cell?,S3.out.at.x];rfl
  have x30:W3.cell? ⟨w.heap.size,30,none⟩=some (.string s.yv.s):=by simp only[World.cell?,S3.out.at.x];rfl
  have x31:W3.cell? ⟨w.heap.size,31,none⟩=some (.slice s.ya.1 s.ya.2.1 s.ya.2.2):=by simp only[World.cell?,S3.out.at.x];rfl
  have x32:W3.cell? ⟨w.heap.size,32,none⟩=some (.slice s.xg.1 s.xg.2.1 s.xg.2.2):=by simp only[World.cell?,S3.out.at.x];rfl
  have x33:W3.cell? ⟨w.heap.size,33,none⟩=some (.slice s.xs.1 s.xs.2.1 s.xs.2.2):=by simp only[World.cell?,S3.out.at.x];rfl
  have x34:W3.cell? ⟨w.heap.size,34,none⟩=some (.int .i64 s.xl):=by simp only[World.cell?,S3.out.at.x];rfl
  go_wp2_with fail;refine Calls.mono ((Ry Q x.select _ _ (H.out.kept S3.out.below).sel HWF.out.select)) ?_;rintro e w4 ⟨rfl,hb⟩;have S4:=Lib.hid (S3.out.kept hb);clear hb x21 x22 x23 x24 x25 x26 x27 x28 x29 x30 x31 x32 x33 x34;obtain⟨o0,o1,o2,o3,o4,o5⟩:=S4.out.ok;have z21:w4.cell? ⟨w.heap.size+1,21,none⟩=some (.bool s.xd):=by simp only[World.cell?,S4.out.at.r];rfl
  have zf21:=Cv (o:=21) S4.out.at.r;have z22:w4.cell? ⟨w.heap.size+1,22,none⟩=some (.slice s.xi.1 s.xi.2.1 s.xi.2.2):=by simp only[World.cell?,S4.out.at.r];rfl
  have zf22:=Cv (o:=22) S4.out.at.r;have z23:w4.cell? ⟨w.heap.size+1,23,none⟩=some (.slice s.xf.1 s.xf.2.1 s.xf.2.2):=by simp only[World.cell?,S4.out.at.r];rfl
  have zf23:=Cv (o:=23) S4.out.at.r;have z24:w4.cell? ⟨w.heap.size+1,24,none⟩=some (.slice s.xo.1 s.xo.2.1 s.xo.2.2):=by simp only[World.cell?,S4.out.at.r];rfl
  have zf24:=Cv (o:=24) S4.out.at.r;have z25:w4.cell? ⟨w.heap.size+1,25,none⟩=some (.int .i64 s.yo):=by simp only[World.cell?,S4.out.at.r];rfl
  have zf25:=Cv (o:=25) S4.out.at.r;have z26:w4.cell? ⟨w.heap.size+1,26,none⟩=some (.string ⟨s.yt.toArray⟩):=by simp only[World.cell?,S4.out.at.r];rfl
  have zf26:=Cv (o:=26) S4.out.at.r;have z27:w4.cell? ⟨w.heap.size+1,27,none⟩=some (.string ⟨s.yn.toArray⟩):=by simp only[World.cell?,S4.out.at.r];rfl
  have zf27:=Cv (o:=27) S4.out.at.r;have z28:w4.cell? ⟨w.heap.size+1,28,none⟩=some (.int .i64 s.yv.k):=by simp only[World.cell?,S4.out.at.r];rfl
  have zf28:=Cv (o:=28) S4.out.at.r;have z29:w4.cell? ⟨w.heap.size+1,29,none⟩=some (.int .i64 s.yv.n):=by simp only[World.cell?,S4.out.at.r];rfl
  have zf29:=Cv (o:=29) S4.out.at.r;have z30:w4.cell? ⟨w.heap.size+1,30,none⟩=some (.string s.yv.s):=by simp only[World.cell?,S4.out.at.r];rfl
  have zf30:=Cv (o:=30) S4.out.at.r;have z31:w4.cell? ⟨w.heap.size+1,31,none⟩=some (.slice s.ya.1 s.ya.2.1 s.ya.2.2):=by simp only[World.cell?,S4.out.at.r];rfl
  have zf31:=Cv (o:=31) S4.out.at.r;have z32:w4.cell? ⟨w.heap.size+1,32,none⟩=some (.slice s.xg.1 s.xg.2.1 s.xg.2.2):=by simp only[World.cell?,S4.out.at.r];rfl
  have zf32:=Cv (o:=32) S4.out.at.r;have z33:w4.cell? ⟨w.heap.size+1,33,none⟩=some (.slice s.xs.1 s.xs.2.1 s.xs.2.2):=by simp only[World.cell?,S4.out.at.r];rfl
  have zf33:=Cv (o:=33) S4.out.at.r;have z34:w4.cell? ⟨w.heap.size+1,34,none⟩=some (.int .i64 s.xl):=by simp only[World.cell?,S4.out.at.r];rfl
  have zf34:=Cv (o:=34) S4.out.at.r;generalize hq4:(x.select.chosen)=q4 at *;go_wp2_with fail;clear z21 zf21 z22 zf22 z23 zf23 z24 zf24 z25 zf25 z26 zf26 z27 zf27 z28 zf28 z29 zf29 z30 zf30 z31 zf31 z32 zf32 z33 zf33 z34 zf34;clear o0 o1 o2 o3 o4 o5;go_meet;refine⟨q4,{s with xd:=false,xi:=sl0,xf:=sl0,xo:=sl0,yo:=0,yt:=[],yn:=[],yv:=V.null,ya:=sl0,xg:=sl0,xs:=sl0,xl:=0},(S4.out.store 21 [.bool false,.slice none 0 0,.slice none 0 0,.slice none 0 0,.int .i64 0,.string ⟨#[]⟩,.string ⟨#[]⟩,.int .i64 0,.int .i64 0,.string ⟨#[]⟩,.slice none 0 0,.slice none 0 0,.slice none 0 0,.int .i64 0] (ar _)),?_,?_⟩
  ·skip;rw[SvIs.unused (Ty HS.out),<- HY.out,<- hq4];unfold Stm.formed;rw[hk];rfl
  ·exact⟨Nat.le_trans (by simp[SV.lists,sl0];try omega) HL.out.1,Nat.le_trans (by simp;try omega) HL.out.2⟩
 case rest=>
  obtain⟨b,r,hS,hy,hsm⟩:=hcut;have S4:Hid (CkSt w wc bo s b r):=hS;have HR:=Lib.hid hy;have C1:=Lib.hid (fun W=>Lf r hsm.1 hsm.2 W);obtain⟨o0,_,_,_,_,_⟩:=S4.out.ok;clear hS hy hsm S3 HS HL HWF HNS HY H kd;generalize r.unused=u at *
  cases b with
  | false=>
   have HF:Hid (y=false):=by show _=_;rw[HR.out,Bool.false_and]
   go_wp2_with fail;go_returns;exact⟨by rw[HF.out];rfl,S4.out.below⟩
  | true=>
   have HF:Hid (y=u):=by show _=_;rw[HR.out,Bool.true_and]
   go_wp2_with(refine B4 rfl 46 (.tmp 3) rfl (w.heap.size+1) rfl 46 r.arr (0,0) _ S4.out.at.r underlying46 rfl (Al _) ?_);refine Calls.mono (C1.out _) ?_;rintro e w5 ⟨rfl,hb5⟩;have S5:=Lib.hid (S4.out.kept hb5);clear hb5 S4 HR C1 o0
   cases u with
   | false=>
    go_wp2_with fail;go_returns;exact⟨by rw[HF.out];rfl,S5.out.below⟩
   | true=>
    go_wp2_with fail;go_returns;exact⟨by rw[HF.out];rfl,S5.out.below⟩
theorem We (Q:Nat->Prop) (x:Stm) (s:SV) (w:World) (h:StmIn Q w s x) (hwf:x.Wf) (hk:x.kind=10) (hl:x.lists<=4611686018427387904) (ht:x.txt<=4611686018427387904):Calls prog 8 #[.agg s.arr] w (Says (.int .i64 (errF x.formed)) w):=by
 have hmf:∀(fn:Fn) (first cap:Array Value) (w:World),(Instr.makeFunc fn first cap).run prog w=.ok (.func fn first cap) w:=fun _ _ _ _=>rfl;have SZ:Hid (St w ((w.alloc (.cells s.arr 46)).alloc (.cells (SV.arr {}) 46)) [(w.heap.size+1,SV.arr {},46),(w.heap.size,s.arr,46)]):=by
  show St _ _ _;have:=St.alloc (St.alloc (St.start w) (cs:=s.arr) (t:=46)) (cs:=SV.arr {}) (t:=46);simpa only[World.size_alloc]using this
 have H:=Lib.hid h;have HS:=Lib.hid h.sv;have HL:Hid (s.small):=⟨by rw[h.sv.lists];exact hl,by rw[h.sv.tb,h.sv.nm,h.sv.s0];exact ht⟩;have HWF:=Lib.hid hwf;have HNS:Hid ((x.names.length:Int)<=4611686018427387904):=by show _<=_;unfold Stm.lists at hl;omega
 have hkx:s.k=x.kind:=h.k;obtain⟨y,hy⟩:∃y,x.formed=y:=⟨_,rfl⟩;rw[hy];have HY:=Lib.hid hy;clear hl ht h hwf hy;go_enter func8,ntmps8;go_upto_region 3 with(first|(refine wpList_load_row rfl 46 (.tmp 1) rfl w.heap.size rfl 46 s.arr (0,0) _ (World.alloc_heap_new w _) underlying46 rfl (Al _) ?_)|(refine wpList_store_row rfl 46 (.tmp 3) (.tmp 9) rfl (w.heap.size+1) s.arr rfl rfl 46 (SV.arr {}) (SZ.out.blk 0 rfl) (Al _) rfl (Bh _) ?_;refine St.genL (St.row 0 s.arr SZ.out rfl) ?_;intro W2 S2;clear SZ));refine codeGenC (fun W=>CkSt w W W2.heap.size s true s) (St.toM (fun _=>False) (St.alloc S2.out (cs:=#[.bool true]) (t:=4))) ?_;clear S2;intro W3 S3';have S3:=Lib.hid S3';clear S3';generalize W2.heap.size=bo at *;clear W2;have kd:=S3.out.kind;go_upto_block 0 with fail;clear hmf;go_cut []from 15 (fun wc=>∃(b:Bool) (r:SV),CkSt w wc bo s b r/\y=(b&&r.unused)/\r.small)
 case first=>
  have hks:s.k=10:=hkx.trans hk;rw[hks]at kd;obtain⟨o0,o1,o2,o3,o4,o5⟩:=S3.out.ok;have x35:W3.cell? ⟨w.heap.size,35,none⟩=some (.int .i64 s.md):=by simp only[World.cell?,S3.out.at.x];rfl
  have z35:W3.cell? ⟨w.heap.size+1,35,none⟩=some (.int .i64 s.md):=by simp only[World.cell?,S3.out.at.r];rfl
  have zf35:=Cv (o:=35) S3.out.at.r;have hmd:Hid (s.md=x.mode):=HS.out.md;by_cases h1:0<=s.md
  ·by_cases h2:s.md<=2
   ·have k2:decide (s.md<=2)=true:=decide_eq_true h2;go_wp2_with fail;go_meet;refine⟨true,{s with md:=0},(S3.out.store 35 [.int .i64 0] (Wz _)),?_,?_⟩
    ·rw[SvIs.unused (Mn HS.out),<- HY.out];unfold Stm.formed;rw[hk];show(decide (0<=x.mode)&&decide (x.mode<=2)&&_)=_;rw[<- hmd.out,decide_eq_true h1,decide_eq_true h2];rfl
    ·exact⟨Nat.le_trans (by simp[SV.lists,sl0];try omega) HL.out.1,Nat.le_trans (by simp;try omega) HL.out.2⟩
   ·have k2:decide (s.md<=2)=false:=decide_eq_false h2;go_wp2_with fail;go_meet;refine⟨false,{s with md:=0},(S3.out.store 35 [.int .i64 0] (Wz _)),?_,?_⟩
    ·rw[SvIs.unused (Mn HS.out),<- HY.out];unfold Stm.formed;rw[hk];show(decide (0<=x.mode)&&decide (x.mode<=2)&&_)=_;rw[<- hmd.out,decide_eq_true h1,decide_eq_false (show ¬s.md<=2 by omega)];rfl
    ·exact⟨Nat.le_trans (by simp[SV.lists,sl0];try omega) HL.out.1,Nat.le_trans (by simp;try omega) HL.out.2⟩
  ·skip;go_wp2_with fail;go_meet;refine⟨false,{s with md:=0},(S3.out.store 35 [.int .i64 0] (Wz _)),?_,?_⟩
   ·rw[SvIs.unused (Mn HS.out),<- HY.out];unfold Stm.formed;rw[hk];show(decide (0<=x.mode)&&decide (x.mode<=2)&&_)=_;rw[<- hmd.out,decide_eq_false (show ¬0<=s.md by omega)];rfl
   ·exact⟨Nat.le_trans (by simp[SV.lists,sl0];try omega) HL.out.1,Nat.le_trans (by simp;try omega) HL.out.2⟩
 case rest=>
  obtain⟨b,r,hS,hy,hsm⟩:=hcut;have S4:Hid (CkSt w wc bo s b r):=hS;have HR:=Lib.hid hy;have C1:=Lib.hid (fun W=>Lf r hsm.1 hsm.2 W);obtain⟨o0,_,_,_,_,_⟩:=S4.out.ok;clear hS hy hsm S3 HS HL HWF HNS HY H kd;generalize r.unused=u at *
  cases b with
  | false=>
   have HF:Hid (y=false):=by show _=_;rw[HR.out,Bool.false_and]
   go_wp2_with fail;go_returns;exact⟨by rw[HF.out];rfl,S4.out.below⟩
  | true=>
   have HF:Hid (y=u):=by show _=_;rw[HR.out,Bool.true_and]
   go_wp2_with(refine B4 rfl 46 (.tmp 3) rfl (w.heap.size+1) rfl 46 r.arr (0,0) _ S4.out.at.r underlying46 rfl (Al _) ?_);refine Calls.mono (C1.out _) ?_;rintro e w5 ⟨rfl,hb5⟩;have S5:=Lib.hid (S4.out.kept hb5);clear hb5 S4 HR C1 o0
   cases u with
   | false=>
    go_wp2_with fail;go_returns;exact⟨by rw[HF.out];rfl,S5.out.below⟩
   | true=>
    go_wp2_with fail;go_returns;exact⟨by rw[HF.out];rfl,S5.out.below⟩
end Go.Proofs.YtjmmbebkbkgefaaGreatDoor
