/-
  Part 20 of the texts of one proof, made small by a program: see the last part for what is proved. No condition.
-/
import Derived.Test.YtimoefagohifaaaGreatDoorQ17
import Derived.Test.YtimoefagohifaaaGreatDoorQ18
import Derived.Test.YtimoefagohifaaaGreatDoorQ19
namespace Go.Proofs.YtimoefagohifaaaGreatDoor
open Go.RowKit Go.Sort
theorem psr_of {B : Nat} {W : World} {s : Bytes} {l : List Tok} {pb : Nat} {a : Option Addr} {c : Nat} (he : Env B W) (hB : B≤pb) (hx : toksR s = .ok l) (hb : W.heap[pb]? = some (.cells #[.slice a l.length c,.int .i64 (s.length : Int)] 114 (0,0)))
  (hs : SlIn (· < pb) W (.slice a l.length c) l.length (tkVals l)) : Psr W pb (s.length : Int) l:=by
 have hf:=toksR_fine hx
 refine ⟨he.up hB (Nat.le_of_lt (Array.getElem?_eq_some_iff.1 hb).1),⟨_,hb,hs⟩,fun t ht=>(hf.1 t ht).num,by have h1:=hf.2.1; have h2:=hf.2.2; omega⟩
set_option maxRecDepth 100000 in
set_option maxHeartbeats 4000000 in
theorem parse_stop {B : Nat} (s : Bytes) (hs : s.length≤1000000) (l : List Tok) (p q : Int) (hx : toksR s = .ok l) (hst : stmtR s.length l = .err p q) (w : World) (he : Env B w) (hS : Hid (StmtAt (s.length : Int) l)) :
  Calls Tryz.prog 15 #[.string ⟨s.toArray⟩] w (ParsePost w (parseS s)):=by
 have hps : parseS s = .error (p,q):=by unfold parseS; rw [hx]; simp only [hst]
 rw [hps]
 have hmf : ∀ (fn : Fn) (first cap : Array Value) (w : World),(Instr.makeFunc fn first cap).run Tryz.prog w = .ok (.func fn first cap) w:=fun _ _ _ _=>rfl
 have SZ : Hid (St w ((w.alloc (.cells (SV.arr {}) 50)).alloc (.cells #[.int .i64 0,.int .i64 0] 26)) [(w.heap.size + 1,#[.int .i64 0,.int .i64 0],26),(w.heap.size,SV.arr {},50)]):=by
  show St _ _ _
  have:=St.alloc (St.alloc (St.start w) (cs:=SV.arr {}) (t:=50)) (cs:=#[.int .i64 0,.int .i64 0]) (t:=26)
  simpa only [World.size_alloc] using this
 have HE:=Lib.hid he
 have HX:=Lib.hid hx
 have HST:=Lib.hid hst
 have C1:=Lib.hid (fun W (h : Env B W)=>tokens_any s hs W h)
 rw [hx] at C1
 have hsz : (⟨s.toArray⟩ : ByteArray).size = s.length:=by show s.toArray.size = _; simp
 clear hps hx he hst
 go_enter_defers Tryz.func15,Tryz.ntmps15
 go_wp2_with fail
 refine Calls.mono (C1.out _ (HE.out.kept SZ.out.below)) ?_
 rintro e w1 ⟨v,rfl,hv,hb1⟩
 have S1:=Lib.hid (SZ.out.kept hb1)
 obtain ⟨a,c,rfl⟩ : ∃ a c,v = .slice a l.length c:=by obtain ⟨a,c,e,_⟩:=hv; exact ⟨a,c,e⟩
 have HV:=Lib.hid hv
 clear hb1 SZ C1 hv
 have F1:=cellFacts_of (S1.out.blk 0 rfl) [.int .i64 0,.int .i64 0] 0 (fun j=>by simp)
 simp only [cellFacts,and_true] at F1
 have S3 : Hid (St w (((w1.setCell ⟨w.heap.size + 1,0,none⟩ (.int .i64 0)).setCell ⟨w.heap.size + 1,1,none⟩ (.int .i64 0)).alloc (.cells #[.slice a l.length c,.int .i64 (s.length : Int)] 114)) [(w1.heap.size,#[.slice a l.length c,.int .i64 (s.length : Int)],114),(w.heap.size + 1,#[.int .i64 0,.int .i64 0],26),(w.heap.size,SV.arr {},50)]):=by
  show St _ _ _
  have:=St.alloc (St.set 0 (o:=1) (v:=.int .i64 0) (St.set 0 (o:=0) (v:=.int .i64 0) S1.out rfl) rfl) (cs:=#[.slice a l.length c,.int .i64 (s.length : Int)]) (t:=114)
  rw [World.size_setCell,World.size_setCell] at this
  exact this
 have hw1 : w.heap.size + 1 < w1.heap.size:=S1.out.facts.1
 have HP : Hid (Psr (((w1.setCell ⟨w.heap.size + 1,0,none⟩ (.int .i64 0)).setCell ⟨w.heap.size + 1,1,none⟩ (.int .i64 0)).alloc (.cells #[.slice a l.length c,.int .i64 (s.length : Int)] 114)) w1.heap.size (s.length : Int) l):=by
  refine psr_of (HE.out.kept S3.out.below) (Nat.le_trans HE.out.hi (by omega)) HX.out (S3.out.blk 0 rfl) ?_
  obtain ⟨a',cap,e,hc,h⟩:=HV.out
  refine ⟨a',cap,e,hc,fun hn=>?_⟩
  obtain ⟨b,o,e2,k1,k2⟩:=h hn
  have hlt:=k2.lt (tkVals_ne hn)
  have k1' : w.heap.size + 2≤b:=by simpa only [World.size_alloc,Nat.add_assoc,Nat.reduceAdd] using k1
  refine ⟨b,o,e2,hlt,k2.same ?_⟩
  rw [Below.heap_alloc _ _ _ (by simpa using hlt),Below.heap_setCell _ _ _ _ (by show b ≠ w.heap.size + 1; omega),Below.heap_setCell _ _ _ _ (by show b ≠ w.heap.size + 1; omega)]
 go_wp2_with fail
 refine Calls.mono (hS.out _ _ HP.out) ?_
 clear F1 S1 HV
 intro e w4 h4
 rw [HST.out] at h4
 obtain ⟨rfl,hT⟩:=h4
 have S4:=Lib.hid ((St.tail S3.out).turned hT (fun i hi=>by have hi' : i = w1.heap.size:=hi; omega) (fun x hx e=>by
  have e' : x.1 = w1.heap.size:=e
  simp only [List.mem_cons,List.not_mem_nil,or_false] at hx
  rcases hx with rfl | rfl
  ·have e2 : w.heap.size + 1 = w1.heap.size:=e'; omega
  ·have e2 : w.heap.size = w1.heap.size:=e'; omega))
 clear S3 HP hT
 refine leaves_cons (f:=53) (args:=#[.pointer (some ⟨w.heap.size,0,none⟩),.pointer (some ⟨w.heap.size + 1,0,none⟩)]) (by simp) (by simp [go_sem]) ?_
 refine (catch_problem w.heap.size (w.heap.size + 1) p q [] (SV.arr {}) w4 (S4.out.blk 1 rfl) rfl (S4.out.blk 0 rfl) (by omega)).mono ?_
 rintro e u' w5 ⟨rfl,rfl,hT5,hr5,hq5⟩
 have hl:=run_loadVar_row (P:=Tryz.prog) _ w.heap.size 50 50 (SV.arr {}) (0,0) _ hr5 Tryz.underlying50 rfl (sv_size _)
 have hl2:=run_loadVar_row (P:=Tryz.prog) _ (w.heap.size + 1) 26 26 #[.int .i64 p,.int .i64 q] (0,0) _ hq5 Tryz.underlying26 rfl (size26 _ _)
 refine ⟨.tuple #[.agg (SV.arr {}),.agg #[.int .i64 p,.int .i64 q]],results_cell_row2 Tryz.results15 _ _ w.heap.size (w.heap.size + 1) _ _ rfl rfl hl hl2,rfl,?_⟩
 exact (St.turned (L:=[]) ⟨S4.out.below,by simp,by simp⟩ hT5 (fun i hi=>by rcases hi with hi | hi <;> omega) (by simp)).below
theorem st_genP {w0 w : World} {L : List Blk} {R : World→Prop} {P : Program} {ops : Array Oper} {ol : List Oper} {Q : Exit→Act→World→Prop} {a : Act} (h : St w0 w L) (h2 : R w) (k : ∀ W,Hid (St w0 W L)→Hid (R W)→wpList P ops Q ol a W) : wpList P ops Q ol a w:=k w h h2
set_option maxRecDepth 100000 in
set_option maxHeartbeats 8000000 in
theorem ckKind_9 (Q : Nat→Prop) (x : Stm) (s : SV) (w : World) (h : StmIn Q w s x) (hwf : x.Wf) (hk : x.kind = 9) (hl : x.lists≤4611686018427387904) (ht : x.txt≤4611686018427387904) : Calls Tryz.prog 14 #[.agg s.arr] w (Says (.int .i64 (errF x.formed)) w):=by
 have hmf : ∀ (fn : Fn) (first cap : Array Value) (w : World),(Instr.makeFunc fn first cap).run Tryz.prog w = .ok (.func fn first cap) w:=fun _ _ _ _=>rfl
 have SZ : Hid (St w ((w.alloc (.cells s.arr 50)).alloc (.cells (SV.arr {}) 50)) [(w.heap.size + 1,SV.arr {},50),(w.heap.size,s.arr,50)]):=by
  show St _ _ _
  have:=St.alloc (St.alloc (St.start w) (cs:=s.arr) (t:=50)) (cs:=SV.arr {}) (t:=50)
  simpa only [World.size_alloc] using this
 have H:=Lib.hid h
 have HS:=Lib.hid h.sv
 have HL : Hid (s.small):=⟨by rw [h.sv.lists]; exact hl,by rw [h.sv.tb,h.sv.nm,h.sv.s0]; exact ht⟩
 have HWF:=Lib.hid hwf
 have HNS : Hid ((x.names.length : Int)≤4611686018427387904):=by show _≤_; unfold Stm.lists at hl; omega
 have hkx : s.k = x.kind:=h.k
 obtain ⟨y,hy⟩ : ∃ y,x.formed = y:=⟨_,rfl⟩
 rw [hy]
 have HY:=Lib.hid hy
 clear hl ht h hwf hy
 go_enter Tryz.func14,Tryz.ntmps14
 go_upto_region 3 with (first | (refine wpList_load_row rfl 50 (.tmp 1) rfl w.heap.size rfl 50 s.arr (0,0) _ (World.alloc_heap_new w _) Tryz.underlying50 rfl (sv_size _) ?_) | (refine wpList_store_row rfl 50 (.tmp 3) (.tmp 9) rfl (w.heap.size + 1) s.arr rfl rfl 50 (SV.arr {}) (SZ.out.blk 0 rfl) (sv_size _) rfl (sv_one _) ?_; refine St.genL (St.row 0 s.arr SZ.out rfl) ?_; intro W2 S2; clear SZ))
 refine codeGenC (fun W=>CkSt w W W2.heap.size s true s) (St.toM (fun _=>False) (St.alloc S2.out (cs:=#[.bool true]) (t:=4))) ?_
 clear S2
 intro W3 S3'
 have S3:=Lib.hid S3'
 clear S3'
 generalize W2.heap.size = bo at *
 clear W2
 have kd:=S3.out.kind
 go_upto_block 0 with fail
 clear hmf
 go_cut [] from 15 (fun wc=>∃ (b : Bool) (r : SV),CkSt w wc bo s b r∧y = (b && r.unused)∧r.small)
 case first=>
  have hks : s.k = 9:=hkx.trans hk
  rw [hks] at kd
  have x21 : W3.cell? ⟨w.heap.size,21,none⟩ = some (.bool s.xd):=by simp only [World.cell?,S3.out.at.x]; rfl
  have x22 : W3.cell? ⟨w.heap.size,22,none⟩ = some (.slice s.xi.1 s.xi.2.1 s.xi.2.2):=by simp only [World.cell?,S3.out.at.x]; rfl
  have x23 : W3.cell? ⟨w.heap.size,23,none⟩ = some (.slice s.xf.1 s.xf.2.1 s.xf.2.2):=by simp only [World.cell?,S3.out.at.x]; rfl
  have x24 : W3.cell? ⟨w.heap.size,24,none⟩ = some (.slice s.xo.1 s.xo.2.1 s.xo.2.2):=by simp only [World.cell?,S3.out.at.x]; rfl
  have x25 : W3.cell? ⟨w.heap.size,25,none⟩ = some (.int .i64 s.yo):=by simp only [World.cell?,S3.out.at.x]; rfl
  have x26 : W3.cell? ⟨w.heap.size,26,none⟩ = some (.string ⟨s.yt.toArray⟩):=by simp only [World.cell?,S3.out.at.x]; rfl
  have x27 : W3.cell? ⟨w.heap.size,27,none⟩ = some (.string ⟨s.yn.toArray⟩):=by simp only [World.cell?,S3.out.at.x]; rfl
  have x28 : W3.cell? ⟨w.heap.size,28,none⟩ = some (.int .i64 s.yv.k):=by simp only [World.cell?,S3.out.at.x]; rfl
  have x29 : W3.cell? ⟨w.heap.size,29,none⟩ = some (.int .i64 s.yv.n):=by simp only [World.cell?,S3.out.at.x]; rfl
  have x30 : W3.cell? ⟨w.heap.size,30,none⟩ = some (.string s.yv.s):=by simp only [World.cell?,S3.out.at.x]; rfl
  have x31 : W3.cell? ⟨w.heap.size,31,none⟩ = some (.slice s.ya.1 s.ya.2.1 s.ya.2.2):=by simp only [World.cell?,S3.out.at.x]; rfl
  have x32 : W3.cell? ⟨w.heap.size,32,none⟩ = some (.slice s.xg.1 s.xg.2.1 s.xg.2.2):=by simp only [World.cell?,S3.out.at.x]; rfl
  have x33 : W3.cell? ⟨w.heap.size,33,none⟩ = some (.slice s.xs.1 s.xs.2.1 s.xs.2.2):=by simp only [World.cell?,S3.out.at.x]; rfl
  have x34 : W3.cell? ⟨w.heap.size,34,none⟩ = some (.int .i64 s.xl):=by simp only [World.cell?,S3.out.at.x]; rfl
  go_wp2_with fail
  refine Calls.mono ((chosen_any Q x.select _ _ (H.out.kept S3.out.below).sel HWF.out.select)) ?_
  rintro e w4 ⟨rfl,hb⟩
  have S4:=Lib.hid (S3.out.kept hb)
  clear hb x21 x22 x23 x24 x25 x26 x27 x28 x29 x30 x31 x32 x33 x34
  obtain ⟨o0,o1,o2,o3,o4,o5⟩:=S4.out.ok
  have z21 : w4.cell? ⟨w.heap.size + 1,21,none⟩ = some (.bool s.xd):=by simp only [World.cell?,S4.out.at.r]; rfl
  have zf21:=fz_of (o:=21) S4.out.at.r
  have z22 : w4.cell? ⟨w.heap.size + 1,22,none⟩ = some (.slice s.xi.1 s.xi.2.1 s.xi.2.2):=by simp only [World.cell?,S4.out.at.r]; rfl
  have zf22:=fz_of (o:=22) S4.out.at.r
  have z23 : w4.cell? ⟨w.heap.size + 1,23,none⟩ = some (.slice s.xf.1 s.xf.2.1 s.xf.2.2):=by simp only [World.cell?,S4.out.at.r]; rfl
  have zf23:=fz_of (o:=23) S4.out.at.r
  have z24 : w4.cell? ⟨w.heap.size + 1,24,none⟩ = some (.slice s.xo.1 s.xo.2.1 s.xo.2.2):=by simp only [World.cell?,S4.out.at.r]; rfl
  have zf24:=fz_of (o:=24) S4.out.at.r
  have z25 : w4.cell? ⟨w.heap.size + 1,25,none⟩ = some (.int .i64 s.yo):=by simp only [World.cell?,S4.out.at.r]; rfl
  have zf25:=fz_of (o:=25) S4.out.at.r
  have z26 : w4.cell? ⟨w.heap.size + 1,26,none⟩ = some (.string ⟨s.yt.toArray⟩):=by simp only [World.cell?,S4.out.at.r]; rfl
  have zf26:=fz_of (o:=26) S4.out.at.r
  have z27 : w4.cell? ⟨w.heap.size + 1,27,none⟩ = some (.string ⟨s.yn.toArray⟩):=by simp only [World.cell?,S4.out.at.r]; rfl
  have zf27:=fz_of (o:=27) S4.out.at.r
  have z28 : w4.cell? ⟨w.heap.size + 1,28,none⟩ = some (.int .i64 s.yv.k):=by simp only [World.cell?,S4.out.at.r]; rfl
  have zf28:=fz_of (o:=28) S4.out.at.r
  have z29 : w4.cell? ⟨w.heap.size + 1,29,none⟩ = some (.int .i64 s.yv.n):=by simp only [World.cell?,S4.out.at.r]; rfl
  have zf29:=fz_of (o:=29) S4.out.at.r
  have z30 : w4.cell? ⟨w.heap.size + 1,30,none⟩ = some (.string s.yv.s):=by simp only [World.cell?,S4.out.at.r]; rfl
  have zf30:=fz_of (o:=30) S4.out.at.r
  have z31 : w4.cell? ⟨w.heap.size + 1,31,none⟩ = some (.slice s.ya.1 s.ya.2.1 s.ya.2.2):=by simp only [World.cell?,S4.out.at.r]; rfl
  have zf31:=fz_of (o:=31) S4.out.at.r
  have z32 : w4.cell? ⟨w.heap.size + 1,32,none⟩ = some (.slice s.xg.1 s.xg.2.1 s.xg.2.2):=by simp only [World.cell?,S4.out.at.r]; rfl
  have zf32:=fz_of (o:=32) S4.out.at.r
  have z33 : w4.cell? ⟨w.heap.size + 1,33,none⟩ = some (.slice s.xs.1 s.xs.2.1 s.xs.2.2):=by simp only [World.cell?,S4.out.at.r]; rfl
  have zf33:=fz_of (o:=33) S4.out.at.r
  have z34 : w4.cell? ⟨w.heap.size + 1,34,none⟩ = some (.int .i64 s.xl):=by simp only [World.cell?,S4.out.at.r]; rfl
  have zf34:=fz_of (o:=34) S4.out.at.r
  generalize hq4 : (x.select.chosen) = q4 at *
  go_wp2_with fail
  clear z21 zf21 z22 zf22 z23 zf23 z24 zf24 z25 zf25 z26 zf26 z27 zf27 z28 zf28 z29 zf29 z30 zf30 z31 zf31 z32 zf32 z33 zf33 z34 zf34
  clear o0 o1 o2 o3 o4 o5
  go_meet
  refine ⟨q4,{ s with xd:=false,xi:=sl0,xf:=sl0,xo:=sl0,yo:=0,yt:=[],yn:=[],yv:=V.null,ya:=sl0,xg:=sl0,xs:=sl0,xl:=0 },(S4.out.store 21 [.bool false,.slice none 0 0,.slice none 0 0,.slice none 0 0,.int .i64 0,.string ⟨#[]⟩,.string ⟨#[]⟩,.int .i64 0,.int .i64 0,.string ⟨#[]⟩,.slice none 0 0,.slice none 0 0,.slice none 0 0,.int .i64 0] (st_sel _)),?_,?_⟩
  ·skip
   rw [SvIs.unused (sv_select HS.out),← HY.out,← hq4]
   unfold Stm.formed
   rw [hk]
   rfl
  ·exact ⟨Nat.le_trans (by simp [SV.lists,sl0]; try omega) HL.out.1,Nat.le_trans (by simp; try omega) HL.out.2⟩
 case rest=>
  obtain ⟨b,r,hS,hy,hsm⟩:=hcut
  have S4 : Hid (CkSt w wc bo s b r):=hS
  have HR:=Lib.hid hy
  have C1:=Lib.hid (fun W=>unused_sv r hsm.1 hsm.2 W)
  obtain ⟨o0,_,_,_,_,_⟩:=S4.out.ok
  clear hS hy hsm S3 HS HL HWF HNS HY H kd
  generalize r.unused = u at *
  cases b with
  | false=>
   have HF : Hid (y = false):=by show _ = _; rw [HR.out,Bool.false_and]
   go_wp2_with fail
   go_returns
   exact ⟨by rw [HF.out]; rfl,S4.out.below⟩
  | true=>
   have HF : Hid (y = u):=by show _ = _; rw [HR.out,Bool.true_and]
   go_wp2_with (refine wpList_load_rowW rfl 50 (.tmp 3) rfl (w.heap.size + 1) rfl 50 r.arr (0,0) _ S4.out.at.r Tryz.underlying50 rfl (sv_size _) ?_)
   refine Calls.mono (C1.out _) ?_
   rintro e w5 ⟨rfl,hb5⟩
   have S5:=Lib.hid (S4.out.kept hb5)
   clear hb5 S4 HR C1 o0
   cases u with
   | false=>
    go_wp2_with fail
    go_returns
    exact ⟨by rw [HF.out]; rfl,S5.out.below⟩
   | true=>
    go_wp2_with fail
    go_returns
    exact ⟨by rw [HF.out]; rfl,S5.out.below⟩
set_option maxRecDepth 100000 in
set_option maxHeartbeats 8000000 in
theorem ckKind_10 (Q : Nat→Prop) (x : Stm) (s : SV) (w : World) (h : StmIn Q w s x) (hwf : x.Wf) (hk : x.kind = 10) (hl : x.lists≤4611686018427387904) (ht : x.txt≤4611686018427387904) : Calls Tryz.prog 14 #[.agg s.arr] w (Says (.int .i64 (errF x.formed)) w):=by
 have hmf : ∀ (fn : Fn) (first cap : Array Value) (w : World),(Instr.makeFunc fn first cap).run Tryz.prog w = .ok (.func fn first cap) w:=fun _ _ _ _=>rfl
 have SZ : Hid (St w ((w.alloc (.cells s.arr 50)).alloc (.cells (SV.arr {}) 50)) [(w.heap.size + 1,SV.arr {},50),(w.heap.size,s.arr,50)]):=by
  show St _ _ _
  have:=St.alloc (St.alloc (St.start w) (cs:=s.arr) (t:=50)) (cs:=SV.arr {}) (t:=50)
  simpa only [World.size_alloc] using this
 have H:=Lib.hid h
 have HS:=Lib.hid h.sv
 have HL : Hid (s.small):=⟨by rw [h.sv.lists]; exact hl,by rw [h.sv.tb,h.sv.nm,h.sv.s0]; exact ht⟩
 have HWF:=Lib.hid hwf
 have HNS : Hid ((x.names.length : Int)≤4611686018427387904):=by show _≤_; unfold Stm.lists at hl; omega
 have hkx : s.k = x.kind:=h.k
 obtain ⟨y,hy⟩ : ∃ y,x.formed = y:=⟨_,rfl⟩
 rw [hy]
 have HY:=Lib.hid hy
 clear hl ht h hwf hy
 go_enter Tryz.func14,Tryz.ntmps14
 go_upto_region 3 with (first | (refine wpList_load_row rfl 50 (.tmp 1) rfl w.heap.size rfl 50 s.arr (0,0) _ (World.alloc_heap_new w _) Tryz.underlying50 rfl (sv_size _) ?_) | (refine wpList_store_row rfl 50 (.tmp 3) (.tmp 9) rfl (w.heap.size + 1) s.arr rfl rfl 50 (SV.arr {}) (SZ.out.blk 0 rfl) (sv_size _) rfl (sv_one _) ?_; refine St.genL (St.row 0 s.arr SZ.out rfl) ?_; intro W2 S2; clear SZ))
 refine codeGenC (fun W=>CkSt w W W2.heap.size s true s) (St.toM (fun _=>False) (St.alloc S2.out (cs:=#[.bool true]) (t:=4))) ?_
 clear S2
 intro W3 S3'
 have S3:=Lib.hid S3'
 clear S3'
 generalize W2.heap.size = bo at *
 clear W2
 have kd:=S3.out.kind
 go_upto_block 0 with fail
 clear hmf
 go_cut [] from 15 (fun wc=>∃ (b : Bool) (r : SV),CkSt w wc bo s b r∧y = (b && r.unused)∧r.small)
 case first=>
  have hks : s.k = 10:=hkx.trans hk
  rw [hks] at kd
  obtain ⟨o0,o1,o2,o3,o4,o5⟩:=S3.out.ok
  have x35 : W3.cell? ⟨w.heap.size,35,none⟩ = some (.int .i64 s.md):=by simp only [World.cell?,S3.out.at.x]; rfl
  have z35 : W3.cell? ⟨w.heap.size + 1,35,none⟩ = some (.int .i64 s.md):=by simp only [World.cell?,S3.out.at.r]; rfl
  have zf35:=fz_of (o:=35) S3.out.at.r
  have hmd : Hid (s.md = x.mode):=HS.out.md
  by_cases h1 : 0≤s.md
  ·by_cases h2 : s.md≤2
   ·have k2 : decide (s.md≤2) = true:=decide_eq_true h2
    go_wp2_with fail
    go_meet
    refine ⟨true,{ s with md:=0 },(S3.out.store 35 [.int .i64 0] (st_md _)),?_,?_⟩
    ·rw [SvIs.unused (sv_mode HS.out),← HY.out]
     unfold Stm.formed
     rw [hk]
     show (decide (0≤x.mode) && decide (x.mode≤2) && _) = _
     rw [← hmd.out,decide_eq_true h1,decide_eq_true h2]
     rfl
    ·exact ⟨Nat.le_trans (by simp [SV.lists]; try omega) HL.out.1,Nat.le_trans (by simp; try omega) HL.out.2⟩
   ·have k2 : decide (s.md≤2) = false:=decide_eq_false h2
    go_wp2_with fail
    go_meet
    refine ⟨false,{ s with md:=0 },(S3.out.store 35 [.int .i64 0] (st_md _)),?_,?_⟩
    ·rw [SvIs.unused (sv_mode HS.out),← HY.out]
     unfold Stm.formed
     rw [hk]
     show (decide (0≤x.mode) && decide (x.mode≤2) && _) = _
     rw [← hmd.out,decide_eq_true h1,decide_eq_false (show ¬ s.md≤2 by omega)]
     rfl
    ·exact ⟨Nat.le_trans (by simp [SV.lists]; try omega) HL.out.1,Nat.le_trans (by simp; try omega) HL.out.2⟩
  ·skip
   go_wp2_with fail
   go_meet
   refine ⟨false,{ s with md:=0 },(S3.out.store 35 [.int .i64 0] (st_md _)),?_,?_⟩
   ·rw [SvIs.unused (sv_mode HS.out),← HY.out]
    unfold Stm.formed
    rw [hk]
    show (decide (0≤x.mode) && decide (x.mode≤2) && _) = _
    rw [← hmd.out,decide_eq_false (show ¬ 0≤s.md by omega)]
    rfl
   ·exact ⟨Nat.le_trans (by simp [SV.lists]; try omega) HL.out.1,Nat.le_trans (by simp; try omega) HL.out.2⟩
 case rest=>
  obtain ⟨b,r,hS,hy,hsm⟩:=hcut
  have S4 : Hid (CkSt w wc bo s b r):=hS
  have HR:=Lib.hid hy
  have C1:=Lib.hid (fun W=>unused_sv r hsm.1 hsm.2 W)
  obtain ⟨o0,_,_,_,_,_⟩:=S4.out.ok
  clear hS hy hsm S3 HS HL HWF HNS HY H kd
  generalize r.unused = u at *
  cases b with
  | false=>
   have HF : Hid (y = false):=by show _ = _; rw [HR.out,Bool.false_and]
   go_wp2_with fail
   go_returns
   exact ⟨by rw [HF.out]; rfl,S4.out.below⟩
  | true=>
   have HF : Hid (y = u):=by show _ = _; rw [HR.out,Bool.true_and]
   go_wp2_with (refine wpList_load_rowW rfl 50 (.tmp 3) rfl (w.heap.size + 1) rfl 50 r.arr (0,0) _ S4.out.at.r Tryz.underlying50 rfl (sv_size _) ?_)
   refine Calls.mono (C1.out _) ?_
   rintro e w5 ⟨rfl,hb5⟩
   have S5:=Lib.hid (S4.out.kept hb5)
   clear hb5 S4 HR C1 o0
   cases u with
   | false=>
    go_wp2_with fail
    go_returns
    exact ⟨by rw [HF.out]; rfl,S5.out.below⟩
   | true=>
    go_wp2_with fail
    go_returns
    exact ⟨by rw [HF.out]; rfl,S5.out.below⟩
theorem StmIs.move {Q R : Nat→Prop} {w w' : World} {s : SV} {x : Stm} (hq : ∀ b,b < w.heap.size→Q b→R b∧w'.heap[b]? = w.heap[b]?) (h : StmIs Q w s x) : StmIs R w' s x:=by
 have k:=h.toIn.move hq
 refine ⟨k.k,k.tb,k.nm,?_,k.col,k.ns,k.un,k.rs,k.es,k.wh,k.sel,k.md⟩
 obtain ⟨ca,cc,ka,kc,h1,h2,h3,h4⟩:=h.sch
 exact ⟨ca,cc,ka,kc,h1,h2,rSl_move (by decide) hq h3,rSl_move (by decide) hq h4⟩
theorem StmIs.kept {Q : Nat→Prop} {w w' : World} {s : SV} {x : Stm} (h : StmIs Q w s x) (hb : Below w.heap.size w w') : StmIs Q w' s x:=h.move (fun b hl k=>⟨k,hb.block b hl⟩)
theorem StmIs.mono {Q R : Nat→Prop} {w : World} {s : SV} {x : Stm} (h : StmIs Q w s x) (hq : ∀ b,Q b→R b) : StmIs R w s x:=h.move (fun b _ hb=>⟨hq b hb,rfl⟩)
theorem StmIs.turned {Q M : Nat→Prop} {w w' : World} {s : SV} {x : Stm} (h : StmIs Q w s x) (ht : Turn M w w') (hq : ∀ b,Q b→¬ M b) : StmIs Q w' s x:=h.move (fun b hb k=>⟨k,ht.block b hb (hq b k)⟩)
theorem Turn.sameRow {M : Nat→Prop} {W : World} {b : Nat} {cs : Array Value} {t : TypeId} {fr : Nat × Nat} (h : W.heap[b]? = some (.cells cs t fr)) : Turn M W (W.setRow b cs):=
 ⟨rfl,rfl,rfl,by simp [World.setRow],fun k _ _=>by
  by_cases e : k = b
  ·subst e; rw [heap_setRow_same h,h]
  ·exact heap_setRow_other e⟩
set_option maxRecDepth 100000 in
set_option maxHeartbeats 4000000 in
theorem parse_done {B : Nat} (s : Bytes) (hs : s.length≤1000000) (l : List Tok) (x : Stm) (hx : toksR s = .ok l) (hst : stmtR s.length l = .ok x []) (hfm : x.formed = true) (w : World) (he : Env B w) (hS : Hid (StmtAt (s.length : Int) l)) (hC : Hid (CheckAt x)) :
  Calls Tryz.prog 15 #[.string ⟨s.toArray⟩] w (ParsePost w (parseS s)):=by
 have hps : parseS s = .ok x:=by unfold parseS; rw [hx]; simp only [hst]; rw [if_pos hfm]
 have HFM:=Lib.hid hfm
 clear hfm
 rw [hps]
 have hmf : ∀ (fn : Fn) (first cap : Array Value) (w : World),(Instr.makeFunc fn first cap).run Tryz.prog w = .ok (.func fn first cap) w:=fun _ _ _ _=>rfl
 have SZ : Hid (St w ((w.alloc (.cells (SV.arr {}) 50)).alloc (.cells #[.int .i64 0,.int .i64 0] 26)) [(w.heap.size + 1,#[.int .i64 0,.int .i64 0],26),(w.heap.size,SV.arr {},50)]):=by
  show St _ _ _
  have:=St.alloc (St.alloc (St.start w) (cs:=SV.arr {}) (t:=50)) (cs:=#[.int .i64 0,.int .i64 0]) (t:=26)
  simpa only [World.size_alloc] using this
 have HE:=Lib.hid he
 have HX:=Lib.hid hx
 have HST:=Lib.hid hst
 have C1:=Lib.hid (fun W (h : Env B W)=>tokens_any s hs W h)
 rw [hx] at C1
 have hsz : (⟨s.toArray⟩ : ByteArray).size = s.length:=by show s.toArray.size = _; simp
 clear hps hx he hst
 go_enter_defers Tryz.func15,Tryz.ntmps15
 go_wp2_with fail
 refine Calls.mono (C1.out _ (HE.out.kept SZ.out.below)) ?_
 rintro e w1 ⟨v,rfl,hv,hb1⟩
 have S1:=Lib.hid (SZ.out.kept hb1)
 obtain ⟨a,c,rfl⟩ : ∃ a c,v = .slice a l.length c:=by obtain ⟨a,c,e,_⟩:=hv; exact ⟨a,c,e⟩
 have HV:=Lib.hid hv
 clear hb1 SZ C1 hv
 have F1:=cellFacts_of (S1.out.blk 0 rfl) [.int .i64 0,.int .i64 0] 0 (fun j=>by simp)
 simp only [cellFacts,and_true] at F1
 have S3 : Hid (St w (((w1.setCell ⟨w.heap.size + 1,0,none⟩ (.int .i64 0)).setCell ⟨w.heap.size + 1,1,none⟩ (.int .i64 0)).alloc (.cells #[.slice a l.length c,.int .i64 (s.length : Int)] 114)) [(w1.heap.size,#[.slice a l.length c,.int .i64 (s.length : Int)],114),(w.heap.size + 1,#[.int .i64 0,.int .i64 0],26),(w.heap.size,SV.arr {},50)]):=by
  show St _ _ _
  have:=St.alloc (St.set 0 (o:=1) (v:=.int .i64 0) (St.set 0 (o:=0) (v:=.int .i64 0) S1.out rfl) rfl) (cs:=#[.slice a l.length c,.int .i64 (s.length : Int)]) (t:=114)
  rw [World.size_setCell,World.size_setCell] at this
  exact this
 have hw1 : w.heap.size + 1 < w1.heap.size:=S1.out.facts.1
 have HP : Hid (Psr (((w1.setCell ⟨w.heap.size + 1,0,none⟩ (.int .i64 0)).setCell ⟨w.heap.size + 1,1,none⟩ (.int .i64 0)).alloc (.cells #[.slice a l.length c,.int .i64 (s.length : Int)] 114)) w1.heap.size (s.length : Int) l):=by
  refine psr_of (HE.out.kept S3.out.below) (Nat.le_trans HE.out.hi (by omega)) HX.out (S3.out.blk 0 rfl) ?_
  obtain ⟨a',cap,e,hc,h⟩:=HV.out
  refine ⟨a',cap,e,hc,fun hn=>?_⟩
  obtain ⟨b,o,e2,k1,k2⟩:=h hn
  have hlt:=k2.lt (tkVals_ne hn)
  have k1' : w.heap.size + 2≤b:=by simpa only [World.size_alloc,Nat.add_assoc,Nat.reduceAdd] using k1
  refine ⟨b,o,e2,hlt,k2.same ?_⟩
  rw [Below.heap_alloc _ _ _ (by simpa using hlt),Below.heap_setCell _ _ _ _ (by show b ≠ w.heap.size + 1; omega),Below.heap_setCell _ _ _ _ (by show b ≠ w.heap.size + 1; omega)]
 go_wp2_with fail
 refine Calls.mono (hS.out _ _ HP.out) ?_
 clear F1 S1 HV
 intro e w4 h4
 rw [HST.out] at h4
 obtain ⟨v,rfl,⟨sv,rfl,hsv⟩,hp4,hT⟩:=h4
 have HSV : Hid (StmIn (w1.heap.size < ·) w4 sv x):=hsv.toIn.mono (fun b hb=>by
  have hb' : w1.heap.size + 1≤b:=by simpa only [World.size_alloc,World.size_setCell] using hb
  exact hb')
 have HSI : Hid (StmIs (w1.heap.size < ·) w4 sv x):=hsv.mono (fun b hb=>by
  have hb' : w1.heap.size + 1≤b:=by simpa only [World.size_alloc,World.size_setCell] using hb
  exact hb')
 have S4:=Lib.hid ((St.tail S3.out).turned hT (fun i hi=>by have hi' : i = w1.heap.size:=hi; omega) (fun x hx e=>by
  have e' : x.1 = w1.heap.size:=e
  simp only [List.mem_cons,List.not_mem_nil,or_false] at hx
  rcases hx with rfl | rfl
  ·have e2 : w.heap.size + 1 = w1.heap.size:=e'; omega
  ·have e2 : w.heap.size = w1.heap.size:=e'; omega))
 obtain ⟨pv,hpb,ea,ec,rfl,_⟩:=hp4.blk
 have hpl:=hp4.lt
 have HPB:=Lib.hid hpb
 clear S3 HP hT hp4 hsv hpb
 have hrp : w.heap.size + 1 < w1.heap.size:=by omega
 generalize w1.heap.size = pb at *
 go_wp2_with (first | (refine wpList_store_row rfl 50 (.tmp 2) (.tmp 23) rfl w.heap.size sv.arr rfl rfl 50 (SV.arr {}) (S4.out.blk 1 rfl) (sv_size _) rfl (sv_one _) ?_; refine st_genP (R:=fun W=>W.heap[pb]? = some (.cells #[.slice ea 0 ec,.int .i64 (s.length : Int)] 114 (0,0))∧StmIn (pb < ·) W sv x∧StmIs (pb < ·) W sv x) (St.row 1 sv.arr S4.out rfl) ⟨(heap_setRow_other (by omega)).trans HPB.out,HSV.out.turned ((Turn.refl _ _).setRow (.inl rfl)) (M:=(· = w.heap.size)) (fun b hb e=>by omega),HSI.out.turned ((Turn.refl _ _).setRow (.inl rfl)) (M:=(· = w.heap.size)) (fun b hb e=>by omega)⟩ ?_; intro w5 S5 H5; have f5 : w5.cell? ⟨pb,0,none⟩ = some (.slice ea 0 ec):=(by simp only [World.cell?,H5.out.1]; rfl); clear S4 HPB HSV HSI) | (refine wpList_load_row rfl 50 (.tmp 2) rfl w.heap.size rfl 50 sv.arr (0,0) _ (S5.out.blk 1 rfl) Tryz.underlying50 rfl (sv_size _) ?_))
 refine Calls.mono (hC.out (pb < ·) sv _ H5.out.2.1) ?_
 rw [HFM.out]
 rintro e w6 ⟨rfl,hb6⟩
 have S6:=Lib.hid (S5.out.kept hb6)
 have H6:=Lib.hid (H5.out.2.2.kept hb6)
 simp only [List.set_cons_zero,List.set_cons_succ] at S6
 clear hb6 f5 S5 H5
 have h60:=S6.out.blk 0 rfl
 have h61:=S6.out.blk 1 rfl
 have y0 : ∀ p : TurnW (fun _=>False) w6,p.w.cell? ⟨w.heap.size + 1,0,none⟩ = some (.int .i64 0):=fun p=>turnW_cell p (by simp only [World.cell?,h60]; rfl) (fun h=>h)
 have y1 : ∀ p : TurnW (fun _=>False) w6,p.w.cell? ⟨w.heap.size + 1,1,none⟩ = some (.int .i64 0):=fun p=>turnW_cell p (by simp only [World.cell?,h60]; rfl) (fun h=>h)
 have H61:=Lib.hid h61
 clear h60 h61
 unfold errF
 simp only [if_true]
 go_wp2_with fail
 refine wp_region_mixedT (fun _=>False) 3 [(0,false),(1,false),(2,true)] (by kernel_rfl) (by kernel_rfl) ?_
 refine wpM_load_rowT rfl rfl 50 (.tmp 2) rfl w.heap.size rfl 50 sv.arr (0,0) _ (fun p=>turnW_block p H61.out (fun h=>h)) Tryz.underlying50 rfl (sv_size _) ?_
 repeat (refine wpM_mildT rfl (fun K hK=>?_); go_simp; first | (refine hK _ ?_; clear hK K) | (apply Exists.intro; refine ⟨fun _=>?_,hK _ ?_⟩; (fail); clear hK K))
 refine wpM_effT rfl ?_
 intro w7 hb7 ht7
 have S7:=Lib.hid (S6.out.kept hb7)
 have H7:=Lib.hid (H6.out.kept hb7)
 have h71:=S7.out.blk 1 rfl
 clear hb7 y0 y1 H61 S6 H6
 refine wpList_store_row rfl 50 (.tmp 2) (.tmp 37) rfl w.heap.size sv.arr rfl rfl 50 sv.arr h71 (sv_size _) rfl (sv_one _) ?_
 refine ⟨ht7.trans (Turn.sameRow (M:=fun _=>False) h71) (fun _ _ h=>h),wpM_tailT ?_⟩
 have S8:=Lib.hid (St.row 1 sv.arr S7.out rfl)
 have H8 : Hid (StmIs (pb < ·) (w7.setRow w.heap.size sv.arr) sv x):=H7.out.turned ((Turn.refl _ _).setRow (.inl rfl)) (M:=(· = w.heap.size)) (fun b hb e=>by omega)
 simp only [List.set_cons_zero,List.set_cons_succ] at S8
 clear ht7 h71 S7 H7
 intro w9 hb9 _
 have S9:=Lib.hid (S8.out.kept hb9)
 have H9:=Lib.hid (H8.out.kept hb9)
 have F9:=cellFacts_of (S9.out.blk 0 rfl) [.int .i64 0,.int .i64 0] 0 (fun j=>by simp)
 simp only [cellFacts,and_true] at F9
 clear hb9 S8 H8
 simp only [List.drop_succ_cons,List.drop_zero]
 go_wp2_with fail
 have S10 : St w ((w9.setCell ⟨w.heap.size + 1,0,none⟩ (.int .i64 0)).setCell ⟨w.heap.size + 1,1,none⟩ (.int .i64 0)) [(w.heap.size + 1,#[.int .i64 0,.int .i64 0],26),(w.heap.size,sv.arr,50)]:=St.set 0 (o:=1) (v:=.int .i64 0) (St.set 0 (o:=0) (v:=.int .i64 0) S9.out rfl) rfl
 have H10 : StmIs (w.heap.size≤·) ((w9.setCell ⟨w.heap.size + 1,0,none⟩ (.int .i64 0)).setCell ⟨w.heap.size + 1,1,none⟩ (.int .i64 0)) sv x:=(H9.out.turned (((Turn.refl (· = w.heap.size + 1) w9).setCell (.inl rfl)).setCell (.inl rfl)) (fun b hb e=>by omega)).mono (fun b hb=>by omega)
 have hl:=run_loadVar_row (P:=Tryz.prog) _ w.heap.size 50 50 sv.arr (0,0) _ (S10.blk 1 rfl) Tryz.underlying50 rfl (sv_size _)
 have hl2:=run_loadVar_row (P:=Tryz.prog) _ (w.heap.size + 1) 26 26 #[.int .i64 0,.int .i64 0] (0,0) _ (S10.blk 0 rfl) Tryz.underlying26 rfl (size26 _ _)
 refine leaves_cons (f:=53) (args:=#[.pointer (some ⟨w.heap.size,0,none⟩),.pointer (some ⟨w.heap.size + 1,0,none⟩)]) (by simp) (by simp [go_sem]) ?_
 refine (catch_idle _ _ _).mono ?_
 rintro e u' w'' ⟨rfl,rfl,rfl⟩
 exact ⟨.tuple #[.agg sv.arr,.agg #[.int .i64 0,.int .i64 0]],results_cell_row2 Tryz.results15 _ _ w.heap.size (w.heap.size + 1) _ _ rfl rfl hl hl2,sv,rfl,H10,S10.below⟩
end Go.Proofs.YtimoefagohifaaaGreatDoor
