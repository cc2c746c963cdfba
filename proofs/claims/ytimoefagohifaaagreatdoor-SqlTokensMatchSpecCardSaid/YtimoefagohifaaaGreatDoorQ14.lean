/-
  Part 14 of the texts of one proof, made small by a program: see the last part for what is proved. No condition.
-/
import Derived.Test.YtimoefagohifaaaGreatDoorQ08
import Derived.Test.YtimoefagohifaaaGreatDoorQ10
import Derived.Test.YtimoefagohifaaaGreatDoorQ13
namespace Go.Proofs.YtimoefagohifaaaGreatDoor
open Go.RowKit Go.Sort
theorem St.sub {w0 w : World} {L L' : List Blk} (h : St w0 w L) (hs : L'.Sublist L) : St w0 w L':=
 ⟨h.below,fun x hx=>h.own x (hs.subset hx),h.apart.sublist (hs.map _)⟩
theorem blk_cell {w : World} {b o : Nat} {cs : Array Value} {t : TypeId} {v : Value} (h : w.heap[b]? = some (.cells cs t (0,0))) (hv : cs[o]? = some v) : w.cell? ⟨b,o,none⟩ = some v∧w.frozen? ⟨b,o,none⟩ = false∧b < w.heap.size:=
 ⟨by simp only [World.cell?,h]; exact hv,by simp [World.frozen?,h],(Array.getElem?_eq_some_iff.1 h).1⟩
theorem infoOd : (Tryz.prog.info? 205).map (fun i=>(i.zero,i.size,i.bytes)) = some (some (.agg #[.int .i64 0,.bool false]),2,16):=by kernel_rfl
set_option maxRecDepth 100000 in
set_option maxHeartbeats 8000000 in
theorem shape_ex (Q : Nat→Prop) (bb : Nat) (sv : Value) (q : QV) (xa : Array Value) (so : Option Addr) (sc : Nat) (ia : Option Addr) (ic : Nat) (w : World) (_hb : w.heap[bb]? = some (.cells #[sv,.int .i64 0] 125 (0,0))) (h0 : xa[0]? = some (.bool false)) (h12 : xa[12]? = some (.slice so 1 sc)) (h13 : xa[13]? = some (.int .i64 3))
  (hs : RSl srtE Q w (.slice so 1 sc) [⟨2,true⟩]) :
  Calls Tryz.prog 71 #[.pointer (some ⟨bb,0,none⟩),.agg q.arr,.agg xa,.slice ia 2 ic] w (fun e w'=>∃ n1 n2 n3 g cap zs,e = .returned (.agg (QV.arr { k:=7,s:=(some ⟨n3,0,none⟩,1,1),n:=3 }))∧1≤cap ∧
   St w w' [(n3,QV.arr { k:=6,s:=(some ⟨n2,0,none⟩,1,1),o:=(some ⟨g,0,none⟩,1,cap) },73),(g,(.int .i64 1 :: .bool true :: zs).toArray,205),(n2,QV.arr { k:=3,s:=(some ⟨n1,0,none⟩,1,1),c:=(ia,2,ic) },73),(n1,q.arr,73)]):=by
 have HS:=Lib.hid hs
 clear hs
 go_enter Tryz.func71,Tryz.ntmps71
 go_upto_region 1 with fail
 refine St.gen (St.alloc (St.alloc (St.alloc (St.start w) (cs:=q.arr) (t:=73)) (cs:=xa) (t:=48)) (cs:=QV.arr {}) (t:=73)) ?_
 intro w1 S1
 simp only [World.size_alloc] at S1
 go_upto_region 3 with fail
 go_wp2_with (refine wpList_load_row rfl 73 (.tmp 5) rfl w.heap.size rfl 73 q.arr (0,0) _ (S1.out.blk 2 rfl) Tryz.underlying73 rfl (qv_size _) ?_)
 refine Calls.mono (over_any 3 q w1) ?_
 rintro e w2 ⟨n1,rfl,hge,hbk,hbl⟩
 have S2:=Lib.hid (St.since S1.out hbl hge hbk)
 clear hge hbk hbl S1
 go_upto_region 4 with (refine wpList_store_row rfl 73 (.tmp 5) (.tmp 19) rfl w.heap.size (QV.arr { k:=3,s:=(some ⟨n1,0,none⟩,1,1) }) rfl rfl 73 q.arr (S2.out.blk 3 rfl) (qv_size _) rfl (qv_one _) ?_)
 refine St.gen (St.row 3 (QV.arr { k:=3,s:=(some ⟨n1,0,none⟩,1,1) }) S2.out rfl) ?_
 intro w3 S3
 clear S2
 simp only [List.set_cons_zero,List.set_cons_succ] at S3
 obtain ⟨c9,f9,l9⟩:=blk_cell (o:=9) (S3.out.blk 3 rfl) rfl
 go_upto_region 10 with fail
 refine St.gen (St.set 3 (o:=9) (v:=.slice ia 2 ic) S3.out rfl) ?_
 intro w4 S4'
 have S4 : Hid (St w w4 [(n1,q.arr,73),(w.heap.size + 1 + 1,QV.arr {},73),(w.heap.size + 1,xa,48),(w.heap.size,QV.arr { k:=3,s:=(some ⟨n1,0,none⟩,1,1),c:=(ia,2,ic) },73)]):=S4'.out
 clear S4' S3 c9 f9 l9
 obtain ⟨x0,_,lx⟩:=blk_cell (o:=0) (S4.out.blk 2 rfl) h0
 obtain ⟨x12,_,_⟩:=blk_cell (o:=12) (S4.out.blk 2 rfl) h12
 go_upto_region 13 with fail
 clear x0 x12 lx
 go_wp2_with (refine wpList_load_row rfl 73 (.tmp 5) rfl w.heap.size rfl 73 (QV.arr { k:=3,s:=(some ⟨n1,0,none⟩,1,1),c:=(ia,2,ic) }) (0,0) _ (S4.out.blk 3 rfl) Tryz.underlying73 rfl (qv_size _) ?_)
 refine Calls.mono (over_any 6 { k:=3,s:=(some ⟨n1,0,none⟩,1,1),c:=(ia,2,ic) } w4) ?_
 rintro e w5 ⟨n2,rfl,hge,hbk,hbl⟩
 have S5:=Lib.hid (St.since S4.out hbl hge hbk)
 clear hge hbk hbl S4
 go_upto_region 14 with (refine wpList_store_row rfl 73 (.tmp 5) (.tmp 46) rfl w.heap.size (QV.arr { k:=6,s:=(some ⟨n2,0,none⟩,1,1) }) rfl rfl 73 (QV.arr { k:=3,s:=(some ⟨n1,0,none⟩,1,1),c:=(ia,2,ic) }) (S5.out.blk 4 rfl) (qv_size _) rfl (qv_one _) ?_)
 refine St.gen (St.row 4 (QV.arr { k:=6,s:=(some ⟨n2,0,none⟩,1,1) }) S5.out rfl) ?_
 intro w6 S6
 clear S5
 simp only [List.set_cons_zero,List.set_cons_succ] at S6
 obtain ⟨x12,_,lx⟩:=blk_cell (o:=12) (S6.out.blk 3 rfl) h12
 obtain ⟨b,o,cp,cs,hbo,hin,hat⟩:=(HS.out.kept (by decide) S6.out.below).at (k:=0) rfl
 injection hbo with e1 e3 e2
 subst e1 e2
 clear e3
 have e : cs = [.int .i64 2,.bool true]:=hin
 subst e
 have y0:=hat 0 _ rfl
 have y1:=hat 1 _ rfl
 simp only [Nat.zero_mul,Nat.add_zero] at y0 y1
 have ly:=block_lt_of_cell y0
 clear hat hin
 go_upto_region 15 with fail
 refine wp_loop_rounds 2 ?_
 rw [rounds_succ]
 go_upto_region 17 with fail
 clear y0 y1 ly x12 lx
 refine St.gen (St.alloc S6.out (cs:=#[.int .i64 2,.bool true]) (t:=162)) ?_
 intro w7 S7
 clear S6
 generalize w6.heap.size = eb at S7 ⊢
 obtain ⟨z0,_,lz⟩:=blk_cell (o:=0) (S7.out.blk 0 rfl) rfl
 obtain ⟨z1,_,_⟩:=blk_cell (o:=1) (S7.out.blk 0 rfl) rfl
 obtain ⟨c12,f12,l12⟩:=blk_cell (o:=12) (S7.out.blk 5 rfl) rfl
 simp only [sl0] at c12
 go_upto_region 19 with fail
 go_wp2_with (refine wpList_append_nil rfl (.tmp 66) (.tmp 73) 71 rfl 205 (.agg #[.int .i64 0,.bool false]) 2 16 Tryz.underlying71 infoOd rfl (by decide) (St.laid S7.out) rfl _ 1 [.int .i64 1,.bool true] rfl (by decide) (slAt_fresh (by decide)) rfl (by simp [Value.oneCell']) (by decide) (by unfold maxLen; decide) ?_; intro g cap zs w8 S8 hc1 hc2 hc3; simp only [List.cons_append,List.nil_append] at S8; obtain ⟨d12,k12,j12⟩:=blk_cell (o:=12) (S8.out.blk 6 rfl) rfl)
 clear S7 z0 z1 lz c12 f12 l12 d12 k12 j12
 have S9:=St.set 6 (o:=12) (v:=.slice (some ⟨g,0,none⟩) 1 cap) S8.out rfl
 clear S8
 rw [rounds_succ]
 go_upto_region 21 with fail
 refine St.gen S9 ?_
 intro w9 S9'
 have S9 : Hid (St w w9 [(g,(.int .i64 1 :: .bool true :: zs).toArray,205),(eb,#[.int .i64 2,.bool true],162),(n2,QV.arr { k:=3,s:=(some ⟨n1,0,none⟩,1,1),c:=(ia,2,ic) },73),(n1,q.arr,73),(w.heap.size + 1 + 1,QV.arr {},73),(w.heap.size + 1,xa,48),(w.heap.size,QV.arr { k:=6,s:=(some ⟨n2,0,none⟩,1,1),o:=(some ⟨g,0,none⟩,1,cap) },73)]):=S9'.out
 clear S9'
 obtain ⟨x13,_,lx⟩:=blk_cell (o:=13) (S9.out.blk 5 rfl) h13
 go_upto_region 22 with fail
 go_wp2_with (refine wpList_load_row rfl 73 (.tmp 5) rfl w.heap.size rfl 73 (QV.arr { k:=6,s:=(some ⟨n2,0,none⟩,1,1),o:=(some ⟨g,0,none⟩,1,cap) }) (0,0) _ (S9.out.blk 6 rfl) Tryz.underlying73 rfl (qv_size _) ?_)
 refine Calls.mono (over_any 7 { k:=6,s:=(some ⟨n2,0,none⟩,1,1),o:=(some ⟨g,0,none⟩,1,cap) } w9) ?_
 rintro e w10 ⟨n3,rfl,hge,hbk,hbl⟩
 have S10:=Lib.hid (St.since S9.out hbl hge hbk)
 clear hge hbk hbl S9 x13 lx
 go_upto_region 23 with (refine wpList_store_row rfl 73 (.tmp 5) (.tmp 81) rfl w.heap.size (QV.arr { k:=7,s:=(some ⟨n3,0,none⟩,1,1) }) rfl rfl 73 (QV.arr { k:=6,s:=(some ⟨n2,0,none⟩,1,1),o:=(some ⟨g,0,none⟩,1,cap) }) (S10.out.blk 7 rfl) (qv_size _) rfl (qv_one _) ?_)
 refine St.gen (St.row 7 (QV.arr { k:=7,s:=(some ⟨n3,0,none⟩,1,1) }) S10.out rfl) ?_
 intro w11 S11
 clear S10
 simp only [List.set_cons_zero,List.set_cons_succ] at S11
 obtain ⟨x13,_,lx⟩:=blk_cell (o:=13) (S11.out.blk 6 rfl) h13
 obtain ⟨c13,f13,l13⟩:=blk_cell (o:=13) (S11.out.blk 7 rfl) rfl
 go_upto_region 24 with fail
 refine St.gen (St.set 7 (o:=13) (v:=.int .i64 3) S11.out rfl) ?_
 intro w12 S12'
 have S12 : Hid (St w w12 [(n3,QV.arr { k:=6,s:=(some ⟨n2,0,none⟩,1,1),o:=(some ⟨g,0,none⟩,1,cap) },73),(g,(.int .i64 1 :: .bool true :: zs).toArray,205),(eb,#[.int .i64 2,.bool true],162),(n2,QV.arr { k:=3,s:=(some ⟨n1,0,none⟩,1,1),c:=(ia,2,ic) },73),(n1,q.arr,73),(w.heap.size + 1 + 1,QV.arr {},73),(w.heap.size + 1,xa,48),(w.heap.size,QV.arr { k:=7,s:=(some ⟨n3,0,none⟩,1,1),n:=3 },73)]):=S12'.out
 clear S12' S11 x13 lx c13 f13 l13
 go_wp2_with (first | (refine wpList_load_row rfl 73 (.tmp 5) rfl w.heap.size rfl 73 (QV.arr { k:=7,s:=(some ⟨n3,0,none⟩,1,1),n:=3 }) (0,0) _ (S12.out.blk 7 rfl) Tryz.underlying73 rfl (qv_size _) ?_) | (refine wpList_store_row rfl 73 (.tmp 8) (.tmp 85) rfl (w.heap.size + 1 + 1) (QV.arr { k:=7,s:=(some ⟨n3,0,none⟩,1,1),n:=3 }) rfl rfl 73 (QV.arr {}) (S12.out.blk 5 rfl) (qv_size _) rfl (qv_one _) ?_))
 have SE:=St.row 5 (QV.arr { k:=7,s:=(some ⟨n3,0,none⟩,1,1),n:=3 }) S12.out rfl
 simp only [List.set_cons_zero,List.set_cons_succ] at SE
 refine bodyPost_ret (v:=.agg (QV.arr { k:=7,s:=(some ⟨n3,0,none⟩,1,1),n:=3 })) (results_cell_row rfl _ _ (w.heap.size + 1 + 1) 73 (QV.arr { k:=7,s:=(some ⟨n3,0,none⟩,1,1),n:=3 }) (0,0) _ rfl (SE.blk 5 rfl) Tryz.underlying73 rfl (qv_size _)) rfl ?_
 exact ⟨n1,n2,n3,g,cap,zs,rfl,hc1,St.sub SE (by repeat (first | exact List.Sublist.slnil | apply List.Sublist.cons_cons | apply List.Sublist.cons))⟩
end Go.Proofs.YtimoefagohifaaaGreatDoor
namespace Go.Proofs.YtimoefagohifaaaGreatDoor
open Go.RowKit Go.Sort
def exSel : Sel:=⟨false,[⟨0,colEx [] [97]⟩,⟨2,colEx [] [98]⟩],[[116]],[],Ex.zero,[colEx [] [97]],[⟨2,true⟩],3⟩
theorem slAt_blk {w : World} {b n cap : Nat} {cs : Array Value} {t : TypeId} (h : w.heap[b]? = some (.cells cs t (0,0))) (hc : n≤cap) : SlAt w (.slice (some ⟨b,0,none⟩) n cap) n cs.toList:=by
 refine ⟨_,cap,rfl,hc,fun _=>⟨b,0,rfl,fun j u hu=>?_⟩⟩
 simp only [World.cell?,h,Nat.zero_add]
 simpa using hu
theorem rSl_row {α : Type} {E : ElRep α} {Q : Nat→Prop} {W : World} {l : List α} {acs zs : List Value} {g cap : Nat} {t : TypeId} (h : W.heap[g]? = some (.cells (acs ++ zs).toArray t (0,0))) (hl : LIn E Q W l acs) (hc : l.length≤cap) (hq : Q g) : RSl E Q W (.slice (some ⟨g,0,none⟩) l.length cap) l:=by
 refine ⟨acs,⟨_,_,rfl,hc,fun _=>⟨g,0,rfl,hq,fun j u hu=>?_⟩⟩,hl⟩
 simp only [World.cell?,h,Nat.zero_add]
 have hj:=(List.getElem?_eq_some_iff.1 hu).1
 simp only [List.getElem?_toArray]
 rw [List.getElem?_append_left hj]; exact hu
theorem tbl_cols {Q : Nat→Prop} {w : World} {tb tq tc cb co cc : Nat} {ia : Option Addr} {ic : Nat} {ka : Option Addr} {kc : Nat} (hd : RSl tblE Q w (.slice (some ⟨tb,tq,none⟩) 1 tc) [exTbl]) (H : TblAt w tb tq cb co cc ia ic ka kc) :
  LIn tblE Q w [exTbl] [.string ⟨[116].toArray⟩,.slice (some ⟨cb,co,none⟩) 2 cc,.slice ia 0 ic,.slice ka 0 kc]:=by
 obtain ⟨b,o,cp,cs,hb,hi,hat⟩:=hd.at (k:=0) rfl
 injection hb with e1 e3 e2
 injection e1 with e1
 injection e1 with e1 e4
 subst e1 e2 e4
 obtain ⟨ca',cc',ia',ic',ka',kc',rfl,hc⟩:=hi
 have t1:=hat 1 _ rfl
 have t2:=hat 2 _ rfl
 have t3:=hat 3 _ rfl
 simp only [Nat.zero_mul,Nat.add_zero] at t1 t2 t3
 have e1:=t1.symm.trans H.t1
 have e2:=t2.symm.trans H.t2
 have e3:=t3.symm.trans H.t3
 simp only [Option.some.injEq,Value.slice.injEq] at e1 e2 e3
 obtain ⟨rfl,_,rfl⟩:=e1
 obtain ⟨rfl,_,rfl⟩:=e2
 obtain ⟨rfl,_,rfl⟩:=e3
 exact ⟨_,[],rfl,⟨_,_,_,_,_,_,rfl,hc⟩,rfl⟩
theorem St.join {w0 w w' : World} {L L' : List Blk} (h : St w0 w L) (k : St w w' L') : St w0 w' (L' ++ L):=by
 have hk:=h.kept k.below
 refine ⟨hk.below,fun x hx=>?_,?_⟩
 ·rcases List.mem_append.1 hx with hx | hx
  ·exact ⟨Nat.le_trans h.below.size (k.own x hx).1,(k.own x hx).2⟩
  ·exact hk.own x hx
 ·rw [List.map_append]
  refine List.nodup_append.2 ⟨k.apart,h.apart,fun a ha b hb=>?_⟩
  obtain ⟨x,hx,rfl⟩:=List.mem_map.1 ha
  obtain ⟨y,hy,rfl⟩:=List.mem_map.1 hb
  have h1:=(k.own x hx).1
  have h2:=(Array.getElem?_eq_some_iff.1 (h.own y hy).2).1
  omega
theorem setCells_same {b : Nat} {cs : Array Value} {t : TypeId} : ∀ (vs : List Value) (o : Nat) (w : World),w.heap[b]? = some (.cells cs t (0,0))→(∀ j v,vs[j]? = some v→cs[o + j]? = some v)→w.setCells b o vs = w
 | [],o,w,_,_=>rfl
 | v :: vs,o,w,h,hv=>by
  have e:=set_same (o:=o) h (hv 0 v rfl)
  show (w.setCell ⟨b,o,none⟩ v).setCells b (o + 1) vs = w
  rw [e]
  exact setCells_same vs (o + 1) w h (fun j u hu=>by have:=hv (j + 1) u hu; rw [show o + 1 + j = o + (j + 1) by omega]; exact this)
theorem results_cell_slot {P : Program} {fn : Func} {p q : Tmp} {ty : TypeId} (h : fn.results = #[.cell p ty,.tmp q]) (tmps : Array Value) (w : World) (g : Nat) (x y : Value)
  (hp : tmps.getD p undef = .pointer (some ⟨g,0,none⟩)) (hq : tmps.getD q undef = y) (h1 : (loadVar ty ⟨g,0,none⟩).run P w = .ok x w) :
  (results fn tmps).run P w = .ok (.tuple #[x,y]) w:=by
 have hp' : tmps[p]?.getD undef = .pointer (some ⟨g,0,none⟩):=by simpa using hp
 have hq' : tmps[q]?.getD undef = y:=by simpa using hq
 simp [results,h,hp',hq',asAddr,h1]
section
variable {W : World} {T : Nat→Prop} (hT : ∀ b,T b)
include hT
theorem qy_block {q : QV} {y : Qy} {b : Nat} (h : W.heap[b]? = some (.cells q.arr 73 (0,0))) (hq : QyIn T W y q.arr.toList) : RSl qyE T W (.slice (some ⟨b,0,none⟩) 1 1) [y]:=by
 have:=rSl_row (E:=qyE) (Q:=T) (W:=W) (l:=[y]) (acs:=q.arr.toList) (zs:=[]) (g:=b) (cap:=1) (t:=73) (by rw [h]; simp) ⟨_,[],(List.append_nil _).symm,hq,rfl⟩ (Nat.le_refl 1) (hT b)
 exact this
omit hT in
theorem qy_scan : QyIn T W exScan (QV.arr { k:=1,tb:=[116] }).toList:=qyIn_mk rSl_nil rSl_nil rSl_nil rSl_nil rSl_nil rSl_nil
theorem qy_group {n0 gg gcap ag acap : Nat} {gzs azs : List Value} (h0 : W.heap[n0]? = some (.cells (QV.arr { k:=1,tb:=[116] }) 73 (0,0))) (hg : W.heap[gg]? = some (.cells (.int .i64 0 :: gzs).toArray 3 (0,0))) (hgc : 1≤gcap)
  (ha : W.heap[ag]? = some (.cells (.int .i64 2 :: .int .i64 1 :: .int .i64 1 :: .int .i64 0 :: .int .i64 0 :: .string ⟨#[]⟩ :: .slice none 0 0 :: azs).toArray 134 (0,0))) (hac : 1≤acap) :
  QyIn T W exGroup (QV.arr { k:=5,s:=(some ⟨n0,0,none⟩,1,1),g:=(some ⟨gg,0,none⟩,1,gcap),a:=(some ⟨ag,0,none⟩,1,acap) }).toList:=
 qyIn_mk (qy_block hT h0 qy_scan) rSl_nil rSl_nil
  (rSl_row (E:=intE) (l:=[0]) (acs:=[.int .i64 0]) (zs:=gzs) hg ⟨[.int .i64 0],[],rfl,rfl,rfl⟩ hgc (hT gg))
  (rSl_row (E:=agE) (l:=[⟨2,Xp.col 1⟩]) (acs:=[.int .i64 2,.int .i64 1,.int .i64 1,.int .i64 0,.int .i64 0,.string ⟨#[]⟩,.slice none 0 0]) (zs:=azs) ha ⟨_,[],(List.append_nil _).symm,⟨_,rfl,xpIn_iff.2 ⟨.slice none 0 0,rfl,rSl_nil⟩⟩,rfl⟩ hac (hT ag)) rSl_nil
theorem qy_project {q : QV} {m1 jg jcap : Nat} {jzs : List Value} (h1 : W.heap[m1]? = some (.cells q.arr 73 (0,0))) (hq : QyIn T W exGroup q.arr.toList)
  (hj : W.heap[jg]? = some (.cells (.int .i64 1 :: .int .i64 0 :: .int .i64 0 :: .int .i64 0 :: .string ⟨#[]⟩ :: .slice none 0 0 :: .int .i64 1 :: .int .i64 1 :: .int .i64 0 :: .int .i64 0 :: .string ⟨#[]⟩ :: .slice none 0 0 :: jzs).toArray 69 (0,0))) (hjc : 2≤jcap) :
  QyIn T W exProject (QV.arr { k:=3,s:=(some ⟨m1,0,none⟩,1,1),c:=(some ⟨jg,0,none⟩,2,jcap) }).toList:=
 qyIn_mk (qy_block hT h1 hq) rSl_nil
  (rSl_row (E:=xpE) (l:=[Xp.col 0,Xp.col 1]) (acs:=[.int .i64 1,.int .i64 0,.int .i64 0,.int .i64 0,.string ⟨#[]⟩,.slice none 0 0,.int .i64 1,.int .i64 1,.int .i64 0,.int .i64 0,.string ⟨#[]⟩,.slice none 0 0]) (zs:=jzs) hj
   ⟨[.int .i64 1,.int .i64 0,.int .i64 0,.int .i64 0,.string ⟨#[]⟩,.slice none 0 0],[.int .i64 1,.int .i64 1,.int .i64 0,.int .i64 0,.string ⟨#[]⟩,.slice none 0 0],rfl,xpIn_iff.2 ⟨.slice none 0 0,rfl,rSl_nil⟩,⟨_,[],(List.append_nil _).symm,xpIn_iff.2 ⟨.slice none 0 0,rfl,rSl_nil⟩,rfl⟩⟩ hjc (hT jg))
  rSl_nil rSl_nil rSl_nil
theorem qy_order {q : QV} {m2 og ocap : Nat} {ozs : List Value} (h2 : W.heap[m2]? = some (.cells q.arr 73 (0,0))) (hq : QyIn T W exProject q.arr.toList) (ho : W.heap[og]? = some (.cells (.int .i64 1 :: .bool true :: ozs).toArray 205 (0,0))) (hoc : 1≤ocap) :
  QyIn T W exOrder (QV.arr { k:=6,s:=(some ⟨m2,0,none⟩,1,1),o:=(some ⟨og,0,none⟩,1,ocap) }).toList:=
 qyIn_mk (qy_block hT h2 hq) rSl_nil rSl_nil rSl_nil rSl_nil
  (rSl_row (E:=odE) (l:=[⟨1,true⟩]) (acs:=[.int .i64 1,.bool true]) (zs:=ozs) ho ⟨_,[],(List.append_nil _).symm,rfl,rfl⟩ hoc (hT og))
theorem qy_limit {q : QV} {m3 : Nat} (h3 : W.heap[m3]? = some (.cells q.arr 73 (0,0))) (hq : QyIn T W exOrder q.arr.toList) : QyIn T W exLimit (QV.arr { k:=7,s:=(some ⟨m3,0,none⟩,1,1),n:=3 }).toList:=
 qyIn_mk (qy_block hT h3 hq) rSl_nil rSl_nil rSl_nil rSl_nil rSl_nil
end
theorem infoTbl : (Tryz.prog.info? 35).map (fun i=>(i.zero,i.size,i.bytes)) = some (some (.agg #[.string ⟨#[]⟩,.slice none 0 0,.slice none 0 0,.slice none 0 0]),4,88):=by kernel_rfl
theorem infoXp : (Tryz.prog.info? 69).map (fun i=>(i.zero,i.size,i.bytes)) = some (some (.agg #[.int .i64 0,.int .i64 0,.int .i64 0,.int .i64 0,.string ⟨#[]⟩,.slice none 0 0]),6,72):=by kernel_rfl
theorem infoAg : (Tryz.prog.info? 134).map (fun i=>(i.zero,i.size,i.bytes)) = some (some (.agg #[.int .i64 0,.int .i64 0,.int .i64 0,.int .i64 0,.int .i64 0,.string ⟨#[]⟩,.slice none 0 0]),7,80):=by kernel_rfl
end Go.Proofs.YtimoefagohifaaaGreatDoor
