/- Part 18; the last part says what is proved. No condition. -/
import Derived.Test.YtjmmbebkbkgefaaGreatDoorA17
namespace Go.Proofs.YtjmmbebkbkgefaaGreatDoor
open Go.RowKit Go.Sort
def exSel : Sel:=⟨false,[⟨0,colEx [] [97]⟩,⟨2,colEx [] [98]⟩],[[116]],[],Ex.zero,[colEx [] [97]],[⟨2,true⟩],3⟩
theorem slAt_blk {w : World} {b n cap : Nat} {cs : Array Value} {t : TypeId} (h : w.heap[b]? = some (.cells cs t (0,0))) (hc : n≤cap) : SlAt w (.slice (some ⟨b,0,none⟩) n cap) n cs.toList:=by
 refine ⟨_,cap,rfl,hc,fun _=>⟨b,0,rfl,fun j u hu=>?_⟩⟩
 simp only [World.cell?,h,Nat.zero_add]
 simpa using hu
theorem rSl_row {α : Type} {E : ElRep α} {Q : Nat→Prop} {W : World} {l : List α} {acs zs : List Value} {g cap : Nat} {t : TypeId} (h : W.heap[g]? = some (.cells (acs ++ zs).toArray t (0,0))) (hl : LIn E Q W l acs) (hc : l.length≤cap) (hq : Q g) : RSl E Q W (.slice (some ⟨g,0,none⟩) l.length cap) l:=by
 refine ⟨acs,⟨_,_,rfl,hc,fun _=>⟨g,0,rfl,hq,fun j u hu=>?_⟩⟩,hl⟩
 simp only [World.cell?,h,Nat.zero_add]
 have hj:=(List.getElem?_eq_some_iff.1 hu).1
 simp only [List.getElem?_toArray]
 rw [List.getElem?_append_left hj]; exact hu
theorem tbl_cols {Q : Nat→Prop} {w : World} {tb tq tc cb co cc : Nat} {ia : Option Addr} {ic : Nat} {ka : Option Addr} {kc : Nat} (hd : RSl tblE Q w (.slice (some ⟨tb,tq,none⟩) 1 tc) [exTbl]) (H : TblAt w tb tq cb co cc ia ic ka kc) :
  LIn tblE Q w [exTbl] [.string ⟨[116].toArray⟩,.slice (some ⟨cb,co,none⟩) 2 cc,.slice ia 0 ic,.slice ka 0 kc]:=by
 obtain ⟨b,o,cp,cs,hb,hi,hat⟩:=hd.at (k:=0) rfl
 injection hb with e1 e3 e2
 injection e1 with e1
 injection e1 with e1 e4
 subst e1 e2 e4
 obtain ⟨ca',cc',ia',ic',ka',kc',rfl,hc⟩:=hi
 have t1:=hat 1 _ rfl
 have t2:=hat 2 _ rfl
 have t3:=hat 3 _ rfl
 simp only [Nat.zero_mul,Nat.add_zero] at t1 t2 t3
 have e1:=t1.symm.trans H.t1
 have e2:=t2.symm.trans H.t2
 have e3:=t3.symm.trans H.t3
 simp only [Option.some.injEq,Value.slice.injEq] at e1 e2 e3
 obtain ⟨rfl,_,rfl⟩:=e1
 obtain ⟨rfl,_,rfl⟩:=e2
 obtain ⟨rfl,_,rfl⟩:=e3
 exact ⟨_,[],rfl,⟨_,_,_,_,_,_,rfl,hc⟩,rfl⟩
theorem St.join {w0 w w' : World} {L L' : List Blk} (h : St w0 w L) (k : St w w' L') : St w0 w' (L' ++ L):=by
 have hk:=h.kept k.below
 refine ⟨hk.below,fun x hx=>?_,?_⟩
 ·rcases List.mem_append.1 hx with hx | hx
  ·exact ⟨Nat.le_trans h.below.size (k.own x hx).1,(k.own x hx).2⟩
  ·exact hk.own x hx
 ·rw [List.map_append]
  refine List.nodup_append.2 ⟨k.apart,h.apart,fun a ha b hb=>?_⟩
  obtain ⟨x,hx,rfl⟩:=List.mem_map.1 ha
  obtain ⟨y,hy,rfl⟩:=List.mem_map.1 hb
  have h1:=(k.own x hx).1
  have h2:=(Array.getElem?_eq_some_iff.1 (h.own y hy).2).1
  omega
theorem setCells_same {b : Nat} {cs : Array Value} {t : TypeId} : ∀ (vs : List Value) (o : Nat) (w : World),w.heap[b]? = some (.cells cs t (0,0))→(∀ j v,vs[j]? = some v→cs[o + j]? = some v)→w.setCells b o vs = w
 | [],o,w,_,_=>rfl
 | v :: vs,o,w,h,hv=>by
  have e:=set_same (o:=o) h (hv 0 v rfl)
  show (w.setCell ⟨b,o,none⟩ v).setCells b (o + 1) vs = w
  rw [e]
  exact setCells_same vs (o + 1) w h (fun j u hu=>by have:=hv (j + 1) u hu; rw [show o + 1 + j = o + (j + 1) by omega]; exact this)
theorem results_cell_slot {P : Program} {fn : Func} {p q : Tmp} {ty : TypeId} (h : fn.results = #[.cell p ty,.tmp q]) (tmps : Array Value) (w : World) (g : Nat) (x y : Value)
  (hp : tmps.getD p undef = .pointer (some ⟨g,0,none⟩)) (hq : tmps.getD q undef = y) (h1 : (loadVar ty ⟨g,0,none⟩).run P w = .ok x w) :
  (results fn tmps).run P w = .ok (.tuple #[x,y]) w:=by
 have hp' : tmps[p]?.getD undef = .pointer (some ⟨g,0,none⟩):=by simpa using hp
 have hq' : tmps[q]?.getD undef = y:=by simpa using hq
 simp [results,h,hp',hq',asAddr,h1]
section
variable {W : World} {T : Nat→Prop} (hT : ∀ b,T b)
include hT
theorem qy_block {q : QV} {y : Qy} {b : Nat} (h : W.heap[b]? = some (.cells q.arr 59 (0,0))) (hq : QyIn T W y q.arr.toList) : RSl qyE T W (.slice (some ⟨b,0,none⟩) 1 1) [y]:=by
 have:=rSl_row (E:=qyE) (Q:=T) (W:=W) (l:=[y]) (acs:=q.arr.toList) (zs:=[]) (g:=b) (cap:=1) (t:=59) (by rw [h]; simp) ⟨_,[],(List.append_nil _).symm,hq,rfl⟩ (Nat.le_refl 1) (hT b)
 exact this
omit hT in
theorem qy_scan : QyIn T W exScan (QV.arr { k:=1,tb:=[116] }).toList:=qyIn_mk rSl_nil rSl_nil rSl_nil rSl_nil rSl_nil rSl_nil
theorem qy_group {n0 gg gcap ag acap : Nat} {gzs azs : List Value} (h0 : W.heap[n0]? = some (.cells (QV.arr { k:=1,tb:=[116] }) 59 (0,0))) (hg : W.heap[gg]? = some (.cells (.int .i64 0 :: gzs).toArray 3 (0,0))) (hgc : 1≤gcap)
  (ha : W.heap[ag]? = some (.cells (.int .i64 2 :: .int .i64 1 :: .int .i64 1 :: .int .i64 0 :: .int .i64 0 :: .string ⟨#[]⟩ :: .slice none 0 0 :: azs).toArray 107 (0,0))) (hac : 1≤acap) :
  QyIn T W exGroup (QV.arr { k:=5,s:=(some ⟨n0,0,none⟩,1,1),g:=(some ⟨gg,0,none⟩,1,gcap),a:=(some ⟨ag,0,none⟩,1,acap) }).toList:=
 qyIn_mk (qy_block hT h0 qy_scan) rSl_nil rSl_nil
  (rSl_row (E:=intE) (l:=[0]) (acs:=[.int .i64 0]) (zs:=gzs) hg ⟨[.int .i64 0],[],rfl,rfl,rfl⟩ hgc (hT gg))
  (rSl_row (E:=agE) (l:=[⟨2,Xp.col 1⟩]) (acs:=[.int .i64 2,.int .i64 1,.int .i64 1,.int .i64 0,.int .i64 0,.string ⟨#[]⟩,.slice none 0 0]) (zs:=azs) ha ⟨_,[],(List.append_nil _).symm,⟨_,rfl,xpIn_iff.2 ⟨.slice none 0 0,rfl,rSl_nil⟩⟩,rfl⟩ hac (hT ag)) rSl_nil
theorem qy_project {q : QV} {m1 jg jcap : Nat} {jzs : List Value} (h1 : W.heap[m1]? = some (.cells q.arr 59 (0,0))) (hq : QyIn T W exGroup q.arr.toList)
  (hj : W.heap[jg]? = some (.cells (.int .i64 1 :: .int .i64 0 :: .int .i64 0 :: .int .i64 0 :: .string ⟨#[]⟩ :: .slice none 0 0 :: .int .i64 1 :: .int .i64 1 :: .int .i64 0 :: .int .i64 0 :: .string ⟨#[]⟩ :: .slice none 0 0 :: jzs).toArray 49 (0,0))) (hjc : 2≤jcap) :
  QyIn T W exProject (QV.arr { k:=3,s:=(some ⟨m1,0,none⟩,1,1),c:=(some ⟨jg,0,none⟩,2,jcap) }).toList:=
 qyIn_mk (qy_block hT h1 hq) rSl_nil
  (rSl_row (E:=xpE) (l:=[Xp.col 0,Xp.col 1]) (acs:=[.int .i64 1,.int .i64 0,.int .i64 0,.int .i64 0,.string ⟨#[]⟩,.slice none 0 0,.int .i64 1,.int .i64 1,.int .i64 0,.int .i64 0,.string ⟨#[]⟩,.slice none 0 0]) (zs:=jzs) hj
   ⟨[.int .i64 1,.int .i64 0,.int .i64 0,.int .i64 0,.string ⟨#[]⟩,.slice none 0 0],[.int .i64 1,.int .i64 1,.int .i64 0,.int .i64 0,.string ⟨#[]⟩,.slice none 0 0],rfl,xpIn_iff.2 ⟨.slice none 0 0,rfl,rSl_nil⟩,⟨_,[],(List.append_nil _).symm,xpIn_iff.2 ⟨.slice none 0 0,rfl,rSl_nil⟩,rfl⟩⟩ hjc (hT jg))
  rSl_nil rSl_nil rSl_nil
theorem qy_order {q : QV} {m2 og ocap : Nat} {ozs : List Value} (h2 : W.heap[m2]? = some (.cells q.arr 59 (0,0))) (hq : QyIn T W exProject q.arr.toList) (ho : W.heap[og]? = some (.cells (.int .i64 1 :: .bool true :: ozs).toArray 160 (0,0))) (hoc : 1≤ocap) :
  QyIn T W exOrder (QV.arr { k:=6,s:=(some ⟨m2,0,none⟩,1,1),o:=(some ⟨og,0,none⟩,1,ocap) }).toList:=
 qyIn_mk (qy_block hT h2 hq) rSl_nil rSl_nil rSl_nil rSl_nil
  (rSl_row (E:=odE) (l:=[⟨1,true⟩]) (acs:=[.int .i64 1,.bool true]) (zs:=ozs) ho ⟨_,[],(List.append_nil _).symm,rfl,rfl⟩ hoc (hT og))
theorem qy_limit {q : QV} {m3 : Nat} (h3 : W.heap[m3]? = some (.cells q.arr 59 (0,0))) (hq : QyIn T W exOrder q.arr.toList) : QyIn T W exLimit (QV.arr { k:=7,s:=(some ⟨m3,0,none⟩,1,1),n:=3 }).toList:=
 qyIn_mk (qy_block hT h3 hq) rSl_nil rSl_nil rSl_nil rSl_nil rSl_nil
end
theorem infoTbl : (Tryz.prog.info? 36).map (fun i=>(i.zero,i.size,i.bytes)) = some (some (.agg #[.string ⟨#[]⟩,.slice none 0 0,.slice none 0 0,.slice none 0 0]),4,88):=by kernel_rfl
theorem infoXp : (Tryz.prog.info? 49).map (fun i=>(i.zero,i.size,i.bytes)) = some (some (.agg #[.int .i64 0,.int .i64 0,.int .i64 0,.int .i64 0,.string ⟨#[]⟩,.slice none 0 0]),6,72):=by kernel_rfl
theorem infoAg : (Tryz.prog.info? 107).map (fun i=>(i.zero,i.size,i.bytes)) = some (some (.agg #[.int .i64 0,.int .i64 0,.int .i64 0,.int .i64 0,.int .i64 0,.string ⟨#[]⟩,.slice none 0 0]),7,80):=by kernel_rfl
end Go.Proofs.YtjmmbebkbkgefaaGreatDoor
namespace Go.Proofs.YtjmmbebkbkgefaaGreatDoor
open Go.RowKit Go.Sort
set_option maxRecDepth 100000 in
set_option maxHeartbeats 16000000 in
theorem bind_ex (Q : Nat→Prop) (dv xv : Value) (w : World) (hd : RSl tblE Q w dv [exTbl]) (hx : RSelQ Q w exSel xv) :
  Calls Tryz.prog 12 #[dv,xv] w (fun e w'=>∃ s,e = .returned (.tuple #[.agg (QV.arr { k:=7,s:=s,n:=3 }),.int .i64 0])∧Below w.heap.size w w'):=by
 obtain ⟨ia,ic,fa,fc,oa,oc,wa,wc,ga,gc,sa,sc,rfl,hi,hf,ho,hw,hg,hs⟩:=hx
 have HD:=Lib.hid hd
 have HI:=Lib.hid hi
 have HF:=Lib.hid hf
 have HG:=Lib.hid hg
 have HSO:=Lib.hid hs
 have HW : Hid (ExIn Q w Ex.zero [.int .i64 0,.string ⟨#[]⟩,.string ⟨#[]⟩,.int .i64 0,.int .i64 0,.string ⟨#[]⟩,.slice wa 0 wc]):=exIn_mk hw
 obtain ⟨tb,tq,tc,cb,co,cc,ja,jc,ka,kc,rfl,H⟩:=tblAt_of hd
 have HT:=Lib.hid H
 have HLT:=Lib.hid (tbl_cols hd H)
 obtain ⟨fb,fo,fcp,fcs,hfb,hfi,hft⟩:=hf.at (k:=0) rfl
 injection hfb with e1 e3 e2
 subst e1 e2
 clear e3
 have e : fcs = [.string ⟨[116].toArray⟩]:=hfi
 subst e
 have hf0:=hft 0 _ rfl
 simp only [Nat.zero_mul,Nat.add_zero] at hf0
 have HF0:=Lib.hid hf0
 obtain ⟨gb,go,gcp,gcs,hgb,hgi,hgt⟩:=hg.at (k:=0) rfl
 injection hgb with e1 e3 e2
 subst e1 e2
 clear e3
 obtain ⟨gv,rfl,hgs⟩:=exIn_of (show ExIn Q w (.mk 1 [] [97] V.null []) gcs from hgi)
 obtain ⟨gna,gnc,rfl⟩:=(exSl_rSl hgs).slice
 obtain ⟨ib,io,icp,ics,hib,hii,hit⟩:=hi.at (k:=0) rfl
 injection hib with e1 e3 e2
 subst e1 e2
 clear e3
 obtain ⟨ics2,rfl,hii2⟩:=(show ∃ c,ics = .int .i64 0 :: c∧ExIn Q w (colEx [] [97]) c from hii)
 obtain ⟨iv0,rfl,his0⟩:=exIn_of (show ExIn Q w (.mk 1 [] [97] V.null []) ics2 from hii2)
 obtain ⟨ina0,inc0,rfl⟩:=(exSl_rSl his0).slice
 obtain ⟨ib',io',icp',ics',hib',hii',hit'⟩:=hi.at (k:=1) rfl
 injection hib' with e1 e3 e2
 injection e1 with e1
 injection e1 with e1 e4
 subst e1 e2 e4
 clear e3
 obtain ⟨ics2',rfl,hii2'⟩:=(show ∃ c,ics' = .int .i64 2 :: c∧ExIn Q w (colEx [] [98]) c from hii')
 obtain ⟨iv1,rfl,his1⟩:=exIn_of (show ExIn Q w (.mk 1 [] [98] V.null []) ics2' from hii2')
 obtain ⟨ina1,inc1,rfl⟩:=(exSl_rSl his1).slice
 have HGC : Hid (∀ W,Below w.heap.size w W→W.cell? ⟨gb,go,none⟩ = some (.int .i64 1)∧W.cell? ⟨gb,go + 1,none⟩ = some (.string ⟨#[]⟩)∧W.cell? ⟨gb,go + 2,none⟩ = some (.string ⟨[97].toArray⟩)∧W.cell? ⟨gb,go + 3,none⟩ = some (.int .i64 0)∧W.cell? ⟨gb,go + 4,none⟩ = some (.int .i64 0)∧W.cell? ⟨gb,go + 5,none⟩ = some (.string ⟨#[]⟩)∧W.cell? ⟨gb,go + 6,none⟩ = some (.slice gna 0 gnc)):=fun W hW=>by
  have k:=fun j u h=>hW.cell_kept (hgt j u h)
  simp only [Nat.zero_mul,Nat.add_zero] at k
  exact ⟨k 0 _ rfl,k 1 _ rfl,k 2 _ rfl,k 3 _ rfl,k 4 _ rfl,k 5 _ rfl,k 6 _ rfl⟩
 have HIC0 : Hid (∀ W,Below w.heap.size w W→W.cell? ⟨ib,io,none⟩ = some (.int .i64 0)∧W.cell? ⟨ib,io + 1,none⟩ = some (.int .i64 1)∧W.cell? ⟨ib,io + 2,none⟩ = some (.string ⟨#[]⟩)∧W.cell? ⟨ib,io + 3,none⟩ = some (.string ⟨[97].toArray⟩)∧W.cell? ⟨ib,io + 4,none⟩ = some (.int .i64 0)∧W.cell? ⟨ib,io + 5,none⟩ = some (.int .i64 0)∧W.cell? ⟨ib,io + 6,none⟩ = some (.string ⟨#[]⟩)∧W.cell? ⟨ib,io + 7,none⟩ = some (.slice ina0 0 inc0)):=fun W hW=>by
  have k:=fun j u h=>hW.cell_kept (hit j u h)
  simp only [Nat.zero_mul,Nat.add_zero,show pkE.k = 8 from rfl] at k
  exact ⟨k 0 _ rfl,k 1 _ rfl,k 2 _ rfl,k 3 _ rfl,k 4 _ rfl,k 5 _ rfl,k 6 _ rfl,k 7 _ rfl⟩
 have HIC1 : Hid (∀ W,Below w.heap.size w W→W.cell? ⟨ib,io + 8,none⟩ = some (.int .i64 2)∧W.cell? ⟨ib,io + 8 + 1,none⟩ = some (.int .i64 1)∧W.cell? ⟨ib,io + 8 + 2,none⟩ = some (.string ⟨#[]⟩)∧W.cell? ⟨ib,io + 8 + 3,none⟩ = some (.string ⟨[98].toArray⟩)∧W.cell? ⟨ib,io + 8 + 4,none⟩ = some (.int .i64 0)∧W.cell? ⟨ib,io + 8 + 5,none⟩ = some (.int .i64 0)∧W.cell? ⟨ib,io + 8 + 6,none⟩ = some (.string ⟨#[]⟩)∧W.cell? ⟨ib,io + 8 + 7,none⟩ = some (.slice ina1 0 inc1)):=fun W hW=>by
  have k:=fun j u h=>hW.cell_kept (hit' j u h)
  simp only [Nat.one_mul,show pkE.k = 8 from rfl] at k
  exact ⟨k 0 _ rfl,k 1 _ rfl,k 2 _ rfl,k 3 _ rfl,k 4 _ rfl,k 5 _ rfl,k 6 _ rfl,k 7 _ rfl⟩
 clear hgi hgt hgs hii hii2 hit his0 hii' hii2' hit' his1
 clear hd hi hf ho hw hg hs H hft hfi hf0
 simp only [exSel,Ex.zero,Ex.op,Ex.table,Ex.name,Ex.val,Ex.args,List.length_cons,List.length_nil,Nat.zero_add,Nat.reduceAdd] at HI HF HG HSO ⊢
 show Calls Tryz.prog 12 #[.slice (some ⟨tb,tq,none⟩) 1 tc,.agg #[.bool false,.slice (some ⟨ib,io,none⟩) 2 ic,.slice (some ⟨fb,fo,none⟩) 1 fc,.slice oa 0 oc,.int .i64 0,.string ⟨#[]⟩,.string ⟨#[]⟩,.int .i64 0,.int .i64 0,.string ⟨#[]⟩,.slice wa 0 wc,.slice (some ⟨gb,go,none⟩) 1 gc,.slice sa 1 sc,.int .i64 3]] w _
 obtain ⟨xa,hxa⟩ : ∃ xa : Array Value,xa = #[.bool false,.slice (some ⟨ib,io,none⟩) 2 ic,.slice (some ⟨fb,fo,none⟩) 1 fc,.slice oa 0 oc,.int .i64 0,.string ⟨#[]⟩,.string ⟨#[]⟩,.int .i64 0,.int .i64 0,.string ⟨#[]⟩,.slice wa 0 wc,.slice (some ⟨gb,go,none⟩) 1 gc,.slice sa 1 sc,.int .i64 3]:=⟨_,rfl⟩
 rw [← hxa]
 have hx0 : xa[0]? = some (.bool false):=by rw [hxa]; rfl
 have hx1 : xa[1]? = some (.slice (some ⟨ib,io,none⟩) 2 ic):=by rw [hxa]; rfl
 have hx2 : xa[2]? = some (.slice (some ⟨fb,fo,none⟩) 1 fc):=by rw [hxa]; rfl
 have hx3 : xa[3]? = some (.slice oa 0 oc):=by rw [hxa]; rfl
 have hx4 : xa[4]? = some (.int .i64 0):=by rw [hxa]; rfl
 have hx5 : xa[5]? = some (.string ⟨#[]⟩):=by rw [hxa]; rfl
 have hx6 : xa[6]? = some (.string ⟨#[]⟩):=by rw [hxa]; rfl
 have hx7 : xa[7]? = some (.int .i64 0):=by rw [hxa]; rfl
 have hx8 : xa[8]? = some (.int .i64 0):=by rw [hxa]; rfl
 have hx9 : xa[9]? = some (.string ⟨#[]⟩):=by rw [hxa]; rfl
 have hx10 : xa[10]? = some (.slice wa 0 wc):=by rw [hxa]; rfl
 have hx11 : xa[11]? = some (.slice (some ⟨gb,go,none⟩) 1 gc):=by rw [hxa]; rfl
 have hx12 : xa[12]? = some (.slice sa 1 sc):=by rw [hxa]; rfl
 have hx13 : xa[13]? = some (.int .i64 3):=by rw [hxa]; rfl
 have hxs : (Tryz.prog.info? 44).map (·.size) = some xa.size:=by rw [hxa]; kernel_rfl
 clear hxa
 go_enter Tryz.func12,Tryz.ntmps12
 go_upto_region 2 with fail
 refine St.gen (St.alloc (St.alloc (St.alloc (St.start w) (cs:=xa) (t:=44)) (cs:=QV.arr {}) (t:=59)) (cs:=#[.slice none 0 0,.int .i64 0]) (t:=99)) ?_
 intro w1 S1
 simp only [World.size_alloc] at S1
 obtain ⟨x2,x2f,x2l⟩:=blk_cell (o:=2) (S1.out.blk 2 rfl) hx2
 have F0:=HF0.out
 replace F0:=S1.out.below.cell_kept F0
 have F0l:=block_lt_of_cell F0
 go_upto_region 3 with fail
 refine wp_loop_rounds 2 ?_
 rw [rounds_succ]
 go_upto_region 5 with fail
 refine St.gen (St.alloc S1.out (cs:=#[.string ⟨[116].toArray⟩]) (t:=9)) ?_
 intro w2 S2'
 have S2 : Hid (St w w2 [(w1.heap.size,#[.string ⟨[116].toArray⟩],9),((w.heap.size + 1 + 1),#[.slice none 0 0,.int .i64 0],99),((w.heap.size + 1),QV.arr {},59),(w.heap.size,xa,44)]):=S2'.out
 clear S2' S1 x2 x2f x2l F0 F0l
 generalize w1.heap.size = nb at S2 ⊢
 have hmf : ∀ (fn : Fn) (first cap : Array Value) (w : World),(Instr.makeFunc fn first cap).run Tryz.prog w = .ok (.func fn first cap) w:=fun _ _ _ _=>rfl
 go_wp2_with fail
 refine Calls.mono (idx62_any 39 nb Q (fun _=>true) [exTbl] _ _ enters63 (HD.out.kept (by decide) S2.out.below) (by decide) (fun W a cs hW ha hin=>?_)) ?_
 ·have e:=List.mem_singleton.1 ha
  subst e
  obtain ⟨ca',cc',ia',ic',ka',kc',rfl,_⟩:=hin
  have S3:=S2.out.kept hW
  exact clo63 _ ca' cc' ia' ic' ka' kc' W (by simp only [World.cell?,S3.blk 0 rfl]; rfl)
 rintro e w3 ⟨rfl,hb⟩
 have S3 : Hid (St w w3 [(nb,#[.string ⟨[116].toArray⟩],9),_,_,_]):=S2.out.kept hb
 clear hb S2
 simp only [show idxFrom (fun _=>true) 0 [exTbl] = 0 from rfl]
 go_upto_region 8 with fail
 obtain ⟨x2,x2f,x2l⟩:=blk_cell (o:=2) (S3.out.blk 3 rfl) hx2
 obtain ⟨nn,nnf,nnl⟩:=blk_cell (o:=0) (S3.out.blk 0 rfl) rfl
 replace x2:=cell_regrown x2
 replace nn:=cell_regrown nn
 have CC : Hid (∀ (a : Option Addr) (c d : Nat) (os : Array Obj),Calls Tryz.prog 40 #[.slice a 0 c,.string ⟨[116].toArray⟩] (grow (redrawn w3 d) os) fun e w'=>e = .returned (.bool false)∧Laid (grow (redrawn w3 d) os) w'):=fun a c d os=>contains64_nil a c _ _
 have F0:=S3.out.below.cell_kept HF0.out
 have F0l:=block_lt_of_cell F0
 refine wp_region_mixed 7 [(0,false),(1,false),(2,false),(3,false),(4,false),(5,false),(6,false)] (by kernel_rfl) (by kernel_rfl) ?_
 repeat (refine wpM_mild rfl (fun K hK=>?_); go_simp; first | (refine hK _ ?_; clear hK K) | (apply Exists.intro; refine ⟨fun _=>?_,hK _ ?_⟩; (exact CC.out _ _ _ _); clear hK K))
 refine wpM_end ?_
 intro w4 hb _
 have S4:=Lib.hid (S3.out.kept hb)
 clear hb S3 x2 x2f x2l nn nnf nnl F0 CC F0l
 go_upto_region 10 with fail
 obtain ⟨b0,b0f,b0l⟩:=blk_cell (o:=0) (S4.out.blk 1 rfl) rfl
 obtain ⟨b1,b1f,b1l⟩:=blk_cell (o:=1) (S4.out.blk 1 rfl) rfl
 obtain ⟨t0,t1,t2,t3,_⟩:=HT.out.kept S4.out.below
 replace b0:=cell_regrown b0
 replace t0:=cell_regrown t0
 replace t1:=cell_regrown t1
 replace t2:=cell_regrown t2
 replace t3:=cell_regrown t3
 refine wp_region_mixed 13 [(0,false),(1,false),(2,false),(3,false),(4,false),(5,false),(6,false),(7,false),(8,false),(9,true),(10,true),(11,false),(12,false)] (by kernel_rfl) (by kernel_rfl) ?_
 repeat (refine wpM_mild rfl (fun K hK=>?_); go_simp; first | (refine hK _ ?_; clear hK K) | (apply Exists.intro; refine ⟨fun _=>?_,hK _ ?_⟩; (fail); clear hK K))
 clear b0 b0f b0l b1 b1f b1l t0 t1 t2 t3
 refine wpM_eff rfl ?_
 intro w5 hb hb0
 have T5:=Lib.hid ((St.start w4).kept hb)
 clear hb hb0
 go_wp2_with fail
 refine ⟨(St.alloc T5.out).below,wpM_eff rfl ?_⟩
 intro w6 hb hb0
 have T6:=Lib.hid ((St.alloc T5.out (cs:=#[.string ⟨[116].toArray⟩,.slice (some ⟨cb,co,none⟩) 2 cc,.slice ja 0 jc,.slice ka 0 kc]) (t:=36)).kept hb)
 clear hb hb0 T5
 generalize w5.heap.size = sb at T6 ⊢
 go_wp2_with (refine wpList_append_nil rfl (.tmp 56) (.tmp 61) 22 rfl 36 (.agg #[.string ⟨#[]⟩,.slice none 0 0,.slice none 0 0,.slice none 0 0]) 4 88 Tryz.underlying22 infoTbl rfl (by decide) T6.out rfl _ 1 [.string ⟨[116].toArray⟩,.slice (some ⟨cb,co,none⟩) 2 cc,.slice ja 0 jc,.slice ka 0 kc] rfl (by decide) (slAt_blk (T6.out.blk 0 rfl) (by decide)) rfl (by simp [Value.oneCell']) (by decide) (by unfold maxLen; decide) ?_; intro sg scap szs w7 T7 hsc1 hsc2 hsc3; simp only [List.cons_append,List.nil_append] at T7)
 have S7 : Hid (St w w7 [(sg,(.string ⟨[116].toArray⟩ :: .slice (some ⟨cb,co,none⟩) 2 cc :: .slice ja 0 jc :: .slice ka 0 kc :: szs).toArray,36),_,_,_,_]):=St.since S4.out T7.out.below (T7.out.own _ (List.mem_cons_self)).1 (T7.out.blk 0 rfl)
 refine ⟨T7.out.below,?_⟩
 clear T6 T7 S4
 repeat (refine wpM_mild rfl (fun K hK=>?_); go_simp; first | (refine hK _ ?_; clear hK K) | (apply Exists.intro; refine ⟨fun _=>?_,hK _ ?_⟩; (fail); clear hK K))
 refine wpM_tail ?_
 intro w8 hb _
 have S8:=Lib.hid (S7.out.kept hb)
 clear hb S7
 obtain ⟨b0,b0f,b0l⟩:=blk_cell (o:=0) (S8.out.blk 2 rfl) rfl
 go_upto_region 3 with fail
 refine St.gen (St.set 2 (o:=0) (v:=.slice (some ⟨sg,0,none⟩) 1 scap) S8.out rfl) ?_
 intro w9 S9'
 have S9 : Hid (St w w9 [_,_,((w.heap.size + 1 + 1),#[.slice (some ⟨sg,0,none⟩) 1 scap,.int .i64 0],99),_,_]):=S9'.out
 clear S9' S8 b0 b0f b0l
 obtain ⟨x2,x2f,x2l⟩:=blk_cell (o:=2) (S9.out.blk 4 rfl) hx2
 have F0:=S9.out.below.cell_kept HF0.out
 have F0l:=block_lt_of_cell F0
 go_upto_region 12 with fail
 go_upto_region 13 with (first | (refine wpList_build_row rfl 59 _ rfl (QV.arr { k:=1,tb:=[116] }) (qv_scan _) ?_) | (refine wpList_store_row rfl 59 (.tmp 10) (.tmp 70) rfl w9.heap.size (QV.arr { k:=1,tb:=[116] }) rfl rfl 59 (QV.arr {}) ((St.alloc S9.out).blk 0 rfl) (qv_size _) rfl (qv_one _) ?_))
 refine St.gen (St.row 0 (QV.arr { k:=1,tb:=[116] }) (St.alloc S9.out (cs:=QV.arr {}) (t:=59)) rfl) ?_
 intro w10 S10'
 have S10 : Hid (St w w10 [(w9.heap.size,QV.arr { k:=1,tb:=[116] },59),_,_,_,_,_]):=S10'.out
 clear S10' S9 x2 x2f x2l F0 F0l
 generalize w9.heap.size = qb at S10 ⊢
 obtain ⟨x3,x3f,x3l⟩:=blk_cell (o:=3) (S10.out.blk 5 rfl) hx3
 go_upto_region 14 with fail
 refine wp_loop_rounds 1 ?_
 rw [rounds_succ]
 obtain ⟨b0,b0f,b0l⟩:=blk_cell (o:=0) (S10.out.blk 3 rfl) rfl
 go_upto_region 21 with fail
 obtain ⟨x4,x4f,x4l⟩:=blk_cell (o:=4) (S10.out.blk 5 rfl) hx4
 obtain ⟨x5,x5f,x5l⟩:=blk_cell (o:=5) (S10.out.blk 5 rfl) hx5
 obtain ⟨x6,x6f,x6l⟩:=blk_cell (o:=6) (S10.out.blk 5 rfl) hx6
 obtain ⟨x7,x7f,x7l⟩:=blk_cell (o:=7) (S10.out.blk 5 rfl) hx7
 obtain ⟨x8,x8f,x8l⟩:=blk_cell (o:=8) (S10.out.blk 5 rfl) hx8
 obtain ⟨x9,x9f,x9l⟩:=blk_cell (o:=9) (S10.out.blk 5 rfl) hx9
 obtain ⟨x10,x10f,x10l⟩:=blk_cell (o:=10) (S10.out.blk 5 rfl) hx10
 go_wp2_with fail
 refine Calls.mono (isZero_any Q Ex.zero _ w10 (HW.out.kept S10.out.below)) ?_
 rintro e w11 ⟨rfl,hb⟩
 have S11 : Hid (St w w11 [(qb,QV.arr { k:=1,tb:=[116] },59),_,_,_,_,_]):=S10.out.kept hb
 clear hb S10 x3 x3f x3l b0 b0f b0l x4 x4f x4l x5 x5f x5l x6 x6f x6l x7 x7f x7l x8 x8f x8l x9 x9f x9l x10 x10f x10l
 simp only [show Ex.zero.isZero = true from by decide +kernel]
 obtain ⟨x11,x11f,x11l⟩:=blk_cell (o:=11) (S11.out.blk 5 rfl) hx11
 go_upto_region 26 with fail
 refine wp_loop_rounds 2 ?_
 rw [rounds_succ]
 obtain ⟨g0,g1,g2,g3,g4,g5,g6⟩:=HGC.out _ S11.out.below
 have gl:=block_lt_of_cell g0
 go_upto_region 28 with fail
 refine St.gen (St.alloc S11.out (cs:=#[.int .i64 1,.string ⟨#[]⟩,.string ⟨[97].toArray⟩,.int .i64 0,.int .i64 0,.string ⟨#[]⟩,.slice gna 0 gnc]) (t:=27)) ?_
 intro w12 S12'
 have S12 : Hid (St w w12 [(w11.heap.size,#[.int .i64 1,.string ⟨#[]⟩,.string ⟨[97].toArray⟩,.int .i64 0,.int .i64 0,.string ⟨#[]⟩,.slice gna 0 gnc],27),_,_,_,_,_,_]):=S12'.out
 clear S12' S11 x11 x11f x11l g0 g1 g2 g3 g4 g5 g6 gl
 generalize w11.heap.size = eb at S12 ⊢
 obtain ⟨e0,e0f,e0l⟩:=blk_cell (o:=0) (S12.out.blk 0 rfl) rfl
 obtain ⟨e1,e1f,e1l⟩:=blk_cell (o:=1) (S12.out.blk 0 rfl) rfl
 obtain ⟨e2,e2f,e2l⟩:=blk_cell (o:=2) (S12.out.blk 0 rfl) rfl
 obtain ⟨e3,e3f,e3l⟩:=blk_cell (o:=3) (S12.out.blk 0 rfl) rfl
 obtain ⟨e4,e4f,e4l⟩:=blk_cell (o:=4) (S12.out.blk 0 rfl) rfl
 obtain ⟨e5,e5f,e5l⟩:=blk_cell (o:=5) (S12.out.blk 0 rfl) rfl
 obtain ⟨e6,e6f,e6l⟩:=blk_cell (o:=6) (S12.out.blk 0 rfl) rfl
 go_wp2_with fail
 refine Calls.mono (bres_any [97] 0 (w.heap.size + 1 + 1) (some ⟨sg,0,none⟩) scap gna gnc w12 (S12.out.blk 4 rfl) hsc1 (fun W hW=>resolve_a (fun _=>True) _ gna gnc W (rSl_row (l:=[exTbl]) (by rw [hW.block sg (blk_cell (o:=0) (S12.out.blk 2 rfl) rfl).2.2]; exact S12.out.blk 2 rfl) (LIn.move (fun b hb _=>⟨trivial,(S12.out.kept hW).below.block b hb⟩) HLT.out) hsc1 trivial))) ?_
 rintro e w13 ⟨rfl,hb⟩
 have S13 : Hid (St w w13 [(eb,#[.int .i64 1,.string ⟨#[]⟩,.string ⟨[97].toArray⟩,.int .i64 0,.int .i64 0,.string ⟨#[]⟩,.slice gna 0 gnc],27),_,_,_,_,_,_]):=S12.out.kept hb
 clear hb S12 e0 e0f e0l e1 e1f e1l e2 e2f e2l e3 e3f e3l e4 e4f e4l e5 e5f e5l e6 e6f e6l
 have hfd : ∀ w : World,(Instr.field 49 (.agg #[.int .i64 1,.int .i64 0,.int .i64 0,.int .i64 0,.string ⟨#[]⟩,.slice none 0 0]) 1).run Tryz.prog w = .ok (.int .i64 0) w:=fun _=>by kernel_rfl
 go_wp2_with fail
 refine Calls.mono (contains68_nil none 0 0 w13) ?_
 rintro e w14 ⟨rfl,hb⟩
 have S14:=Lib.hid (S13.out.kept hb)
 clear hb S13
 go_wp2_with (refine wpList_append_nil rfl (.tmp 130) (.tmp 132) 55 rfl 3 (.int .i64 0) 1 8 Tryz.underlying55 infoInt rfl (by decide) (St.laid S14.out) rfl _ 1 [.int .i64 0] rfl (by decide) (slAt_fresh (by decide)) rfl (by simp [Value.oneCell']) (by decide) (by unfold maxLen; decide) ?_; intro gg gcap gzs w15 S15 hgc1 hgc2 hgc3; simp only [List.cons_append,List.nil_append] at S15)
 clear S14
 rw [rounds_succ]
 obtain ⟨x11,x11f,x11l⟩:=blk_cell (o:=11) (S15.out.blk 7 rfl) hx11
 go_upto_region 34 with fail
 obtain ⟨x1,x1f,x1l⟩:=blk_cell (o:=1) (S15.out.blk 7 rfl) hx1
 go_upto_region 35 with fail
 refine wp_loop_rounds 3 ?_
 rw [rounds_succ]
 clear x11 x11f x11l x1 x1f x1l
 obtain ⟨i0,i1,i2,i3,i4,i5,i6,i7⟩:=HIC0.out _ S15.out.below
 have il:=block_lt_of_cell i0
 go_upto_region 38 with fail
 refine St.gen (St.alloc (St.alloc S15.out (cs:=#[.int .i64 0,.int .i64 1,.string ⟨#[]⟩,.string ⟨[97].toArray⟩,.int .i64 0,.int .i64 0,.string ⟨#[]⟩,.slice ina0 0 inc0]) (t:=70)) (cs:=#[.int .i64 0,.int .i64 0,.int .i64 0,.int .i64 0,.string ⟨#[]⟩,.slice none 0 0]) (t:=49)) ?_
 intro w16 S16'
 simp only [World.size_alloc] at S16'
 have S16 : Hid (St w w16 [((w15.heap.size + 1),#[.int .i64 0,.int .i64 0,.int .i64 0,.int .i64 0,.string ⟨#[]⟩,.slice none 0 0],49),(w15.heap.size,#[.int .i64 0,.int .i64 1,.string ⟨#[]⟩,.string ⟨[97].toArray⟩,.int .i64 0,.int .i64 0,.string ⟨#[]⟩,.slice ina0 0 inc0],70),(gg,(.int .i64 0 :: gzs).toArray,3),_,_,_,_,_,_,_]):=S16'.out
 clear S16' S15 i0 i1 i2 i3 i4 i5 i6 i7 il
 generalize w15.heap.size = p0 at S16 ⊢
 obtain ⟨q0,q0f,q0l⟩:=blk_cell (o:=0) (S16.out.blk 1 rfl) rfl
 obtain ⟨q1,q1f,q1l⟩:=blk_cell (o:=1) (S16.out.blk 1 rfl) rfl
 obtain ⟨q2,q2f,q2l⟩:=blk_cell (o:=2) (S16.out.blk 1 rfl) rfl
 obtain ⟨q3,q3f,q3l⟩:=blk_cell (o:=3) (S16.out.blk 1 rfl) rfl
 obtain ⟨q4,q4f,q4l⟩:=blk_cell (o:=4) (S16.out.blk 1 rfl) rfl
 obtain ⟨q5,q5f,q5l⟩:=blk_cell (o:=5) (S16.out.blk 1 rfl) rfl
 obtain ⟨q6,q6f,q6l⟩:=blk_cell (o:=6) (S16.out.blk 1 rfl) rfl
 obtain ⟨q7,q7f,q7l⟩:=blk_cell (o:=7) (S16.out.blk 1 rfl) rfl
 go_wp2_with fail
 refine Calls.mono (bres_any [97] 0 (w.heap.size + 1 + 1) (some ⟨sg,0,none⟩) scap ina0 inc0 w16 (S16.out.blk 7 rfl) hsc1 (fun W hW=>resolve_a (fun _=>True) _ ina0 inc0 W (rSl_row (l:=[exTbl]) (by rw [hW.block sg (blk_cell (o:=0) (S16.out.blk 5 rfl) rfl).2.2]; exact S16.out.blk 5 rfl) (LIn.move (fun b hb _=>⟨trivial,(S16.out.kept hW).below.block b hb⟩) HLT.out) hsc1 trivial))) ?_
 rintro e w17 ⟨rfl,hb⟩
 have S17 : Hid (St w w17 [((p0 + 1),#[.int .i64 0,.int .i64 0,.int .i64 0,.int .i64 0,.string ⟨#[]⟩,.slice none 0 0],49),(p0,#[.int .i64 0,.int .i64 1,.string ⟨#[]⟩,.string ⟨[97].toArray⟩,.int .i64 0,.int .i64 0,.string ⟨#[]⟩,.slice ina0 0 inc0],70),_,_,_,_,_,_,_,_]):=S16.out.kept hb
 clear hb S16 q0 q0f q0l q1 q1f q1l q2 q2f q2l q3 q3f q3l q4 q4f q4l q5 q5f q5l q6 q6f q6l q7 q7f q7l
 obtain ⟨q0,q0f,q0l⟩:=blk_cell (o:=0) (S17.out.blk 0 rfl) rfl
 obtain ⟨q1,q1f,q1l⟩:=blk_cell (o:=1) (S17.out.blk 0 rfl) rfl
 obtain ⟨q2,q2f,q2l⟩:=blk_cell (o:=2) (S17.out.blk 0 rfl) rfl
 obtain ⟨q3,q3f,q3l⟩:=blk_cell (o:=3) (S17.out.blk 0 rfl) rfl
 obtain ⟨q4,q4f,q4l⟩:=blk_cell (o:=4) (S17.out.blk 0 rfl) rfl
 obtain ⟨q5,q5f,q5l⟩:=blk_cell (o:=5) (S17.out.blk 0 rfl) rfl
 go_upto_region 40 with fail
 refine St.gen (St.setsL (i:=0) [.int .i64 1,.int .i64 0,.int .i64 0,.int .i64 0,.string ⟨#[]⟩,.slice none 0 0] 0 _ _ _ S17.out rfl) ?_
 intro w18 S18'
 have S18 : Hid (St w w18 [((p0 + 1),#[.int .i64 1,.int .i64 0,.int .i64 0,.int .i64 0,.string ⟨#[]⟩,.slice none 0 0],49),_,_,_,_,_,_,_,_,_]):=S18'.out
 clear S18' S17 q0 q0f q0l q1 q1f q1l q2 q2f q2l q3 q3f q3l q4 q4f q4l q5 q5f q5l
 obtain ⟨q0,q0f,q0l⟩:=blk_cell (o:=0) (S18.out.blk 0 rfl) rfl
 obtain ⟨q1,q1f,q1l⟩:=blk_cell (o:=1) (S18.out.blk 0 rfl) rfl
 obtain ⟨q2,q2f,q2l⟩:=blk_cell (o:=2) (S18.out.blk 0 rfl) rfl
 obtain ⟨q3,q3f,q3l⟩:=blk_cell (o:=3) (S18.out.blk 0 rfl) rfl
 obtain ⟨q4,q4f,q4l⟩:=blk_cell (o:=4) (S18.out.blk 0 rfl) rfl
 obtain ⟨q5,q5f,q5l⟩:=blk_cell (o:=5) (S18.out.blk 0 rfl) rfl
 go_wp2_with (refine wpList_append_nil rfl (.tmp 155) (.tmp 157) 47 rfl 49 (.agg #[.int .i64 0,.int .i64 0,.int .i64 0,.int .i64 0,.string ⟨#[]⟩,.slice none 0 0]) 6 72 Tryz.underlying47 infoXp rfl (by decide) (St.laid S18.out) rfl _ 1 [.int .i64 1,.int .i64 0,.int .i64 0,.int .i64 0,.string ⟨#[]⟩,.slice none 0 0] rfl (by decide) (slAt_fresh (by decide)) rfl (by simp [Value.oneCell']) (by decide) (by unfold maxLen; decide) ?_; intro ig icap izs w19 S19 hic1 hic2 hic3; simp only [List.cons_append,List.nil_append] at S19)
 clear S18 q0 q0f q0l q1 q1f q1l q2 q2f q2l q3 q3f q3l q4 q4f q4l q5 q5f q5l
 rw [rounds_succ]
 obtain ⟨i0,i1,i2,i3,i4,i5,i6,i7⟩:=HIC1.out _ S19.out.below
 have il:=block_lt_of_cell i0
 go_upto_region 38 with fail
 refine St.gen (St.alloc (St.alloc S19.out (cs:=#[.int .i64 2,.int .i64 1,.string ⟨#[]⟩,.string ⟨[98].toArray⟩,.int .i64 0,.int .i64 0,.string ⟨#[]⟩,.slice ina1 0 inc1]) (t:=70)) (cs:=#[.int .i64 0,.int .i64 0,.int .i64 0,.int .i64 0,.string ⟨#[]⟩,.slice none 0 0]) (t:=49)) ?_
 intro w20 S20'
 simp only [World.size_alloc] at S20'
 have S20 : Hid (St w w20 [((w19.heap.size + 1),#[.int .i64 0,.int .i64 0,.int .i64 0,.int .i64 0,.string ⟨#[]⟩,.slice none 0 0],49),(w19.heap.size,#[.int .i64 2,.int .i64 1,.string ⟨#[]⟩,.string ⟨[98].toArray⟩,.int .i64 0,.int .i64 0,.string ⟨#[]⟩,.slice ina1 0 inc1],70),(ig,(.int .i64 1 :: .int .i64 0 :: .int .i64 0 :: .int .i64 0 :: .string ⟨#[]⟩ :: .slice none 0 0 :: izs).toArray,49),_,_,_,_,_,_,_,_,_,_]):=S20'.out
 clear S20' S19 i0 i1 i2 i3 i4 i5 i6 i7 il
 generalize w19.heap.size = p1 at S20 ⊢
 obtain ⟨q0,q0f,q0l⟩:=blk_cell (o:=0) (S20.out.blk 1 rfl) rfl
 obtain ⟨q1,q1f,q1l⟩:=blk_cell (o:=1) (S20.out.blk 1 rfl) rfl
 obtain ⟨q2,q2f,q2l⟩:=blk_cell (o:=2) (S20.out.blk 1 rfl) rfl
 obtain ⟨q3,q3f,q3l⟩:=blk_cell (o:=3) (S20.out.blk 1 rfl) rfl
 obtain ⟨q4,q4f,q4l⟩:=blk_cell (o:=4) (S20.out.blk 1 rfl) rfl
 obtain ⟨q5,q5f,q5l⟩:=blk_cell (o:=5) (S20.out.blk 1 rfl) rfl
 obtain ⟨q6,q6f,q6l⟩:=blk_cell (o:=6) (S20.out.blk 1 rfl) rfl
 obtain ⟨q7,q7f,q7l⟩:=blk_cell (o:=7) (S20.out.blk 1 rfl) rfl
 go_wp2_with fail
 refine Calls.mono (bres_any [98] 1 (w.heap.size + 1 + 1) (some ⟨sg,0,none⟩) scap ina1 inc1 w20 (S20.out.blk 10 rfl) hsc1 (fun W hW=>resolve_b (fun _=>True) _ ina1 inc1 W (rSl_row (l:=[exTbl]) (by rw [hW.block sg (blk_cell (o:=0) (S20.out.blk 8 rfl) rfl).2.2]; exact S20.out.blk 8 rfl) (LIn.move (fun b hb _=>⟨trivial,(S20.out.kept hW).below.block b hb⟩) HLT.out) hsc1 trivial))) ?_
 rintro e w21 ⟨rfl,hb⟩
 have S21 : Hid (St w w21 [((p1 + 1),#[.int .i64 0,.int .i64 0,.int .i64 0,.int .i64 0,.string ⟨#[]⟩,.slice none 0 0],49),(p1,#[.int .i64 2,.int .i64 1,.string ⟨#[]⟩,.string ⟨[98].toArray⟩,.int .i64 0,.int .i64 0,.string ⟨#[]⟩,.slice ina1 0 inc1],70),_,_,_,_,_,_,_,_,_,_,_]):=S20.out.kept hb
 clear hb S20 q0 q0f q0l q1 q1f q1l q2 q2f q2l q3 q3f q3l q4 q4f q4l q5 q5f q5l q6 q6f q6l q7 q7f q7l
 obtain ⟨q0,q0f,q0l⟩:=blk_cell (o:=0) (S21.out.blk 0 rfl) rfl
 obtain ⟨q1,q1f,q1l⟩:=blk_cell (o:=1) (S21.out.blk 0 rfl) rfl
 obtain ⟨q2,q2f,q2l⟩:=blk_cell (o:=2) (S21.out.blk 0 rfl) rfl
 obtain ⟨q3,q3f,q3l⟩:=blk_cell (o:=3) (S21.out.blk 0 rfl) rfl
 obtain ⟨q4,q4f,q4l⟩:=blk_cell (o:=4) (S21.out.blk 0 rfl) rfl
 obtain ⟨q5,q5f,q5l⟩:=blk_cell (o:=5) (S21.out.blk 0 rfl) rfl
 go_upto_region 40 with fail
 refine St.gen (St.setsL (i:=0) [.int .i64 1,.int .i64 1,.int .i64 0,.int .i64 0,.string ⟨#[]⟩,.slice none 0 0] 0 _ _ _ S21.out rfl) ?_
 intro w22 S22'
 have S22 : Hid (St w w22 [((p1 + 1),#[.int .i64 1,.int .i64 1,.int .i64 0,.int .i64 0,.string ⟨#[]⟩,.slice none 0 0],49),_,_,_,_,_,_,_,_,_,_,_,_]):=S22'.out
 clear S22' S21 q0 q0f q0l q1 q1f q1l q2 q2f q2l q3 q3f q3l q4 q4f q4l q5 q5f q5l
 obtain ⟨q0,q0f,q0l⟩:=blk_cell (o:=0) (S22.out.blk 0 rfl) rfl
 obtain ⟨q1,q1f,q1l⟩:=blk_cell (o:=1) (S22.out.blk 0 rfl) rfl
 obtain ⟨q2,q2f,q2l⟩:=blk_cell (o:=2) (S22.out.blk 0 rfl) rfl
 obtain ⟨q3,q3f,q3l⟩:=blk_cell (o:=3) (S22.out.blk 0 rfl) rfl
 obtain ⟨q4,q4f,q4l⟩:=blk_cell (o:=4) (S22.out.blk 0 rfl) rfl
 obtain ⟨q5,q5f,q5l⟩:=blk_cell (o:=5) (S22.out.blk 0 rfl) rfl
 go_wp2_with (refine wpList_append_on rfl (.tmp 155) (.tmp 157) 47 rfl 49 (.agg #[.int .i64 0,.int .i64 0,.int .i64 0,.int .i64 0,.string ⟨#[]⟩,.slice none 0 0]) 6 72 Tryz.underlying47 infoXp rfl (by decide) 2 (xs:=[.int .i64 1,.int .i64 0,.int .i64 0,.int .i64 0,.string ⟨#[]⟩,.slice none 0 0]) (zs:=izs) (St.laid S22.out) rfl rfl rfl hic1 hic2 hic3 _ 1 [.int .i64 1,.int .i64 1,.int .i64 0,.int .i64 0,.string ⟨#[]⟩,.slice none 0 0] rfl (by decide) (slAt_fresh (by decide)) rfl (by simp [Value.oneCell']) (by decide) (by unfold maxLen; decide) ?_; intro jg jcap jzs w23 S23 hjc1 hjc2 hjc3; simp only [List.cons_append,List.nil_append,List.set_cons_zero,List.set_cons_succ] at S23)
 clear S22 q0 q0f q0l q1 q1f q1l q2 q2f q2l q3 q3f q3l q4 q4f q4l q5 q5f q5l
 rw [rounds_succ]
 go_upto_region 46 with fail
 go_wp2_with (refine wpList_load_row rfl 59 (.tmp 10) rfl qb rfl 59 (QV.arr { k:=1,tb:=[116] }) (0,0) _ (S23.out.blk 7 rfl) Tryz.underlying59 rfl (qv_size _) ?_)
 refine Calls.mono (over_any 5 { k:=1,tb:=[116] } w23) ?_
 rintro e w24 ⟨n0,rfl,hge,hbk,hbl⟩
 have S24 : Hid (St w w24 [(n0,QV.arr { k:=1,tb:=[116] },59),_,_,(jg,(.int .i64 1 :: .int .i64 0 :: .int .i64 0 :: .int .i64 0 :: .string ⟨#[]⟩ :: .slice none 0 0 :: .int .i64 1 :: .int .i64 1 :: .int .i64 0 :: .int .i64 0 :: .string ⟨#[]⟩ :: .slice none 0 0 :: jzs).toArray,49),_,_,_,_,_,_,_,_,_,_]):=St.since S23.out hbl hge hbk
 clear hge hbk hbl S23
 go_upto_region 47 with (refine wpList_store_row rfl 59 (.tmp 10) (.tmp 176) rfl qb (QV.arr { k:=5,s:=(some ⟨n0,0,none⟩,1,1) }) rfl rfl 59 (QV.arr { k:=1,tb:=[116] }) (S24.out.blk 8 rfl) (qv_size _) rfl (qv_one _) ?_)
 refine St.gen (St.row 8 (QV.arr { k:=5,s:=(some ⟨n0,0,none⟩,1,1) }) S24.out rfl) ?_
 intro w25 S25'
 have S25 : Hid (St w w25 [_,_,_,_,_,_,_,_,(qb,QV.arr { k:=5,s:=(some ⟨n0,0,none⟩,1,1) },59),_,_,_,_,_]):=S25'.out
 clear S25' S24
 obtain ⟨u10,u10f,u10l⟩:=blk_cell (o:=10) (S25.out.blk 8 rfl) rfl
 simp only [sl0] at u10
 go_upto_region 48 with fail
 refine St.gen (St.set 8 (o:=10) (v:=.slice (some ⟨gg,0,none⟩) 1 gcap) S25.out rfl) ?_
 intro w26 S26'
 have S26 : Hid (St w w26 [_,_,_,_,_,_,_,_,(qb,QV.arr { k:=5,s:=(some ⟨n0,0,none⟩,1,1),g:=(some ⟨gg,0,none⟩,1,gcap) },59),_,_,_,_,_]):=S26'.out
 clear S26' S25 u10 u10f u10l
 obtain ⟨x1,x1f,x1l⟩:=blk_cell (o:=1) (S26.out.blk 13 rfl) hx1
 go_upto_region 49 with fail
 refine wp_loop_rounds 3 ?_
 rw [rounds_succ]
 clear x1 x1f x1l
 obtain ⟨i0,i1,i2,i3,i4,i5,i6,i7⟩:=HIC0.out _ S26.out.below
 have il:=block_lt_of_cell i0
 go_upto_region 51 with fail
 refine St.gen (St.alloc S26.out (cs:=#[.int .i64 0,.int .i64 1,.string ⟨#[]⟩,.string ⟨[97].toArray⟩,.int .i64 0,.int .i64 0,.string ⟨#[]⟩,.slice ina0 0 inc0]) (t:=70)) ?_
 intro w27 S27'
 have S27 : Hid (St w w27 [(w26.heap.size,#[.int .i64 0,.int .i64 1,.string ⟨#[]⟩,.string ⟨[97].toArray⟩,.int .i64 0,.int .i64 0,.string ⟨#[]⟩,.slice ina0 0 inc0],70),_,_,_,_,_,_,_,_,_,_,_,_,_,_]):=S27'.out
 clear S27' S26 i0 i1 i2 i3 i4 i5 i6 i7 il
 generalize w26.heap.size = r0 at S27 ⊢
 obtain ⟨q0,q0f,q0l⟩:=blk_cell (o:=0) (S27.out.blk 0 rfl) rfl
 obtain ⟨j1,j1f,j1l⟩:=blk_cell (o:=1) (S27.out.blk 4 rfl) rfl
 go_wp2_with fail
 refine Calls.mono (index70_hit gg gcap w27 (blk_cell (o:=0) (S27.out.blk 7 rfl) rfl).1) ?_
 rintro e w28 ⟨rfl,hb⟩
 have S28 : Hid (St w w28 [(r0,#[.int .i64 0,.int .i64 1,.string ⟨#[]⟩,.string ⟨[97].toArray⟩,.int .i64 0,.int .i64 0,.string ⟨#[]⟩,.slice ina0 0 inc0],70),_,_,_,_,_,_,_,_,_,_,_,_,_,_]):=S27.out.kept hb
 clear hb S27 q0 q0f q0l j1 j1f j1l
 obtain ⟨j0,j0f,j0l⟩:=blk_cell (o:=0) (S28.out.blk 4 rfl) rfl
 obtain ⟨j1,j1f,j1l⟩:=blk_cell (o:=1) (S28.out.blk 4 rfl) rfl
 obtain ⟨j2,j2f,j2l⟩:=blk_cell (o:=2) (S28.out.blk 4 rfl) rfl
 obtain ⟨j3,j3f,j3l⟩:=blk_cell (o:=3) (S28.out.blk 4 rfl) rfl
 obtain ⟨j4,j4f,j4l⟩:=blk_cell (o:=4) (S28.out.blk 4 rfl) rfl
 obtain ⟨j5,j5f,j5l⟩:=blk_cell (o:=5) (S28.out.blk 4 rfl) rfl
 go_upto_region 58 with fail
 refine St.gen ((show St w (World.setCells w28 jg 0 [.int .i64 1,.int .i64 0,.int .i64 0,.int .i64 0,.string ⟨#[]⟩,.slice none 0 0]) [(r0,#[.int .i64 0,.int .i64 1,.string ⟨#[]⟩,.string ⟨[97].toArray⟩,.int .i64 0,.int .i64 0,.string ⟨#[]⟩,.slice ina0 0 inc0],70),(n0,QV.arr { k:=1,tb:=[116] },59),((p1 + 1),#[.int .i64 1,.int .i64 1,.int .i64 0,.int .i64 0,.string ⟨#[]⟩,.slice none 0 0],49),(p1,#[.int .i64 2,.int .i64 1,.string ⟨#[]⟩,.string ⟨[98].toArray⟩,.int .i64 0,.int .i64 0,.string ⟨#[]⟩,.slice ina1 0 inc1],70),(jg,(.int .i64 1 :: .int .i64 0 :: .int .i64 0 :: .int .i64 0 :: .string ⟨#[]⟩ :: .slice none 0 0 :: .int .i64 1 :: .int .i64 1 :: .int .i64 0 :: .int .i64 0 :: .string ⟨#[]⟩ :: .slice none 0 0 :: jzs).toArray,49),((p0 + 1),#[.int .i64 1,.int .i64 0,.int .i64 0,.int .i64 0,.string ⟨#[]⟩,.slice none 0 0],49),(p0,#[.int .i64 0,.int .i64 1,.string ⟨#[]⟩,.string ⟨[97].toArray⟩,.int .i64 0,.int .i64 0,.string ⟨#[]⟩,.slice ina0 0 inc0],70),(gg,(.int .i64 0 :: gzs).toArray,3),(eb,#[.int .i64 1,.string ⟨#[]⟩,.string ⟨[97].toArray⟩,.int .i64 0,.int .i64 0,.string ⟨#[]⟩,.slice gna 0 gnc],27),(qb,QV.arr { k:=5,s:=(some ⟨n0,0,none⟩,1,1),g:=(some ⟨gg,0,none⟩,1,gcap) },59),(sg,(.string ⟨[116].toArray⟩ :: .slice (some ⟨cb,co,none⟩) 2 cc :: .slice ja 0 jc :: .slice ka 0 kc :: szs).toArray,36),(nb,#[.string ⟨[116].toArray⟩],9),((w.heap.size + 1 + 1),#[.slice (some ⟨sg,0,none⟩) 1 scap,.int .i64 0],99),((w.heap.size + 1),QV.arr {},59),(w.heap.size,xa,44)] from by rw [setCells_same [.int .i64 1,.int .i64 0,.int .i64 0,.int .i64 0,.string ⟨#[]⟩,.slice none 0 0] 0 w28 (S28.out.blk 4 rfl) (fun j v hv=>by rcases j with _ | _ | _ | _ | _ | _ | j <;> first | exact hv | (simp at hv))]; exact S28.out)) ?_
 intro w29 S29'
 have S29:=Lib.hid (S29'.out)
 clear S29' S28 j0 j0f j0l j1 j1f j1l j2 j2f j2l j3 j3f j3l j4 j4f j4l j5 j5f j5l
 go_upto_region 49 with fail
 rw [rounds_succ]
 obtain ⟨i0,i1,i2,i3,i4,i5,i6,i7⟩:=HIC1.out _ S29.out.below
 have il:=block_lt_of_cell i0
 go_upto_region 51 with fail
 refine St.gen (St.alloc S29.out (cs:=#[.int .i64 2,.int .i64 1,.string ⟨#[]⟩,.string ⟨[98].toArray⟩,.int .i64 0,.int .i64 0,.string ⟨#[]⟩,.slice ina1 0 inc1]) (t:=70)) ?_
 intro w30 S30'
 have S30 : Hid (St w w30 [(w29.heap.size,#[.int .i64 2,.int .i64 1,.string ⟨#[]⟩,.string ⟨[98].toArray⟩,.int .i64 0,.int .i64 0,.string ⟨#[]⟩,.slice ina1 0 inc1],70),_,_,_,_,_,_,_,_,_,_,_,_,_,_,_]):=S30'.out
 clear S30' S29 i0 i1 i2 i3 i4 i5 i6 i7 il
 generalize w29.heap.size = r1 at S30 ⊢
 obtain ⟨q0,q0f,q0l⟩:=blk_cell (o:=0) (S30.out.blk 0 rfl) rfl
 go_upto_region 52 with fail
 clear q0 q0f q0l
 obtain ⟨q0,q0f,q0l⟩:=blk_cell (o:=0) (S30.out.blk 0 rfl) rfl
 obtain ⟨u11,u11f,u11l⟩:=blk_cell (o:=11) (S30.out.blk 10 rfl) rfl
 simp only [sl0] at u11
 obtain ⟨j0,j0f,j0l⟩:=blk_cell (o:=6) (S30.out.blk 5 rfl) rfl
 obtain ⟨j1,j1f,j1l⟩:=blk_cell (o:=7) (S30.out.blk 5 rfl) rfl
 obtain ⟨j2,j2f,j2l⟩:=blk_cell (o:=8) (S30.out.blk 5 rfl) rfl
 obtain ⟨j3,j3f,j3l⟩:=blk_cell (o:=9) (S30.out.blk 5 rfl) rfl
 obtain ⟨j4,j4f,j4l⟩:=blk_cell (o:=10) (S30.out.blk 5 rfl) rfl
 obtain ⟨j5,j5f,j5l⟩:=blk_cell (o:=11) (S30.out.blk 5 rfl) rfl
 replace q0:=cell_regrown q0
 replace u11:=cell_regrown u11
 replace j0:=cell_regrown j0
 replace j1:=cell_regrown j1
 replace j2:=cell_regrown j2
 replace j3:=cell_regrown j3
 replace j4:=cell_regrown j4
 replace j5:=cell_regrown j5
 refine wp_region_mixed 12 [(0,false),(1,false),(2,false),(3,false),(4,false),(5,false),(6,false),(7,false),(8,false),(9,true),(10,true),(11,false)] (by kernel_rfl) (by kernel_rfl) ?_
 repeat (refine wpM_mild rfl (fun K hK=>?_); go_simp; first | (refine hK _ ?_; clear hK K) | (apply Exists.intro; refine ⟨fun _=>?_,hK _ ?_⟩; (fail); clear hK K))
 clear q0 q0f q0l u11 u11f u11l j0 j0f j0l j1 j1f j1l j2 j2f j2l j3 j3f j3l j4 j4f j4l j5 j5f j5l
 refine wpM_eff rfl ?_
 intro w31 hb hb0
 have T31:=Lib.hid ((St.start w30).kept hb)
 clear hb hb0
 go_wp2_with fail
 refine ⟨(St.alloc T31.out).below,wpM_eff rfl ?_⟩
 intro w32 hb hb0
 have T32:=Lib.hid ((St.alloc T31.out (cs:=#[.int .i64 2,.int .i64 1,.int .i64 1,.int .i64 0,.int .i64 0,.string ⟨#[]⟩,.slice none 0 0]) (t:=107)).kept hb)
 clear hb hb0 T31
 generalize w31.heap.size = ab at T32 ⊢
 go_wp2_with (refine wpList_append_nil rfl (.tmp 191) (.tmp 199) 56 rfl 107 (.agg #[.int .i64 0,.int .i64 0,.int .i64 0,.int .i64 0,.int .i64 0,.string ⟨#[]⟩,.slice none 0 0]) 7 80 Tryz.underlying56 infoAg rfl (by decide) T32.out rfl _ 1 [.int .i64 2,.int .i64 1,.int .i64 1,.int .i64 0,.int .i64 0,.string ⟨#[]⟩,.slice none 0 0] rfl (by decide) (slAt_blk (T32.out.blk 0 rfl) (by decide)) rfl (by simp [Value.oneCell']) (by decide) (by unfold maxLen; decide) ?_; intro ag acap azs w33 T33 hac1 hac2 hac3; simp only [List.cons_append,List.nil_append] at T33)
 have S33 : Hid (St w w33 [(ag,(.int .i64 2 :: .int .i64 1 :: .int .i64 1 :: .int .i64 0 :: .int .i64 0 :: .string ⟨#[]⟩ :: .slice none 0 0 :: azs).toArray,107),(r1,#[.int .i64 2,.int .i64 1,.string ⟨#[]⟩,.string ⟨[98].toArray⟩,.int .i64 0,.int .i64 0,.string ⟨#[]⟩,.slice ina1 0 inc1],70),_,_,_,_,_,_,_,_,_,_,_,_,_,_,_]):=St.since S30.out T33.out.below (T33.out.own _ (List.mem_cons_self)).1 (T33.out.blk 0 rfl)
 refine ⟨T33.out.below,?_⟩
 clear T32 T33 S30
 repeat (refine wpM_mild rfl (fun K hK=>?_); go_simp; first | (refine hK _ ?_; clear hK K) | (apply Exists.intro; refine ⟨fun _=>?_,hK _ ?_⟩; (fail); clear hK K))
 refine wpM_tail ?_
 intro w34 hb _
 have S34:=Lib.hid (S33.out.kept hb)
 clear hb S33
 obtain ⟨u11,u11f,u11l⟩:=blk_cell (o:=11) (S34.out.blk 11 rfl) rfl
 simp only [sl0] at u11
 go_upto_region 53 with fail
 refine St.gen (St.set 11 (o:=11) (v:=.slice (some ⟨ag,0,none⟩) 1 acap) S34.out rfl) ?_
 intro w35 S35'
 have S35 : Hid (St w w35 [_,_,_,_,_,_,_,_,_,_,_,(qb,QV.arr { k:=5,s:=(some ⟨n0,0,none⟩,1,1),g:=(some ⟨gg,0,none⟩,1,gcap),a:=(some ⟨ag,0,none⟩,1,acap) },59),_,_,_,_,_]):=S35'.out
 clear S35' S34 u11 u11f u11l
 have u11 : w35.cell? ⟨qb,11,none⟩ = some (.slice (some ⟨ag,0,none⟩) 1 acap):=(blk_cell (o:=11) (S35.out.blk 11 rfl) rfl).1
 have u11l:=block_lt_of_cell u11
 obtain ⟨j0,j0f,j0l⟩:=blk_cell (o:=6) (S35.out.blk 6 rfl) rfl
 obtain ⟨j1,j1f,j1l⟩:=blk_cell (o:=7) (S35.out.blk 6 rfl) rfl
 obtain ⟨j2,j2f,j2l⟩:=blk_cell (o:=8) (S35.out.blk 6 rfl) rfl
 obtain ⟨j3,j3f,j3l⟩:=blk_cell (o:=9) (S35.out.blk 6 rfl) rfl
 obtain ⟨j4,j4f,j4l⟩:=blk_cell (o:=10) (S35.out.blk 6 rfl) rfl
 obtain ⟨j5,j5f,j5l⟩:=blk_cell (o:=11) (S35.out.blk 6 rfl) rfl
 go_upto_region 58 with fail
 refine St.gen ((show St w (World.setCells w35 jg 6 [.int .i64 1,.int .i64 1,.int .i64 0,.int .i64 0,.string ⟨#[]⟩,.slice none 0 0]) [(ag,(.int .i64 2 :: .int .i64 1 :: .int .i64 1 :: .int .i64 0 :: .int .i64 0 :: .string ⟨#[]⟩ :: .slice none 0 0 :: azs).toArray,107),(r1,#[.int .i64 2,.int .i64 1,.string ⟨#[]⟩,.string ⟨[98].toArray⟩,.int .i64 0,.int .i64 0,.string ⟨#[]⟩,.slice ina1 0 inc1],70),(r0,#[.int .i64 0,.int .i64 1,.string ⟨#[]⟩,.string ⟨[97].toArray⟩,.int .i64 0,.int .i64 0,.string ⟨#[]⟩,.slice ina0 0 inc0],70),(n0,QV.arr { k:=1,tb:=[116] },59),((p1 + 1),#[.int .i64 1,.int .i64 1,.int .i64 0,.int .i64 0,.string ⟨#[]⟩,.slice none 0 0],49),(p1,#[.int .i64 2,.int .i64 1,.string ⟨#[]⟩,.string ⟨[98].toArray⟩,.int .i64 0,.int .i64 0,.string ⟨#[]⟩,.slice ina1 0 inc1],70),(jg,(.int .i64 1 :: .int .i64 0 :: .int .i64 0 :: .int .i64 0 :: .string ⟨#[]⟩ :: .slice none 0 0 :: .int .i64 1 :: .int .i64 1 :: .int .i64 0 :: .int .i64 0 :: .string ⟨#[]⟩ :: .slice none 0 0 :: jzs).toArray,49),((p0 + 1),#[.int .i64 1,.int .i64 0,.int .i64 0,.int .i64 0,.string ⟨#[]⟩,.slice none 0 0],49),(p0,#[.int .i64 0,.int .i64 1,.string ⟨#[]⟩,.string ⟨[97].toArray⟩,.int .i64 0,.int .i64 0,.string ⟨#[]⟩,.slice ina0 0 inc0],70),(gg,(.int .i64 0 :: gzs).toArray,3),(eb,#[.int .i64 1,.string ⟨#[]⟩,.string ⟨[97].toArray⟩,.int .i64 0,.int .i64 0,.string ⟨#[]⟩,.slice gna 0 gnc],27),(qb,QV.arr { k:=5,s:=(some ⟨n0,0,none⟩,1,1),g:=(some ⟨gg,0,none⟩,1,gcap),a:=(some ⟨ag,0,none⟩,1,acap) },59),(sg,(.string ⟨[116].toArray⟩ :: .slice (some ⟨cb,co,none⟩) 2 cc :: .slice ja 0 jc :: .slice ka 0 kc :: szs).toArray,36),(nb,#[.string ⟨[116].toArray⟩],9),((w.heap.size + 1 + 1),#[.slice (some ⟨sg,0,none⟩) 1 scap,.int .i64 0],99),((w.heap.size + 1),QV.arr {},59),(w.heap.size,xa,44)] from by rw [setCells_same [.int .i64 1,.int .i64 1,.int .i64 0,.int .i64 0,.string ⟨#[]⟩,.slice none 0 0] 6 w35 (S35.out.blk 6 rfl) (fun j v hv=>by rcases j with _ | _ | _ | _ | _ | _ | j <;> first | exact hv | (simp at hv))]; exact S35.out)) ?_
 intro w36 S36'
 have S36:=Lib.hid (S36'.out)
 clear S36' S35 u11 u11l j0 j0f j0l j1 j1f j1l j2 j2f j2l j3 j3f j3l j4 j4f j4l j5 j5f j5l
 go_upto_region 49 with fail
 rw [rounds_succ]
 go_upto_region 59 with fail
 go_wp2_with (first | (refine wpList_load_row rfl 59 (.tmp 10) rfl qb rfl 59 (QV.arr { k:=5,s:=(some ⟨n0,0,none⟩,1,1),g:=(some ⟨gg,0,none⟩,1,gcap),a:=(some ⟨ag,0,none⟩,1,acap) }) (0,0) _ (S36.out.blk 11 rfl) Tryz.underlying59 rfl (qv_size _) ?_) | (refine wpList_load_row rfl 44 (.tmp 3) rfl w.heap.size rfl 44 xa (0,0) _ (S36.out.blk 16 rfl) Tryz.underlying44 rfl hxs ?_))
 refine Calls.mono (shape_ex Q (w.heap.size + 1 + 1) (.slice (some ⟨sg,0,none⟩) 1 scap) { k:=5,s:=(some ⟨n0,0,none⟩,1,1),g:=(some ⟨gg,0,none⟩,1,gcap),a:=(some ⟨ag,0,none⟩,1,acap) } xa sa sc (some ⟨jg,0,none⟩) jcap w36 (S36.out.blk 14 rfl) hx0 hx12 hx13 (HSO.out.kept (by decide) S36.out.below)) ?_
 rintro e w37 ⟨m1,m2,m3,og,ocap,ozs,rfl,hoc,hst⟩
 have S37 : Hid (St w w37 [(m3,QV.arr { k:=6,s:=(some ⟨m2,0,none⟩,1,1),o:=(some ⟨og,0,none⟩,1,ocap) },59),(og,(.int .i64 1 :: .bool true :: ozs).toArray,160),(m2,QV.arr { k:=3,s:=(some ⟨m1,0,none⟩,1,1),c:=(some ⟨jg,0,none⟩,2,jcap) },59),(m1,QV.arr { k:=5,s:=(some ⟨n0,0,none⟩,1,1),g:=(some ⟨gg,0,none⟩,1,gcap),a:=(some ⟨ag,0,none⟩,1,acap) },59),_,_,_,_,_,_,_,_,_,_,_,_,_,_,_,_,_]):=St.join S36.out hst
 clear hst S36
 go_upto_region 60 with (refine wpList_store_row rfl 59 (.tmp 10) (.tmp 242) rfl qb (QV.arr { k:=7,s:=(some ⟨m3,0,none⟩,1,1),n:=3 }) rfl rfl 59 (QV.arr { k:=5,s:=(some ⟨n0,0,none⟩,1,1),g:=(some ⟨gg,0,none⟩,1,gcap),a:=(some ⟨ag,0,none⟩,1,acap) }) (S37.out.blk 15 rfl) (qv_size _) rfl (qv_one _) ?_)
 refine St.gen (St.row 15 (QV.arr { k:=7,s:=(some ⟨m3,0,none⟩,1,1),n:=3 }) S37.out rfl) ?_
 intro w38 S38'
 have S38 : Hid (St w w38 [_,_,_,_,_,_,_,_,_,_,_,_,_,_,_,(qb,QV.arr { k:=7,s:=(some ⟨m3,0,none⟩,1,1),n:=3 },59),_,_,_,_,_]):=S38'.out
 clear S38' S37
 obtain ⟨b1,b1f,b1l⟩:=blk_cell (o:=1) (S38.out.blk 18 rfl) rfl
 go_upto_region 61 with fail
 clear b1 b1f b1l
 go_wp2_with (refine wpList_load_row rfl 59 (.tmp 10) rfl qb rfl 59 (QV.arr { k:=7,s:=(some ⟨m3,0,none⟩,1,1),n:=3 }) (0,0) _ (S38.out.blk 15 rfl) Tryz.underlying59 rfl (qv_size _) ?_)
 have hT : ∀ b : Nat,(fun _=>True : Nat→Prop) b:=fun _=>trivial
 have k_m3 : w38.heap[m3]? = some (.cells (QV.arr { k:=6,s:=(some ⟨m2,0,none⟩,1,1),o:=(some ⟨og,0,none⟩,1,ocap) }) 59 (0,0)):=S38.out.blk 0 rfl
 have k_m2 : w38.heap[m2]? = some (.cells (QV.arr { k:=3,s:=(some ⟨m1,0,none⟩,1,1),c:=(some ⟨jg,0,none⟩,2,jcap) }) 59 (0,0)):=S38.out.blk 2 rfl
 have k_m1 : w38.heap[m1]? = some (.cells (QV.arr { k:=5,s:=(some ⟨n0,0,none⟩,1,1),g:=(some ⟨gg,0,none⟩,1,gcap),a:=(some ⟨ag,0,none⟩,1,acap) }) 59 (0,0)):=S38.out.blk 3 rfl
 have k_n0 : w38.heap[n0]? = some (.cells (QV.arr { k:=1,tb:=[116] }) 59 (0,0)):=S38.out.blk 7 rfl
 have k_gg : w38.heap[gg]? = some (.cells (.int .i64 0 :: gzs).toArray 3 (0,0)):=S38.out.blk 13 rfl
 have k_ag : w38.heap[ag]? = some (.cells (.int .i64 2 :: .int .i64 1 :: .int .i64 1 :: .int .i64 0 :: .int .i64 0 :: .string ⟨#[]⟩ :: .slice none 0 0 :: azs).toArray 107 (0,0)):=S38.out.blk 4 rfl
 have k_jg : w38.heap[jg]? = some (.cells (.int .i64 1 :: .int .i64 0 :: .int .i64 0 :: .int .i64 0 :: .string ⟨#[]⟩ :: .slice none 0 0 :: .int .i64 1 :: .int .i64 1 :: .int .i64 0 :: .int .i64 0 :: .string ⟨#[]⟩ :: .slice none 0 0 :: jzs).toArray 49 (0,0)):=S38.out.blk 10 rfl
 have k_og : w38.heap[og]? = some (.cells (.int .i64 1 :: .bool true :: ozs).toArray 160 (0,0)):=S38.out.blk 1 rfl
 have hq1:=qy_group (W:=w38) hT k_n0 k_gg hgc1 k_ag hac1
 have hq2:=qy_project (W:=w38) (q:={ k:=5,s:=(some ⟨n0,0,none⟩,1,1),g:=(some ⟨gg,0,none⟩,1,gcap),a:=(some ⟨ag,0,none⟩,1,acap) }) hT k_m1 hq1 k_jg hjc1
 have hq3:=qy_order (W:=w38) (q:={ k:=3,s:=(some ⟨m1,0,none⟩,1,1),c:=(some ⟨jg,0,none⟩,2,jcap) }) hT k_m2 hq2 k_og hoc
 have hqy:=qy_limit (W:=w38) (q:={ k:=6,s:=(some ⟨m2,0,none⟩,1,1),o:=(some ⟨og,0,none⟩,1,ocap) }) hT k_m3 hq3
 clear hq1 hq2 hq3 k_m3 k_m2 k_m1 k_n0 k_gg k_ag k_jg k_og
 refine Calls.mono (schema72 (fun _=>True) _ { k:=7,s:=(some ⟨m3,0,none⟩,1,1),n:=3 } w38 (rSl_mono (HD.out.kept (by decide) S38.out.below) (by decide) (fun _ _=>trivial)) hqy) ?_
 rintro e w39 ⟨vk,rfl,hv,hb⟩
 have S39:=Lib.hid (S38.out.kept hb)
 clear hb hv hqy S38
 obtain ⟨b1,b1f,b1l⟩:=blk_cell (o:=1) (S39.out.blk 18 rfl) rfl
 go_upto_region 62 with fail
 refine St.gen (St.set 18 (o:=1) (v:=.int .i64 0) S39.out rfl) ?_
 intro w40 S40'
 have S40:=Lib.hid (S40'.out)
 clear S40' S39 b1 b1f b1l
 obtain ⟨b1,b1f,b1l⟩:=blk_cell (o:=1) (S40.out.blk 18 rfl) rfl
 go_upto_region 64 with fail
 clear b1 b1f b1l
 go_wp2_with (first | (refine wpList_load_row rfl 59 (.tmp 10) rfl qb rfl 59 (QV.arr { k:=7,s:=(some ⟨m3,0,none⟩,1,1),n:=3 }) (0,0) _ (S40.out.blk 15 rfl) Tryz.underlying59 rfl (qv_size _) ?_) | (refine wpList_store_row rfl 59 (.tmp 4) (.tmp 267) rfl (w.heap.size + 1) (QV.arr { k:=7,s:=(some ⟨m3,0,none⟩,1,1),n:=3 }) rfl rfl 59 (QV.arr {}) (S40.out.blk 19 rfl) (qv_size _) rfl (qv_one _) ?_) | (with_reducible (refine hold ?_)))
 unfold Held
 have SE:=St.row 19 (QV.arr { k:=7,s:=(some ⟨m3,0,none⟩,1,1),n:=3 }) S40.out rfl
 simp only [List.set_cons_zero,List.set_cons_succ] at SE
 have hl:=run_loadVar_row (P:=Tryz.prog) _ (w.heap.size + 1) 59 59 (QV.arr { k:=7,s:=(some ⟨m3,0,none⟩,1,1),n:=3 }) (0,0) _ (SE.blk 19 rfl) Tryz.underlying59 rfl (qv_size _)
 refine bodyPost_ret (v:=.tuple #[.agg (QV.arr { k:=7,s:=(some ⟨m3,0,none⟩,1,1),n:=3 }),.int .i64 0]) (results_cell_slot rfl _ _ (w.heap.size + 1) _ _ rfl rfl hl) rfl ?_
 exact ⟨_,rfl,SE.below⟩
end Go.Proofs.YtjmmbebkbkgefaaGreatDoor
