/-
  Part 13 of the texts of one proof, made small by a program: see the last part for what is proved. No condition.
-/
import Derived.Maps.Own
import Derived.Laws.EntriesVeiled
import Derived.Test.YtimoefagohifaaaGreatDoorQ12
namespace Go.Proofs.YtimoefagohifaaaGreatDoor
open Go.RowKit Go.Sort
theorem rSl_ints {w0 W : World} {L : List Blk} {i g cap : Nat} {zs : List Value} (S : St w0 W L) (hi : L[i]? = some (g,(.int .i64 1 :: .int .i64 1 :: zs).toArray,3)) (hc : 2≤cap) :
  RSl intE (w0.heap.size≤·) W (.slice (some ⟨g,0,none⟩) 2 cap) [1,1]:=by
 have hb:=S.own _ (List.mem_of_getElem? hi)
 refine ⟨intVals [1,1],⟨_,_,rfl,hc,fun _=>⟨g,0,rfl,hb.1,fun j u hu=>?_⟩⟩,intVals_lIn _⟩
 have h2 : j < 2:=by
  have:=(List.getElem?_eq_some_iff.1 hu).1
  simpa [intVals] using this
 have e : u = .int .i64 1:=by
  match j,h2 with
  | 0,_=>simpa [intVals] using hu.symm
  | 1,_=>simpa [intVals] using hu.symm
 subst e
 simp only [World.cell?,hb.2]
 match j,h2 with
 | 0,_=>rfl
 | 1,_=>rfl
theorem look0 {W : World} {mb : Nat} (h : W.heap[mb]? = some (.map #[] 0)) : (Instr.lookup 284 (.map (some mb)) (.int .i64 0) false).run Tryz.prog W = .ok (.bool false) W:=by
 have hf:=MapKept.run_findKey (P:=Tryz.prog) (w:=W) (k:=.int .i64 0) (l:=[]) (a:=none) Tryz.underlying3 rfl
 have hc:=(Maps.int_keyed Tryz.underlying3).check W true (Maps.keyOf_int_mk Tryz.underlying3 (show (Lit.int .i64 0).wf = true by kernel_rfl))
 simp [Instr.lookup,run_underlying Tryz.underlying284,MapKept.run_getObj_map h,hc,hf,Tryz.zeroValue4,Result.andThen]
theorem upd0 {W : World} {mb : Nat} (h : W.heap[mb]? = some (.map #[] 0)) : (Instr.mapUpdate 284 (.map (some mb)) (.int .i64 0) (.bool true)).run Tryz.prog W = .ok () (W.putObj mb (.map #[{ key:=.int .i64 0,val:=.bool true,born:=0 }] 1)):=by
 have hf:=MapKept.run_findKey (P:=Tryz.prog) (w:=W) (k:=.int .i64 0) (l:=[]) (a:=none) Tryz.underlying3 rfl
 have hc:=(Maps.int_keyed Tryz.underlying3).check W false (Maps.keyOf_int_mk Tryz.underlying3 (show (Lit.int .i64 0).wf = true by kernel_rfl))
 simp [Instr.mapUpdate,run_underlying Tryz.underlying284,MapKept.run_getObj_map h,hc,hf,MapKept.run_setObj_map _ h,Result.andThen]
 rfl
theorem St.put {w0 w : World} {L : List Blk} {mb : Nat} {o : Obj} (h : St w0 w L) (hm : w0.heap.size≤mb) (ha : ∀ x ∈ L,x.1 ≠ mb) : St w0 (w.putObj mb o) L:=by
 have hk : ∀ k,k ≠ mb→(w.putObj mb o).heap[k]? = w.heap[k]?:=fun k hk=>by
  show (w.heap.setIfInBounds mb o)[k]? = _
  rw [Array.getElem?_setIfInBounds_ne (fun e=>hk e.symm)]
 refine ⟨⟨h.below.os,h.below.tape,h.below.output,?_,fun k hlt=>(hk k (by omega)).trans (h.below.block k hlt)⟩,fun x hx=>?_,h.apart⟩
 ·show _≤(w.heap.setIfInBounds mb o).size
  rw [Array.size_setIfInBounds]; exact h.below.size
 ·exact ⟨(h.own x hx).1,by rw [hk _ (ha x hx)]; exact (h.own x hx).2⟩
set_option maxRecDepth 100000 in
set_option maxHeartbeats 8000000 in
theorem groups_one (Q : Nat→Prop) (kv : Value) (k0 : Int) (tab : Bytes) (sa : Option Addr) (sn sc : Nat) (xop xn : Int) (xv : V) (xa : Option Addr) (xm xc : Nat) (ca : Option Addr) (cn cc : Nat) (ga : Option Addr) (gc : Nat) (aa : Option Addr) (ac : Nat) (oa : Option Addr) (om oc : Nat) (n0 : Int) (w : World)
  (hv : RSl intE Q w kv [1,1]) (hg : RSl intE Q w (.slice ga 1 gc) [0]) (ha : RSl agE Q w (.slice aa 1 ac) [⟨2,Xp.col 1⟩]) :
  Calls Tryz.prog 205 #[kv,.agg #[.int .i64 k0,.string ⟨tab.toArray⟩,.slice sa sn sc,.int .i64 xop,.int .i64 xn,.int .i64 xv.k,.int .i64 xv.n,.string xv.s,.slice xa xm xc,.slice ca cn cc,.slice ga 1 gc,.slice aa 1 ac,.slice oa om oc,.int .i64 n0]] w (RetInts w [1,1]):=by
 obtain ⟨ib,io,ic,ics,hib,hii,hit⟩:=hv.at (k:=0) rfl
 have e : ics = [.int .i64 1]:=hii
 subst e
 have z0:=hit 0 _ rfl
 simp only [Nat.zero_mul,Nat.add_zero] at z0
 obtain ⟨gb,go,gcp,gcs,hgb,hgi,hgt⟩:=hg.at (k:=0) rfl
 have e : gcs = [.int .i64 0]:=hgi
 subst e
 have z1:=hgt 0 _ rfl
 simp only [Nat.zero_mul,Nat.add_zero] at z1
 injection hgb with e1 e3 e2
 subst e1 e2
 clear e3
 obtain ⟨ab,ao,acp,acs,hab,hai,hat⟩:=ha.at (k:=0) rfl
 injection hab with e1 e3 e2
 subst e1 e2
 clear e3
 obtain ⟨c0,rfl,hx⟩:=hai
 obtain ⟨v0,rfl,hs0⟩:=xpIn_iff.1 (show XpIn Q w (.mk 1 1 V.null []) c0 from hx)
 obtain ⟨ad,dc,rfl⟩:=hs0.slice
 have t0:=hat 0 _ rfl
 have t1:=hat 1 _ rfl
 have t2:=hat 2 _ rfl
 have t3:=hat 3 _ rfl
 have t4:=hat 4 _ rfl
 have t5:=hat 5 _ rfl
 have t6:=hat 6 _ rfl
 simp only [Nat.zero_mul,Nat.add_zero,List.length_nil] at t0 t1 t2 t3 t4 t5 t6
 have CK : Hid (∀ W,Below w.heap.size w W→Calls Tryz.prog 241 #[kv,.agg #[.int .i64 1,.int .i64 1,.int .i64 0,.int .i64 0,.string ⟨#[]⟩,.slice ad 0 dc]] W (Says (.tuple #[.int .i64 1,.int .i64 0]) W)):=
  fun W hW=>check_col Q [1,1] _ 1 ad dc 1 W (hv.kept (by decide) hW) (by decide) rfl (by decide) (by decide)
 have ZZ : Hid (∀ W,Below w.heap.size w W→W.cell? ⟨ib,io,none⟩ = some (.int .i64 1)∧W.cell? ⟨gb,go,none⟩ = some (.int .i64 0) ∧
  (W.cell? ⟨ab,ao,none⟩ = some (.int .i64 2)∧W.cell? ⟨ab,ao + 1,none⟩ = some (.int .i64 1)∧W.cell? ⟨ab,ao + 2,none⟩ = some (.int .i64 1)∧W.cell? ⟨ab,ao + 3,none⟩ = some (.int .i64 0)∧W.cell? ⟨ab,ao + 4,none⟩ = some (.int .i64 0)∧W.cell? ⟨ab,ao + 5,none⟩ = some (.string ⟨#[]⟩)∧W.cell? ⟨ab,ao + 6,none⟩ = some (.slice ad 0 dc))):=
  fun W hW=>⟨hW.cell_kept z0,hW.cell_kept z1,hW.cell_kept t0,hW.cell_kept t1,hW.cell_kept t2,hW.cell_kept t3,hW.cell_kept t4,hW.cell_kept t5,hW.cell_kept t6⟩
 subst hib
 clear hv hg ha hit hgt hat hii hgi hx hs0 z0 z1 t0 t1 t2 t3 t4 t5 t6
 simp only [List.length_cons,List.length_nil,Nat.zero_add,Nat.reduceAdd] at CK ⊢
 go_enter Tryz.func205,Tryz.ntmps205
 go_upto_region 4 with fail
 refine St.gen (St.alloc (St.start _)) ?_
 intro w1 S1
 try (simp only [List.set_cons_zero,List.set_cons_succ,List.setIfInBounds_toArray,World.size_alloc] at S1)
 have hmm:=@run_makeMap Tryz.prog
 have F1:=S1.out.facts
 simp only [St.Facts,cellFacts,apartFacts,and_true] at F1
 go_upto_region 6 with fail
 refine wp_gen (fun W=>St w W _∧W.heap[w1.heap.size]? = some (.map #[] 0)) ⟨S1.out.kept ((Below.refl _ _).alloc (Nat.le_refl _) _),World.alloc_heap_new _ _⟩ ?_
 rintro w2 ⟨S2',hm2⟩
 have S2:=Lib.hid S2'
 have HM:=Lib.hid hm2
 have hsz : Hid (w.heap.size < w1.heap.size):=(Array.getElem?_eq_some_iff.1 (S1.out.own _ (List.mem_cons_self)).2).1
 clear S2' S1 F1 hmm hm2
 generalize w1.heap.size = mb at HM hsz ⊢
 have F2:=S2.out.facts
 simp only [St.Facts,cellFacts,apartFacts,and_true] at F2
 obtain ⟨z0,z1,_⟩:=ZZ.out _ S2.out.below
 have lk:=look0 HM.out
 have up:=upd0 HM.out
 refine wp_loop_rounds 2 ?_
 rw [rounds_succ]
 go_upto_region 11 with fail
 refine St.gen (St.put (mb:=mb) S2.out (Nat.le_of_lt hsz.out) (fun x hx=>by have h1:=List.mem_singleton.1 hx; subst h1; exact Nat.ne_of_lt hsz.out)) ?_
 intro w3 S3
 clear F2 S2 lk up z0 z1 HM
 have F3:=S3.out.facts
 simp only [St.Facts,cellFacts,apartFacts,and_true] at F3
 obtain ⟨z0,z1,t0,t1,t2,t3,t4,t5,t6⟩:=ZZ.out _ S3.out.below
 go_wp2_with (refine wpList_append_nil rfl (.tmp 45) (.tmp 50) 61 rfl 3 (.int .i64 0) 1 8 Tryz.underlying61 infoInt rfl (by decide) (St.laid S3.out) rfl _ 1 [.int .i64 1] rfl (by decide) (slAt_fresh (by decide)) rfl (by simp [Value.oneCell']) (by decide) (by unfold maxLen; decide) ?_; intro g cap zs w4 S4 hc1 hc2 hc3; simp only [List.cons_append,List.nil_append] at S4; have F4:=S4.out.facts; simp only [St.Facts,cellFacts,apartFacts,and_true] at F4)
 clear F3 S3 z0 z1 t0 t1 t2 t3 t4 t5 t6
 rw [rounds_succ]
 obtain ⟨z0,z1,t0,t1,t2,t3,t4,t5,t6⟩:=ZZ.out _ S4.out.below
 go_upto_region 16 with fail
 refine wp_loop_rounds 2 ?_
 rw [rounds_succ]
 go_wp2_with fail
 refine Calls.mono (CK.out _ (St.alloc S4.out).below) ?_
 rintro e w5 ⟨rfl,hb5⟩
 have S5:=Lib.hid ((St.alloc S4.out (cs:=#[.int .i64 2,.int .i64 1,.int .i64 1,.int .i64 0,.int .i64 0,.string ⟨#[]⟩,.slice ad 0 dc]) (t:=134)).kept hb5)
 clear hb5 F4 S4 z0 z1 t0 t1 t2 t3 t4 t5 t6 CK ZZ
 generalize w4.heap.size = ag at S5 ⊢
 have F5:=S5.out.facts
 simp only [St.Facts,cellFacts,apartFacts,and_true] at F5
 go_wp2_with (refine wpList_append_on rfl (.tmp 99) (.tmp 101) 61 rfl 3 (.int .i64 0) 1 8 Tryz.underlying61 infoInt rfl (by decide) 1 (xs:=[.int .i64 1]) (zs:=zs) (St.laid S5.out) rfl rfl rfl hc1 hc2 hc3 _ 1 [.int .i64 1] rfl (by decide) (slAt_fresh (by decide)) rfl (by simp [Value.oneCell']) (by decide) (by unfold maxLen; decide) ?_; intro g6 cap6 zs6 w6 S6 hd1 hd2 hd3; simp only [List.cons_append,List.nil_append,List.set_cons_zero,List.set_cons_succ] at S6; have F6:=S6.out.facts; simp only [St.Facts,cellFacts,apartFacts,and_true] at F6)
 clear F5 S5
 rw [rounds_succ]
 go_wp2_with fail
 go_returns
 exact ⟨_,rfl,rSl_ints (i:=1) S6.out rfl hd1,S6.out.below⟩
theorem rSl_mono {α : Type} {E : ElRep α} {Q R : Nat→Prop} {w : World} {v : Value} {l : List α} (h : RSl E Q w v l) (hk : 0 < E.k) (hq : ∀ b,Q b→R b) : RSl E R w v l:=rSl_move hk (fun b _ hb=>⟨hq b hb,rfl⟩) h
theorem enters202 : ∀ args w,(callFunc 202 args).run Tryz.prog w = .ok (.enter 202 args) w:=enters_of Tryz.func202 (by kernel_rfl) rfl
theorem enters207 : ∀ args w,(callFunc 207 args).run Tryz.prog w = .ok (.enter 207 args) w:=enters_of Tryz.func207 (by kernel_rfl) rfl
set_option maxRecDepth 100000 in
theorem clo207 (tb ib : Nat) (ga : Option Addr) (cap : Nat) (w : World) (h1 : w.cell? ⟨tb,0,none⟩ = some (.func (.func 201) #[] #[.pointer (some ⟨ib,0,none⟩)])) (h2 : w.cell? ⟨ib,0,none⟩ = some (.slice ga 2 cap)) :
  Calls Tryz.prog 207 #[.agg #[.int .i64 1,.bool true],.pointer (some ⟨tb,0,none⟩)] w (Says (.bool false) w):=by
 have l1:=block_lt_of_cell h1
 have l2:=block_lt_of_cell h2
 go_enter Tryz.func207,Tryz.ntmps207
 go_wp2_with fail
 go_enter Tryz.func201,Tryz.ntmps201
 go_wp2_with fail
 go_returns
 go_wp2_with fail
 exact ⟨rfl,(Below.refl _ _).alloc (Nat.le_refl _) _⟩
set_option maxRecDepth 100000 in
theorem clo202 (qb : Nat) (ca : Option Addr) (cc : Nat) (ia : Option Addr) (ic : Nat) (ka : Option Addr) (kc : Nat) (w : World) (h1 : w.cell? ⟨qb,1,none⟩ = some (.string ⟨[116].toArray⟩)) :
  Calls Tryz.prog 202 #[.agg #[.string ⟨[116].toArray⟩,.slice ca 2 cc,.slice ia 0 ic,.slice ka 0 kc],.pointer (some ⟨qb,0,none⟩)] w (Says (.bool true) w):=by
 have l1:=block_lt_of_cell h1
 go_enter Tryz.func202,Tryz.ntmps202
 go_wp2_with fail
 go_returns
 exact ⟨rfl,(Below.refl _ _).alloc (Nat.le_refl _) _⟩
set_option maxRecDepth 100000 in
set_option maxHeartbeats 8000000 in
theorem schema_3 (Q : Nat→Prop) (dv : Value) (q : Qy) (sa xa ca ga aa oa : Option Addr) (sc xc cc gc ac oc : Nat) (w : World) (hs : RSl qyE Q w (.slice sa 1 sc) [q]) (he : RSl xpE Q w (.slice ca 2 cc) [Xp.col 0,Xp.col 1])
  (HS : Hid (∀ W cs,Below w.heap.size w W→QyIn Q W q cs→Calls Tryz.prog 147 #[dv,.agg cs.toArray] W (RetInts W [1,1]))) :
  Calls Tryz.prog 147 #[dv,.agg #[.int .i64 3,.string ⟨#[]⟩,.slice sa 1 sc,.int .i64 0,.int .i64 0,.int .i64 0,.int .i64 0,.string ⟨#[]⟩,.slice xa 0 xc,.slice ca 2 cc,.slice ga 0 gc,.slice aa 0 ac,.slice oa 0 oc,.int .i64 0]] w (RetInts w [1,1]):=by
 obtain ⟨sb,so,scc,scs,hsb,hsi,hst⟩:=hs.at (k:=0) rfl
 injection hsb with e1 e3 e2
 subst e1 e2
 clear e3
 have hq : QyIn Q w q scs:=hsi
 have HQ:=Lib.hid hq
 have CS : Hid (∀ W,Below w.heap.size w W→Calls Tryz.prog 147 #[dv,.agg scs.toArray] W (RetInts W [1,1])):=fun W hW=>HS.out W _ hW (qyIn_move (fun b hl k=>⟨k,hW.block b hl⟩) _ _ HQ.out)
 obtain ⟨k1,tab1,subs1,⟨op1,xn1,v1,args1⟩,cols1,group1,aggs1,order1,n1⟩:=q
 obtain ⟨s2,sc2,x2,xc2,c2,cc2,g2,gc2,a2,ac2,o2,oc2,rfl,_⟩:=qyIn_of hq
 have y0:=hst 0 _ rfl
 have y1:=hst 1 _ rfl
 have y2:=hst 2 _ rfl
 have y3:=hst 3 _ rfl
 have y4:=hst 4 _ rfl
 have y5:=hst 5 _ rfl
 have y6:=hst 6 _ rfl
 have y7:=hst 7 _ rfl
 have y8:=hst 8 _ rfl
 have y9:=hst 9 _ rfl
 have y10:=hst 10 _ rfl
 have y11:=hst 11 _ rfl
 have y12:=hst 12 _ rfl
 have y13:=hst 13 _ rfl
 simp only [Nat.zero_mul,Nat.add_zero] at y0 y1 y2 y3 y4 y5 y6 y7 y8 y9 y10 y11 y12 y13
 have ZZ : Hid (∀ W,Below w.heap.size w W→W.cell? ⟨sb,so,none⟩ = some (.int .i64 k1)∧W.cell? ⟨sb,so + 1,none⟩ = some (.string ⟨tab1.toArray⟩)∧W.cell? ⟨sb,so + 2,none⟩ = some (.slice s2 subs1.length sc2)∧W.cell? ⟨sb,so + 3,none⟩ = some (.int .i64 op1)∧W.cell? ⟨sb,so + 4,none⟩ = some (.int .i64 xn1)∧W.cell? ⟨sb,so + 5,none⟩ = some (.int .i64 v1.k)∧W.cell? ⟨sb,so + 6,none⟩ = some (.int .i64 v1.n)∧W.cell? ⟨sb,so + 7,none⟩ = some (.string v1.s)∧W.cell? ⟨sb,so + 8,none⟩ = some (.slice x2 args1.length xc2)∧W.cell? ⟨sb,so + 9,none⟩ = some (.slice c2 cols1.length cc2)∧W.cell? ⟨sb,so + 10,none⟩ = some (.slice g2 group1.length gc2)∧W.cell? ⟨sb,so + 11,none⟩ = some (.slice a2 aggs1.length ac2)∧W.cell? ⟨sb,so + 12,none⟩ = some (.slice o2 order1.length oc2)∧W.cell? ⟨sb,so + 13,none⟩ = some (.int .i64 n1)):=
  fun W hW=>⟨hW.cell_kept y0,hW.cell_kept y1,hW.cell_kept y2,hW.cell_kept y3,hW.cell_kept y4,hW.cell_kept y5,hW.cell_kept y6,hW.cell_kept y7,hW.cell_kept y8,hW.cell_kept y9,hW.cell_kept y10,hW.cell_kept y11,hW.cell_kept y12,hW.cell_kept y13⟩
 have HE:=Lib.hid he
 clear he
 clear hs hsi hst hq HQ HS y0 y1 y2 y3 y4 y5 y6 y7 y8 y9 y10 y11 y12 y13
 go_enter Tryz.func147,Tryz.ntmps147
 go_upto_region 3 with fail
 refine St.gen (St.alloc (St.alloc (St.start _))) ?_
 intro w1 S1
 try (simp only [World.size_alloc] at S1)
 have F1:=S1.out.facts
 simp only [St.Facts,cellFacts,apartFacts,and_true] at F1
 obtain ⟨y0,y1,y2,y3,y4,y5,y6,y7,y8,y9,y10,y11,y12,y13⟩:=ZZ.out _ S1.out.below
 refine wp_loop_rounds 2 ?_
 rw [rounds_succ]
 go_wp2_with fail
 refine Calls.mono (CS.out _ (St.alloc S1.out).below) ?_
 rintro e w2 ⟨v,rfl,hv,hb2⟩
 have S2:=Lib.hid ((St.alloc S1.out).kept hb2)
 obtain ⟨va,vc,rfl⟩:=hv.slice
 have HV : Hid (SlAt w2 (.slice va 2 vc) 2 [.int .i64 1,.int .i64 1]):=by
  obtain ⟨acs,h1,h2⟩:=hv
  have:=lIn_intVals h2
  subst this
  exact h1.slAt
 simp only [List.length_cons,List.length_nil,Nat.zero_add,Nat.reduceAdd]
 clear hv hb2 F1 S1 ZZ CS y0 y1 y2 y3 y4 y5 y6 y7 y8 y9 y10 y11 y12 y13
 have F2:=S2.out.facts
 simp only [St.Facts,cellFacts,apartFacts,and_true] at F2
 go_wp2_with (refine wpList_append_nil rfl (.tmp 33) (.tmp 34) 61 rfl 3 (.int .i64 0) 1 8 Tryz.underlying61 infoInt rfl (by decide) S2.out rfl _ 2 [.int .i64 1,.int .i64 1] rfl (by decide) HV.out rfl (by simp [Value.oneCell']) (by decide) (by unfold maxLen; decide) ?_; intro g cap zs w3 S3 hc1 hc2 hc3; simp only [List.cons_append,List.nil_append] at S3; have F3:=S3.out.facts; simp only [St.Facts,cellFacts,apartFacts,and_true] at F3)
 clear F2 S2 HV
 rw [rounds_succ]
 go_upto_region 10 with fail
 refine St.gen (St.set 2 (S3.out) rfl) ?_
 intro w4 S4
 try (simp only [List.set_cons_zero,List.set_cons_succ,List.setIfInBounds_toArray] at S4)
 clear F3 S3
 have F4:=S4.out.facts
 simp only [St.Facts,cellFacts,apartFacts,and_true] at F4
 have hmf : ∀ (fn : Fn) (first cap : Array Value) (w : World),(Instr.makeFunc fn first cap).run Tryz.prog w = .ok (.func fn first cap) w:=fun _ _ _ _=>rfl
 go_upto_region 11 with fail
 refine St.gen (St.alloc (S4.out)) ?_
 intro w5 S5
 try (simp only [List.set_cons_zero,List.set_cons_succ,List.setIfInBounds_toArray,World.size_alloc] at S5)
 clear F4 S4
 have F5:=S5.out.facts
 simp only [St.Facts,cellFacts,apartFacts,and_true] at F5
 go_wp2_with fail
 refine Calls.mono (projects_cols (fun _=>True) [1,1] [0,1] _ _ _ (rSl_mono (rSl_ints (i:=1) S5.out rfl hc1) (by decide) (fun _ _=>trivial)) (rSl_mono (HE.out.kept (by decide) S5.out.below) (by decide) (fun _ _=>trivial)) (by decide) (by decide) (by intro n hn; simp only [List.mem_cons,List.not_mem_nil,or_false] at hn; rcases hn with rfl | rfl <;> decide)) ?_
 rintro e w6 ⟨v6,rfl,hv6,hb6⟩
 have S6:=Lib.hid (S5.out.kept hb6)
 have HV6:=Lib.hid hv6
 have hsz:=Lib.hid S5.out.below.size
 clear hb6 hv6 F5 S5
 go_wp2_with fail
 go_returns
 exact ⟨_,rfl,rSl_mono HV6.out (by decide) (fun b hb=>Nat.le_trans hsz.out hb),S6.out.below⟩
set_option maxRecDepth 100000 in
set_option maxHeartbeats 8000000 in
theorem schema_5 (Q : Nat→Prop) (dv : Value) (q : Qy) (sa xa ca ga aa oa : Option Addr) (sc xc cc gc ac oc : Nat) (w : World) (hs : RSl qyE Q w (.slice sa 1 sc) [q]) (hg : RSl intE Q w (.slice ga 1 gc) [0]) (ha : RSl agE Q w (.slice aa 1 ac) [⟨2,Xp.col 1⟩])
  (HS : Hid (∀ W cs,Below w.heap.size w W→QyIn Q W q cs→Calls Tryz.prog 147 #[dv,.agg cs.toArray] W (RetInts W [1,1]))) :
  Calls Tryz.prog 147 #[dv,.agg #[.int .i64 5,.string ⟨#[]⟩,.slice sa 1 sc,.int .i64 0,.int .i64 0,.int .i64 0,.int .i64 0,.string ⟨#[]⟩,.slice xa 0 xc,.slice ca 0 cc,.slice ga 1 gc,.slice aa 1 ac,.slice oa 0 oc,.int .i64 0]] w (RetInts w [1,1]):=by
 obtain ⟨sb,so,scc,scs,hsb,hsi,hst⟩:=hs.at (k:=0) rfl
 injection hsb with e1 e3 e2
 subst e1 e2
 clear e3
 have hq : QyIn Q w q scs:=hsi
 have HQ:=Lib.hid hq
 have CS : Hid (∀ W,Below w.heap.size w W→Calls Tryz.prog 147 #[dv,.agg scs.toArray] W (RetInts W [1,1])):=fun W hW=>HS.out W _ hW (qyIn_move (fun b hl k=>⟨k,hW.block b hl⟩) _ _ HQ.out)
 obtain ⟨k1,tab1,subs1,⟨op1,xn1,v1,args1⟩,cols1,group1,aggs1,order1,n1⟩:=q
 obtain ⟨s2,sc2,x2,xc2,c2,cc2,g2,gc2,a2,ac2,o2,oc2,rfl,_⟩:=qyIn_of hq
 have y0:=hst 0 _ rfl
 have y1:=hst 1 _ rfl
 have y2:=hst 2 _ rfl
 have y3:=hst 3 _ rfl
 have y4:=hst 4 _ rfl
 have y5:=hst 5 _ rfl
 have y6:=hst 6 _ rfl
 have y7:=hst 7 _ rfl
 have y8:=hst 8 _ rfl
 have y9:=hst 9 _ rfl
 have y10:=hst 10 _ rfl
 have y11:=hst 11 _ rfl
 have y12:=hst 12 _ rfl
 have y13:=hst 13 _ rfl
 simp only [Nat.zero_mul,Nat.add_zero] at y0 y1 y2 y3 y4 y5 y6 y7 y8 y9 y10 y11 y12 y13
 have ZZ : Hid (∀ W,Below w.heap.size w W→W.cell? ⟨sb,so,none⟩ = some (.int .i64 k1)∧W.cell? ⟨sb,so + 1,none⟩ = some (.string ⟨tab1.toArray⟩)∧W.cell? ⟨sb,so + 2,none⟩ = some (.slice s2 subs1.length sc2)∧W.cell? ⟨sb,so + 3,none⟩ = some (.int .i64 op1)∧W.cell? ⟨sb,so + 4,none⟩ = some (.int .i64 xn1)∧W.cell? ⟨sb,so + 5,none⟩ = some (.int .i64 v1.k)∧W.cell? ⟨sb,so + 6,none⟩ = some (.int .i64 v1.n)∧W.cell? ⟨sb,so + 7,none⟩ = some (.string v1.s)∧W.cell? ⟨sb,so + 8,none⟩ = some (.slice x2 args1.length xc2)∧W.cell? ⟨sb,so + 9,none⟩ = some (.slice c2 cols1.length cc2)∧W.cell? ⟨sb,so + 10,none⟩ = some (.slice g2 group1.length gc2)∧W.cell? ⟨sb,so + 11,none⟩ = some (.slice a2 aggs1.length ac2)∧W.cell? ⟨sb,so + 12,none⟩ = some (.slice o2 order1.length oc2)∧W.cell? ⟨sb,so + 13,none⟩ = some (.int .i64 n1)):=
  fun W hW=>⟨hW.cell_kept y0,hW.cell_kept y1,hW.cell_kept y2,hW.cell_kept y3,hW.cell_kept y4,hW.cell_kept y5,hW.cell_kept y6,hW.cell_kept y7,hW.cell_kept y8,hW.cell_kept y9,hW.cell_kept y10,hW.cell_kept y11,hW.cell_kept y12,hW.cell_kept y13⟩
 have HG:=Lib.hid hg
 have HA:=Lib.hid ha
 clear hg ha
 clear hs hsi hst hq HQ HS y0 y1 y2 y3 y4 y5 y6 y7 y8 y9 y10 y11 y12 y13
 go_enter Tryz.func147,Tryz.ntmps147
 go_upto_region 3 with fail
 refine St.gen (St.alloc (St.alloc (St.start _))) ?_
 intro w1 S1
 try (simp only [World.size_alloc] at S1)
 have F1:=S1.out.facts
 simp only [St.Facts,cellFacts,apartFacts,and_true] at F1
 obtain ⟨y0,y1,y2,y3,y4,y5,y6,y7,y8,y9,y10,y11,y12,y13⟩:=ZZ.out _ S1.out.below
 refine wp_loop_rounds 2 ?_
 rw [rounds_succ]
 go_wp2_with fail
 refine Calls.mono (CS.out _ (St.alloc S1.out).below) ?_
 rintro e w2 ⟨v,rfl,hv,hb2⟩
 have S2:=Lib.hid ((St.alloc S1.out).kept hb2)
 obtain ⟨va,vc,rfl⟩:=hv.slice
 have HV : Hid (SlAt w2 (.slice va 2 vc) 2 [.int .i64 1,.int .i64 1]):=by
  obtain ⟨acs,h1,h2⟩:=hv
  have:=lIn_intVals h2
  subst this
  exact h1.slAt
 simp only [List.length_cons,List.length_nil,Nat.zero_add,Nat.reduceAdd]
 clear hv hb2 F1 S1 ZZ CS y0 y1 y2 y3 y4 y5 y6 y7 y8 y9 y10 y11 y12 y13
 have F2:=S2.out.facts
 simp only [St.Facts,cellFacts,apartFacts,and_true] at F2
 go_wp2_with (refine wpList_append_nil rfl (.tmp 33) (.tmp 34) 61 rfl 3 (.int .i64 0) 1 8 Tryz.underlying61 infoInt rfl (by decide) S2.out rfl _ 2 [.int .i64 1,.int .i64 1] rfl (by decide) HV.out rfl (by simp [Value.oneCell']) (by decide) (by unfold maxLen; decide) ?_; intro g cap zs w3 S3 hc1 hc2 hc3; simp only [List.cons_append,List.nil_append] at S3; have F3:=S3.out.facts; simp only [St.Facts,cellFacts,apartFacts,and_true] at F3)
 clear F2 S2 HV
 rw [rounds_succ]
 go_upto_region 10 with fail
 refine St.gen (St.set 2 (S3.out) rfl) ?_
 intro w4 S4
 try (simp only [List.set_cons_zero,List.set_cons_succ,List.setIfInBounds_toArray] at S4)
 clear F3 S3
 have F4:=S4.out.facts
 simp only [St.Facts,cellFacts,apartFacts,and_true] at F4
 have hmf : ∀ (fn : Fn) (first cap : Array Value) (w : World),(Instr.makeFunc fn first cap).run Tryz.prog w = .ok (.func fn first cap) w:=fun _ _ _ _=>rfl
 go_upto_region 11 with fail
 refine St.gen (St.alloc (S4.out)) ?_
 intro w5 S5
 try (simp only [List.set_cons_zero,List.set_cons_succ,List.setIfInBounds_toArray,World.size_alloc] at S5)
 clear F4 S4
 have F5:=S5.out.facts
 simp only [St.Facts,cellFacts,apartFacts,and_true] at F5
 go_wp2_with fail
 refine Calls.mono (groups_one (fun _=>True) _ _ _ _ _ _ _ _ V.null _ _ _ _ _ _ _ _ _ _ _ _ _ _ _ (rSl_mono (rSl_ints (i:=1) S5.out rfl hc1) (by decide) (fun _ _=>trivial)) (rSl_mono (HG.out.kept (by decide) S5.out.below) (by decide) (fun _ _=>trivial)) (rSl_mono (HA.out.kept (by decide) S5.out.below) (by decide) (fun _ _=>trivial))) ?_
 rintro e w6 ⟨v6,rfl,hv6,hb6⟩
 have S6:=Lib.hid (S5.out.kept hb6)
 have HV6:=Lib.hid hv6
 have hsz:=Lib.hid S5.out.below.size
 clear hb6 hv6 F5 S5
 go_wp2_with fail
 go_returns
 exact ⟨_,rfl,rSl_mono HV6.out (by decide) (fun b hb=>Nat.le_trans hsz.out hb),S6.out.below⟩
set_option maxRecDepth 100000 in
set_option maxHeartbeats 8000000 in
theorem schema_6 (Q : Nat→Prop) (dv : Value) (q : Qy) (sa xa ca ga aa oa : Option Addr) (sc xc cc gc ac oc : Nat) (w : World) (hs : RSl qyE Q w (.slice sa 1 sc) [q]) (ho : RSl odE Q w (.slice oa 1 oc) [⟨1,true⟩])
  (HS : Hid (∀ W cs,Below w.heap.size w W→QyIn Q W q cs→Calls Tryz.prog 147 #[dv,.agg cs.toArray] W (RetInts W [1,1]))) :
  Calls Tryz.prog 147 #[dv,.agg #[.int .i64 6,.string ⟨#[]⟩,.slice sa 1 sc,.int .i64 0,.int .i64 0,.int .i64 0,.int .i64 0,.string ⟨#[]⟩,.slice xa 0 xc,.slice ca 0 cc,.slice ga 0 gc,.slice aa 0 ac,.slice oa 1 oc,.int .i64 0]] w (RetInts w [1,1]):=by
 obtain ⟨sb,so,scc,scs,hsb,hsi,hst⟩:=hs.at (k:=0) rfl
 injection hsb with e1 e3 e2
 subst e1 e2
 clear e3
 have hq : QyIn Q w q scs:=hsi
 have HQ:=Lib.hid hq
 have CS : Hid (∀ W,Below w.heap.size w W→Calls Tryz.prog 147 #[dv,.agg scs.toArray] W (RetInts W [1,1])):=fun W hW=>HS.out W _ hW (qyIn_move (fun b hl k=>⟨k,hW.block b hl⟩) _ _ HQ.out)
 obtain ⟨k1,tab1,subs1,⟨op1,xn1,v1,args1⟩,cols1,group1,aggs1,order1,n1⟩:=q
 obtain ⟨s2,sc2,x2,xc2,c2,cc2,g2,gc2,a2,ac2,o2,oc2,rfl,_⟩:=qyIn_of hq
 have y0:=hst 0 _ rfl
 have y1:=hst 1 _ rfl
 have y2:=hst 2 _ rfl
 have y3:=hst 3 _ rfl
 have y4:=hst 4 _ rfl
 have y5:=hst 5 _ rfl
 have y6:=hst 6 _ rfl
 have y7:=hst 7 _ rfl
 have y8:=hst 8 _ rfl
 have y9:=hst 9 _ rfl
 have y10:=hst 10 _ rfl
 have y11:=hst 11 _ rfl
 have y12:=hst 12 _ rfl
 have y13:=hst 13 _ rfl
 simp only [Nat.zero_mul,Nat.add_zero] at y0 y1 y2 y3 y4 y5 y6 y7 y8 y9 y10 y11 y12 y13
 have ZZ : Hid (∀ W,Below w.heap.size w W→W.cell? ⟨sb,so,none⟩ = some (.int .i64 k1)∧W.cell? ⟨sb,so + 1,none⟩ = some (.string ⟨tab1.toArray⟩)∧W.cell? ⟨sb,so + 2,none⟩ = some (.slice s2 subs1.length sc2)∧W.cell? ⟨sb,so + 3,none⟩ = some (.int .i64 op1)∧W.cell? ⟨sb,so + 4,none⟩ = some (.int .i64 xn1)∧W.cell? ⟨sb,so + 5,none⟩ = some (.int .i64 v1.k)∧W.cell? ⟨sb,so + 6,none⟩ = some (.int .i64 v1.n)∧W.cell? ⟨sb,so + 7,none⟩ = some (.string v1.s)∧W.cell? ⟨sb,so + 8,none⟩ = some (.slice x2 args1.length xc2)∧W.cell? ⟨sb,so + 9,none⟩ = some (.slice c2 cols1.length cc2)∧W.cell? ⟨sb,so + 10,none⟩ = some (.slice g2 group1.length gc2)∧W.cell? ⟨sb,so + 11,none⟩ = some (.slice a2 aggs1.length ac2)∧W.cell? ⟨sb,so + 12,none⟩ = some (.slice o2 order1.length oc2)∧W.cell? ⟨sb,so + 13,none⟩ = some (.int .i64 n1)):=
  fun W hW=>⟨hW.cell_kept y0,hW.cell_kept y1,hW.cell_kept y2,hW.cell_kept y3,hW.cell_kept y4,hW.cell_kept y5,hW.cell_kept y6,hW.cell_kept y7,hW.cell_kept y8,hW.cell_kept y9,hW.cell_kept y10,hW.cell_kept y11,hW.cell_kept y12,hW.cell_kept y13⟩
 have HO:=Lib.hid ho
 clear ho
 clear hs hsi hst hq HQ HS y0 y1 y2 y3 y4 y5 y6 y7 y8 y9 y10 y11 y12 y13
 go_enter Tryz.func147,Tryz.ntmps147
 go_upto_region 3 with fail
 refine St.gen (St.alloc (St.alloc (St.start _))) ?_
 intro w1 S1
 try (simp only [World.size_alloc] at S1)
 have F1:=S1.out.facts
 simp only [St.Facts,cellFacts,apartFacts,and_true] at F1
 obtain ⟨y0,y1,y2,y3,y4,y5,y6,y7,y8,y9,y10,y11,y12,y13⟩:=ZZ.out _ S1.out.below
 refine wp_loop_rounds 2 ?_
 rw [rounds_succ]
 go_wp2_with fail
 refine Calls.mono (CS.out _ (St.alloc S1.out).below) ?_
 rintro e w2 ⟨v,rfl,hv,hb2⟩
 have S2:=Lib.hid ((St.alloc S1.out).kept hb2)
 obtain ⟨va,vc,rfl⟩:=hv.slice
 have HV : Hid (SlAt w2 (.slice va 2 vc) 2 [.int .i64 1,.int .i64 1]):=by
  obtain ⟨acs,h1,h2⟩:=hv
  have:=lIn_intVals h2
  subst this
  exact h1.slAt
 simp only [List.length_cons,List.length_nil,Nat.zero_add,Nat.reduceAdd]
 clear hv hb2 F1 S1 ZZ CS y0 y1 y2 y3 y4 y5 y6 y7 y8 y9 y10 y11 y12 y13
 have F2:=S2.out.facts
 simp only [St.Facts,cellFacts,apartFacts,and_true] at F2
 go_wp2_with (refine wpList_append_nil rfl (.tmp 33) (.tmp 34) 61 rfl 3 (.int .i64 0) 1 8 Tryz.underlying61 infoInt rfl (by decide) S2.out rfl _ 2 [.int .i64 1,.int .i64 1] rfl (by decide) HV.out rfl (by simp [Value.oneCell']) (by decide) (by unfold maxLen; decide) ?_; intro g cap zs w3 S3 hc1 hc2 hc3; simp only [List.cons_append,List.nil_append] at S3; have F3:=S3.out.facts; simp only [St.Facts,cellFacts,apartFacts,and_true] at F3)
 clear F2 S2 HV
 rw [rounds_succ]
 go_upto_region 10 with fail
 refine St.gen (St.set 2 (S3.out) rfl) ?_
 intro w4 S4
 try (simp only [List.set_cons_zero,List.set_cons_succ,List.setIfInBounds_toArray] at S4)
 clear F3 S3
 have F4:=S4.out.facts
 simp only [St.Facts,cellFacts,apartFacts,and_true] at F4
 have hmf : ∀ (fn : Fn) (first cap : Array Value) (w : World),(Instr.makeFunc fn first cap).run Tryz.prog w = .ok (.func fn first cap) w:=fun _ _ _ _=>rfl
 go_upto_region 11 with fail
 refine St.gen (St.alloc (S4.out)) ?_
 intro w5 S5
 try (simp only [List.set_cons_zero,List.set_cons_succ,List.setIfInBounds_toArray,World.size_alloc] at S5)
 clear F4 S4
 have F5:=S5.out.facts
 simp only [St.Facts,cellFacts,apartFacts,and_true] at F5
 go_wp2_with fail
 refine Calls.mono (contains206_any 207 _ Q (fun _=>false) [⟨1,true⟩] _ _ enters207 (HO.out.kept (by decide) S5.out.below) (by decide) (fun W a cs hW ha hin=>?_)) ?_
 ·have e : cs = [.int .i64 1,.bool true]:=by
   have:=List.mem_singleton.1 ha
   subst this
   exact hin
  subst e
  have S6:=S5.out.kept hW
  exact clo207 _ (w.heap.size + 1) (some ⟨g,0,none⟩) cap W (by simp only [World.cell?,S6.blk 0 rfl]; rfl) (by simp only [World.cell?,S6.blk 3 rfl]; rfl)
 rintro e w6 ⟨rfl,hb6⟩
 have S6:=Lib.hid (S5.out.kept hb6)
 clear hb6 F5 S5
 have F6:=S6.out.facts
 simp only [St.Facts,cellFacts,apartFacts,and_true] at F6
 go_wp2_with fail
 go_returns
 exact ⟨_,rfl,rSl_ints (i:=1) S6.out rfl hc1,S6.out.below⟩
set_option maxRecDepth 100000 in
set_option maxHeartbeats 8000000 in
theorem schema_7 (Q : Nat→Prop) (dv : Value) (q : Qy) (sa xa ca ga aa oa : Option Addr) (sc xc cc gc ac oc : Nat) (w : World) (hs : RSl qyE Q w (.slice sa 1 sc) [q])
  (HS : Hid (∀ W cs,Below w.heap.size w W→QyIn Q W q cs→Calls Tryz.prog 147 #[dv,.agg cs.toArray] W (RetInts W [1,1]))) :
  Calls Tryz.prog 147 #[dv,.agg #[.int .i64 7,.string ⟨#[]⟩,.slice sa 1 sc,.int .i64 0,.int .i64 0,.int .i64 0,.int .i64 0,.string ⟨#[]⟩,.slice xa 0 xc,.slice ca 0 cc,.slice ga 0 gc,.slice aa 0 ac,.slice oa 0 oc,.int .i64 3]] w (RetInts w [1,1]):=by
 obtain ⟨sb,so,scc,scs,hsb,hsi,hst⟩:=hs.at (k:=0) rfl
 injection hsb with e1 e3 e2
 subst e1 e2
 clear e3
 have hq : QyIn Q w q scs:=hsi
 have HQ:=Lib.hid hq
 have CS : Hid (∀ W,Below w.heap.size w W→Calls Tryz.prog 147 #[dv,.agg scs.toArray] W (RetInts W [1,1])):=fun W hW=>HS.out W _ hW (qyIn_move (fun b hl k=>⟨k,hW.block b hl⟩) _ _ HQ.out)
 obtain ⟨k1,tab1,subs1,⟨op1,xn1,v1,args1⟩,cols1,group1,aggs1,order1,n1⟩:=q
 obtain ⟨s2,sc2,x2,xc2,c2,cc2,g2,gc2,a2,ac2,o2,oc2,rfl,_⟩:=qyIn_of hq
 have y0:=hst 0 _ rfl
 have y1:=hst 1 _ rfl
 have y2:=hst 2 _ rfl
 have y3:=hst 3 _ rfl
 have y4:=hst 4 _ rfl
 have y5:=hst 5 _ rfl
 have y6:=hst 6 _ rfl
 have y7:=hst 7 _ rfl
 have y8:=hst 8 _ rfl
 have y9:=hst 9 _ rfl
 have y10:=hst 10 _ rfl
 have y11:=hst 11 _ rfl
 have y12:=hst 12 _ rfl
 have y13:=hst 13 _ rfl
 simp only [Nat.zero_mul,Nat.add_zero] at y0 y1 y2 y3 y4 y5 y6 y7 y8 y9 y10 y11 y12 y13
 have ZZ : Hid (∀ W,Below w.heap.size w W→W.cell? ⟨sb,so,none⟩ = some (.int .i64 k1)∧W.cell? ⟨sb,so + 1,none⟩ = some (.string ⟨tab1.toArray⟩)∧W.cell? ⟨sb,so + 2,none⟩ = some (.slice s2 subs1.length sc2)∧W.cell? ⟨sb,so + 3,none⟩ = some (.int .i64 op1)∧W.cell? ⟨sb,so + 4,none⟩ = some (.int .i64 xn1)∧W.cell? ⟨sb,so + 5,none⟩ = some (.int .i64 v1.k)∧W.cell? ⟨sb,so + 6,none⟩ = some (.int .i64 v1.n)∧W.cell? ⟨sb,so + 7,none⟩ = some (.string v1.s)∧W.cell? ⟨sb,so + 8,none⟩ = some (.slice x2 args1.length xc2)∧W.cell? ⟨sb,so + 9,none⟩ = some (.slice c2 cols1.length cc2)∧W.cell? ⟨sb,so + 10,none⟩ = some (.slice g2 group1.length gc2)∧W.cell? ⟨sb,so + 11,none⟩ = some (.slice a2 aggs1.length ac2)∧W.cell? ⟨sb,so + 12,none⟩ = some (.slice o2 order1.length oc2)∧W.cell? ⟨sb,so + 13,none⟩ = some (.int .i64 n1)):=
  fun W hW=>⟨hW.cell_kept y0,hW.cell_kept y1,hW.cell_kept y2,hW.cell_kept y3,hW.cell_kept y4,hW.cell_kept y5,hW.cell_kept y6,hW.cell_kept y7,hW.cell_kept y8,hW.cell_kept y9,hW.cell_kept y10,hW.cell_kept y11,hW.cell_kept y12,hW.cell_kept y13⟩
 clear hs hsi hst hq HQ HS y0 y1 y2 y3 y4 y5 y6 y7 y8 y9 y10 y11 y12 y13
 go_enter Tryz.func147,Tryz.ntmps147
 go_upto_region 3 with fail
 refine St.gen (St.alloc (St.alloc (St.start _))) ?_
 intro w1 S1
 try (simp only [World.size_alloc] at S1)
 have F1:=S1.out.facts
 simp only [St.Facts,cellFacts,apartFacts,and_true] at F1
 obtain ⟨y0,y1,y2,y3,y4,y5,y6,y7,y8,y9,y10,y11,y12,y13⟩:=ZZ.out _ S1.out.below
 refine wp_loop_rounds 2 ?_
 rw [rounds_succ]
 go_wp2_with fail
 refine Calls.mono (CS.out _ (St.alloc S1.out).below) ?_
 rintro e w2 ⟨v,rfl,hv,hb2⟩
 have S2:=Lib.hid ((St.alloc S1.out).kept hb2)
 obtain ⟨va,vc,rfl⟩:=hv.slice
 have HV : Hid (SlAt w2 (.slice va 2 vc) 2 [.int .i64 1,.int .i64 1]):=by
  obtain ⟨acs,h1,h2⟩:=hv
  have:=lIn_intVals h2
  subst this
  exact h1.slAt
 simp only [List.length_cons,List.length_nil,Nat.zero_add,Nat.reduceAdd]
 clear hv hb2 F1 S1 ZZ CS y0 y1 y2 y3 y4 y5 y6 y7 y8 y9 y10 y11 y12 y13
 have F2:=S2.out.facts
 simp only [St.Facts,cellFacts,apartFacts,and_true] at F2
 go_wp2_with (refine wpList_append_nil rfl (.tmp 33) (.tmp 34) 61 rfl 3 (.int .i64 0) 1 8 Tryz.underlying61 infoInt rfl (by decide) S2.out rfl _ 2 [.int .i64 1,.int .i64 1] rfl (by decide) HV.out rfl (by simp [Value.oneCell']) (by decide) (by unfold maxLen; decide) ?_; intro g cap zs w3 S3 hc1 hc2 hc3; simp only [List.cons_append,List.nil_append] at S3; have F3:=S3.out.facts; simp only [St.Facts,cellFacts,apartFacts,and_true] at F3)
 clear F2 S2 HV
 rw [rounds_succ]
 go_upto_region 10 with fail
 refine St.gen (St.set 2 (S3.out) rfl) ?_
 intro w4 S4
 try (simp only [List.set_cons_zero,List.set_cons_succ,List.setIfInBounds_toArray] at S4)
 clear F3 S3
 have F4:=S4.out.facts
 simp only [St.Facts,cellFacts,apartFacts,and_true] at F4
 have hmf : ∀ (fn : Fn) (first cap : Array Value) (w : World),(Instr.makeFunc fn first cap).run Tryz.prog w = .ok (.func fn first cap) w:=fun _ _ _ _=>rfl
 go_upto_region 11 with fail
 refine St.gen (St.alloc (S4.out)) ?_
 intro w5 S5
 try (simp only [List.set_cons_zero,List.set_cons_succ,List.setIfInBounds_toArray,World.size_alloc] at S5)
 clear F4 S4
 have F5:=S5.out.facts
 simp only [St.Facts,cellFacts,apartFacts,and_true] at F5
 go_wp2_with fail
 go_returns
 exact ⟨_,rfl,rSl_ints (i:=1) S5.out rfl hc1,S5.out.below⟩
set_option maxRecDepth 100000 in
set_option maxHeartbeats 8000000 in
theorem schema_1 (Q : Nat→Prop) (dv : Value) (sa xa ca ga aa oa : Option Addr) (sc xc cc gc ac oc : Nat) (w : World) (hd : RSl tblE Q w dv [exTbl]) :
  Calls Tryz.prog 147 #[dv,.agg #[.int .i64 1,.string ⟨[116].toArray⟩,.slice sa 0 sc,.int .i64 0,.int .i64 0,.int .i64 0,.int .i64 0,.string ⟨#[]⟩,.slice xa 0 xc,.slice ca 0 cc,.slice ga 0 gc,.slice aa 0 ac,.slice oa 0 oc,.int .i64 0]] w (RetInts w [1,1]):=by
 have HD:=Lib.hid hd
 obtain ⟨tb,tq,tc,cb,co,ccap,ia,ic,ka,kc,rfl,H⟩:=tblAt_of hd
 have HT:=Lib.hid H
 clear hd H
 go_enter Tryz.func147,Tryz.ntmps147
 go_upto_region 3 with fail
 refine St.gen (St.alloc (St.alloc (St.start _))) ?_
 intro w1 S1
 try (simp only [World.size_alloc] at S1)
 have F1:=S1.out.facts
 simp only [St.Facts,cellFacts,apartFacts,and_true] at F1
 refine wp_loop_rounds 1 ?_
 rw [rounds_succ]
 have hmf : ∀ (fn : Fn) (first cap : Array Value) (w : World),(Instr.makeFunc fn first cap).run Tryz.prog w = .ok (.func fn first cap) w:=fun _ _ _ _=>rfl
 go_upto_region 11 with fail
 refine St.gen (St.alloc (S1.out)) ?_
 intro w2 S2
 try (simp only [List.set_cons_zero,List.set_cons_succ,List.setIfInBounds_toArray,World.size_alloc] at S2)
 clear F1 S1
 have F2:=S2.out.facts
 simp only [St.Facts,cellFacts,apartFacts,and_true] at F2
 go_wp2_with fail
 refine Calls.mono (idx62_any 202 _ Q (fun _=>true) [exTbl] _ _ enters202 (HD.out.kept (by decide) S2.out.below) (by decide) (fun W a cs hW ha hin=>?_)) ?_
 ·have e:=List.mem_singleton.1 ha
  subst e
  obtain ⟨ca',cc',ia',ic',ka',kc',rfl,_⟩:=hin
  have S3:=S2.out.kept hW
  exact clo202 _ ca' cc' ia' ic' ka' kc' W (by simp only [World.cell?,S3.blk 2 rfl]; rfl)
 rintro e w3 ⟨rfl,hb3⟩
 have S3:=Lib.hid (S2.out.kept hb3)
 clear hb3 F2 S2
 have F3:=S3.out.facts
 simp only [St.Facts,cellFacts,apartFacts,and_true] at F3
 obtain ⟨t0,t1,t2,t3,a0,a1,a2,b0,b1,b2⟩:=HT.out.kept S3.out.below
 simp only [show idxFrom (fun _=>true) 0 [exTbl] = 0 from rfl]
 go_upto_region 19 with fail
 refine wp_loop_rounds 3 ?_
 rw [rounds_succ]
 go_upto_region 21 with fail
 clear F3 t0 t1 t2 t3 a0 a1 a2 b0 b1 b2
 refine St.gen (St.alloc (S3.out)) ?_
 intro w4 S4
 try (simp only [List.set_cons_zero,List.set_cons_succ,List.setIfInBounds_toArray,World.size_alloc] at S4)
 clear S3
 have F4:=S4.out.facts
 simp only [St.Facts,cellFacts,apartFacts,and_true] at F4
 go_wp2_with (refine wpList_append_nil rfl (.tmp 58) (.tmp 61) 61 rfl 3 (.int .i64 0) 1 8 Tryz.underlying61 infoInt rfl (by decide) (St.laid S4.out) rfl _ 1 [.int .i64 1] rfl (by decide) (slAt_fresh (by decide)) rfl (by simp [Value.oneCell']) (by decide) (by unfold maxLen; decide) ?_; intro g cap zs w5 S5 hc1 hc2 hc3; simp only [List.cons_append,List.nil_append] at S5; have F5:=S5.out.facts; simp only [St.Facts,cellFacts,apartFacts,and_true] at F5)
 clear F4 S4
 obtain ⟨t0,t1,t2,t3,a0,a1,a2,b0,b1,b2⟩:=HT.out.kept S5.out.below
 rw [rounds_succ]
 go_upto_region 21 with fail
 clear F5 t0 t1 t2 t3 a0 a1 a2 b0 b1 b2
 refine St.gen (St.alloc (S5.out)) ?_
 intro w6 S6
 try (simp only [List.set_cons_zero,List.set_cons_succ,List.setIfInBounds_toArray,World.size_alloc] at S6)
 clear S5
 have F6:=S6.out.facts
 simp only [St.Facts,cellFacts,apartFacts,and_true] at F6
 go_wp2_with (refine wpList_append_on rfl (.tmp 58) (.tmp 61) 61 rfl 3 (.int .i64 0) 1 8 Tryz.underlying61 infoInt rfl (by decide) 1 (xs:=[.int .i64 1]) (zs:=zs) (St.laid S6.out) rfl rfl rfl hc1 hc2 hc3 _ 1 [.int .i64 1] rfl (by decide) (slAt_fresh (by decide)) rfl (by simp [Value.oneCell']) (by decide) (by unfold maxLen; decide) ?_; intro g7 cap7 zs7 w7 S7 hd1 hd2 hd3; simp only [List.cons_append,List.nil_append,List.set_cons_zero,List.set_cons_succ] at S7; have F7:=S7.out.facts; simp only [St.Facts,cellFacts,apartFacts,and_true] at F7)
 clear F6 S6
 rw [rounds_succ]
 go_wp2_with fail
 go_returns
 exact ⟨_,rfl,rSl_ints (i:=1) S7.out rfl hd1,S7.out.below⟩
end Go.Proofs.YtimoefagohifaaaGreatDoor
namespace Go.Proofs.YtimoefagohifaaaGreatDoor
open Go.RowKit Go.Sort
structure QV where
 k : Int:=0
 tb : Bytes:=[]
 s : SlP:=sl0
 xo : Int:=0
 xn : Int:=0
 xv : V:=V.null
 xa : SlP:=sl0
 c : SlP:=sl0
 g : SlP:=sl0
 a : SlP:=sl0
 o : SlP:=sl0
 n : Int:=0
def QV.arr (q : QV) : Array Value:=#[.int .i64 q.k,.string ⟨q.tb.toArray⟩,sl q.s,.int .i64 q.xo,.int .i64 q.xn,.int .i64 q.xv.k,.int .i64 q.xv.n,.string q.xv.s,sl q.xa,sl q.c,sl q.g,sl q.a,sl q.o,.int .i64 q.n]
theorem qv_size (q : QV) : (Tryz.prog.info? 73).map (·.size) = some q.arr.size:=by
 have : (Tryz.prog.info? 73).map (·.size) = some 14:=by kernel_rfl
 rw [this]; rfl
theorem qv_one (q : QV) : q.arr.all (·.oneCell') = true:=by unfold QV.arr sl; simp [Value.oneCell']
theorem qv_over (k : Int) (b : Nat) : Tryz.prog.built 73 [(0,.int .i64 k),(2,.slice (some ⟨b,0,none⟩) 1 1)] = some (QV.arr { k:=k,s:=(some ⟨b,0,none⟩,1,1) }):=by kernel_rfl
theorem qv_scan (x : Bytes) : Tryz.prog.built 73 [(0,.int .i64 1),(1,.string ⟨x.toArray⟩)] = some (QV.arr { k:=1,tb:=x }):=by kernel_rfl
theorem run_bsq (q : QV) (w : World) : (Instr.buildSlice 66 1 #[(0,.agg q.arr)]).run Tryz.prog w = .ok (.slice (some ⟨w.heap.size,0,none⟩) 1 1) (w.alloc (.cells q.arr 73)):=by kernel_rfl
section
variable {ops : Array Oper} {rest : List Oper} {o : Oper} {a : Act} {w : World} {Q : Exit→Act→World→Prop}
theorem wpList_bsq (hg : o.guard = none) (x : Operand) (ho : o.op = .buildSlice 66 1 #[(0,x)]) (q : QV) (hx : a.eval x = .agg q.arr)
  (h : wpList Tryz.prog ops Q rest (a.put o.dst (.slice (some ⟨w.heap.size,0,none⟩) 1 1)) (w.alloc (.cells q.arr 73))) : wpList Tryz.prog ops Q (o :: rest) a w:=by
 refine wpList_plain hg fun K hK=>?_
 unfold Oper.wp execOp
 simp only [ho,List.map_toArray,List.map_cons,List.map_nil,hx,Sem.run_bind,run_bsq,Result.andThen_ok,Sem.run_pure]
 exact hK _ _ h
end
theorem set_same {w : World} {b o : Nat} {v : Value} {cs : Array Value} {t : TypeId} (h : w.heap[b]? = some (.cells cs t (0,0))) (hv : cs[o]? = some v) : w.setCell ⟨b,o,none⟩ v = w:=by
 have e : (w.setCell ⟨b,o,none⟩ v).heap = w.heap:=by
  apply Array.ext_getElem?
  intro i
  simp only [World.setCell,Array.getElem?_modify]
  split
  ·rename_i hi
   subst hi
   have hc : cs.setIfInBounds o v = cs:=by
    apply Array.ext_getElem?
    intro j
    rw [Array.getElem?_setIfInBounds]
    split
    ·rename_i hj
     subst hj
     split
     ·exact hv.symm
     ·rename_i hn
      rw [Array.getElem?_eq_none (by omega)]
    ·rfl
   simp [h,hc]
  ·rfl
 have e2 : w.setCell ⟨b,o,none⟩ v = { w with heap:=(w.setCell ⟨b,o,none⟩ v).heap }:=rfl
 rw [e2,e]
theorem St.since {w0 w w' : World} {L : List Blk} {g : Nat} {cur : Array Value} {e : TypeId} (h : St w0 w L) (hbl : Below w.heap.size w w') (hge : w.heap.size≤g) (hb : w'.heap[g]? = some (.cells cur e (0,0))) : St w0 w' ((g,cur,e) :: L):=by
 have hk:=h.kept hbl
 refine ⟨hk.below,fun x hx=>?_,?_⟩
 ·rcases List.mem_cons.1 hx with rfl | hx
  ·exact ⟨Nat.le_trans h.below.size hge,hb⟩
  ·exact hk.own x hx
 ·simp only [List.map_cons,List.nodup_cons]
  refine ⟨fun hm=>?_,h.apart⟩
  obtain ⟨x,hx,e⟩:=List.mem_map.1 hm
  have:=(Array.getElem?_eq_some_iff.1 (h.own x hx).2).1
  omega
set_option maxRecDepth 100000 in
theorem fail_ok (bb : Nat) (sv : Value) (w : World) (h : w.heap[bb]? = some (.cells #[sv,.int .i64 0] 125 (0,0))) : Calls Tryz.prog 69 #[.pointer (some ⟨bb,0,none⟩),.int .i64 0] w (fun e w'=>e = .returned (.tuple #[])∧w' = w):=by
 have c1 : w.cell? ⟨bb,1,none⟩ = some (.int .i64 0):=by simp only [World.cell?,h]; rfl
 have f1 : w.frozen? ⟨bb,1,none⟩ = false:=by simp [World.frozen?,h]
 have hlt:=(Array.getElem?_eq_some_iff.1 h).1
 go_enter Tryz.func69,Tryz.ntmps69
 go_wp2_with fail
 go_returns
 exact ⟨rfl,set_same h rfl⟩
set_option maxRecDepth 100000 in
set_option maxHeartbeats 8000000 in
theorem over_any (k : Int) (q : QV) (w : World) : Calls Tryz.prog 67 #[.int .i64 k,.agg q.arr] w (fun e w'=>∃ nb,e = .returned (.agg (QV.arr { k:=k,s:=(some ⟨nb,0,none⟩,1,1) }))∧w.heap.size≤nb∧w'.heap[nb]? = some (.cells q.arr 73 (0,0))∧Below w.heap.size w w'):=by
 go_enter Tryz.func67,Tryz.ntmps67
 go_upto_region 1 with fail
 refine St.gen (St.alloc (St.alloc (St.start w) (cs:=q.arr) (t:=73)) (cs:=QV.arr {}) (t:=73)) ?_
 intro w1 S1
 simp only [World.size_alloc] at S1
 go_wp2_with (first | (refine wpList_load_row rfl 73 (.tmp 3) rfl w.heap.size rfl 73 q.arr (0,0) _ (S1.out.blk 1 rfl) Tryz.underlying73 rfl (qv_size _) ?_) | (refine wpList_bsq rfl (.tmp 6) rfl q rfl ?_) | (refine wpList_build_row rfl 73 _ rfl (QV.arr { k:=k,s:=(some ⟨w1.heap.size,0,none⟩,1,1) }) (qv_over k _) ?_) | (refine wpList_store_row rfl 73 (.tmp 4) (.tmp 8) rfl (w.heap.size + 1) (QV.arr { k:=k,s:=(some ⟨w1.heap.size,0,none⟩,1,1) }) rfl rfl 73 (QV.arr {}) ((St.alloc S1.out).blk 1 rfl) (qv_size _) rfl (qv_one _) ?_))
 have SE:=St.row 1 (QV.arr { k:=k,s:=(some ⟨w1.heap.size,0,none⟩,1,1) }) (St.alloc S1.out (cs:=q.arr) (t:=73)) rfl
 simp only [List.set_cons_zero,List.set_cons_succ] at SE
 refine bodyPost_ret (v:=.agg (QV.arr { k:=k,s:=(some ⟨w1.heap.size,0,none⟩,1,1) })) (results_cell_row rfl _ _ (w.heap.size + 1) 73 (QV.arr { k:=k,s:=(some ⟨w1.heap.size,0,none⟩,1,1) }) (0,0) _ rfl (SE.blk 1 rfl) Tryz.underlying73 rfl (qv_size _)) rfl ?_
 exact ⟨w1.heap.size,rfl,S1.out.below.size,SE.blk 0 rfl,SE.below⟩
end Go.Proofs.YtimoefagohifaaaGreatDoor
namespace Go.Proofs.YtimoefagohifaaaGreatDoor
open Go.RowKit Go.Sort
set_option maxRecDepth 100000 in
set_option maxHeartbeats 8000000 in
theorem bres_any (nm : Bytes) (k : Int) (bb : Nat) (ta : Option Addr) (tc : Nat) (na : Option Addr) (nc : Nat) (w : World) (hb : w.heap[bb]? = some (.cells #[.slice ta 1 tc,.int .i64 0] 125 (0,0))) (htc : 1≤tc)
  (CR : Hid (∀ W,Below w.heap.size w W→Calls Tryz.prog 144 #[.slice ta 1 tc,.agg #[.int .i64 1,.string ⟨#[]⟩,.string ⟨nm.toArray⟩,.int .i64 0,.int .i64 0,.string ⟨#[]⟩,.slice na 0 nc]] W (Says (.tuple #[.agg #[.int .i64 1,.int .i64 k,.int .i64 0,.int .i64 0,.string ⟨#[]⟩,.slice none 0 0],.int .i64 0]) W))) :
  Calls Tryz.prog 65 #[.pointer (some ⟨bb,0,none⟩),.int .i64 1,.agg #[.int .i64 1,.string ⟨#[]⟩,.string ⟨nm.toArray⟩,.int .i64 0,.int .i64 0,.string ⟨#[]⟩,.slice na 0 nc]] w (Says (.agg #[.int .i64 1,.int .i64 k,.int .i64 0,.int .i64 0,.string ⟨#[]⟩,.slice none 0 0]) w):=by
 have htci : (1 : Int)≤(tc : Int):=by omega
 have HB:=Lib.hid hb
 have hlt : bb < w.heap.size:=(Array.getElem?_eq_some_iff.1 hb).1
 clear hb
 go_enter Tryz.func65,Tryz.ntmps65
 go_upto_region 1 with fail
 refine St.gen (St.alloc (St.alloc (St.start _))) ?_
 intro w1 S1
 try (simp only [World.size_alloc] at S1)
 have hb1 : w1.heap[bb]? = some (.cells #[.slice ta 1 tc,.int .i64 0] 125 (0,0)):=by rw [S1.out.below.block bb hlt]; exact HB.out
 have c1 : w1.cell? ⟨bb,1,none⟩ = some (.int .i64 0):=by simp only [World.cell?,hb1]; rfl
 have hlt1:=block_lt_of_cell c1
 go_upto_region 3 with fail
 have c0 : w1.cell? ⟨bb,0,none⟩ = some (.slice ta 1 tc):=by simp only [World.cell?,hb1]; rfl
 replace c0:=cell_regrown c0
 clear c1 hb1
 have FG:=S1.out.factsG
 simp only [St.FactsG,cellFactsG,and_true] at FG
 have CC : Hid (∀ (d : Nat) (os : Array Obj),Calls Tryz.prog 144 #[.slice ta 1 tc,.agg #[.int .i64 1,.string ⟨#[]⟩,.string ⟨nm.toArray⟩,.int .i64 0,.int .i64 0,.string ⟨#[]⟩,.slice na 0 nc]] (grow (redrawn w1 d) os) fun e w'=>e = .returned (.tuple #[.agg #[.int .i64 1,.int .i64 k,.int .i64 0,.int .i64 0,.string ⟨#[]⟩,.slice none 0 0],.int .i64 0])∧Laid (grow (redrawn w1 d) os) w'):=
  fun d os=>CR.out _ (S1.out.kept (below_regrown w1 d os)).below
 refine wp_region_mixed 14 [(0,false),(1,false),(2,false),(3,false),(4,false),(5,false),(6,false),(7,false),(8,false),(9,false),(10,false),(11,true),(12,true),(13,false)] (by kernel_rfl) (by kernel_rfl) ?_
 repeat (refine wpM_mild rfl (fun K hK=>?_); go_simp; first | (refine hK _ ?_; clear hK K) | (apply Exists.intro; refine ⟨fun _=>?_,hK _ ?_⟩; (exact CC.out _ _); clear hK K))
 clear c0 FG hlt1 CC
 refine wpM_eff rfl ?_
 intro w3 hb3 hb03
 have S3:=Lib.hid (S1.out.kept hb3)
 have T3:=Lib.hid ((St.start w1).kept hb3)
 clear hb3 hb03 S1
 go_wp2_with fail
 refine ⟨(St.alloc T3.out).below,wpM_eff rfl ?_⟩
 intro w4 hb4 hb04
 have S4:=Lib.hid ((St.alloc S3.out).kept hb4)
 have T4:=Lib.hid ((St.alloc T3.out).kept hb4)
 clear hb4 hb04 S3 T3
 generalize w3.heap.size = ob at S4 T4 ⊢
 have zh : w4.heap[ob]? = some (.cells #[.int .i64 0,.int .i64 0,.int .i64 0,.int .i64 0,.string ⟨#[]⟩,.slice none 0 0] 69 (0,0)):=S4.out.blk 0 rfl
 have z0 : w4.cell? ⟨ob,0,none⟩ = some (.int .i64 0):=by simp only [World.cell?,zh]; rfl
 have zf0 : w4.frozen? ⟨ob,0,none⟩ = false:=by simp [World.frozen?,zh]
 have z1 : w4.cell? ⟨ob,1,none⟩ = some (.int .i64 0):=by simp only [World.cell?,zh]; rfl
 have zf1 : w4.frozen? ⟨ob,1,none⟩ = false:=by simp [World.frozen?,zh]
 have z2 : w4.cell? ⟨ob,2,none⟩ = some (.int .i64 0):=by simp only [World.cell?,zh]; rfl
 have zf2 : w4.frozen? ⟨ob,2,none⟩ = false:=by simp [World.frozen?,zh]
 have z3 : w4.cell? ⟨ob,3,none⟩ = some (.int .i64 0):=by simp only [World.cell?,zh]; rfl
 have zf3 : w4.frozen? ⟨ob,3,none⟩ = false:=by simp [World.frozen?,zh]
 have z4 : w4.cell? ⟨ob,4,none⟩ = some (.string ⟨#[]⟩):=by simp only [World.cell?,zh]; rfl
 have zf4 : w4.frozen? ⟨ob,4,none⟩ = false:=by simp [World.frozen?,zh]
 have z5 : w4.cell? ⟨ob,5,none⟩ = some (.slice none 0 0):=by simp only [World.cell?,zh]; rfl
 have zf5 : w4.frozen? ⟨ob,5,none⟩ = false:=by simp [World.frozen?,zh]
 have zl:=block_lt_of_cell z0
 clear zh
 go_wp2_with fail
 clear z0 z1 z2 z3 z4 z5 zf0 zf1 zf2 zf3 zf4 zf5 zl
 refine ⟨(St.setsL (i:=0) [.int .i64 1,.int .i64 k,.int .i64 0,.int .i64 0,.string ⟨#[]⟩,.slice none 0 0] 0 _ _ _ T4.out rfl).below,?_⟩
 repeat (refine wpM_mild rfl (fun K hK=>?_); go_simp; first | (refine hK _ ?_; clear hK K) | (apply Exists.intro; refine ⟨fun _=>?_,hK _ ?_⟩; (fail); clear hK K))
 refine wpM_end ?_
 intro w5 hb5 _
 have S5:=Lib.hid ((St.setsL (i:=0) [.int .i64 1,.int .i64 k,.int .i64 0,.int .i64 0,.string ⟨#[]⟩,.slice none 0 0] 0 _ _ _ S4.out rfl).kept hb5)
 clear hb5 S4 T4
 simp only [List.set_cons_zero] at S5
 have hb5 : w5.heap[bb]? = some (.cells #[.slice ta 1 tc,.int .i64 0] 125 (0,0)):=by rw [S5.out.below.block bb hlt]; exact HB.out
 go_wp2_with fail
 refine Calls.mono (fail_ok bb _ w5 hb5) ?_
 rintro e w6 ⟨rfl,rfl⟩
 clear hb5
 have zh : w6.heap[ob]? = some (.cells #[.int .i64 1,.int .i64 k,.int .i64 0,.int .i64 0,.string ⟨#[]⟩,.slice none 0 0] 69 (0,0)):=S5.out.blk 0 rfl
 have z0 : w6.cell? ⟨ob,0,none⟩ = some (.int .i64 1):=by simp only [World.cell?,zh]; rfl
 have z1 : w6.cell? ⟨ob,1,none⟩ = some (.int .i64 k):=by simp only [World.cell?,zh]; rfl
 have z2 : w6.cell? ⟨ob,2,none⟩ = some (.int .i64 0):=by simp only [World.cell?,zh]; rfl
 have z3 : w6.cell? ⟨ob,3,none⟩ = some (.int .i64 0):=by simp only [World.cell?,zh]; rfl
 have z4 : w6.cell? ⟨ob,4,none⟩ = some (.string ⟨#[]⟩):=by simp only [World.cell?,zh]; rfl
 have z5 : w6.cell? ⟨ob,5,none⟩ = some (.slice none 0 0):=by simp only [World.cell?,zh]; rfl
 have zl:=block_lt_of_cell z0
 clear zh
 have yh : w6.heap[(w.heap.size + 1)]? = some (.cells #[.int .i64 0,.int .i64 0,.int .i64 0,.int .i64 0,.string ⟨#[]⟩,.slice none 0 0] 69 (0,0)):=S5.out.blk 1 rfl
 have y0 : w6.cell? ⟨w.heap.size + 1,0,none⟩ = some (.int .i64 0):=by simp only [World.cell?,yh]; rfl
 have yf0 : w6.frozen? ⟨w.heap.size + 1,0,none⟩ = false:=by simp [World.frozen?,yh]
 have y1 : w6.cell? ⟨w.heap.size + 1,1,none⟩ = some (.int .i64 0):=by simp only [World.cell?,yh]; rfl
 have yf1 : w6.frozen? ⟨w.heap.size + 1,1,none⟩ = false:=by simp [World.frozen?,yh]
 have y2 : w6.cell? ⟨w.heap.size + 1,2,none⟩ = some (.int .i64 0):=by simp only [World.cell?,yh]; rfl
 have yf2 : w6.frozen? ⟨w.heap.size + 1,2,none⟩ = false:=by simp [World.frozen?,yh]
 have y3 : w6.cell? ⟨w.heap.size + 1,3,none⟩ = some (.int .i64 0):=by simp only [World.cell?,yh]; rfl
 have yf3 : w6.frozen? ⟨w.heap.size + 1,3,none⟩ = false:=by simp [World.frozen?,yh]
 have y4 : w6.cell? ⟨w.heap.size + 1,4,none⟩ = some (.string ⟨#[]⟩):=by simp only [World.cell?,yh]; rfl
 have yf4 : w6.frozen? ⟨w.heap.size + 1,4,none⟩ = false:=by simp [World.frozen?,yh]
 have y5 : w6.cell? ⟨w.heap.size + 1,5,none⟩ = some (.slice none 0 0):=by simp only [World.cell?,yh]; rfl
 have yf5 : w6.frozen? ⟨w.heap.size + 1,5,none⟩ = false:=by simp [World.frozen?,yh]
 have yl:=block_lt_of_cell y0
 clear yh
 have hne : ob ≠ w.heap.size + 1:=by
  have:=S5.out.facts
  simp only [St.Facts,apartFacts,and_true] at this
  omega
 go_wp2_with fail
 clear z0 z1 z2 z3 z4 z5 zl y0 y1 y2 y3 y4 y5 yf0 yf1 yf2 yf3 yf4 yf5 yl
 refine bodyGen (fun W=>St w W _) (St.setsL (i:=1) [.int .i64 1,.int .i64 k,.int .i64 0,.int .i64 0,.string ⟨#[]⟩,.slice none 0 0] 0 _ _ _ S5.out rfl) ?_
 intro w9 S9'
 have S9:=Lib.hid S9'
 clear S9' S5
 simp only [List.set_cons_zero,List.set_cons_succ] at S9
 have F9 : w9.heap[w.heap.size + 1]? = some (.cells #[.int .i64 1,.int .i64 k,.int .i64 0,.int .i64 0,.string ⟨#[]⟩,.slice none 0 0] 69 (0,0)):=S9.out.blk 1 rfl
 have c0 : w9.cell? ⟨w.heap.size + 1,0,none⟩ = some (.int .i64 1):=by simp only [World.cell?,F9]; rfl
 have c1 : w9.cell? ⟨w.heap.size + 1,1,none⟩ = some (.int .i64 k):=by simp only [World.cell?,F9]; rfl
 have c2 : w9.cell? ⟨w.heap.size + 1,2,none⟩ = some (.int .i64 0):=by simp only [World.cell?,F9]; rfl
 have c3 : w9.cell? ⟨w.heap.size + 1,3,none⟩ = some (.int .i64 0):=by simp only [World.cell?,F9]; rfl
 have c4 : w9.cell? ⟨w.heap.size + 1,4,none⟩ = some (.string ⟨#[]⟩):=by simp only [World.cell?,F9]; rfl
 have c5 : w9.cell? ⟨w.heap.size + 1,5,none⟩ = some (.slice none 0 0):=by simp only [World.cell?,F9]; rfl
 refine bodyPost_ret (v:=.agg #[.int .i64 1,.int .i64 k,.int .i64 0,.int .i64 0,.string ⟨#[]⟩,.slice none 0 0]) (by simp [results,Tryz.results65,go_sem,c0,c1,c2,c3,c4,c5]) rfl ?_
 exact ⟨rfl,S9.out.below⟩
section
set_option maxRecDepth 100000
set_option maxHeartbeats 4000000
theorem index143_nil (a : Option Addr) (c : Nat) (s : ByteArray) (w : World) : Calls Tryz.prog 143 #[.slice a 0 c,.string s] w (Says (.int .i64 (-1)) w):=by
 go_enter Tryz.func143,Tryz.ntmps143
 go_wp2_with fail
 refine wp_loop_rounds 1 ?_
 rw [rounds_succ]
 go_wp2_with fail
 go_returns
 exact ⟨rfl,Below.refl _ _⟩
theorem contains64_nil (a : Option Addr) (c : Nat) (s : ByteArray) (w : World) : Calls Tryz.prog 64 #[.slice a 0 c,.string s] w (Says (.bool false) w):=by
 go_enter Tryz.func64,Tryz.ntmps64
 go_wp2_with fail
 refine Calls.mono (index143_nil a c s w) ?_
 rintro e w1 ⟨rfl,hb1⟩
 go_wp2_with fail
 go_returns
 exact ⟨rfl,hb1⟩
theorem index70_nil (a : Option Addr) (c : Nat) (n : Int) (w : World) : Calls Tryz.prog 70 #[.slice a 0 c,.int .i64 n] w (Says (.int .i64 (-1)) w):=by
 go_enter Tryz.func70,Tryz.ntmps70
 go_wp2_with fail
 refine wp_loop_rounds 1 ?_
 rw [rounds_succ]
 go_wp2_with fail
 go_returns
 exact ⟨rfl,Below.refl _ _⟩
theorem contains68_nil (a : Option Addr) (c : Nat) (n : Int) (w : World) : Calls Tryz.prog 68 #[.slice a 0 c,.int .i64 n] w (Says (.bool false) w):=by
 go_enter Tryz.func68,Tryz.ntmps68
 go_wp2_with fail
 refine Calls.mono (index70_nil a c n w) ?_
 rintro e w1 ⟨rfl,hb1⟩
 go_wp2_with fail
 go_returns
 exact ⟨rfl,hb1⟩
theorem index70_hit (g c : Nat) (w : World) (h : w.cell? ⟨g,0,none⟩ = some (.int .i64 0)) : Calls Tryz.prog 70 #[.slice (some ⟨g,0,none⟩) 1 c,.int .i64 0] w (Says (.int .i64 0) w):=by
 have hl:=block_lt_of_cell h
 go_enter Tryz.func70,Tryz.ntmps70
 go_wp2_with fail
 refine wp_loop_rounds 2 ?_
 rw [rounds_succ]
 go_wp2_with fail
 go_returns
 exact ⟨rfl,Below.refl _ _⟩
theorem enters63 : ∀ args w,(callFunc 63 args).run Tryz.prog w = .ok (.enter 63 args) w:=enters_of Tryz.func63 (by kernel_rfl) rfl
theorem clo63 (nb : Nat) (ca : Option Addr) (cc : Nat) (ia : Option Addr) (ic : Nat) (ka : Option Addr) (kc : Nat) (w : World) (h1 : w.cell? ⟨nb,0,none⟩ = some (.string ⟨[116].toArray⟩)) :
  Calls Tryz.prog 63 #[.agg #[.string ⟨[116].toArray⟩,.slice ca 2 cc,.slice ia 0 ic,.slice ka 0 kc],.pointer (some ⟨nb,0,none⟩)] w (Says (.bool true) w):=by
 have l1:=block_lt_of_cell h1
 go_enter Tryz.func63,Tryz.ntmps63
 go_wp2_with fail
 go_returns
 exact ⟨rfl,(Below.refl _ _).alloc (Nat.le_refl _) _⟩
end
def exScan : Qy:=.mk 1 [116] [] (.mk 0 0 V.null []) [] [] [] [] 0
def exGroup : Qy:=.mk 5 [] [exScan] (.mk 0 0 V.null []) [] [0] [⟨2,Xp.col 1⟩] [] 0
def exProject : Qy:=.mk 3 [] [exGroup] (.mk 0 0 V.null []) [Xp.col 0,Xp.col 1] [] [] [] 0
def exOrder : Qy:=.mk 6 [] [exProject] (.mk 0 0 V.null []) [] [] [] [⟨1,true⟩] 0
def exLimit : Qy:=.mk 7 [] [exOrder] (.mk 0 0 V.null []) [] [] [] [] 3
theorem schema_scan (Q : Nat→Prop) (dv : Value) (cs : List Value) (w : World) (hd : RSl tblE Q w dv [exTbl]) (hq : QyIn Q w exScan cs) : Calls Tryz.prog 147 #[dv,.agg cs.toArray] w (RetInts w [1,1]):=by
 obtain ⟨sa,sc,xa,xc,ca,cc,ga,gc,aa,ac,oa,oc,rfl,h1,h2,h3,h4,h5,h6⟩:=qyIn_of hq
 exact schema_1 Q dv sa xa ca ga aa oa sc xc cc gc ac oc w hd
theorem schema_group (Q : Nat→Prop) (dv : Value) (cs : List Value) (w : World) (hd : RSl tblE Q w dv [exTbl]) (hq : QyIn Q w exGroup cs) : Calls Tryz.prog 147 #[dv,.agg cs.toArray] w (RetInts w [1,1]):=by
 obtain ⟨sa,sc,xa,xc,ca,cc,ga,gc,aa,ac,oa,oc,rfl,h1,h2,h3,h4,h5,h6⟩:=qyIn_of hq
 exact schema_5 Q dv exScan sa xa ca ga aa oa sc xc cc gc ac oc w h1 h4 h5 (fun W cs hW hq'=>schema_scan Q dv cs W (hd.kept (by decide) hW) hq')
theorem schema_project (Q : Nat→Prop) (dv : Value) (cs : List Value) (w : World) (hd : RSl tblE Q w dv [exTbl]) (hq : QyIn Q w exProject cs) : Calls Tryz.prog 147 #[dv,.agg cs.toArray] w (RetInts w [1,1]):=by
 obtain ⟨sa,sc,xa,xc,ca,cc,ga,gc,aa,ac,oa,oc,rfl,h1,h2,h3,h4,h5,h6⟩:=qyIn_of hq
 exact schema_3 Q dv exGroup sa xa ca ga aa oa sc xc cc gc ac oc w h1 h3 (fun W cs hW hq'=>schema_group Q dv cs W (hd.kept (by decide) hW) hq')
theorem schema_order (Q : Nat→Prop) (dv : Value) (cs : List Value) (w : World) (hd : RSl tblE Q w dv [exTbl]) (hq : QyIn Q w exOrder cs) : Calls Tryz.prog 147 #[dv,.agg cs.toArray] w (RetInts w [1,1]):=by
 obtain ⟨sa,sc,xa,xc,ca,cc,ga,gc,aa,ac,oa,oc,rfl,h1,h2,h3,h4,h5,h6⟩:=qyIn_of hq
 exact schema_6 Q dv exProject sa xa ca ga aa oa sc xc cc gc ac oc w h1 h6 (fun W cs hW hq'=>schema_project Q dv cs W (hd.kept (by decide) hW) hq')
theorem schema_limit (Q : Nat→Prop) (dv : Value) (cs : List Value) (w : World) (hd : RSl tblE Q w dv [exTbl]) (hq : QyIn Q w exLimit cs) : Calls Tryz.prog 147 #[dv,.agg cs.toArray] w (RetInts w [1,1]):=by
 obtain ⟨sa,sc,xa,xc,ca,cc,ga,gc,aa,ac,oa,oc,rfl,h1,h2,h3,h4,h5,h6⟩:=qyIn_of hq
 exact schema_7 Q dv exOrder sa xa ca ga aa oa sc xc cc gc ac oc w h1 (fun W cs hW hq'=>schema_order Q dv cs W (hd.kept (by decide) hW) hq')
set_option maxRecDepth 100000 in
set_option maxHeartbeats 4000000 in
theorem schema72 (Q : Nat→Prop) (dv : Value) (q : QV) (w : World) (hd : RSl tblE Q w dv [exTbl]) (hq : QyIn Q w exLimit q.arr.toList) : Calls Tryz.prog 72 #[dv,.agg q.arr] w (RetInts w [1,1]):=by
 have C1 : Hid (∀ W,Below w.heap.size w W→Calls Tryz.prog 145 #[.agg q.arr] W (Says (.int .i64 5) W)):=fun W hW=>qsize_any Q exLimit q.arr.toList W (qyIn_move (fun b hl k=>⟨k,hW.block b hl⟩) _ _ hq) (by decide)
 have C2 : Hid (∀ W,Below w.heap.size w W→Calls Tryz.prog 146 #[.agg q.arr] W (Says (.bool true) W)):=fun W hW=>qformed_any Q exLimit q.arr.toList W (qyIn_move (fun b hl k=>⟨k,hW.block b hl⟩) _ _ hq) (by decide) (by decide)
 have C3 : Hid (∀ W,Below w.heap.size w W→Calls Tryz.prog 147 #[dv,.agg q.arr] W (RetInts W [1,1])):=fun W hW=>schema_limit Q dv q.arr.toList W (hd.kept (by decide) hW) (qyIn_move (fun b hl k=>⟨k,hW.block b hl⟩) _ _ hq)
 clear hd hq
 go_enter Tryz.func72,Tryz.ntmps72
 go_upto_region 1 with fail
 refine St.gen (St.alloc (St.start w) (cs:=q.arr) (t:=73)) ?_
 intro w1 S1
 go_wp2_with (refine wpList_load_row rfl 73 (.tmp 3) rfl w.heap.size rfl 73 q.arr (0,0) _ (S1.out.blk 0 rfl) Tryz.underlying73 rfl (qv_size _) ?_)
 refine Calls.mono (C1.out _ S1.out.below) ?_
 rintro e w2 ⟨rfl,hb2⟩
 have S2:=Lib.hid (S1.out.kept hb2)
 clear hb2 S1 C1
 go_wp2_with (refine wpList_load_row rfl 73 (.tmp 3) rfl w.heap.size rfl 73 q.arr (0,0) _ (S2.out.blk 0 rfl) Tryz.underlying73 rfl (qv_size _) ?_)
 refine Calls.mono (C2.out _ S2.out.below) ?_
 rintro e w3 ⟨rfl,hb3⟩
 have S3:=Lib.hid (S2.out.kept hb3)
 clear hb3 S2 C2
 go_wp2_with (refine wpList_load_row rfl 73 (.tmp 3) rfl w.heap.size rfl 73 q.arr (0,0) _ (S3.out.blk 0 rfl) Tryz.underlying73 rfl (qv_size _) ?_)
 refine Calls.mono (C3.out _ S3.out.below) ?_
 rintro e w4 ⟨v4,rfl,hv4,hb4⟩
 have S4:=Lib.hid (S3.out.kept hb4)
 have HV4:=Lib.hid hv4
 have hsz:=Lib.hid S3.out.below.size
 clear hb4 hv4 S3 C3
 go_wp2_with fail
 go_returns
 exact ⟨_,rfl,rSl_mono HV4.out (by decide) (fun b hb=>Nat.le_trans hsz.out hb),S4.out.below⟩
end Go.Proofs.YtimoefagohifaaaGreatDoor
