/- Part 17; the last part says what is proved. No condition. -/
import Derived.Laws.EntriesVeiled
import Derived.Test.YtjmmbebkbkgefaaGreatDoorA16
namespace Go.Proofs.YtjmmbebkbkgefaaGreatDoor
open Go.RowKit Go.Sort
theorem rSl_mono {α : Type} {E : ElRep α} {Q R : Nat→Prop} {w : World} {v : Value} {l : List α} (h : RSl E Q w v l) (hk : 0 < E.k) (hq : ∀ b,Q b→R b) : RSl E R w v l:=rSl_move hk (fun b _ hb=>⟨hq b hb,rfl⟩) h
theorem enters202 : En 103:=enters_of Tryz.func103 (by kernel_rfl) rfl
theorem enters207 : En 108:=enters_of Tryz.func108 (by kernel_rfl) rfl
set_option maxRecDepth 100000 in
theorem clo207 (tb ib : Nat) (ga : Option Addr) (cap : Nat) (w : World) (h1 : w.cell? ⟨tb,0,none⟩ = some (.func (.func 102) #[] #[.pointer (some ⟨ib,0,none⟩)])) (h2 : w.cell? ⟨ib,0,none⟩ = some (.slice ga 2 cap)) :
  Calls Tryz.prog 108 #[.agg #[.int .i64 1,.bool true],.pointer (some ⟨tb,0,none⟩)] w (Says (.bool false) w):=by
 have l1:=block_lt_of_cell h1
 have l2:=block_lt_of_cell h2
 go_enter Tryz.func108,Tryz.ntmps108
 go_wp2_with fail
 go_enter Tryz.func102,Tryz.ntmps102
 go_wp2_with fail
 go_returns
 go_wp2_with fail
 exact ⟨rfl,(Below.refl _ _).alloc (Nat.le_refl _) _⟩
set_option maxRecDepth 100000 in
theorem clo202 (qb : Nat) (ca : Option Addr) (cc : Nat) (ia : Option Addr) (ic : Nat) (ka : Option Addr) (kc : Nat) (w : World) (h1 : w.cell? ⟨qb,1,none⟩ = some (.string ⟨[116].toArray⟩)) :
  Calls Tryz.prog 103 #[.agg #[.string ⟨[116].toArray⟩,.slice ca 2 cc,.slice ia 0 ic,.slice ka 0 kc],.pointer (some ⟨qb,0,none⟩)] w (Says (.bool true) w):=by
 have l1:=block_lt_of_cell h1
 go_enter Tryz.func103,Tryz.ntmps103
 go_wp2_with fail
 go_returns
 exact ⟨rfl,(Below.refl _ _).alloc (Nat.le_refl _) _⟩
set_option maxRecDepth 100000 in
set_option maxHeartbeats 8000000 in
theorem schema_3 (Q : Nat→Prop) (dv : Value) (q : Qy) (sa xa ca ga aa oa : Option Addr) (sc xc cc gc ac oc : Nat) (w : World) (hs : RSl qyE Q w (.slice sa 1 sc) [q]) (he : RSl xpE Q w (.slice ca 2 cc) [Xp.col 0,Xp.col 1])
  (HS : Hid (∀ W cs,Below w.heap.size w W→QyIn Q W q cs→Calls Tryz.prog 51 #[dv,.agg cs.toArray] W (RetInts W [1,1]))) :
  Calls Tryz.prog 51 #[dv,.agg #[.int .i64 3,.string ⟨#[]⟩,.slice sa 1 sc,.int .i64 0,.int .i64 0,.int .i64 0,.int .i64 0,.string ⟨#[]⟩,.slice xa 0 xc,.slice ca 2 cc,.slice ga 0 gc,.slice aa 0 ac,.slice oa 0 oc,.int .i64 0]] w (RetInts w [1,1]):=by
 obtain ⟨sb,so,scc,scs,hsb,hsi,hst⟩:=hs.at (k:=0) rfl
 injection hsb with e1 e3 e2
 subst e1 e2
 clear e3
 have hq : QyIn Q w q scs:=hsi
 have HQ:=Lib.hid hq
 have CS : Hid (∀ W,Below w.heap.size w W→Calls Tryz.prog 51 #[dv,.agg scs.toArray] W (RetInts W [1,1])):=fun W hW=>HS.out W _ hW (qyIn_move (fun b hl k=>⟨k,hW.block b hl⟩) _ _ HQ.out)
 obtain ⟨k1,tab1,subs1,⟨op1,xn1,v1,args1⟩,cols1,group1,aggs1,order1,n1⟩:=q
 obtain ⟨s2,sc2,x2,xc2,c2,cc2,g2,gc2,a2,ac2,o2,oc2,rfl,_⟩:=qyIn_of hq
 have y0:=hst 0 _ rfl
 have y1:=hst 1 _ rfl
 have y2:=hst 2 _ rfl
 have y3:=hst 3 _ rfl
 have y4:=hst 4 _ rfl
 have y5:=hst 5 _ rfl
 have y6:=hst 6 _ rfl
 have y7:=hst 7 _ rfl
 have y8:=hst 8 _ rfl
 have y9:=hst 9 _ rfl
 have y10:=hst 10 _ rfl
 have y11:=hst 11 _ rfl
 have y12:=hst 12 _ rfl
 have y13:=hst 13 _ rfl
 simp only [Nat.zero_mul,Nat.add_zero] at y0 y1 y2 y3 y4 y5 y6 y7 y8 y9 y10 y11 y12 y13
 have ZZ : Hid (∀ W,Below w.heap.size w W→W.cell? ⟨sb,so,none⟩ = some (.int .i64 k1)∧W.cell? ⟨sb,so + 1,none⟩ = some (.string ⟨tab1.toArray⟩)∧W.cell? ⟨sb,so + 2,none⟩ = some (.slice s2 subs1.length sc2)∧W.cell? ⟨sb,so + 3,none⟩ = some (.int .i64 op1)∧W.cell? ⟨sb,so + 4,none⟩ = some (.int .i64 xn1)∧W.cell? ⟨sb,so + 5,none⟩ = some (.int .i64 v1.k)∧W.cell? ⟨sb,so + 6,none⟩ = some (.int .i64 v1.n)∧W.cell? ⟨sb,so + 7,none⟩ = some (.string v1.s)∧W.cell? ⟨sb,so + 8,none⟩ = some (.slice x2 args1.length xc2)∧W.cell? ⟨sb,so + 9,none⟩ = some (.slice c2 cols1.length cc2)∧W.cell? ⟨sb,so + 10,none⟩ = some (.slice g2 group1.length gc2)∧W.cell? ⟨sb,so + 11,none⟩ = some (.slice a2 aggs1.length ac2)∧W.cell? ⟨sb,so + 12,none⟩ = some (.slice o2 order1.length oc2)∧W.cell? ⟨sb,so + 13,none⟩ = some (.int .i64 n1)):=
  fun W hW=>⟨hW.cell_kept y0,hW.cell_kept y1,hW.cell_kept y2,hW.cell_kept y3,hW.cell_kept y4,hW.cell_kept y5,hW.cell_kept y6,hW.cell_kept y7,hW.cell_kept y8,hW.cell_kept y9,hW.cell_kept y10,hW.cell_kept y11,hW.cell_kept y12,hW.cell_kept y13⟩
 have HE:=Lib.hid he
 clear he
 clear hs hsi hst hq HQ HS y0 y1 y2 y3 y4 y5 y6 y7 y8 y9 y10 y11 y12 y13
 go_enter Tryz.func51,Tryz.ntmps51
 go_upto_region 3 with fail
 refine St.gen (St.alloc (St.alloc (St.start _))) ?_
 intro w1 S1
 try (simp only [World.size_alloc] at S1)
 have F1:=S1.out.facts
 simp only [St.Facts,cellFacts,apartFacts,and_true] at F1
 obtain ⟨y0,y1,y2,y3,y4,y5,y6,y7,y8,y9,y10,y11,y12,y13⟩:=ZZ.out _ S1.out.below
 refine wp_loop_rounds 2 ?_
 rw [rounds_succ]
 go_wp2_with fail
 refine Calls.mono (CS.out _ (St.alloc S1.out).below) ?_
 rintro e w2 ⟨v,rfl,hv,hb2⟩
 have S2:=Lib.hid ((St.alloc S1.out).kept hb2)
 obtain ⟨va,vc,rfl⟩:=hv.slice
 have HV : Hid (SlAt w2 (.slice va 2 vc) 2 [.int .i64 1,.int .i64 1]):=by
  obtain ⟨acs,h1,h2⟩:=hv
  have:=lIn_intVals h2
  subst this
  exact h1.slAt
 simp only [List.length_cons,List.length_nil,Nat.zero_add,Nat.reduceAdd]
 clear hv hb2 F1 S1 ZZ CS y0 y1 y2 y3 y4 y5 y6 y7 y8 y9 y10 y11 y12 y13
 have F2:=S2.out.facts
 simp only [St.Facts,cellFacts,apartFacts,and_true] at F2
 go_wp2_with (refine wpList_append_nil rfl (.tmp 33) (.tmp 34) 55 rfl 3 (.int .i64 0) 1 8 Tryz.underlying55 infoInt rfl (by decide) S2.out rfl _ 2 [.int .i64 1,.int .i64 1] rfl (by decide) HV.out rfl (by simp [Value.oneCell']) (by decide) (by unfold maxLen; decide) ?_; intro g cap zs w3 S3 hc1 hc2 hc3; simp only [List.cons_append,List.nil_append] at S3; have F3:=S3.out.facts; simp only [St.Facts,cellFacts,apartFacts,and_true] at F3)
 clear F2 S2 HV
 rw [rounds_succ]
 go_upto_region 10 with fail
 refine St.gen (St.set 2 (S3.out) rfl) ?_
 intro w4 S4
 try (simp only [List.set_cons_zero,List.set_cons_succ,List.setIfInBounds_toArray] at S4)
 clear F3 S3
 have F4:=S4.out.facts
 simp only [St.Facts,cellFacts,apartFacts,and_true] at F4
 have hmf : ∀ (fn : Fn) (first cap : Array Value) (w : World),(Instr.makeFunc fn first cap).run Tryz.prog w = .ok (.func fn first cap) w:=fun _ _ _ _=>rfl
 go_upto_region 11 with fail
 refine St.gen (St.alloc (S4.out)) ?_
 intro w5 S5
 try (simp only [List.set_cons_zero,List.set_cons_succ,List.setIfInBounds_toArray,World.size_alloc] at S5)
 clear F4 S4
 have F5:=S5.out.facts
 simp only [St.Facts,cellFacts,apartFacts,and_true] at F5
 go_wp2_with fail
 refine Calls.mono (projects_cols (fun _=>True) [1,1] [0,1] _ _ _ (rSl_mono (rSl_ints (i:=1) S5.out rfl hc1) (by decide) (fun _ _=>trivial)) (rSl_mono (HE.out.kept (by decide) S5.out.below) (by decide) (fun _ _=>trivial)) (by decide) (by decide) (by intro n hn; simp only [List.mem_cons,List.not_mem_nil,or_false] at hn; rcases hn with rfl | rfl <;> decide)) ?_
 rintro e w6 ⟨v6,rfl,hv6,hb6⟩
 have S6:=Lib.hid (S5.out.kept hb6)
 have HV6:=Lib.hid hv6
 have hsz:=Lib.hid S5.out.below.size
 clear hb6 hv6 F5 S5
 go_wp2_with fail
 go_returns
 exact ⟨_,rfl,rSl_mono HV6.out (by decide) (fun b hb=>Nat.le_trans hsz.out hb),S6.out.below⟩
set_option maxRecDepth 100000 in
set_option maxHeartbeats 8000000 in
theorem schema_5 (Q : Nat→Prop) (dv : Value) (q : Qy) (sa xa ca ga aa oa : Option Addr) (sc xc cc gc ac oc : Nat) (w : World) (hs : RSl qyE Q w (.slice sa 1 sc) [q]) (hg : RSl intE Q w (.slice ga 1 gc) [0]) (ha : RSl agE Q w (.slice aa 1 ac) [⟨2,Xp.col 1⟩])
  (HS : Hid (∀ W cs,Below w.heap.size w W→QyIn Q W q cs→Calls Tryz.prog 51 #[dv,.agg cs.toArray] W (RetInts W [1,1]))) :
  Calls Tryz.prog 51 #[dv,.agg #[.int .i64 5,.string ⟨#[]⟩,.slice sa 1 sc,.int .i64 0,.int .i64 0,.int .i64 0,.int .i64 0,.string ⟨#[]⟩,.slice xa 0 xc,.slice ca 0 cc,.slice ga 1 gc,.slice aa 1 ac,.slice oa 0 oc,.int .i64 0]] w (RetInts w [1,1]):=by
 obtain ⟨sb,so,scc,scs,hsb,hsi,hst⟩:=hs.at (k:=0) rfl
 injection hsb with e1 e3 e2
 subst e1 e2
 clear e3
 have hq : QyIn Q w q scs:=hsi
 have HQ:=Lib.hid hq
 have CS : Hid (∀ W,Below w.heap.size w W→Calls Tryz.prog 51 #[dv,.agg scs.toArray] W (RetInts W [1,1])):=fun W hW=>HS.out W _ hW (qyIn_move (fun b hl k=>⟨k,hW.block b hl⟩) _ _ HQ.out)
 obtain ⟨k1,tab1,subs1,⟨op1,xn1,v1,args1⟩,cols1,group1,aggs1,order1,n1⟩:=q
 obtain ⟨s2,sc2,x2,xc2,c2,cc2,g2,gc2,a2,ac2,o2,oc2,rfl,_⟩:=qyIn_of hq
 have y0:=hst 0 _ rfl
 have y1:=hst 1 _ rfl
 have y2:=hst 2 _ rfl
 have y3:=hst 3 _ rfl
 have y4:=hst 4 _ rfl
 have y5:=hst 5 _ rfl
 have y6:=hst 6 _ rfl
 have y7:=hst 7 _ rfl
 have y8:=hst 8 _ rfl
 have y9:=hst 9 _ rfl
 have y10:=hst 10 _ rfl
 have y11:=hst 11 _ rfl
 have y12:=hst 12 _ rfl
 have y13:=hst 13 _ rfl
 simp only [Nat.zero_mul,Nat.add_zero] at y0 y1 y2 y3 y4 y5 y6 y7 y8 y9 y10 y11 y12 y13
 have ZZ : Hid (∀ W,Below w.heap.size w W→W.cell? ⟨sb,so,none⟩ = some (.int .i64 k1)∧W.cell? ⟨sb,so + 1,none⟩ = some (.string ⟨tab1.toArray⟩)∧W.cell? ⟨sb,so + 2,none⟩ = some (.slice s2 subs1.length sc2)∧W.cell? ⟨sb,so + 3,none⟩ = some (.int .i64 op1)∧W.cell? ⟨sb,so + 4,none⟩ = some (.int .i64 xn1)∧W.cell? ⟨sb,so + 5,none⟩ = some (.int .i64 v1.k)∧W.cell? ⟨sb,so + 6,none⟩ = some (.int .i64 v1.n)∧W.cell? ⟨sb,so + 7,none⟩ = some (.string v1.s)∧W.cell? ⟨sb,so + 8,none⟩ = some (.slice x2 args1.length xc2)∧W.cell? ⟨sb,so + 9,none⟩ = some (.slice c2 cols1.length cc2)∧W.cell? ⟨sb,so + 10,none⟩ = some (.slice g2 group1.length gc2)∧W.cell? ⟨sb,so + 11,none⟩ = some (.slice a2 aggs1.length ac2)∧W.cell? ⟨sb,so + 12,none⟩ = some (.slice o2 order1.length oc2)∧W.cell? ⟨sb,so + 13,none⟩ = some (.int .i64 n1)):=
  fun W hW=>⟨hW.cell_kept y0,hW.cell_kept y1,hW.cell_kept y2,hW.cell_kept y3,hW.cell_kept y4,hW.cell_kept y5,hW.cell_kept y6,hW.cell_kept y7,hW.cell_kept y8,hW.cell_kept y9,hW.cell_kept y10,hW.cell_kept y11,hW.cell_kept y12,hW.cell_kept y13⟩
 have HG:=Lib.hid hg
 have HA:=Lib.hid ha
 clear hg ha
 clear hs hsi hst hq HQ HS y0 y1 y2 y3 y4 y5 y6 y7 y8 y9 y10 y11 y12 y13
 go_enter Tryz.func51,Tryz.ntmps51
 go_upto_region 3 with fail
 refine St.gen (St.alloc (St.alloc (St.start _))) ?_
 intro w1 S1
 try (simp only [World.size_alloc] at S1)
 have F1:=S1.out.facts
 simp only [St.Facts,cellFacts,apartFacts,and_true] at F1
 obtain ⟨y0,y1,y2,y3,y4,y5,y6,y7,y8,y9,y10,y11,y12,y13⟩:=ZZ.out _ S1.out.below
 refine wp_loop_rounds 2 ?_
 rw [rounds_succ]
 go_wp2_with fail
 refine Calls.mono (CS.out _ (St.alloc S1.out).below) ?_
 rintro e w2 ⟨v,rfl,hv,hb2⟩
 have S2:=Lib.hid ((St.alloc S1.out).kept hb2)
 obtain ⟨va,vc,rfl⟩:=hv.slice
 have HV : Hid (SlAt w2 (.slice va 2 vc) 2 [.int .i64 1,.int .i64 1]):=by
  obtain ⟨acs,h1,h2⟩:=hv
  have:=lIn_intVals h2
  subst this
  exact h1.slAt
 simp only [List.length_cons,List.length_nil,Nat.zero_add,Nat.reduceAdd]
 clear hv hb2 F1 S1 ZZ CS y0 y1 y2 y3 y4 y5 y6 y7 y8 y9 y10 y11 y12 y13
 have F2:=S2.out.facts
 simp only [St.Facts,cellFacts,apartFacts,and_true] at F2
 go_wp2_with (refine wpList_append_nil rfl (.tmp 33) (.tmp 34) 55 rfl 3 (.int .i64 0) 1 8 Tryz.underlying55 infoInt rfl (by decide) S2.out rfl _ 2 [.int .i64 1,.int .i64 1] rfl (by decide) HV.out rfl (by simp [Value.oneCell']) (by decide) (by unfold maxLen; decide) ?_; intro g cap zs w3 S3 hc1 hc2 hc3; simp only [List.cons_append,List.nil_append] at S3; have F3:=S3.out.facts; simp only [St.Facts,cellFacts,apartFacts,and_true] at F3)
 clear F2 S2 HV
 rw [rounds_succ]
 go_upto_region 10 with fail
 refine St.gen (St.set 2 (S3.out) rfl) ?_
 intro w4 S4
 try (simp only [List.set_cons_zero,List.set_cons_succ,List.setIfInBounds_toArray] at S4)
 clear F3 S3
 have F4:=S4.out.facts
 simp only [St.Facts,cellFacts,apartFacts,and_true] at F4
 have hmf : ∀ (fn : Fn) (first cap : Array Value) (w : World),(Instr.makeFunc fn first cap).run Tryz.prog w = .ok (.func fn first cap) w:=fun _ _ _ _=>rfl
 go_upto_region 11 with fail
 refine St.gen (St.alloc (S4.out)) ?_
 intro w5 S5
 try (simp only [List.set_cons_zero,List.set_cons_succ,List.setIfInBounds_toArray,World.size_alloc] at S5)
 clear F4 S4
 have F5:=S5.out.facts
 simp only [St.Facts,cellFacts,apartFacts,and_true] at F5
 go_wp2_with fail
 refine Calls.mono (groups_one (fun _=>True) _ _ _ _ _ _ _ _ V.null _ _ _ _ _ _ _ _ _ _ _ _ _ _ _ (rSl_mono (rSl_ints (i:=1) S5.out rfl hc1) (by decide) (fun _ _=>trivial)) (rSl_mono (HG.out.kept (by decide) S5.out.below) (by decide) (fun _ _=>trivial)) (rSl_mono (HA.out.kept (by decide) S5.out.below) (by decide) (fun _ _=>trivial))) ?_
 rintro e w6 ⟨v6,rfl,hv6,hb6⟩
 have S6:=Lib.hid (S5.out.kept hb6)
 have HV6:=Lib.hid hv6
 have hsz:=Lib.hid S5.out.below.size
 clear hb6 hv6 F5 S5
 go_wp2_with fail
 go_returns
 exact ⟨_,rfl,rSl_mono HV6.out (by decide) (fun b hb=>Nat.le_trans hsz.out hb),S6.out.below⟩
set_option maxRecDepth 100000 in
set_option maxHeartbeats 8000000 in
theorem schema_6 (Q : Nat→Prop) (dv : Value) (q : Qy) (sa xa ca ga aa oa : Option Addr) (sc xc cc gc ac oc : Nat) (w : World) (hs : RSl qyE Q w (.slice sa 1 sc) [q]) (ho : RSl odE Q w (.slice oa 1 oc) [⟨1,true⟩])
  (HS : Hid (∀ W cs,Below w.heap.size w W→QyIn Q W q cs→Calls Tryz.prog 51 #[dv,.agg cs.toArray] W (RetInts W [1,1]))) :
  Calls Tryz.prog 51 #[dv,.agg #[.int .i64 6,.string ⟨#[]⟩,.slice sa 1 sc,.int .i64 0,.int .i64 0,.int .i64 0,.int .i64 0,.string ⟨#[]⟩,.slice xa 0 xc,.slice ca 0 cc,.slice ga 0 gc,.slice aa 0 ac,.slice oa 1 oc,.int .i64 0]] w (RetInts w [1,1]):=by
 obtain ⟨sb,so,scc,scs,hsb,hsi,hst⟩:=hs.at (k:=0) rfl
 injection hsb with e1 e3 e2
 subst e1 e2
 clear e3
 have hq : QyIn Q w q scs:=hsi
 have HQ:=Lib.hid hq
 have CS : Hid (∀ W,Below w.heap.size w W→Calls Tryz.prog 51 #[dv,.agg scs.toArray] W (RetInts W [1,1])):=fun W hW=>HS.out W _ hW (qyIn_move (fun b hl k=>⟨k,hW.block b hl⟩) _ _ HQ.out)
 obtain ⟨k1,tab1,subs1,⟨op1,xn1,v1,args1⟩,cols1,group1,aggs1,order1,n1⟩:=q
 obtain ⟨s2,sc2,x2,xc2,c2,cc2,g2,gc2,a2,ac2,o2,oc2,rfl,_⟩:=qyIn_of hq
 have y0:=hst 0 _ rfl
 have y1:=hst 1 _ rfl
 have y2:=hst 2 _ rfl
 have y3:=hst 3 _ rfl
 have y4:=hst 4 _ rfl
 have y5:=hst 5 _ rfl
 have y6:=hst 6 _ rfl
 have y7:=hst 7 _ rfl
 have y8:=hst 8 _ rfl
 have y9:=hst 9 _ rfl
 have y10:=hst 10 _ rfl
 have y11:=hst 11 _ rfl
 have y12:=hst 12 _ rfl
 have y13:=hst 13 _ rfl
 simp only [Nat.zero_mul,Nat.add_zero] at y0 y1 y2 y3 y4 y5 y6 y7 y8 y9 y10 y11 y12 y13
 have ZZ : Hid (∀ W,Below w.heap.size w W→W.cell? ⟨sb,so,none⟩ = some (.int .i64 k1)∧W.cell? ⟨sb,so + 1,none⟩ = some (.string ⟨tab1.toArray⟩)∧W.cell? ⟨sb,so + 2,none⟩ = some (.slice s2 subs1.length sc2)∧W.cell? ⟨sb,so + 3,none⟩ = some (.int .i64 op1)∧W.cell? ⟨sb,so + 4,none⟩ = some (.int .i64 xn1)∧W.cell? ⟨sb,so + 5,none⟩ = some (.int .i64 v1.k)∧W.cell? ⟨sb,so + 6,none⟩ = some (.int .i64 v1.n)∧W.cell? ⟨sb,so + 7,none⟩ = some (.string v1.s)∧W.cell? ⟨sb,so + 8,none⟩ = some (.slice x2 args1.length xc2)∧W.cell? ⟨sb,so + 9,none⟩ = some (.slice c2 cols1.length cc2)∧W.cell? ⟨sb,so + 10,none⟩ = some (.slice g2 group1.length gc2)∧W.cell? ⟨sb,so + 11,none⟩ = some (.slice a2 aggs1.length ac2)∧W.cell? ⟨sb,so + 12,none⟩ = some (.slice o2 order1.length oc2)∧W.cell? ⟨sb,so + 13,none⟩ = some (.int .i64 n1)):=
  fun W hW=>⟨hW.cell_kept y0,hW.cell_kept y1,hW.cell_kept y2,hW.cell_kept y3,hW.cell_kept y4,hW.cell_kept y5,hW.cell_kept y6,hW.cell_kept y7,hW.cell_kept y8,hW.cell_kept y9,hW.cell_kept y10,hW.cell_kept y11,hW.cell_kept y12,hW.cell_kept y13⟩
 have HO:=Lib.hid ho
 clear ho
 clear hs hsi hst hq HQ HS y0 y1 y2 y3 y4 y5 y6 y7 y8 y9 y10 y11 y12 y13
 go_enter Tryz.func51,Tryz.ntmps51
 go_upto_region 3 with fail
 refine St.gen (St.alloc (St.alloc (St.start _))) ?_
 intro w1 S1
 try (simp only [World.size_alloc] at S1)
 have F1:=S1.out.facts
 simp only [St.Facts,cellFacts,apartFacts,and_true] at F1
 obtain ⟨y0,y1,y2,y3,y4,y5,y6,y7,y8,y9,y10,y11,y12,y13⟩:=ZZ.out _ S1.out.below
 refine wp_loop_rounds 2 ?_
 rw [rounds_succ]
 go_wp2_with fail
 refine Calls.mono (CS.out _ (St.alloc S1.out).below) ?_
 rintro e w2 ⟨v,rfl,hv,hb2⟩
 have S2:=Lib.hid ((St.alloc S1.out).kept hb2)
 obtain ⟨va,vc,rfl⟩:=hv.slice
 have HV : Hid (SlAt w2 (.slice va 2 vc) 2 [.int .i64 1,.int .i64 1]):=by
  obtain ⟨acs,h1,h2⟩:=hv
  have:=lIn_intVals h2
  subst this
  exact h1.slAt
 simp only [List.length_cons,List.length_nil,Nat.zero_add,Nat.reduceAdd]
 clear hv hb2 F1 S1 ZZ CS y0 y1 y2 y3 y4 y5 y6 y7 y8 y9 y10 y11 y12 y13
 have F2:=S2.out.facts
 simp only [St.Facts,cellFacts,apartFacts,and_true] at F2
 go_wp2_with (refine wpList_append_nil rfl (.tmp 33) (.tmp 34) 55 rfl 3 (.int .i64 0) 1 8 Tryz.underlying55 infoInt rfl (by decide) S2.out rfl _ 2 [.int .i64 1,.int .i64 1] rfl (by decide) HV.out rfl (by simp [Value.oneCell']) (by decide) (by unfold maxLen; decide) ?_; intro g cap zs w3 S3 hc1 hc2 hc3; simp only [List.cons_append,List.nil_append] at S3; have F3:=S3.out.facts; simp only [St.Facts,cellFacts,apartFacts,and_true] at F3)
 clear F2 S2 HV
 rw [rounds_succ]
 go_upto_region 10 with fail
 refine St.gen (St.set 2 (S3.out) rfl) ?_
 intro w4 S4
 try (simp only [List.set_cons_zero,List.set_cons_succ,List.setIfInBounds_toArray] at S4)
 clear F3 S3
 have F4:=S4.out.facts
 simp only [St.Facts,cellFacts,apartFacts,and_true] at F4
 have hmf : ∀ (fn : Fn) (first cap : Array Value) (w : World),(Instr.makeFunc fn first cap).run Tryz.prog w = .ok (.func fn first cap) w:=fun _ _ _ _=>rfl
 go_upto_region 11 with fail
 refine St.gen (St.alloc (S4.out)) ?_
 intro w5 S5
 try (simp only [List.set_cons_zero,List.set_cons_succ,List.setIfInBounds_toArray,World.size_alloc] at S5)
 clear F4 S4
 have F5:=S5.out.facts
 simp only [St.Facts,cellFacts,apartFacts,and_true] at F5
 go_wp2_with fail
 refine Calls.mono (contains206_any 108 _ Q (fun _=>false) [⟨1,true⟩] _ _ enters207 (HO.out.kept (by decide) S5.out.below) (by decide) (fun W a cs hW ha hin=>?_)) ?_
 ·have e : cs = [.int .i64 1,.bool true]:=by
   have:=List.mem_singleton.1 ha
   subst this
   exact hin
  subst e
  have S6:=S5.out.kept hW
  exact clo207 _ (w.heap.size + 1) (some ⟨g,0,none⟩) cap W (by simp only [World.cell?,S6.blk 0 rfl]; rfl) (by simp only [World.cell?,S6.blk 3 rfl]; rfl)
 rintro e w6 ⟨rfl,hb6⟩
 have S6:=Lib.hid (S5.out.kept hb6)
 clear hb6 F5 S5
 have F6:=S6.out.facts
 simp only [St.Facts,cellFacts,apartFacts,and_true] at F6
 go_wp2_with fail
 go_returns
 exact ⟨_,rfl,rSl_ints (i:=1) S6.out rfl hc1,S6.out.below⟩
set_option maxRecDepth 100000 in
set_option maxHeartbeats 8000000 in
theorem schema_7 (Q : Nat→Prop) (dv : Value) (q : Qy) (sa xa ca ga aa oa : Option Addr) (sc xc cc gc ac oc : Nat) (w : World) (hs : RSl qyE Q w (.slice sa 1 sc) [q])
  (HS : Hid (∀ W cs,Below w.heap.size w W→QyIn Q W q cs→Calls Tryz.prog 51 #[dv,.agg cs.toArray] W (RetInts W [1,1]))) :
  Calls Tryz.prog 51 #[dv,.agg #[.int .i64 7,.string ⟨#[]⟩,.slice sa 1 sc,.int .i64 0,.int .i64 0,.int .i64 0,.int .i64 0,.string ⟨#[]⟩,.slice xa 0 xc,.slice ca 0 cc,.slice ga 0 gc,.slice aa 0 ac,.slice oa 0 oc,.int .i64 3]] w (RetInts w [1,1]):=by
 obtain ⟨sb,so,scc,scs,hsb,hsi,hst⟩:=hs.at (k:=0) rfl
 injection hsb with e1 e3 e2
 subst e1 e2
 clear e3
 have hq : QyIn Q w q scs:=hsi
 have HQ:=Lib.hid hq
 have CS : Hid (∀ W,Below w.heap.size w W→Calls Tryz.prog 51 #[dv,.agg scs.toArray] W (RetInts W [1,1])):=fun W hW=>HS.out W _ hW (qyIn_move (fun b hl k=>⟨k,hW.block b hl⟩) _ _ HQ.out)
 obtain ⟨k1,tab1,subs1,⟨op1,xn1,v1,args1⟩,cols1,group1,aggs1,order1,n1⟩:=q
 obtain ⟨s2,sc2,x2,xc2,c2,cc2,g2,gc2,a2,ac2,o2,oc2,rfl,_⟩:=qyIn_of hq
 have y0:=hst 0 _ rfl
 have y1:=hst 1 _ rfl
 have y2:=hst 2 _ rfl
 have y3:=hst 3 _ rfl
 have y4:=hst 4 _ rfl
 have y5:=hst 5 _ rfl
 have y6:=hst 6 _ rfl
 have y7:=hst 7 _ rfl
 have y8:=hst 8 _ rfl
 have y9:=hst 9 _ rfl
 have y10:=hst 10 _ rfl
 have y11:=hst 11 _ rfl
 have y12:=hst 12 _ rfl
 have y13:=hst 13 _ rfl
 simp only [Nat.zero_mul,Nat.add_zero] at y0 y1 y2 y3 y4 y5 y6 y7 y8 y9 y10 y11 y12 y13
 have ZZ : Hid (∀ W,Below w.heap.size w W→W.cell? ⟨sb,so,none⟩ = some (.int .i64 k1)∧W.cell? ⟨sb,so + 1,none⟩ = some (.string ⟨tab1.toArray⟩)∧W.cell? ⟨sb,so + 2,none⟩ = some (.slice s2 subs1.length sc2)∧W.cell? ⟨sb,so + 3,none⟩ = some (.int .i64 op1)∧W.cell? ⟨sb,so + 4,none⟩ = some (.int .i64 xn1)∧W.cell? ⟨sb,so + 5,none⟩ = some (.int .i64 v1.k)∧W.cell? ⟨sb,so + 6,none⟩ = some (.int .i64 v1.n)∧W.cell? ⟨sb,so + 7,none⟩ = some (.string v1.s)∧W.cell? ⟨sb,so + 8,none⟩ = some (.slice x2 args1.length xc2)∧W.cell? ⟨sb,so + 9,none⟩ = some (.slice c2 cols1.length cc2)∧W.cell? ⟨sb,so + 10,none⟩ = some (.slice g2 group1.length gc2)∧W.cell? ⟨sb,so + 11,none⟩ = some (.slice a2 aggs1.length ac2)∧W.cell? ⟨sb,so + 12,none⟩ = some (.slice o2 order1.length oc2)∧W.cell? ⟨sb,so + 13,none⟩ = some (.int .i64 n1)):=
  fun W hW=>⟨hW.cell_kept y0,hW.cell_kept y1,hW.cell_kept y2,hW.cell_kept y3,hW.cell_kept y4,hW.cell_kept y5,hW.cell_kept y6,hW.cell_kept y7,hW.cell_kept y8,hW.cell_kept y9,hW.cell_kept y10,hW.cell_kept y11,hW.cell_kept y12,hW.cell_kept y13⟩
 clear hs hsi hst hq HQ HS y0 y1 y2 y3 y4 y5 y6 y7 y8 y9 y10 y11 y12 y13
 go_enter Tryz.func51,Tryz.ntmps51
 go_upto_region 3 with fail
 refine St.gen (St.alloc (St.alloc (St.start _))) ?_
 intro w1 S1
 try (simp only [World.size_alloc] at S1)
 have F1:=S1.out.facts
 simp only [St.Facts,cellFacts,apartFacts,and_true] at F1
 obtain ⟨y0,y1,y2,y3,y4,y5,y6,y7,y8,y9,y10,y11,y12,y13⟩:=ZZ.out _ S1.out.below
 refine wp_loop_rounds 2 ?_
 rw [rounds_succ]
 go_wp2_with fail
 refine Calls.mono (CS.out _ (St.alloc S1.out).below) ?_
 rintro e w2 ⟨v,rfl,hv,hb2⟩
 have S2:=Lib.hid ((St.alloc S1.out).kept hb2)
 obtain ⟨va,vc,rfl⟩:=hv.slice
 have HV : Hid (SlAt w2 (.slice va 2 vc) 2 [.int .i64 1,.int .i64 1]):=by
  obtain ⟨acs,h1,h2⟩:=hv
  have:=lIn_intVals h2
  subst this
  exact h1.slAt
 simp only [List.length_cons,List.length_nil,Nat.zero_add,Nat.reduceAdd]
 clear hv hb2 F1 S1 ZZ CS y0 y1 y2 y3 y4 y5 y6 y7 y8 y9 y10 y11 y12 y13
 have F2:=S2.out.facts
 simp only [St.Facts,cellFacts,apartFacts,and_true] at F2
 go_wp2_with (refine wpList_append_nil rfl (.tmp 33) (.tmp 34) 55 rfl 3 (.int .i64 0) 1 8 Tryz.underlying55 infoInt rfl (by decide) S2.out rfl _ 2 [.int .i64 1,.int .i64 1] rfl (by decide) HV.out rfl (by simp [Value.oneCell']) (by decide) (by unfold maxLen; decide) ?_; intro g cap zs w3 S3 hc1 hc2 hc3; simp only [List.cons_append,List.nil_append] at S3; have F3:=S3.out.facts; simp only [St.Facts,cellFacts,apartFacts,and_true] at F3)
 clear F2 S2 HV
 rw [rounds_succ]
 go_upto_region 10 with fail
 refine St.gen (St.set 2 (S3.out) rfl) ?_
 intro w4 S4
 try (simp only [List.set_cons_zero,List.set_cons_succ,List.setIfInBounds_toArray] at S4)
 clear F3 S3
 have F4:=S4.out.facts
 simp only [St.Facts,cellFacts,apartFacts,and_true] at F4
 have hmf : ∀ (fn : Fn) (first cap : Array Value) (w : World),(Instr.makeFunc fn first cap).run Tryz.prog w = .ok (.func fn first cap) w:=fun _ _ _ _=>rfl
 go_upto_region 11 with fail
 refine St.gen (St.alloc (S4.out)) ?_
 intro w5 S5
 try (simp only [List.set_cons_zero,List.set_cons_succ,List.setIfInBounds_toArray,World.size_alloc] at S5)
 clear F4 S4
 have F5:=S5.out.facts
 simp only [St.Facts,cellFacts,apartFacts,and_true] at F5
 go_wp2_with fail
 go_returns
 exact ⟨_,rfl,rSl_ints (i:=1) S5.out rfl hc1,S5.out.below⟩
set_option maxRecDepth 100000 in
set_option maxHeartbeats 8000000 in
theorem schema_1 (Q : Nat→Prop) (dv : Value) (sa xa ca ga aa oa : Option Addr) (sc xc cc gc ac oc : Nat) (w : World) (hd : RSl tblE Q w dv [exTbl]) :
  Calls Tryz.prog 51 #[dv,.agg #[.int .i64 1,.string ⟨[116].toArray⟩,.slice sa 0 sc,.int .i64 0,.int .i64 0,.int .i64 0,.int .i64 0,.string ⟨#[]⟩,.slice xa 0 xc,.slice ca 0 cc,.slice ga 0 gc,.slice aa 0 ac,.slice oa 0 oc,.int .i64 0]] w (RetInts w [1,1]):=by
 have HD:=Lib.hid hd
 obtain ⟨tb,tq,tc,cb,co,ccap,ia,ic,ka,kc,rfl,H⟩:=tblAt_of hd
 have HT:=Lib.hid H
 clear hd H
 go_enter Tryz.func51,Tryz.ntmps51
 go_upto_region 3 with fail
 refine St.gen (St.alloc (St.alloc (St.start _))) ?_
 intro w1 S1
 try (simp only [World.size_alloc] at S1)
 have F1:=S1.out.facts
 simp only [St.Facts,cellFacts,apartFacts,and_true] at F1
 refine wp_loop_rounds 1 ?_
 rw [rounds_succ]
 have hmf : ∀ (fn : Fn) (first cap : Array Value) (w : World),(Instr.makeFunc fn first cap).run Tryz.prog w = .ok (.func fn first cap) w:=fun _ _ _ _=>rfl
 go_upto_region 11 with fail
 refine St.gen (St.alloc (S1.out)) ?_
 intro w2 S2
 try (simp only [List.set_cons_zero,List.set_cons_succ,List.setIfInBounds_toArray,World.size_alloc] at S2)
 clear F1 S1
 have F2:=S2.out.facts
 simp only [St.Facts,cellFacts,apartFacts,and_true] at F2
 go_wp2_with fail
 refine Calls.mono (idx62_any 103 _ Q (fun _=>true) [exTbl] _ _ enters202 (HD.out.kept (by decide) S2.out.below) (by decide) (fun W a cs hW ha hin=>?_)) ?_
 ·have e:=List.mem_singleton.1 ha
  subst e
  obtain ⟨ca',cc',ia',ic',ka',kc',rfl,_⟩:=hin
  have S3:=S2.out.kept hW
  exact clo202 _ ca' cc' ia' ic' ka' kc' W (by simp only [World.cell?,S3.blk 2 rfl]; rfl)
 rintro e w3 ⟨rfl,hb3⟩
 have S3:=Lib.hid (S2.out.kept hb3)
 clear hb3 F2 S2
 have F3:=S3.out.facts
 simp only [St.Facts,cellFacts,apartFacts,and_true] at F3
 obtain ⟨t0,t1,t2,t3,a0,a1,a2,b0,b1,b2⟩:=HT.out.kept S3.out.below
 simp only [show idxFrom (fun _=>true) 0 [exTbl] = 0 from rfl]
 go_upto_region 19 with fail
 refine wp_loop_rounds 3 ?_
 rw [rounds_succ]
 go_upto_region 21 with fail
 clear F3 t0 t1 t2 t3 a0 a1 a2 b0 b1 b2
 refine St.gen (St.alloc (S3.out)) ?_
 intro w4 S4
 try (simp only [List.set_cons_zero,List.set_cons_succ,List.setIfInBounds_toArray,World.size_alloc] at S4)
 clear S3
 have F4:=S4.out.facts
 simp only [St.Facts,cellFacts,apartFacts,and_true] at F4
 go_wp2_with (refine wpList_append_nil rfl (.tmp 58) (.tmp 61) 55 rfl 3 (.int .i64 0) 1 8 Tryz.underlying55 infoInt rfl (by decide) (St.laid S4.out) rfl _ 1 [.int .i64 1] rfl (by decide) (slAt_fresh (by decide)) rfl (by simp [Value.oneCell']) (by decide) (by unfold maxLen; decide) ?_; intro g cap zs w5 S5 hc1 hc2 hc3; simp only [List.cons_append,List.nil_append] at S5; have F5:=S5.out.facts; simp only [St.Facts,cellFacts,apartFacts,and_true] at F5)
 clear F4 S4
 obtain ⟨t0,t1,t2,t3,a0,a1,a2,b0,b1,b2⟩:=HT.out.kept S5.out.below
 rw [rounds_succ]
 go_upto_region 21 with fail
 clear F5 t0 t1 t2 t3 a0 a1 a2 b0 b1 b2
 refine St.gen (St.alloc (S5.out)) ?_
 intro w6 S6
 try (simp only [List.set_cons_zero,List.set_cons_succ,List.setIfInBounds_toArray,World.size_alloc] at S6)
 clear S5
 have F6:=S6.out.facts
 simp only [St.Facts,cellFacts,apartFacts,and_true] at F6
 go_wp2_with (refine wpList_append_on rfl (.tmp 58) (.tmp 61) 55 rfl 3 (.int .i64 0) 1 8 Tryz.underlying55 infoInt rfl (by decide) 1 (xs:=[.int .i64 1]) (zs:=zs) (St.laid S6.out) rfl rfl rfl hc1 hc2 hc3 _ 1 [.int .i64 1] rfl (by decide) (slAt_fresh (by decide)) rfl (by simp [Value.oneCell']) (by decide) (by unfold maxLen; decide) ?_; intro g7 cap7 zs7 w7 S7 hd1 hd2 hd3; simp only [List.cons_append,List.nil_append,List.set_cons_zero,List.set_cons_succ] at S7; have F7:=S7.out.facts; simp only [St.Facts,cellFacts,apartFacts,and_true] at F7)
 clear F6 S6
 rw [rounds_succ]
 go_wp2_with fail
 go_returns
 exact ⟨_,rfl,rSl_ints (i:=1) S7.out rfl hd1,S7.out.below⟩
end Go.Proofs.YtjmmbebkbkgefaaGreatDoor
namespace Go.Proofs.YtjmmbebkbkgefaaGreatDoor
open Go.RowKit Go.Sort
structure QV where
 k : Int:=0
 tb : Bytes:=[]
 s : SlP:=sl0
 xo : Int:=0
 xn : Int:=0
 xv : V:=V.null
 xa : SlP:=sl0
 c : SlP:=sl0
 g : SlP:=sl0
 a : SlP:=sl0
 o : SlP:=sl0
 n : Int:=0
def QV.arr (q : QV) : Array Value:=#[.int .i64 q.k,.string ⟨q.tb.toArray⟩,sl q.s,.int .i64 q.xo,.int .i64 q.xn,.int .i64 q.xv.k,.int .i64 q.xv.n,.string q.xv.s,sl q.xa,sl q.c,sl q.g,sl q.a,sl q.o,.int .i64 q.n]
theorem qv_size (q : QV) : (Tryz.prog.info? 59).map (·.size) = some q.arr.size:=by
 have : (Tryz.prog.info? 59).map (·.size) = some 14:=by kernel_rfl
 rw [this]; rfl
theorem qv_one (q : QV) : q.arr.all (·.oneCell') = true:=by unfold QV.arr sl; simp [Value.oneCell']
theorem qv_over (k : Int) (b : Nat) : Tryz.prog.built 59 [(0,.int .i64 k),(2,.slice (some ⟨b,0,none⟩) 1 1)] = some (QV.arr { k:=k,s:=(some ⟨b,0,none⟩,1,1) }):=by kernel_rfl
theorem qv_scan (x : Bytes) : Tryz.prog.built 59 [(0,.int .i64 1),(1,.string ⟨x.toArray⟩)] = some (QV.arr { k:=1,tb:=x }):=by kernel_rfl
theorem run_bsq (q : QV) (w : World) : (Instr.buildSlice 54 1 #[(0,.agg q.arr)]).run Tryz.prog w = .ok (.slice (some ⟨w.heap.size,0,none⟩) 1 1) (w.alloc (.cells q.arr 59)):=by kernel_rfl
section
variable {ops : Array Oper} {rest : List Oper} {o : Oper} {a : Act} {w : World} {Q : Exit→Act→World→Prop}
theorem wpList_bsq (hg : o.guard = none) (x : Operand) (ho : o.op = .buildSlice 54 1 #[(0,x)]) (q : QV) (hx : a.eval x = .agg q.arr)
  (h : wpList Tryz.prog ops Q rest (a.put o.dst (.slice (some ⟨w.heap.size,0,none⟩) 1 1)) (w.alloc (.cells q.arr 59))) : wpList Tryz.prog ops Q (o :: rest) a w:=by
 refine wpList_plain hg fun K hK=>?_
 unfold Oper.wp execOp
 simp only [ho,List.map_toArray,List.map_cons,List.map_nil,hx,Sem.run_bind,run_bsq,Result.andThen_ok,Sem.run_pure]
 exact hK _ _ h
end
theorem set_same {w : World} {b o : Nat} {v : Value} {cs : Array Value} {t : TypeId} (h : w.heap[b]? = some (.cells cs t (0,0))) (hv : cs[o]? = some v) : w.setCell ⟨b,o,none⟩ v = w:=by
 have e : (w.setCell ⟨b,o,none⟩ v).heap = w.heap:=by
  apply Array.ext_getElem?
  intro i
  simp only [World.setCell,Array.getElem?_modify]
  split
  ·rename_i hi
   subst hi
   have hc : cs.setIfInBounds o v = cs:=by
    apply Array.ext_getElem?
    intro j
    rw [Array.getElem?_setIfInBounds]
    split
    ·rename_i hj
     subst hj
     split
     ·exact hv.symm
     ·rename_i hn
      rw [Array.getElem?_eq_none (by omega)]
    ·rfl
   simp [h,hc]
  ·rfl
 have e2 : w.setCell ⟨b,o,none⟩ v = { w with heap:=(w.setCell ⟨b,o,none⟩ v).heap }:=rfl
 rw [e2,e]
theorem St.since {w0 w w' : World} {L : List Blk} {g : Nat} {cur : Array Value} {e : TypeId} (h : St w0 w L) (hbl : Below w.heap.size w w') (hge : w.heap.size≤g) (hb : w'.heap[g]? = some (.cells cur e (0,0))) : St w0 w' ((g,cur,e) :: L):=by
 have hk:=h.kept hbl
 refine ⟨hk.below,fun x hx=>?_,?_⟩
 ·rcases List.mem_cons.1 hx with rfl | hx
  ·exact ⟨Nat.le_trans h.below.size hge,hb⟩
  ·exact hk.own x hx
 ·simp only [List.map_cons,List.nodup_cons]
  refine ⟨fun hm=>?_,h.apart⟩
  obtain ⟨x,hx,e⟩:=List.mem_map.1 hm
  have:=(Array.getElem?_eq_some_iff.1 (h.own x hx).2).1
  omega
set_option maxRecDepth 100000 in
theorem fail_ok (bb : Nat) (sv : Value) (w : World) (h : w.heap[bb]? = some (.cells #[sv,.int .i64 0] 99 (0,0))) : Calls Tryz.prog 45 #[.pointer (some ⟨bb,0,none⟩),.int .i64 0] w (fun e w'=>e = .returned (.tuple #[])∧w' = w):=by
 have c1 : w.cell? ⟨bb,1,none⟩ = some (.int .i64 0):=by simp only [World.cell?,h]; rfl
 have f1 : w.frozen? ⟨bb,1,none⟩ = false:=by simp [World.frozen?,h]
 have hlt:=(Array.getElem?_eq_some_iff.1 h).1
 go_enter Tryz.func45,Tryz.ntmps45
 go_wp2_with fail
 go_returns
 exact ⟨rfl,set_same h rfl⟩
set_option maxRecDepth 100000 in
set_option maxHeartbeats 8000000 in
theorem over_any (k : Int) (q : QV) (w : World) : Calls Tryz.prog 43 #[.int .i64 k,.agg q.arr] w (fun e w'=>∃ nb,e = .returned (.agg (QV.arr { k:=k,s:=(some ⟨nb,0,none⟩,1,1) }))∧w.heap.size≤nb∧w'.heap[nb]? = some (.cells q.arr 59 (0,0))∧Below w.heap.size w w'):=by
 go_enter Tryz.func43,Tryz.ntmps43
 go_upto_region 1 with fail
 refine St.gen (St.alloc (St.alloc (St.start w) (cs:=q.arr) (t:=59)) (cs:=QV.arr {}) (t:=59)) ?_
 intro w1 S1
 simp only [World.size_alloc] at S1
 go_wp2_with (first | (refine wpList_load_row rfl 59 (.tmp 3) rfl w.heap.size rfl 59 q.arr (0,0) _ (S1.out.blk 1 rfl) Tryz.underlying59 rfl (qv_size _) ?_) | (refine wpList_bsq rfl (.tmp 6) rfl q rfl ?_) | (refine wpList_build_row rfl 59 _ rfl (QV.arr { k:=k,s:=(some ⟨w1.heap.size,0,none⟩,1,1) }) (qv_over k _) ?_) | (refine wpList_store_row rfl 59 (.tmp 4) (.tmp 8) rfl (w.heap.size + 1) (QV.arr { k:=k,s:=(some ⟨w1.heap.size,0,none⟩,1,1) }) rfl rfl 59 (QV.arr {}) ((St.alloc S1.out).blk 1 rfl) (qv_size _) rfl (qv_one _) ?_))
 have SE:=St.row 1 (QV.arr { k:=k,s:=(some ⟨w1.heap.size,0,none⟩,1,1) }) (St.alloc S1.out (cs:=q.arr) (t:=59)) rfl
 simp only [List.set_cons_zero,List.set_cons_succ] at SE
 refine bodyPost_ret (v:=.agg (QV.arr { k:=k,s:=(some ⟨w1.heap.size,0,none⟩,1,1) })) (results_cell_row rfl _ _ (w.heap.size + 1) 59 (QV.arr { k:=k,s:=(some ⟨w1.heap.size,0,none⟩,1,1) }) (0,0) _ rfl (SE.blk 1 rfl) Tryz.underlying59 rfl (qv_size _)) rfl ?_
 exact ⟨w1.heap.size,rfl,S1.out.below.size,SE.blk 0 rfl,SE.below⟩
end Go.Proofs.YtjmmbebkbkgefaaGreatDoor
namespace Go.Proofs.YtjmmbebkbkgefaaGreatDoor
open Go.RowKit Go.Sort
set_option maxRecDepth 100000 in
set_option maxHeartbeats 8000000 in
theorem bres_any (nm : Bytes) (k : Int) (bb : Nat) (ta : Option Addr) (tc : Nat) (na : Option Addr) (nc : Nat) (w : World) (hb : w.heap[bb]? = some (.cells #[.slice ta 1 tc,.int .i64 0] 99 (0,0))) (htc : 1≤tc)
  (CR : Hid (∀ W,Below w.heap.size w W→Calls Tryz.prog 9 #[.slice ta 1 tc,.agg #[.int .i64 1,.string ⟨#[]⟩,.string ⟨nm.toArray⟩,.int .i64 0,.int .i64 0,.string ⟨#[]⟩,.slice na 0 nc]] W (Says (.tuple #[.agg #[.int .i64 1,.int .i64 k,.int .i64 0,.int .i64 0,.string ⟨#[]⟩,.slice none 0 0],.int .i64 0]) W))) :
  Calls Tryz.prog 41 #[.pointer (some ⟨bb,0,none⟩),.int .i64 1,.agg #[.int .i64 1,.string ⟨#[]⟩,.string ⟨nm.toArray⟩,.int .i64 0,.int .i64 0,.string ⟨#[]⟩,.slice na 0 nc]] w (Says (.agg #[.int .i64 1,.int .i64 k,.int .i64 0,.int .i64 0,.string ⟨#[]⟩,.slice none 0 0]) w):=by
 have htci : (1 : Int)≤(tc : Int):=by omega
 have HB:=Lib.hid hb
 have hlt : bb < w.heap.size:=(Array.getElem?_eq_some_iff.1 hb).1
 clear hb
 go_enter Tryz.func41,Tryz.ntmps41
 go_upto_region 1 with fail
 refine St.gen (St.alloc (St.alloc (St.start _))) ?_
 intro w1 S1
 try (simp only [World.size_alloc] at S1)
 have hb1 : w1.heap[bb]? = some (.cells #[.slice ta 1 tc,.int .i64 0] 99 (0,0)):=by rw [S1.out.below.block bb hlt]; exact HB.out
 have c1 : w1.cell? ⟨bb,1,none⟩ = some (.int .i64 0):=by simp only [World.cell?,hb1]; rfl
 have hlt1:=block_lt_of_cell c1
 go_upto_region 3 with fail
 have c0 : w1.cell? ⟨bb,0,none⟩ = some (.slice ta 1 tc):=by simp only [World.cell?,hb1]; rfl
 replace c0:=cell_regrown c0
 clear c1 hb1
 have FG:=S1.out.factsG
 simp only [St.FactsG,cellFactsG,and_true] at FG
 have CC : Hid (∀ (d : Nat) (os : Array Obj),Calls Tryz.prog 9 #[.slice ta 1 tc,.agg #[.int .i64 1,.string ⟨#[]⟩,.string ⟨nm.toArray⟩,.int .i64 0,.int .i64 0,.string ⟨#[]⟩,.slice na 0 nc]] (grow (redrawn w1 d) os) fun e w'=>e = .returned (.tuple #[.agg #[.int .i64 1,.int .i64 k,.int .i64 0,.int .i64 0,.string ⟨#[]⟩,.slice none 0 0],.int .i64 0])∧Laid (grow (redrawn w1 d) os) w'):=
  fun d os=>CR.out _ (S1.out.kept (below_regrown w1 d os)).below
 refine wp_region_mixed 14 [(0,false),(1,false),(2,false),(3,false),(4,false),(5,false),(6,false),(7,false),(8,false),(9,false),(10,false),(11,true),(12,true),(13,false)] (by kernel_rfl) (by kernel_rfl) ?_
 repeat (refine wpM_mild rfl (fun K hK=>?_); go_simp; first | (refine hK _ ?_; clear hK K) | (apply Exists.intro; refine ⟨fun _=>?_,hK _ ?_⟩; (exact CC.out _ _); clear hK K))
 clear c0 FG hlt1 CC
 refine wpM_eff rfl ?_
 intro w3 hb3 hb03
 have S3:=Lib.hid (S1.out.kept hb3)
 have T3:=Lib.hid ((St.start w1).kept hb3)
 clear hb3 hb03 S1
 go_wp2_with fail
 refine ⟨(St.alloc T3.out).below,wpM_eff rfl ?_⟩
 intro w4 hb4 hb04
 have S4:=Lib.hid ((St.alloc S3.out).kept hb4)
 have T4:=Lib.hid ((St.alloc T3.out).kept hb4)
 clear hb4 hb04 S3 T3
 generalize w3.heap.size = ob at S4 T4 ⊢
 have zh : w4.heap[ob]? = some (.cells #[.int .i64 0,.int .i64 0,.int .i64 0,.int .i64 0,.string ⟨#[]⟩,.slice none 0 0] 49 (0,0)):=S4.out.blk 0 rfl
 have z0 : w4.cell? ⟨ob,0,none⟩ = some (.int .i64 0):=by simp only [World.cell?,zh]; rfl
 have zf0 : w4.frozen? ⟨ob,0,none⟩ = false:=by simp [World.frozen?,zh]
 have z1 : w4.cell? ⟨ob,1,none⟩ = some (.int .i64 0):=by simp only [World.cell?,zh]; rfl
 have zf1 : w4.frozen? ⟨ob,1,none⟩ = false:=by simp [World.frozen?,zh]
 have z2 : w4.cell? ⟨ob,2,none⟩ = some (.int .i64 0):=by simp only [World.cell?,zh]; rfl
 have zf2 : w4.frozen? ⟨ob,2,none⟩ = false:=by simp [World.frozen?,zh]
 have z3 : w4.cell? ⟨ob,3,none⟩ = some (.int .i64 0):=by simp only [World.cell?,zh]; rfl
 have zf3 : w4.frozen? ⟨ob,3,none⟩ = false:=by simp [World.frozen?,zh]
 have z4 : w4.cell? ⟨ob,4,none⟩ = some (.string ⟨#[]⟩):=by simp only [World.cell?,zh]; rfl
 have zf4 : w4.frozen? ⟨ob,4,none⟩ = false:=by simp [World.frozen?,zh]
 have z5 : w4.cell? ⟨ob,5,none⟩ = some (.slice none 0 0):=by simp only [World.cell?,zh]; rfl
 have zf5 : w4.frozen? ⟨ob,5,none⟩ = false:=by simp [World.frozen?,zh]
 have zl:=block_lt_of_cell z0
 clear zh
 go_wp2_with fail
 clear z0 z1 z2 z3 z4 z5 zf0 zf1 zf2 zf3 zf4 zf5 zl
 refine ⟨(St.setsL (i:=0) [.int .i64 1,.int .i64 k,.int .i64 0,.int .i64 0,.string ⟨#[]⟩,.slice none 0 0] 0 _ _ _ T4.out rfl).below,?_⟩
 repeat (refine wpM_mild rfl (fun K hK=>?_); go_simp; first | (refine hK _ ?_; clear hK K) | (apply Exists.intro; refine ⟨fun _=>?_,hK _ ?_⟩; (fail); clear hK K))
 refine wpM_end ?_
 intro w5 hb5 _
 have S5:=Lib.hid ((St.setsL (i:=0) [.int .i64 1,.int .i64 k,.int .i64 0,.int .i64 0,.string ⟨#[]⟩,.slice none 0 0] 0 _ _ _ S4.out rfl).kept hb5)
 clear hb5 S4 T4
 simp only [List.set_cons_zero] at S5
 have hb5 : w5.heap[bb]? = some (.cells #[.slice ta 1 tc,.int .i64 0] 99 (0,0)):=by rw [S5.out.below.block bb hlt]; exact HB.out
 go_wp2_with fail
 refine Calls.mono (fail_ok bb _ w5 hb5) ?_
 rintro e w6 ⟨rfl,rfl⟩
 clear hb5
 have zh : w6.heap[ob]? = some (.cells #[.int .i64 1,.int .i64 k,.int .i64 0,.int .i64 0,.string ⟨#[]⟩,.slice none 0 0] 49 (0,0)):=S5.out.blk 0 rfl
 have z0 : w6.cell? ⟨ob,0,none⟩ = some (.int .i64 1):=by simp only [World.cell?,zh]; rfl
 have z1 : w6.cell? ⟨ob,1,none⟩ = some (.int .i64 k):=by simp only [World.cell?,zh]; rfl
 have z2 : w6.cell? ⟨ob,2,none⟩ = some (.int .i64 0):=by simp only [World.cell?,zh]; rfl
 have z3 : w6.cell? ⟨ob,3,none⟩ = some (.int .i64 0):=by simp only [World.cell?,zh]; rfl
 have z4 : w6.cell? ⟨ob,4,none⟩ = some (.string ⟨#[]⟩):=by simp only [World.cell?,zh]; rfl
 have z5 : w6.cell? ⟨ob,5,none⟩ = some (.slice none 0 0):=by simp only [World.cell?,zh]; rfl
 have zl:=block_lt_of_cell z0
 clear zh
 have yh : w6.heap[(w.heap.size + 1)]? = some (.cells #[.int .i64 0,.int .i64 0,.int .i64 0,.int .i64 0,.string ⟨#[]⟩,.slice none 0 0] 49 (0,0)):=S5.out.blk 1 rfl
 have y0 : w6.cell? ⟨w.heap.size + 1,0,none⟩ = some (.int .i64 0):=by simp only [World.cell?,yh]; rfl
 have yf0 : w6.frozen? ⟨w.heap.size + 1,0,none⟩ = false:=by simp [World.frozen?,yh]
 have y1 : w6.cell? ⟨w.heap.size + 1,1,none⟩ = some (.int .i64 0):=by simp only [World.cell?,yh]; rfl
 have yf1 : w6.frozen? ⟨w.heap.size + 1,1,none⟩ = false:=by simp [World.frozen?,yh]
 have y2 : w6.cell? ⟨w.heap.size + 1,2,none⟩ = some (.int .i64 0):=by simp only [World.cell?,yh]; rfl
 have yf2 : w6.frozen? ⟨w.heap.size + 1,2,none⟩ = false:=by simp [World.frozen?,yh]
 have y3 : w6.cell? ⟨w.heap.size + 1,3,none⟩ = some (.int .i64 0):=by simp only [World.cell?,yh]; rfl
 have yf3 : w6.frozen? ⟨w.heap.size + 1,3,none⟩ = false:=by simp [World.frozen?,yh]
 have y4 : w6.cell? ⟨w.heap.size + 1,4,none⟩ = some (.string ⟨#[]⟩):=by simp only [World.cell?,yh]; rfl
 have yf4 : w6.frozen? ⟨w.heap.size + 1,4,none⟩ = false:=by simp [World.frozen?,yh]
 have y5 : w6.cell? ⟨w.heap.size + 1,5,none⟩ = some (.slice none 0 0):=by simp only [World.cell?,yh]; rfl
 have yf5 : w6.frozen? ⟨w.heap.size + 1,5,none⟩ = false:=by simp [World.frozen?,yh]
 have yl:=block_lt_of_cell y0
 clear yh
 have hne : ob ≠ w.heap.size + 1:=by
  have:=S5.out.facts
  simp only [St.Facts,apartFacts,and_true] at this
  omega
 go_wp2_with fail
 clear z0 z1 z2 z3 z4 z5 zl y0 y1 y2 y3 y4 y5 yf0 yf1 yf2 yf3 yf4 yf5 yl
 refine bodyGen (fun W=>St w W _) (St.setsL (i:=1) [.int .i64 1,.int .i64 k,.int .i64 0,.int .i64 0,.string ⟨#[]⟩,.slice none 0 0] 0 _ _ _ S5.out rfl) ?_
 intro w9 S9'
 have S9:=Lib.hid S9'
 clear S9' S5
 simp only [List.set_cons_zero,List.set_cons_succ] at S9
 have F9 : w9.heap[w.heap.size + 1]? = some (.cells #[.int .i64 1,.int .i64 k,.int .i64 0,.int .i64 0,.string ⟨#[]⟩,.slice none 0 0] 49 (0,0)):=S9.out.blk 1 rfl
 have c0 : w9.cell? ⟨w.heap.size + 1,0,none⟩ = some (.int .i64 1):=by simp only [World.cell?,F9]; rfl
 have c1 : w9.cell? ⟨w.heap.size + 1,1,none⟩ = some (.int .i64 k):=by simp only [World.cell?,F9]; rfl
 have c2 : w9.cell? ⟨w.heap.size + 1,2,none⟩ = some (.int .i64 0):=by simp only [World.cell?,F9]; rfl
 have c3 : w9.cell? ⟨w.heap.size + 1,3,none⟩ = some (.int .i64 0):=by simp only [World.cell?,F9]; rfl
 have c4 : w9.cell? ⟨w.heap.size + 1,4,none⟩ = some (.string ⟨#[]⟩):=by simp only [World.cell?,F9]; rfl
 have c5 : w9.cell? ⟨w.heap.size + 1,5,none⟩ = some (.slice none 0 0):=by simp only [World.cell?,F9]; rfl
 refine bodyPost_ret (v:=.agg #[.int .i64 1,.int .i64 k,.int .i64 0,.int .i64 0,.string ⟨#[]⟩,.slice none 0 0]) (by simp [results,Tryz.results41,go_sem,c0,c1,c2,c3,c4,c5]) rfl ?_
 exact ⟨rfl,S9.out.below⟩
section
set_option maxRecDepth 100000
set_option maxHeartbeats 4000000
theorem index143_nil (a : Option Addr) (c : Nat) (s : ByteArray) (w : World) : Calls Tryz.prog 93 #[.slice a 0 c,.string s] w (Says (.int .i64 (-1)) w):=by
 go_enter Tryz.func93,Tryz.ntmps93
 go_wp2_with fail
 refine wp_loop_rounds 1 ?_
 rw [rounds_succ]
 go_wp2_with fail
 go_returns
 exact ⟨rfl,Below.refl _ _⟩
theorem contains64_nil (a : Option Addr) (c : Nat) (s : ByteArray) (w : World) : Calls Tryz.prog 40 #[.slice a 0 c,.string s] w (Says (.bool false) w):=by
 go_enter Tryz.func40,Tryz.ntmps40
 go_wp2_with fail
 refine Calls.mono (index143_nil a c s w) ?_
 rintro e w1 ⟨rfl,hb1⟩
 go_wp2_with fail
 go_returns
 exact ⟨rfl,hb1⟩
theorem index70_nil (a : Option Addr) (c : Nat) (n : Int) (w : World) : Calls Tryz.prog 46 #[.slice a 0 c,.int .i64 n] w (Says (.int .i64 (-1)) w):=by
 go_enter Tryz.func46,Tryz.ntmps46
 go_wp2_with fail
 refine wp_loop_rounds 1 ?_
 rw [rounds_succ]
 go_wp2_with fail
 go_returns
 exact ⟨rfl,Below.refl _ _⟩
theorem contains68_nil (a : Option Addr) (c : Nat) (n : Int) (w : World) : Calls Tryz.prog 44 #[.slice a 0 c,.int .i64 n] w (Says (.bool false) w):=by
 go_enter Tryz.func44,Tryz.ntmps44
 go_wp2_with fail
 refine Calls.mono (index70_nil a c n w) ?_
 rintro e w1 ⟨rfl,hb1⟩
 go_wp2_with fail
 go_returns
 exact ⟨rfl,hb1⟩
theorem index70_hit (g c : Nat) (w : World) (h : w.cell? ⟨g,0,none⟩ = some (.int .i64 0)) : Calls Tryz.prog 46 #[.slice (some ⟨g,0,none⟩) 1 c,.int .i64 0] w (Says (.int .i64 0) w):=by
 have hl:=block_lt_of_cell h
 go_enter Tryz.func46,Tryz.ntmps46
 go_wp2_with fail
 refine wp_loop_rounds 2 ?_
 rw [rounds_succ]
 go_wp2_with fail
 go_returns
 exact ⟨rfl,Below.refl _ _⟩
theorem enters63 : En 39:=enters_of Tryz.func39 (by kernel_rfl) rfl
theorem clo63 (nb : Nat) (ca : Option Addr) (cc : Nat) (ia : Option Addr) (ic : Nat) (ka : Option Addr) (kc : Nat) (w : World) (h1 : w.cell? ⟨nb,0,none⟩ = some (.string ⟨[116].toArray⟩)) :
  Calls Tryz.prog 39 #[.agg #[.string ⟨[116].toArray⟩,.slice ca 2 cc,.slice ia 0 ic,.slice ka 0 kc],.pointer (some ⟨nb,0,none⟩)] w (Says (.bool true) w):=by
 have l1:=block_lt_of_cell h1
 go_enter Tryz.func39,Tryz.ntmps39
 go_wp2_with fail
 go_returns
 exact ⟨rfl,(Below.refl _ _).alloc (Nat.le_refl _) _⟩
end
def exScan : Qy:=.mk 1 [116] [] (.mk 0 0 V.null []) [] [] [] [] 0
def exGroup : Qy:=.mk 5 [] [exScan] (.mk 0 0 V.null []) [] [0] [⟨2,Xp.col 1⟩] [] 0
def exProject : Qy:=.mk 3 [] [exGroup] (.mk 0 0 V.null []) [Xp.col 0,Xp.col 1] [] [] [] 0
def exOrder : Qy:=.mk 6 [] [exProject] (.mk 0 0 V.null []) [] [] [] [⟨1,true⟩] 0
def exLimit : Qy:=.mk 7 [] [exOrder] (.mk 0 0 V.null []) [] [] [] [] 3
theorem schema_scan (Q : Nat→Prop) (dv : Value) (cs : List Value) (w : World) (hd : RSl tblE Q w dv [exTbl]) (hq : QyIn Q w exScan cs) : Calls Tryz.prog 51 #[dv,.agg cs.toArray] w (RetInts w [1,1]):=by
 obtain ⟨sa,sc,xa,xc,ca,cc,ga,gc,aa,ac,oa,oc,rfl,h1,h2,h3,h4,h5,h6⟩:=qyIn_of hq
 exact schema_1 Q dv sa xa ca ga aa oa sc xc cc gc ac oc w hd
theorem schema_group (Q : Nat→Prop) (dv : Value) (cs : List Value) (w : World) (hd : RSl tblE Q w dv [exTbl]) (hq : QyIn Q w exGroup cs) : Calls Tryz.prog 51 #[dv,.agg cs.toArray] w (RetInts w [1,1]):=by
 obtain ⟨sa,sc,xa,xc,ca,cc,ga,gc,aa,ac,oa,oc,rfl,h1,h2,h3,h4,h5,h6⟩:=qyIn_of hq
 exact schema_5 Q dv exScan sa xa ca ga aa oa sc xc cc gc ac oc w h1 h4 h5 (fun W cs hW hq'=>schema_scan Q dv cs W (hd.kept (by decide) hW) hq')
theorem schema_project (Q : Nat→Prop) (dv : Value) (cs : List Value) (w : World) (hd : RSl tblE Q w dv [exTbl]) (hq : QyIn Q w exProject cs) : Calls Tryz.prog 51 #[dv,.agg cs.toArray] w (RetInts w [1,1]):=by
 obtain ⟨sa,sc,xa,xc,ca,cc,ga,gc,aa,ac,oa,oc,rfl,h1,h2,h3,h4,h5,h6⟩:=qyIn_of hq
 exact schema_3 Q dv exGroup sa xa ca ga aa oa sc xc cc gc ac oc w h1 h3 (fun W cs hW hq'=>schema_group Q dv cs W (hd.kept (by decide) hW) hq')
theorem schema_order (Q : Nat→Prop) (dv : Value) (cs : List Value) (w : World) (hd : RSl tblE Q w dv [exTbl]) (hq : QyIn Q w exOrder cs) : Calls Tryz.prog 51 #[dv,.agg cs.toArray] w (RetInts w [1,1]):=by
 obtain ⟨sa,sc,xa,xc,ca,cc,ga,gc,aa,ac,oa,oc,rfl,h1,h2,h3,h4,h5,h6⟩:=qyIn_of hq
 exact schema_6 Q dv exProject sa xa ca ga aa oa sc xc cc gc ac oc w h1 h6 (fun W cs hW hq'=>schema_project Q dv cs W (hd.kept (by decide) hW) hq')
theorem schema_limit (Q : Nat→Prop) (dv : Value) (cs : List Value) (w : World) (hd : RSl tblE Q w dv [exTbl]) (hq : QyIn Q w exLimit cs) : Calls Tryz.prog 51 #[dv,.agg cs.toArray] w (RetInts w [1,1]):=by
 obtain ⟨sa,sc,xa,xc,ca,cc,ga,gc,aa,ac,oa,oc,rfl,h1,h2,h3,h4,h5,h6⟩:=qyIn_of hq
 exact schema_7 Q dv exOrder sa xa ca ga aa oa sc xc cc gc ac oc w h1 (fun W cs hW hq'=>schema_order Q dv cs W (hd.kept (by decide) hW) hq')
set_option maxRecDepth 100000 in
set_option maxHeartbeats 4000000 in
theorem schema72 (Q : Nat→Prop) (dv : Value) (q : QV) (w : World) (hd : RSl tblE Q w dv [exTbl]) (hq : QyIn Q w exLimit q.arr.toList) : Calls Tryz.prog 14 #[dv,.agg q.arr] w (RetInts w [1,1]):=by
 have C1 : Hid (∀ W,Below w.heap.size w W→Calls Tryz.prog 49 #[.agg q.arr] W (Says (.int .i64 5) W)):=fun W hW=>qsize_any Q exLimit q.arr.toList W (qyIn_move (fun b hl k=>⟨k,hW.block b hl⟩) _ _ hq) (by decide)
 have C2 : Hid (∀ W,Below w.heap.size w W→Calls Tryz.prog 50 #[.agg q.arr] W (Says (.bool true) W)):=fun W hW=>qformed_any Q exLimit q.arr.toList W (qyIn_move (fun b hl k=>⟨k,hW.block b hl⟩) _ _ hq) (by decide) (by decide)
 have C3 : Hid (∀ W,Below w.heap.size w W→Calls Tryz.prog 51 #[dv,.agg q.arr] W (RetInts W [1,1])):=fun W hW=>schema_limit Q dv q.arr.toList W (hd.kept (by decide) hW) (qyIn_move (fun b hl k=>⟨k,hW.block b hl⟩) _ _ hq)
 clear hd hq
 go_enter Tryz.func14,Tryz.ntmps14
 go_upto_region 1 with fail
 refine St.gen (St.alloc (St.start w) (cs:=q.arr) (t:=59)) ?_
 intro w1 S1
 go_wp2_with (refine wpList_load_row rfl 59 (.tmp 3) rfl w.heap.size rfl 59 q.arr (0,0) _ (S1.out.blk 0 rfl) Tryz.underlying59 rfl (qv_size _) ?_)
 refine Calls.mono (C1.out _ S1.out.below) ?_
 rintro e w2 ⟨rfl,hb2⟩
 have S2:=Lib.hid (S1.out.kept hb2)
 clear hb2 S1 C1
 go_wp2_with (refine wpList_load_row rfl 59 (.tmp 3) rfl w.heap.size rfl 59 q.arr (0,0) _ (S2.out.blk 0 rfl) Tryz.underlying59 rfl (qv_size _) ?_)
 refine Calls.mono (C2.out _ S2.out.below) ?_
 rintro e w3 ⟨rfl,hb3⟩
 have S3:=Lib.hid (S2.out.kept hb3)
 clear hb3 S2 C2
 go_wp2_with (refine wpList_load_row rfl 59 (.tmp 3) rfl w.heap.size rfl 59 q.arr (0,0) _ (S3.out.blk 0 rfl) Tryz.underlying59 rfl (qv_size _) ?_)
 refine Calls.mono (C3.out _ S3.out.below) ?_
 rintro e w4 ⟨v4,rfl,hv4,hb4⟩
 have S4:=Lib.hid (S3.out.kept hb4)
 have HV4:=Lib.hid hv4
 have hsz:=Lib.hid S3.out.below.size
 clear hb4 hv4 S3 C3
 go_wp2_with fail
 go_returns
 exact ⟨_,rfl,rSl_mono HV4.out (by decide) (fun b hb=>Nat.le_trans hsz.out hb),S4.out.below⟩
theorem St.sub {w0 w : World} {L L' : List Blk} (h : St w0 w L) (hs : L'.Sublist L) : St w0 w L':=
 ⟨h.below,fun x hx=>h.own x (hs.subset hx),h.apart.sublist (hs.map _)⟩
theorem blk_cell {w : World} {b o : Nat} {cs : Array Value} {t : TypeId} {v : Value} (h : w.heap[b]? = some (.cells cs t (0,0))) (hv : cs[o]? = some v) : w.cell? ⟨b,o,none⟩ = some v∧w.frozen? ⟨b,o,none⟩ = false∧b < w.heap.size:=
 ⟨by simp only [World.cell?,h]; exact hv,by simp [World.frozen?,h],(Array.getElem?_eq_some_iff.1 h).1⟩
theorem infoOd : (Tryz.prog.info? 160).map (fun i=>(i.zero,i.size,i.bytes)) = some (some (.agg #[.int .i64 0,.bool false]),2,16):=by kernel_rfl
set_option maxRecDepth 100000 in
set_option maxHeartbeats 8000000 in
theorem shape_ex (Q : Nat→Prop) (bb : Nat) (sv : Value) (q : QV) (xa : Array Value) (so : Option Addr) (sc : Nat) (ia : Option Addr) (ic : Nat) (w : World) (_hb : w.heap[bb]? = some (.cells #[sv,.int .i64 0] 99 (0,0))) (h0 : xa[0]? = some (.bool false)) (h12 : xa[12]? = some (.slice so 1 sc)) (h13 : xa[13]? = some (.int .i64 3))
  (hs : RSl srtE Q w (.slice so 1 sc) [⟨2,true⟩]) :
  Calls Tryz.prog 47 #[.pointer (some ⟨bb,0,none⟩),.agg q.arr,.agg xa,.slice ia 2 ic] w (fun e w'=>∃ n1 n2 n3 g cap zs,e = .returned (.agg (QV.arr { k:=7,s:=(some ⟨n3,0,none⟩,1,1),n:=3 }))∧1≤cap ∧
   St w w' [(n3,QV.arr { k:=6,s:=(some ⟨n2,0,none⟩,1,1),o:=(some ⟨g,0,none⟩,1,cap) },59),(g,(.int .i64 1 :: .bool true :: zs).toArray,160),(n2,QV.arr { k:=3,s:=(some ⟨n1,0,none⟩,1,1),c:=(ia,2,ic) },59),(n1,q.arr,59)]):=by
 have HS:=Lib.hid hs
 clear hs
 go_enter Tryz.func47,Tryz.ntmps47
 go_upto_region 1 with fail
 refine St.gen (St.alloc (St.alloc (St.alloc (St.start w) (cs:=q.arr) (t:=59)) (cs:=xa) (t:=44)) (cs:=QV.arr {}) (t:=59)) ?_
 intro w1 S1
 simp only [World.size_alloc] at S1
 go_upto_region 3 with fail
 go_wp2_with (refine wpList_load_row rfl 59 (.tmp 5) rfl w.heap.size rfl 59 q.arr (0,0) _ (S1.out.blk 2 rfl) Tryz.underlying59 rfl (qv_size _) ?_)
 refine Calls.mono (over_any 3 q w1) ?_
 rintro e w2 ⟨n1,rfl,hge,hbk,hbl⟩
 have S2:=Lib.hid (St.since S1.out hbl hge hbk)
 clear hge hbk hbl S1
 go_upto_region 4 with (refine wpList_store_row rfl 59 (.tmp 5) (.tmp 19) rfl w.heap.size (QV.arr { k:=3,s:=(some ⟨n1,0,none⟩,1,1) }) rfl rfl 59 q.arr (S2.out.blk 3 rfl) (qv_size _) rfl (qv_one _) ?_)
 refine St.gen (St.row 3 (QV.arr { k:=3,s:=(some ⟨n1,0,none⟩,1,1) }) S2.out rfl) ?_
 intro w3 S3
 clear S2
 simp only [List.set_cons_zero,List.set_cons_succ] at S3
 obtain ⟨c9,f9,l9⟩:=blk_cell (o:=9) (S3.out.blk 3 rfl) rfl
 go_upto_region 10 with fail
 refine St.gen (St.set 3 (o:=9) (v:=.slice ia 2 ic) S3.out rfl) ?_
 intro w4 S4'
 have S4 : Hid (St w w4 [(n1,q.arr,59),(w.heap.size + 1 + 1,QV.arr {},59),(w.heap.size + 1,xa,44),(w.heap.size,QV.arr { k:=3,s:=(some ⟨n1,0,none⟩,1,1),c:=(ia,2,ic) },59)]):=S4'.out
 clear S4' S3 c9 f9 l9
 obtain ⟨x0,_,lx⟩:=blk_cell (o:=0) (S4.out.blk 2 rfl) h0
 obtain ⟨x12,_,_⟩:=blk_cell (o:=12) (S4.out.blk 2 rfl) h12
 go_upto_region 13 with fail
 clear x0 x12 lx
 go_wp2_with (refine wpList_load_row rfl 59 (.tmp 5) rfl w.heap.size rfl 59 (QV.arr { k:=3,s:=(some ⟨n1,0,none⟩,1,1),c:=(ia,2,ic) }) (0,0) _ (S4.out.blk 3 rfl) Tryz.underlying59 rfl (qv_size _) ?_)
 refine Calls.mono (over_any 6 { k:=3,s:=(some ⟨n1,0,none⟩,1,1),c:=(ia,2,ic) } w4) ?_
 rintro e w5 ⟨n2,rfl,hge,hbk,hbl⟩
 have S5:=Lib.hid (St.since S4.out hbl hge hbk)
 clear hge hbk hbl S4
 go_upto_region 14 with (refine wpList_store_row rfl 59 (.tmp 5) (.tmp 46) rfl w.heap.size (QV.arr { k:=6,s:=(some ⟨n2,0,none⟩,1,1) }) rfl rfl 59 (QV.arr { k:=3,s:=(some ⟨n1,0,none⟩,1,1),c:=(ia,2,ic) }) (S5.out.blk 4 rfl) (qv_size _) rfl (qv_one _) ?_)
 refine St.gen (St.row 4 (QV.arr { k:=6,s:=(some ⟨n2,0,none⟩,1,1) }) S5.out rfl) ?_
 intro w6 S6
 clear S5
 simp only [List.set_cons_zero,List.set_cons_succ] at S6
 obtain ⟨x12,_,lx⟩:=blk_cell (o:=12) (S6.out.blk 3 rfl) h12
 obtain ⟨b,o,cp,cs,hbo,hin,hat⟩:=(HS.out.kept (by decide) S6.out.below).at (k:=0) rfl
 injection hbo with e1 e3 e2
 subst e1 e2
 clear e3
 have e : cs = [.int .i64 2,.bool true]:=hin
 subst e
 have y0:=hat 0 _ rfl
 have y1:=hat 1 _ rfl
 simp only [Nat.zero_mul,Nat.add_zero] at y0 y1
 have ly:=block_lt_of_cell y0
 clear hat hin
 go_upto_region 15 with fail
 refine wp_loop_rounds 2 ?_
 rw [rounds_succ]
 go_upto_region 17 with fail
 clear y0 y1 ly x12 lx
 refine St.gen (St.alloc S6.out (cs:=#[.int .i64 2,.bool true]) (t:=156)) ?_
 intro w7 S7
 clear S6
 generalize w6.heap.size = eb at S7 ⊢
 obtain ⟨z0,_,lz⟩:=blk_cell (o:=0) (S7.out.blk 0 rfl) rfl
 obtain ⟨z1,_,_⟩:=blk_cell (o:=1) (S7.out.blk 0 rfl) rfl
 obtain ⟨c12,f12,l12⟩:=blk_cell (o:=12) (S7.out.blk 5 rfl) rfl
 simp only [sl0] at c12
 go_upto_region 19 with fail
 go_wp2_with (refine wpList_append_nil rfl (.tmp 66) (.tmp 73) 57 rfl 160 (.agg #[.int .i64 0,.bool false]) 2 16 Tryz.underlying57 infoOd rfl (by decide) (St.laid S7.out) rfl _ 1 [.int .i64 1,.bool true] rfl (by decide) (slAt_fresh (by decide)) rfl (by simp [Value.oneCell']) (by decide) (by unfold maxLen; decide) ?_; intro g cap zs w8 S8 hc1 hc2 hc3; simp only [List.cons_append,List.nil_append] at S8; obtain ⟨d12,k12,j12⟩:=blk_cell (o:=12) (S8.out.blk 6 rfl) rfl)
 clear S7 z0 z1 lz c12 f12 l12 d12 k12 j12
 have S9:=St.set 6 (o:=12) (v:=.slice (some ⟨g,0,none⟩) 1 cap) S8.out rfl
 clear S8
 rw [rounds_succ]
 go_upto_region 21 with fail
 refine St.gen S9 ?_
 intro w9 S9'
 have S9 : Hid (St w w9 [(g,(.int .i64 1 :: .bool true :: zs).toArray,160),(eb,#[.int .i64 2,.bool true],156),(n2,QV.arr { k:=3,s:=(some ⟨n1,0,none⟩,1,1),c:=(ia,2,ic) },59),(n1,q.arr,59),(w.heap.size + 1 + 1,QV.arr {},59),(w.heap.size + 1,xa,44),(w.heap.size,QV.arr { k:=6,s:=(some ⟨n2,0,none⟩,1,1),o:=(some ⟨g,0,none⟩,1,cap) },59)]):=S9'.out
 clear S9'
 obtain ⟨x13,_,lx⟩:=blk_cell (o:=13) (S9.out.blk 5 rfl) h13
 go_upto_region 22 with fail
 go_wp2_with (refine wpList_load_row rfl 59 (.tmp 5) rfl w.heap.size rfl 59 (QV.arr { k:=6,s:=(some ⟨n2,0,none⟩,1,1),o:=(some ⟨g,0,none⟩,1,cap) }) (0,0) _ (S9.out.blk 6 rfl) Tryz.underlying59 rfl (qv_size _) ?_)
 refine Calls.mono (over_any 7 { k:=6,s:=(some ⟨n2,0,none⟩,1,1),o:=(some ⟨g,0,none⟩,1,cap) } w9) ?_
 rintro e w10 ⟨n3,rfl,hge,hbk,hbl⟩
 have S10:=Lib.hid (St.since S9.out hbl hge hbk)
 clear hge hbk hbl S9 x13 lx
 go_upto_region 23 with (refine wpList_store_row rfl 59 (.tmp 5) (.tmp 81) rfl w.heap.size (QV.arr { k:=7,s:=(some ⟨n3,0,none⟩,1,1) }) rfl rfl 59 (QV.arr { k:=6,s:=(some ⟨n2,0,none⟩,1,1),o:=(some ⟨g,0,none⟩,1,cap) }) (S10.out.blk 7 rfl) (qv_size _) rfl (qv_one _) ?_)
 refine St.gen (St.row 7 (QV.arr { k:=7,s:=(some ⟨n3,0,none⟩,1,1) }) S10.out rfl) ?_
 intro w11 S11
 clear S10
 simp only [List.set_cons_zero,List.set_cons_succ] at S11
 obtain ⟨x13,_,lx⟩:=blk_cell (o:=13) (S11.out.blk 6 rfl) h13
 obtain ⟨c13,f13,l13⟩:=blk_cell (o:=13) (S11.out.blk 7 rfl) rfl
 go_upto_region 24 with fail
 refine St.gen (St.set 7 (o:=13) (v:=.int .i64 3) S11.out rfl) ?_
 intro w12 S12'
 have S12 : Hid (St w w12 [(n3,QV.arr { k:=6,s:=(some ⟨n2,0,none⟩,1,1),o:=(some ⟨g,0,none⟩,1,cap) },59),(g,(.int .i64 1 :: .bool true :: zs).toArray,160),(eb,#[.int .i64 2,.bool true],156),(n2,QV.arr { k:=3,s:=(some ⟨n1,0,none⟩,1,1),c:=(ia,2,ic) },59),(n1,q.arr,59),(w.heap.size + 1 + 1,QV.arr {},59),(w.heap.size + 1,xa,44),(w.heap.size,QV.arr { k:=7,s:=(some ⟨n3,0,none⟩,1,1),n:=3 },59)]):=S12'.out
 clear S12' S11 x13 lx c13 f13 l13
 go_wp2_with (first | (refine wpList_load_row rfl 59 (.tmp 5) rfl w.heap.size rfl 59 (QV.arr { k:=7,s:=(some ⟨n3,0,none⟩,1,1),n:=3 }) (0,0) _ (S12.out.blk 7 rfl) Tryz.underlying59 rfl (qv_size _) ?_) | (refine wpList_store_row rfl 59 (.tmp 8) (.tmp 85) rfl (w.heap.size + 1 + 1) (QV.arr { k:=7,s:=(some ⟨n3,0,none⟩,1,1),n:=3 }) rfl rfl 59 (QV.arr {}) (S12.out.blk 5 rfl) (qv_size _) rfl (qv_one _) ?_))
 have SE:=St.row 5 (QV.arr { k:=7,s:=(some ⟨n3,0,none⟩,1,1),n:=3 }) S12.out rfl
 simp only [List.set_cons_zero,List.set_cons_succ] at SE
 refine bodyPost_ret (v:=.agg (QV.arr { k:=7,s:=(some ⟨n3,0,none⟩,1,1),n:=3 })) (results_cell_row rfl _ _ (w.heap.size + 1 + 1) 59 (QV.arr { k:=7,s:=(some ⟨n3,0,none⟩,1,1),n:=3 }) (0,0) _ rfl (SE.blk 5 rfl) Tryz.underlying59 rfl (qv_size _)) rfl ?_
 exact ⟨n1,n2,n3,g,cap,zs,rfl,hc1,St.sub SE (by repeat (first | exact List.Sublist.slnil | apply List.Sublist.cons_cons | apply List.Sublist.cons))⟩
end Go.Proofs.YtjmmbebkbkgefaaGreatDoor
