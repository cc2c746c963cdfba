/- Part 21; the last part says what is proved. No condition. -/
import Derived.Test.YtjmmbebkbkgefaaGreatDoorA20
namespace Go.Proofs.YtjmmbebkbkgefaaGreatDoor
open Go.RowKit Go.Sort
def StmtAt (sz : Int) (l : List Tok) : Prop:=∀ (pb : Nat) (w : World),Psr w pb sz l→Calls Tryz.prog 53 #[.pointer (some ⟨pb,0,none⟩)] w (Post pb sz (RStm w.heap.size) (stmtR sz l) w)
def CheckAt (x : Stm) : Prop:=∀ (Q : Nat→Prop) (s : SV) (w : World),StmIn Q w s x→Calls Tryz.prog 8 #[.agg s.arr] w (Says (.int .i64 (errF x.formed)) w)
def notFew : List Bytes:=[[99,114,101,97,116,101],[97,100,100],[105,110,115,101,114,116],[117,112,100,97,116,101],[100,101,108,101,116,101],[99,111,109,109,105,116],[114,111,108,108,98,97,99,107],[115,97,118,101,112,111,105,110,116]]
set_option maxRecDepth 100000 in
set_option maxHeartbeats 8000000 in
theorem statement_few (pb : Nat) (sz : Int) (l : List Tok) (w : World) (h : Psr w pb sz l) (hno : Hid (∀ x ∈ notFew,tk x l = none)) : Calls Tryz.prog 53 #[.pointer (some ⟨pb,0,none⟩)] w (Post pb sz (RStm w.heap.size) (stmtR sz l) w):=by
 have SX:=XFr.mk0 (RFr.snoc (RFr.snoc (RFr.mk0 (PFr.start h)) 9 1) 27 7)
 have SZ0:=XFr.alloc (cs:=SV.arr {}) (t:=46) (XFr.alloc (cs:=SV.arr {}) (t:=46) (XFr.alloc (cs:=#[.pointer (some ⟨pb,0,none⟩)]) (t:=113) SX))
 simp only [World.size_alloc,List.nil_append,List.cons_append] at SZ0
 have SZ:=Lib.hid SZ0
 clear SX SZ0 h
 refine named (C:=fun y=>Calls Tryz.prog 53 _ w (Post pb sz (RStm w.heap.size) y w)) _ ?_
 intro y HM0
 unfold stmtR at HM0
 go_enter Tryz.func53,Tryz.ntmps53
 go_wp2_with (first | (refine wpList_build_row rfl 46 #[] rfl (SV.arr {}) built_z ?_) | (refine wpList_store_row rfl 46 (.tmp 3) (.tmp 4) rfl (w.heap.size + 1 + 1) (SV.arr {}) rfl rfl 46 (SV.arr {}) (SZ.out.fr.fr.blk 0 rfl) (sv_size _) rfl (sv_one _) ?_; refine XFr.genL (XFr.row 0 (SV.arr {}) SZ.out rfl) ?_; intro w0 S0; simp only [List.set_cons_zero] at S0; obtain ⟨f1,f2,f3⟩:=S0.out.cellF (j:=2) rfl 0 _ rfl; clear SZ))
 refine XFr.takes (XFr.laid (S0.out)) [99,114,101,97,116,101] (blk_at (by simp)) (by decide) ?_ ?_
 ·exact fun _ _ hn _ _=>absurd ((hno.out _ (by simp [notFew])).symm.trans hn) (by simp)
 clear f1 f2 f3
 intro w1000 hn ht1000 S1000
 have HM1000:=HM0.out
 simp only [hn] at HM1000
 replace HM1000:=Lib.hid HM1000
 clear HM0 hn
 clear ht1000 S0
 obtain ⟨f1,f2,f3⟩:=S1000.out.cellF (j:=2) rfl 0 _ rfl
 go_wp2_with fail
 refine XFr.takes (XFr.laid (S1000.out)) [100,114,111,112] (blk_at (by simp)) (by decide) ?_ ?_
 ·clear f1 f2 f3
  intro r1001 w1001 hn ht1001 S1001
  have HM1001:=HM1000.out
  simp only [hn] at HM1001
  replace HM1001:=Lib.hid HM1001
  clear HM1000 hn
  clear ht1001 S1000
  obtain ⟨f1,f2,f3⟩:=S1001.out.cellF (j:=2) rfl 0 _ rfl
  unfold dropR at HM1001
  go_wp2_with fail
  refine XFr.takes (XFr.laid (S1001.out)) [116,97,98,108,101] (blk_at (by simp)) (by decide) ?_ ?_
  ·clear f1 f2 f3
   intro r1002 w1002 hn ht1002 S1002
   have HM1002:=HM1001.out
   simp only [hn] at HM1002
   replace HM1002:=Lib.hid HM1002
   clear HM1001 hn
   clear ht1002 S1001
   obtain ⟨f1,f2,f3⟩:=S1002.out.cellF (j:=2) rfl 0 _ rfl
   go_wp2_with fail
   refine XFr.post S1002.out (name_any pb sz _ _ S1002.out.psr) (fun p q h=>by rw [HM1002.out,h]; try rfl) (fun _ _ h=>⟨rfl,h⟩) ?_
   intro a1003 r1003 v1003 w1003 h1003 hv1003 ht1003 S1003
   have HM1003:=HM1002.out
   rw [h1003] at HM1003
   try (simp only [Res.map] at HM1003)
   replace HM1003:=Lib.hid HM1003
   clear h1003 HM1002
   clear ht1003 S1002 f1 f2 f3
   obtain rfl:=hv1003
   obtain ⟨f1,f2,f3⟩:=S1003.out.cellF (j:=2) rfl 0 _ rfl
   go_wp2_with (first | (refine wpList_build_row rfl 46 #[(0,.const (.int .i64 2)),(1,.tmp 49)] rfl (SV.arr { k:=2,tb:=a1003 }) (built_tb 2 _) ?_) | (refine wpList_store_row rfl 46 (.tmp 2) (.tmp 50) rfl (w.heap.size + 1) (SV.arr { k:=2,tb:=a1003 }) rfl rfl 46 (SV.arr {}) (S1003.out.fr.fr.blk 1 rfl) (sv_size _) rfl (sv_one _) ?_))
   have SE:=XFr.row 1 (SV.arr { k:=2,tb:=a1003 }) S1003.out rfl
   exact bodyPost_ret (v:=.agg (SV.arr { k:=2,tb:=a1003 })) (results_cell_row rfl _ _ (w.heap.size + 1) 46 (SV.arr { k:=2,tb:=a1003 }) (0,0) _ rfl (SE.fr.fr.blk 1 rfl) Tryz.underlying46 rfl (sv_size _)) rfl (XFr.done SE HM1003.out (fun SE=>⟨_,rfl,⟨rfl,rfl,rfl,(stm_zero _ _).sch,rfl,(stm_zero _ _).ns,rfl,(stm_zero _ _).rs,(stm_zero _ _).es,(stm_zero _ _).wh,(stm_zero _ _).sel,rfl⟩⟩))
  ·clear f1 f2 f3
   intro w1041 hn ht1041 S1041
   have HM1041:=HM1001.out
   simp only [hn] at HM1041
   replace HM1041:=Lib.hid HM1041
   clear HM1001 hn
   clear ht1041 S1001
   obtain ⟨f1,f2,f3⟩:=S1041.out.cellF (j:=2) rfl 0 _ rfl
   unfold dropIndexR at HM1041
   go_wp2_with fail
   refine XFr.wants (XFr.laid (S1041.out)) [[105,110,100,101,120]] (blk_at (by simp)) rfl (by decide) rfl (by decide) (by decide) (fun p q h=>by rw [HM1041.out,h]; try rfl) (fun _ _ h=>⟨rfl,h⟩) ?_
   intro r1042 w1042 h1042 ht1042 S1042
   have HM1042:=HM1041.out
   rw [h1042] at HM1042
   try (simp only [Res.bind,Res.map] at HM1042)
   replace HM1042:=Lib.hid HM1042
   clear h1042 ht1042 HM1041 S1041 f1 f2 f3
   obtain ⟨f1,f2,f3⟩:=S1042.out.cellF (j:=2) rfl 0 _ rfl
   go_wp2_with fail
   refine XFr.post S1042.out (name_any pb sz _ _ S1042.out.psr) (fun p q h=>by rw [HM1042.out,h]; try rfl) (fun _ _ h=>⟨rfl,h⟩) ?_
   intro a1043 r1043 v1043 w1043 h1043 hv1043 ht1043 S1043
   have HM1043:=HM1042.out
   rw [h1043] at HM1043
   skip
   replace HM1043:=Lib.hid HM1043
   clear h1043 HM1042
   clear ht1043 S1042 f1 f2 f3
   obtain rfl:=hv1043
   obtain ⟨f1,f2,f3⟩:=S1043.out.cellF (j:=2) rfl 0 _ rfl
   go_wp2_with (first | (refine wpList_build_row rfl 46 #[(0,.const (.int .i64 5)),(2,.tmp 55)] rfl (SV.arr { k:=5,nm:=a1043 }) (built_nm 5 _) ?_) | (refine wpList_store_row rfl 46 (.tmp 3) (.tmp 56) rfl (w.heap.size + 1 + 1) (SV.arr { k:=5,nm:=a1043 }) rfl rfl 46 (SV.arr {}) (S1043.out.fr.fr.blk 0 rfl) (sv_size _) rfl (sv_one _) ?_; refine XFr.genL (XFr.row 0 (SV.arr { k:=5,nm:=a1043 }) S1043.out rfl) ?_; intro w1044 S1044; simp only [List.set_cons_zero] at S1044; clear f1 f2 f3; obtain ⟨f1,f2,f3⟩:=S1044.out.cellF (j:=2) rfl 0 _ rfl))
   have HM1044:=HM1043
   clear S1043
   refine XFr.wants (XFr.laid (S1044.out)) [[111,110]] (blk_at (by simp)) rfl (by decide) rfl (by decide) (by decide) (fun p q h=>by rw [HM1044.out,h]; try rfl) (fun _ _ h=>⟨rfl,h⟩) ?_
   intro r1045 w1045 h1045 ht1045 S1045
   have HM1045:=HM1044.out
   rw [h1045] at HM1045
   skip
   replace HM1045:=Lib.hid HM1045
   clear h1045 ht1045 HM1044 S1044 f1 f2 f3
   obtain ⟨f1,f2,f3⟩:=S1045.out.cellF (j:=2) rfl 0 _ rfl
   go_wp2_with fail
   refine XFr.post S1045.out (name_any pb sz _ _ S1045.out.psr) (fun p q h=>by rw [HM1045.out,h]; try rfl) (fun _ _ h=>⟨rfl,h⟩) ?_
   intro a1046 r1046 v1046 w1046 h1046 hv1046 ht1046 S1046
   have HM1046:=HM1045.out
   rw [h1046] at HM1046
   skip
   replace HM1046:=Lib.hid HM1046
   clear h1046 HM1045
   clear ht1046 S1045 f1 f2 f3
   obtain rfl:=hv1046
   obtain ⟨f1,f2,f3⟩:=S1046.out.cellF (j:=2) rfl 0 _ rfl
   obtain ⟨g1,g2,g3⟩:=S1046.out.cellF (j:=0) rfl 1 _ rfl
   have S1047:=Lib.hid (XFr.set 0 (o:=1) (v:=.string ⟨a1046.toArray⟩) S1046.out rfl)
   simp only [List.set_cons_zero,sv_tb] at S1047
   have HM1047:=HM1046
   go_wp2_with (first | (refine wpList_load_row rfl 46 (.tmp 3) rfl (w.heap.size + 1 + 1) rfl 46 (SV.arr { k:=5,nm:=a1043,tb:=a1046 }) (0,0) _ (S1047.out.fr.fr.blk 0 rfl) Tryz.underlying46 rfl (sv_size _) ?_) | (refine wpList_store_row rfl 46 (.tmp 2) (.tmp 171) rfl (w.heap.size + 1) (SV.arr { k:=5,nm:=a1043,tb:=a1046 }) rfl rfl 46 (SV.arr {}) (S1047.out.fr.fr.blk 1 rfl) (sv_size _) rfl (sv_one _) ?_))
   have SE:=XFr.row 1 (SV.arr { k:=5,nm:=a1043,tb:=a1046 }) S1047.out rfl
   exact bodyPost_ret (v:=.agg (SV.arr { k:=5,nm:=a1043,tb:=a1046 })) (results_cell_row rfl _ _ (w.heap.size + 1) 46 (SV.arr { k:=5,nm:=a1043,tb:=a1046 }) (0,0) _ rfl (SE.fr.fr.blk 1 rfl) Tryz.underlying46 rfl (sv_size _)) rfl (XFr.done SE HM1046.out (fun SE=>⟨_,rfl,⟨rfl,rfl,rfl,(stm_zero _ _).sch,rfl,(stm_zero _ _).ns,rfl,(stm_zero _ _).rs,(stm_zero _ _).es,(stm_zero _ _).wh,(stm_zero _ _).sel,rfl⟩⟩))
 clear f1 f2 f3
 intro w2000 hn ht2000 S2000
 have HM2000:=HM1000.out
 simp only [hn] at HM2000
 replace HM2000:=Lib.hid HM2000
 clear HM1000 hn
 clear ht2000 S1000
 obtain ⟨f1,f2,f3⟩:=S2000.out.cellF (j:=2) rfl 0 _ rfl
 go_wp2_with fail
 refine XFr.takes (XFr.laid (S2000.out)) [97,100,100] (blk_at (by simp)) (by decide) ?_ ?_
 ·exact fun _ _ hn _ _=>absurd ((hno.out _ (by simp [notFew])).symm.trans hn) (by simp)
 clear f1 f2 f3
 intro w3000 hn ht3000 S3000
 have HM3000:=HM2000.out
 simp only [hn] at HM3000
 replace HM3000:=Lib.hid HM3000
 clear HM2000 hn
 clear ht3000 S2000
 obtain ⟨f1,f2,f3⟩:=S3000.out.cellF (j:=2) rfl 0 _ rfl
 go_wp2_with fail
 refine XFr.takes (XFr.laid (S3000.out)) [105,110,115,101,114,116] (blk_at (by simp)) (by decide) ?_ ?_
 ·exact fun _ _ hn _ _=>absurd ((hno.out _ (by simp [notFew])).symm.trans hn) (by simp)
 clear f1 f2 f3
 intro w4000 hn ht4000 S4000
 have HM4000:=HM3000.out
 simp only [hn] at HM4000
 replace HM4000:=Lib.hid HM4000
 clear HM3000 hn
 clear ht4000 S3000
 obtain ⟨f1,f2,f3⟩:=S4000.out.cellF (j:=2) rfl 0 _ rfl
 go_wp2_with fail
 refine XFr.takes (XFr.laid (S4000.out)) [117,112,100,97,116,101] (blk_at (by simp)) (by decide) ?_ ?_
 ·exact fun _ _ hn _ _=>absurd ((hno.out _ (by simp [notFew])).symm.trans hn) (by simp)
 clear f1 f2 f3
 intro w5000 hn ht5000 S5000
 have HM5000:=HM4000.out
 simp only [hn] at HM5000
 replace HM5000:=Lib.hid HM5000
 clear HM4000 hn
 clear ht5000 S4000
 obtain ⟨f1,f2,f3⟩:=S5000.out.cellF (j:=2) rfl 0 _ rfl
 go_wp2_with fail
 refine XFr.takes (XFr.laid (S5000.out)) [100,101,108,101,116,101] (blk_at (by simp)) (by decide) ?_ ?_
 ·exact fun _ _ hn _ _=>absurd ((hno.out _ (by simp [notFew])).symm.trans hn) (by simp)
 clear f1 f2 f3
 intro w6000 hn ht6000 S6000
 have HM6000:=HM5000.out
 simp only [hn] at HM6000
 replace HM6000:=Lib.hid HM6000
 clear HM5000 hn
 clear ht6000 S5000
 obtain ⟨f1,f2,f3⟩:=S6000.out.cellF (j:=2) rfl 0 _ rfl
 go_wp2_with fail
 refine XFr.takes (XFr.laid (S6000.out)) [115,101,108,101,99,116] (blk_at (by simp)) (by decide) ?_ ?_
 ·clear f1 f2 f3
  intro r6001 w6001 hn ht6001 S6001
  have HM6001:=HM6000.out
  simp only [hn] at HM6001
  replace HM6001:=Lib.hid HM6001
  clear HM6000 hn
  clear ht6001 S6000
  obtain ⟨f1,f2,f3⟩:=S6001.out.cellF (j:=2) rfl 0 _ rfl
  go_wp2_with fail
  refine XFr.postG S6001.out (choose_any pb sz _ _ S6001.out.psr) (fun p q h=>by rw [HM6001.out,h]; try rfl) (fun _ _ h=>⟨rfl,h⟩) ?_
  intro a6002 r6002 v6002 w6002 h6002 hv6002 ht6002 S6002
  have HM6002:=HM6001.out
  rw [h6002] at HM6002
  try (simp only [Res.map] at HM6002)
  replace HM6002:=Lib.hid HM6002
  clear h6002 HM6001
  clear ht6002 S6001 f1 f2 f3
  have hg:=hv6002
  obtain ⟨ia,ic,fa,fc,oa,oc,wa,wc,ga,gc,sa,sc,rfl,hrest⟩:=hv6002
  clear hrest
  have SG:=Lib.hid (S6002.out (farSel _ a6002) hg)
  clear S6002 hg
  have S6002:=SG
  clear SG
  obtain ⟨f1,f2,f3⟩:=S6002.out.cellF (j:=2) rfl 0 _ rfl
  go_wp2_with (first | (refine wpList_build_row rfl 46 #[(0,.const (.int .i64 9)),(10,.tmp 130)] rfl ((selSV a6002 ia ic fa fc oa oc wa wc ga gc sa sc).arr) (by simp only [List.map_toArray,List.map_cons,List.map_nil]; refine (congrArg (fun q=>Tryz.prog.built 46 q) (b:=[(0,.int .i64 9),(10,_)]) ?_).trans (built_sel2 a6002 ia ic fa fc oa oc wa wc ga gc sa sc); rfl) ?_) | (refine wpList_store_row rfl 46 (.tmp 3) (.tmp 131) rfl (w.heap.size + 1 + 1) ((selSV a6002 ia ic fa fc oa oc wa wc ga gc sa sc).arr) rfl rfl 46 (SV.arr {}) (S6002.out.fr.fr.blk 0 rfl) (sv_size _) rfl (sv_one _) ?_; refine XFr.genL (XFr.row 0 ((selSV a6002 ia ic fa fc oa oc wa wc ga gc sa sc).arr) S6002.out rfl) ?_; intro w6003 S6003; simp only [List.set_cons_zero] at S6003; clear f1 f2 f3; obtain ⟨f1,f2,f3⟩:=S6003.out.cellF (j:=2) rfl 0 _ rfl) | (refine wpList_load_row rfl 46 (.tmp 3) rfl (w.heap.size + 1 + 1) rfl 46 ((selSV a6002 ia ic fa fc oa oc wa wc ga gc sa sc).arr) (0,0) _ (S6003.out.fr.fr.blk 0 rfl) Tryz.underlying46 rfl (sv_size _) ?_) | (refine wpList_store_row rfl 46 (.tmp 2) (.tmp 171) rfl (w.heap.size + 1) ((selSV a6002 ia ic fa fc oa oc wa wc ga gc sa sc).arr) rfl rfl 46 (SV.arr {}) (S6003.out.fr.fr.blk 1 rfl) (sv_size _) rfl (sv_one _) ?_))
  have SE:=XFr.row 1 ((selSV a6002 ia ic fa fc oa oc wa wc ga gc sa sc).arr) S6003.out rfl
  exact bodyPost_ret (v:=.agg ((selSV a6002 ia ic fa fc oa oc wa wc ga gc sa sc).arr)) (results_cell_row rfl _ _ (w.heap.size + 1) 46 ((selSV a6002 ia ic fa fc oa oc wa wc ga gc sa sc).arr) (0,0) _ rfl (SE.fr.fr.blk 1 rfl) Tryz.underlying46 rfl (sv_size _)) rfl (XFr.done SE HM6002.out (fun SE=>⟨_,rfl,⟨rfl,rfl,rfl,(stm_zero _ _).sch,rfl,(stm_zero _ _).ns,rfl,(stm_zero _ _).rs,(stm_zero _ _).es,(stm_zero _ _).wh,SE.since.2,rfl⟩⟩))
 clear f1 f2 f3
 intro w7000 hn ht7000 S7000
 have HM7000:=HM6000.out
 simp only [hn] at HM7000
 replace HM7000:=Lib.hid HM7000
 clear HM6000 hn
 clear ht7000 S6000
 obtain ⟨f1,f2,f3⟩:=S7000.out.cellF (j:=2) rfl 0 _ rfl
 go_wp2_with fail
 refine XFr.takes (XFr.laid (S7000.out)) [98,101,103,105,110] (blk_at (by simp)) (by decide) ?_ ?_
 ·clear f1 f2 f3
  intro r7001 w7001 hn ht7001 S7001
  have HM7001:=HM7000.out
  simp only [hn] at HM7001
  replace HM7001:=Lib.hid HM7001
  clear HM7000 hn
  clear ht7001 S7000
  obtain ⟨f1,f2,f3⟩:=S7001.out.cellF (j:=2) rfl 0 _ rfl
  unfold beginR at HM7001
  obtain ⟨g1,g2,g3⟩:=S7001.out.cellF (j:=0) rfl 0 _ rfl
  have S7002:=Lib.hid (XFr.set 0 (o:=0) (v:=.int .i64 10) S7001.out rfl)
  simp only [List.set_cons_zero,sv_k] at S7002
  have HM7002:=HM7001
  go_wp2_with fail
  clear g1 g2 g3
  refine XFr.takes (XFr.laid (S7002.out)) [115,101,114,105,97,108,105,122,97,98,108,101] (blk_at (by simp)) (by decide) ?_ ?_
  ·clear f1 f2 f3
   intro r7012 w7012 hn ht7012 S7012
   have HM7012:=HM7002.out
   simp only [hn] at HM7012
   replace HM7012:=Lib.hid HM7012
   clear HM7002 hn
   clear ht7012 S7002
   obtain ⟨f1,f2,f3⟩:=S7012.out.cellF (j:=2) rfl 0 _ rfl
   obtain ⟨g1,g2,g3⟩:=S7012.out.cellF (j:=0) rfl 35 _ rfl
   have S7013:=Lib.hid (XFr.set 0 (o:=35) (v:=.int .i64 1) S7012.out rfl)
   simp only [List.set_cons_zero,sv_md] at S7013
   have HM7013:=HM7012
   go_wp2_with (first | (refine wpList_load_row rfl 46 (.tmp 3) rfl (w.heap.size + 1 + 1) rfl 46 (SV.arr { k:=10,md:=1 }) (0,0) _ (S7013.out.fr.fr.blk 0 rfl) Tryz.underlying46 rfl (sv_size _) ?_) | (refine wpList_store_row rfl 46 (.tmp 2) (.tmp 171) rfl (w.heap.size + 1) (SV.arr { k:=10,md:=1 }) rfl rfl 46 (SV.arr {}) (S7013.out.fr.fr.blk 1 rfl) (sv_size _) rfl (sv_one _) ?_))
   have SE:=XFr.row 1 (SV.arr { k:=10,md:=1 }) S7013.out rfl
   exact bodyPost_ret (v:=.agg (SV.arr { k:=10,md:=1 })) (results_cell_row rfl _ _ (w.heap.size + 1) 46 (SV.arr { k:=10,md:=1 }) (0,0) _ rfl (SE.fr.fr.blk 1 rfl) Tryz.underlying46 rfl (sv_size _)) rfl (XFr.done SE HM7012.out (fun SE=>⟨_,rfl,⟨rfl,rfl,rfl,(stm_zero _ _).sch,rfl,(stm_zero _ _).ns,rfl,(stm_zero _ _).rs,(stm_zero _ _).es,(stm_zero _ _).wh,(stm_zero _ _).sel,rfl⟩⟩))
  ·clear f1 f2 f3
   intro w7022 hn ht7022 S7022
   have HM7022:=HM7002.out
   simp only [hn] at HM7022
   replace HM7022:=Lib.hid HM7022
   clear HM7002 hn
   clear ht7022 S7002
   obtain ⟨f1,f2,f3⟩:=S7022.out.cellF (j:=2) rfl 0 _ rfl
   go_wp2_with fail
   refine XFr.takes (XFr.laid (S7022.out)) [114,101,97,100] (blk_at (by simp)) (by decide) ?_ ?_
   ·clear f1 f2 f3
    intro r7032 w7032 hn ht7032 S7032
    have HM7032:=HM7022.out
    simp only [hn] at HM7032
    replace HM7032:=Lib.hid HM7032
    clear HM7022 hn
    clear ht7032 S7022
    obtain ⟨f1,f2,f3⟩:=S7032.out.cellF (j:=2) rfl 0 _ rfl
    go_wp2_with fail
    refine XFr.wants (XFr.laid (S7032.out)) [[111,110,108,121]] (blk_at (by simp)) rfl (by decide) rfl (by decide) (by decide) (fun p q h=>by rw [HM7032.out,h]; try rfl) (fun _ _ h=>⟨rfl,h⟩) ?_
    intro r7033 w7033 h7033 ht7033 S7033
    have HM7033:=HM7032.out
    rw [h7033] at HM7033
    try (simp only [Res.map] at HM7033)
    replace HM7033:=Lib.hid HM7033
    clear h7033 ht7033 HM7032 S7032 f1 f2 f3
    obtain ⟨f1,f2,f3⟩:=S7033.out.cellF (j:=2) rfl 0 _ rfl
    obtain ⟨g1,g2,g3⟩:=S7033.out.cellF (j:=0) rfl 35 _ rfl
    have S7034:=Lib.hid (XFr.set 0 (o:=35) (v:=.int .i64 2) S7033.out rfl)
    simp only [List.set_cons_zero,sv_md] at S7034
    have HM7034:=HM7033
    go_wp2_with (first | (refine wpList_load_row rfl 46 (.tmp 3) rfl (w.heap.size + 1 + 1) rfl 46 (SV.arr { k:=10,md:=2 }) (0,0) _ (S7034.out.fr.fr.blk 0 rfl) Tryz.underlying46 rfl (sv_size _) ?_) | (refine wpList_store_row rfl 46 (.tmp 2) (.tmp 171) rfl (w.heap.size + 1) (SV.arr { k:=10,md:=2 }) rfl rfl 46 (SV.arr {}) (S7034.out.fr.fr.blk 1 rfl) (sv_size _) rfl (sv_one _) ?_))
    have SE:=XFr.row 1 (SV.arr { k:=10,md:=2 }) S7034.out rfl
    exact bodyPost_ret (v:=.agg (SV.arr { k:=10,md:=2 })) (results_cell_row rfl _ _ (w.heap.size + 1) 46 (SV.arr { k:=10,md:=2 }) (0,0) _ rfl (SE.fr.fr.blk 1 rfl) Tryz.underlying46 rfl (sv_size _)) rfl (XFr.done SE HM7033.out (fun SE=>⟨_,rfl,⟨rfl,rfl,rfl,(stm_zero _ _).sch,rfl,(stm_zero _ _).ns,rfl,(stm_zero _ _).rs,(stm_zero _ _).es,(stm_zero _ _).wh,(stm_zero _ _).sel,rfl⟩⟩))
   ·clear f1 f2 f3
    intro w7042 hn ht7042 S7042
    have HM7042:=HM7022.out
    simp only [hn] at HM7042
    replace HM7042:=Lib.hid HM7042
    clear HM7022 hn
    clear ht7042 S7022
    obtain ⟨f1,f2,f3⟩:=S7042.out.cellF (j:=2) rfl 0 _ rfl
    go_wp2_with (first | (refine wpList_load_row rfl 46 (.tmp 3) rfl (w.heap.size + 1 + 1) rfl 46 (SV.arr { k:=10 }) (0,0) _ (S7042.out.fr.fr.blk 0 rfl) Tryz.underlying46 rfl (sv_size _) ?_) | (refine wpList_store_row rfl 46 (.tmp 2) (.tmp 171) rfl (w.heap.size + 1) (SV.arr { k:=10 }) rfl rfl 46 (SV.arr {}) (S7042.out.fr.fr.blk 1 rfl) (sv_size _) rfl (sv_one _) ?_))
    have SE:=XFr.row 1 (SV.arr { k:=10 }) S7042.out rfl
    exact bodyPost_ret (v:=.agg (SV.arr { k:=10 })) (results_cell_row rfl _ _ (w.heap.size + 1) 46 (SV.arr { k:=10 }) (0,0) _ rfl (SE.fr.fr.blk 1 rfl) Tryz.underlying46 rfl (sv_size _)) rfl (XFr.done SE HM7042.out (fun SE=>⟨_,rfl,⟨rfl,rfl,rfl,(stm_zero _ _).sch,rfl,(stm_zero _ _).ns,rfl,(stm_zero _ _).rs,(stm_zero _ _).es,(stm_zero _ _).wh,(stm_zero _ _).sel,rfl⟩⟩))
 clear f1 f2 f3
 intro w8000 hn ht8000 S8000
 have HM8000:=HM7000.out
 simp only [hn] at HM8000
 replace HM8000:=Lib.hid HM8000
 clear HM7000 hn
 clear ht8000 S7000
 obtain ⟨f1,f2,f3⟩:=S8000.out.cellF (j:=2) rfl 0 _ rfl
 go_wp2_with fail
 refine XFr.takes (XFr.laid (S8000.out)) [99,111,109,109,105,116] (blk_at (by simp)) (by decide) ?_ ?_
 ·exact fun _ _ hn _ _=>absurd ((hno.out _ (by simp [notFew])).symm.trans hn) (by simp)
 clear f1 f2 f3
 intro w9000 hn ht9000 S9000
 have HM9000:=HM8000.out
 simp only [hn] at HM9000
 replace HM9000:=Lib.hid HM9000
 clear HM8000 hn
 clear ht9000 S8000
 obtain ⟨f1,f2,f3⟩:=S9000.out.cellF (j:=2) rfl 0 _ rfl
 go_wp2_with fail
 refine XFr.takes (XFr.laid (S9000.out)) [114,111,108,108,98,97,99,107] (blk_at (by simp)) (by decide) ?_ ?_
 ·exact fun _ _ hn _ _=>absurd ((hno.out _ (by simp [notFew])).symm.trans hn) (by simp)
 clear f1 f2 f3
 intro w10000 hn ht10000 S10000
 have HM10000:=HM9000.out
 simp only [hn] at HM10000
 replace HM10000:=Lib.hid HM10000
 clear HM9000 hn
 clear ht10000 S9000
 obtain ⟨f1,f2,f3⟩:=S10000.out.cellF (j:=2) rfl 0 _ rfl
 go_wp2_with fail
 refine XFr.takes (XFr.laid (S10000.out)) [115,97,118,101,112,111,105,110,116] (blk_at (by simp)) (by decide) ?_ ?_
 ·exact fun _ _ hn _ _=>absurd ((hno.out _ (by simp [notFew])).symm.trans hn) (by simp)
 clear f1 f2 f3
 intro w11000 hn ht11000 S11000
 have HM11000:=HM10000.out
 simp only [hn] at HM11000
 replace HM11000:=Lib.hid HM11000
 clear HM10000 hn
 clear ht11000 S10000
 obtain ⟨f1,f2,f3⟩:=S11000.out.cellF (j:=2) rfl 0 _ rfl
 go_wp2_with fail
 refine XFr.wants (XFr.laid (S11000.out)) [[114,101,108,101,97,115,101]] (blk_at (by simp)) rfl (by decide) rfl (by decide) (by decide) (fun p q h=>by rw [HM11000.out,h]; try rfl) (fun _ _ h=>⟨rfl,h⟩) ?_
 intro r11001 w11001 h11001 ht11001 S11001
 have HM11001:=HM11000.out
 rw [h11001] at HM11001
 try (simp only [Res.bind,Res.map] at HM11001)
 replace HM11001:=Lib.hid HM11001
 clear h11001 ht11001 HM11000 S11000 f1 f2 f3
 obtain ⟨f1,f2,f3⟩:=S11001.out.cellF (j:=2) rfl 0 _ rfl
 go_wp2_with fail
 refine XFr.post S11001.out (name_any pb sz _ _ S11001.out.psr) (fun p q h=>by rw [HM11001.out,h]; try rfl) (fun _ _ h=>⟨rfl,h⟩) ?_
 intro a11002 r11002 v11002 w11002 h11002 hv11002 ht11002 S11002
 have HM11002:=HM11001.out
 rw [h11002] at HM11002
 skip
 replace HM11002:=Lib.hid HM11002
 clear h11002 HM11001
 clear ht11002 S11001 f1 f2 f3
 obtain rfl:=hv11002
 obtain ⟨f1,f2,f3⟩:=S11002.out.cellF (j:=2) rfl 0 _ rfl
 go_wp2_with (first | (refine wpList_build_row rfl 46 #[(0,.const (.int .i64 14)),(2,.tmp 9)] rfl (SV.arr { k:=14,nm:=a11002 }) (built_nm 14 _) ?_) | (refine wpList_store_row rfl 46 (.tmp 3) (.tmp 10) rfl (w.heap.size + 1 + 1) (SV.arr { k:=14,nm:=a11002 }) rfl rfl 46 (SV.arr {}) (S11002.out.fr.fr.blk 0 rfl) (sv_size _) rfl (sv_one _) ?_; refine XFr.genL (XFr.row 0 (SV.arr { k:=14,nm:=a11002 }) S11002.out rfl) ?_; intro w11003 S11003; simp only [List.set_cons_zero] at S11003; clear f1 f2 f3; obtain ⟨f1,f2,f3⟩:=S11003.out.cellF (j:=2) rfl 0 _ rfl) | (refine wpList_load_row rfl 46 (.tmp 3) rfl (w.heap.size + 1 + 1) rfl 46 (SV.arr { k:=14,nm:=a11002 }) (0,0) _ (S11003.out.fr.fr.blk 0 rfl) Tryz.underlying46 rfl (sv_size _) ?_) | (refine wpList_store_row rfl 46 (.tmp 2) (.tmp 171) rfl (w.heap.size + 1) (SV.arr { k:=14,nm:=a11002 }) rfl rfl 46 (SV.arr {}) (S11003.out.fr.fr.blk 1 rfl) (sv_size _) rfl (sv_one _) ?_))
 have SE:=XFr.row 1 (SV.arr { k:=14,nm:=a11002 }) S11003.out rfl
 exact bodyPost_ret (v:=.agg (SV.arr { k:=14,nm:=a11002 })) (results_cell_row rfl _ _ (w.heap.size + 1) 46 (SV.arr { k:=14,nm:=a11002 }) (0,0) _ rfl (SE.fr.fr.blk 1 rfl) Tryz.underlying46 rfl (sv_size _)) rfl (XFr.done SE HM11002.out (fun SE=>⟨_,rfl,⟨rfl,rfl,rfl,(stm_zero _ _).sch,rfl,(stm_zero _ _).ns,rfl,(stm_zero _ _).rs,(stm_zero _ _).es,(stm_zero _ _).wh,(stm_zero _ _).sel,rfl⟩⟩))
end Go.Proofs.YtjmmbebkbkgefaaGreatDoor
