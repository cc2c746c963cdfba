/- Part 35; the last part says what is proved. No condition. -/
import Derived.Test.YtjmmbebkbkgefaaGreatDoorB25
import Derived.Test.YtjmmbebkbkgefaaGreatDoorB28
import Derived.Test.YtjmmbebkbkgefaaGreatDoorB34
set_option linter.unusedVariables false
set_option linter.unusedSimpArgs false
set_option maxHeartbeats 16000000
set_option maxRecDepth 100000
namespace Go.Proofs.YtjmmbebkbkgefaaGreatDoor
open Go.RowKit Go.Sort Go.Proofs.Tryz
def ParseAt (s:Bytes):Prop:=∀(B:Nat) (w:World),Env B w->Calls prog 17 #[.string ⟨s.toArray⟩] w (ParsePost w (parseS s))
def PrintAt (x:Stm):Prop:=∀(s:SV) (w:World),StmIn (·<w.heap.size) w s x->Env w.heap.size w->Calls prog 18 #[.agg s.arr] w (PrintPost w x)
theorem StmIs.lt {Q:Nat->Prop} {w:World} {s:SV} {x:Stm} (h:StmIs Q w s x):StmIn (·<w.heap.size) w s x:=h.toIn.move (fun _ hl _=>⟨hl,rfl⟩)
theorem Cw {w0 w w1:World} {L:List Blk} {P:Program} {c:Code} {Q:Exit->Act->World->Prop} {a:Act} (hb:Below w1.heap.size w1 w) (h:St w0 w L) (k:∀W,Below w1.heap.size w1 W->Hid (St w0 W L)->Code.wp P c Q a W):Code.wp P c Q a w:=k w hb h
theorem Ei {w0 w:World} {L:List Blk} (h:St w0 w L):St w0 ((w.alloc (.cells (SV.arr {}) 46)).alloc (.cells #[.int .i64 0,.int .i64 0] 72)) ((w.heap.size+1,#[.int .i64 0,.int .i64 0],72)::(w.heap.size,SV.arr {},46)::L):=by
 have:=St.alloc (St.alloc h (cs:=SV.arr {}) (t:=46)) (cs:=#[.int .i64 0,.int .i64 0]) (t:=72);rw[World.size_alloc]at this;exact this
theorem Eh {w0 w:World} {L:List Blk} (h:St w0 w L) (arr:Array Value):St w0 (((w.alloc (.cells (SV.arr {}) 46)).alloc (.cells #[.int .i64 0,.int .i64 0] 72)).setRow w.heap.size arr) ((w.heap.size+1,#[.int .i64 0,.int .i64 0],72)::(w.heap.size,arr,46)::L):=St.row 1 arr (Ei h) rfl
theorem B6 {w0 w:World} {L:List Blk} (h:St w0 w L) (arr:Array Value) (p q:Int):St w0 ((((w.alloc (.cells (SV.arr {}) 46)).alloc (.cells #[.int .i64 0,.int .i64 0] 72)).setRow w.heap.size arr).setRow (w.heap.size+1) #[.int .i64 p,.int .i64 q]) ((w.heap.size+1,#[.int .i64 p,.int .i64 q],72)::(w.heap.size,arr,46)::L):=St.row 0 #[.int .i64 p,.int .i64 q] (Eh h arr) rfl
def dbCols:Array Value:=#[.string ⟨[97].toArray⟩,.int .i64 1,.bool false,.string ⟨[98].toArray⟩,.int .i64 1,.bool false]
def dbTab (b:Nat):Array Value:=#[.string ⟨[116].toArray⟩,.slice (some ⟨b,0,none⟩) 2 2,.slice none 0 0,.slice none 0 0]
theorem ak {w0 w:World} {L:List Blk} (h:St w0 w L):St w0 ((w.alloc (.cells dbCols 38)).alloc (.cells (dbTab w.heap.size) 36)) ((w.heap.size+1,dbTab w.heap.size,36)::(w.heap.size,dbCols,38)::L):=by
 have:=St.alloc (St.alloc h (cs:=dbCols) (t:=38)) (cs:=dbTab w.heap.size) (t:=36);rw[World.size_alloc]at this;exact this
theorem bw {W:World} {c d:Nat} (h1:W.heap[c]?=some (.cells dbCols 38 (0,0))) (h2:W.heap[d]?=some (.cells (dbTab c) 36 (0,0))):RSl tblE (fun _=>True) W (.slice (some ⟨d,0,none⟩) 1 1) [exTbl]:=by
 refine So (E:=tblE) (l:=[exTbl]) (acs:=[.string ⟨[116].toArray⟩,.slice (some ⟨c,0,none⟩) 2 2,.slice none 0 0,.slice none 0 0]) (zs:=[]) (t:=36) (by rw[h2];rfl) ?_ (Nat.le_refl 1) trivial;refine⟨_,[],(List.append_nil _).symm,⟨_,_,_,_,_,_,rfl,?_⟩,rfl⟩;exact So (E:=colE) (l:=[⟨[97],1,false⟩,⟨[98],1,false⟩]) (acs:=[.string ⟨[97].toArray⟩,.int .i64 1,.bool false,.string ⟨[98].toArray⟩,.int .i64 1,.bool false]) (zs:=[]) (t:=38) (by rw[h1];rfl)
  ⟨_,_,rfl,rfl,⟨_,[],(List.append_nil _).symm,rfl,rfl⟩⟩ (Nat.le_refl 2) trivial
theorem Ie (p q:Int):(#[.int .i64 p,.int .i64 q]:Array Value).all (·.oneCell')=true:=by simp[Value.oneCell']
theorem Uh {B:Nat} (w:World) (he:Env B w)
 (h1:ParseAt [115,101,108,101,99,116,32,97,32,44,32,115,117,109,32,40,32,98,32,41,32,102,114,111,109,32,116,32,103,114,111,117,112,32,98,121,32,97,32,111,114,100,101,114,32,98,121,32,50,32,100,101,115,99,32,108,105,109,105,116,32,51]) (h2:ParseAt [115,101,108,101,99,116,32,42,32,102,114,111,109,32,116,32,119,104,101,114,101,32,110,111,116,40,97,61,49,32,111,114,32,98,60,50,41,32,97,110,100,32,99,32,105,115,32,110,111,116,32,110,117,108,108]) (h3:ParseAt [115,101,108,101,99,116,32,102,114,111,109,32,116])
 (h4:ParseAt [100,114,111,112,32,116,97,98,108,101]) (h5:ParseAt [100,101,108,101,116,101,32,102,114,111,109,32,116,32,119,104,101,114,101,32,97,32,61,32,39,120]) (h6:ParseAt [98,101,103,105,110,32,114,101,97,100,32,111,110,108,121]) (h7:PrintAt exStm) (h8:PrintAt exStm2):
 Calls prog 6 #[] w (fun e w'=>e=.returned (.bool true)/\Below w.heap.size w w'):=by
 have HE:=Lib.hid he
 have hi:=he.hi
 have P1:=Lib.hid h1
 have P2:=Lib.hid h2
 have P3:=Lib.hid h3
 have P4:=Lib.hid h4
 have P5:=Lib.hid h5
 have P6:=Lib.hid h6
 have P7:=Lib.hid h7
 have P8:=Lib.hid h8
 have S0:=Lib.hid (St.start w)
 clear he h1 h2 h3 h4 h5 h6 h7 h8
 go_enter func6,ntmps6
 go_upto_region 2 with fail
 go_wp2_with fail
 refine Calls.mono (P1.out B w (HE.out.kept S0.out.below)) ?_
 rw[Pb]
 rintro e w1 ⟨sv1,rfl,hs,hb⟩
 have S1:=Lib.hid (S0.out.kept hb)
 have H1:Hid (StmIs (w.heap.size≤·) w1 sv1 exStm):=hs
 clear hs hb S0
 go_upto_region 3 with(first|(refine wpList_store_row rfl 46 (.tmp 2) (.tmp 29) rfl w1.heap.size sv1.arr rfl rfl 46 (SV.arr {}) ((Ei S1.out).blk 1 rfl) (Al _) rfl (Bh _) ?_)|(refine wpList_store_row rfl 72 (.tmp 3) (.tmp 30) rfl (w1.heap.size+1) #[.int .i64 0,.int .i64 0] rfl rfl 72 #[.int .i64 0,.int .i64 0] ((Eh S1.out sv1.arr).blk 0 rfl) (Df _ _) rfl (Ie _ _) ?_))
 refine Cw (B6 (St.start w1) sv1.arr 0 0).below (B6 S1.out sv1.arr 0 0) ?_
 intro w2 hb S2
 replace H1:=Lib.hid (H1.out.kept hb)
 clear hb S1
 generalize w1.heap.size=b1 at S2 ⊢
 go_wp2_with(refine wpList_load_row rfl 46 (.tmp 2) rfl b1 rfl 46 sv1.arr (0,0) _ (S2.out.blk 1 rfl) underlying46 rfl (Al _) ?_)
 refine Calls.mono (P7.out sv1 w2 H1.out.lt ((HE.out.kept S2.out.below).up (Nat.le_trans hi S2.out.below.size) (Nat.le_refl _))) ?_
 rintro e w3 ⟨rfl,hb⟩
 rw[Yh]
 have S3:=Lib.hid (S2.out.kept hb)
 replace H1:=Lib.hid (H1.out.kept hb)
 clear hb S2
 go_upto_region 4 with fail
 go_wp2_with fail
 refine Calls.mono (P2.out B w3 (HE.out.kept S3.out.below)) ?_
 rw[L8]
 rintro e w4 ⟨sv2,rfl,hs,hb⟩
 have S4:=Lib.hid (S3.out.kept hb)
 replace H1:=Lib.hid (H1.out.kept hb)
 have H2:Hid (StmIs (w3.heap.size≤·) w4 sv2 exStm2):=hs
 clear hs hb S3
 go_upto_region 5 with(first|(refine wpList_store_row rfl 46 (.tmp 6) (.tmp 38) rfl w4.heap.size sv2.arr rfl rfl 46 (SV.arr {}) ((Ei S4.out).blk 1 rfl) (Al _) rfl (Bh _) ?_)|(refine wpList_store_row rfl 72 (.tmp 7) (.tmp 39) rfl (w4.heap.size+1) #[.int .i64 0,.int .i64 0] rfl rfl 72 #[.int .i64 0,.int .i64 0] ((Eh S4.out sv2.arr).blk 0 rfl) (Df _ _) rfl (Ie _ _) ?_))
 refine Cw (B6 (St.start w4) sv2.arr 0 0).below (B6 S4.out sv2.arr 0 0) ?_
 intro w5 hb S5
 replace H1:=Lib.hid (H1.out.kept hb)
 replace H2:=Lib.hid (H2.out.kept hb)
 clear hb S4
 generalize w4.heap.size=b2 at S5 ⊢
 go_wp2_with(refine wpList_load_row rfl 46 (.tmp 6) rfl b2 rfl 46 sv2.arr (0,0) _ (S5.out.blk 1 rfl) underlying46 rfl (Al _) ?_)
 refine Calls.mono (P8.out sv2 w5 H2.out.lt ((HE.out.kept S5.out.below).up (Nat.le_trans hi S5.out.below.size) (Nat.le_refl _))) ?_
 rintro e w6 ⟨rfl,hb⟩
 rw[Vq]
 have S6:=Lib.hid (S5.out.kept hb)
 replace H1:=Lib.hid (H1.out.kept hb)
 replace H2:=Lib.hid (H2.out.kept hb)
 clear hb S5
 go_upto_region 6 with fail
 clear H2 P7 P8
 go_wp2_with fail
 refine Calls.mono (P3.out B w6 (HE.out.kept S6.out.below)) ?_
 rw[Yi]
 rintro e w7 ⟨rfl,hb⟩
 have S7:=Lib.hid (S6.out.kept hb)
 replace H1:=Lib.hid (H1.out.kept hb)
 clear hb S6
 go_upto_region 7 with(first|(refine wpList_store_row rfl 46 (.tmp 10) (.tmp 47) rfl w7.heap.size (SV.arr {}) rfl rfl 46 (SV.arr {}) ((Ei S7.out).blk 1 rfl) (Al _) rfl (Bh _) ?_)|(refine wpList_store_row rfl 72 (.tmp 11) (.tmp 48) rfl (w7.heap.size+1) #[.int .i64 7,.int .i64 380] rfl rfl 72 #[.int .i64 0,.int .i64 0] ((Eh S7.out (SV.arr {})).blk 0 rfl) (Df _ _) rfl (Ie _ _) ?_))
 refine Cw (B6 (St.start w7) (SV.arr {}) 7 380).below (B6 S7.out (SV.arr {}) 7 380) ?_
 intro w8 hb S8
 replace H1:=Lib.hid (H1.out.kept hb)
 clear hb S7
 generalize w7.heap.size=b3 at S8 ⊢
 go_wp2_with fail
 refine Calls.mono (P4.out B w8 (HE.out.kept S8.out.below)) ?_
 rw[Yf]
 rintro e w9 ⟨rfl,hb⟩
 have S9:=Lib.hid (S8.out.kept hb)
 replace H1:=Lib.hid (H1.out.kept hb)
 clear hb S8
 go_upto_region 8 with(first|(refine wpList_store_row rfl 46 (.tmp 12) (.tmp 51) rfl w9.heap.size (SV.arr {}) rfl rfl 46 (SV.arr {}) ((Ei S9.out).blk 1 rfl) (Al _) rfl (Bh _) ?_)|(refine wpList_store_row rfl 72 (.tmp 13) (.tmp 52) rfl (w9.heap.size+1) #[.int .i64 10,.int .i64 380] rfl rfl 72 #[.int .i64 0,.int .i64 0] ((Eh S9.out (SV.arr {})).blk 0 rfl) (Df _ _) rfl (Ie _ _) ?_))
 refine Cw (B6 (St.start w9) (SV.arr {}) 10 380).below (B6 S9.out (SV.arr {}) 10 380) ?_
 intro w10 hb S10
 replace H1:=Lib.hid (H1.out.kept hb)
 clear hb S9
 generalize w9.heap.size=b4 at S10 ⊢
 go_wp2_with fail
 refine Calls.mono (De [100,114,111,112,32,116,97,98,108,101,32,65] (by decide) w10 (HE.out.kept S10.out.below)) ?_
 rw[Yg]
 rintro e w11 ⟨rfl,_,hb⟩
 have S11:=Lib.hid (S10.out.kept hb)
 replace H1:=Lib.hid (H1.out.kept hb)
 clear hb S10
 go_upto_region 9 with(refine wpList_store_row rfl 72 (.tmp 15) (.tmp 56) rfl w11.heap.size #[.int .i64 11,.int .i64 380] rfl rfl 72 #[.int .i64 0,.int .i64 0] ((St.alloc S11.out (cs:=#[.int .i64 0,.int .i64 0]) (t:=72)).blk 0 rfl) (Df _ _) rfl (Ie _ _) ?_)
 refine Cw (St.row 0 #[.int .i64 11,.int .i64 380] (St.alloc (St.start w11) (cs:=#[.int .i64 0,.int .i64 0]) (t:=72)) rfl).below (St.row 0 #[.int .i64 11,.int .i64 380] (St.alloc S11.out (cs:=#[.int .i64 0,.int .i64 0]) (t:=72)) rfl) ?_
 intro w12 hb S12'
 have S12:Hid (St w w12 [(w11.heap.size,#[.int .i64 11,.int .i64 380],72),((b4+1),#[.int .i64 10,.int .i64 380],72),(b4,(SV.arr {}),46),((b3+1),#[.int .i64 7,.int .i64 380],72),(b3,(SV.arr {}),46),((b2+1),#[.int .i64 0,.int .i64 0],72),(b2,sv2.arr,46),((b1+1),#[.int .i64 0,.int .i64 0],72),(b1,sv1.arr,46)]):=S12'.out
 replace H1:=Lib.hid (H1.out.kept hb)
 clear hb S12' S11
 generalize w11.heap.size=t8 at S12 ⊢
 go_wp2_with fail
 refine Calls.mono (De [108,105,109,105,116,32,48,49] (by decide) w12 (HE.out.kept S12.out.below)) ?_
 rw[Zy]
 rintro e w13 ⟨rfl,_,hb⟩
 have S13:=Lib.hid (S12.out.kept hb)
 replace H1:=Lib.hid (H1.out.kept hb)
 clear hb S12
 go_upto_region 10 with(refine wpList_store_row rfl 72 (.tmp 17) (.tmp 60) rfl w13.heap.size #[.int .i64 6,.int .i64 381] rfl rfl 72 #[.int .i64 0,.int .i64 0] ((St.alloc S13.out (cs:=#[.int .i64 0,.int .i64 0]) (t:=72)).blk 0 rfl) (Df _ _) rfl (Ie _ _) ?_)
 refine Cw (St.row 0 #[.int .i64 6,.int .i64 381] (St.alloc (St.start w13) (cs:=#[.int .i64 0,.int .i64 0]) (t:=72)) rfl).below (St.row 0 #[.int .i64 6,.int .i64 381] (St.alloc S13.out (cs:=#[.int .i64 0,.int .i64 0]) (t:=72)) rfl) ?_
 intro w14 hb S14'
 have S14:Hid (St w w14 [(w13.heap.size,#[.int .i64 6,.int .i64 381],72),(t8,#[.int .i64 11,.int .i64 380],72),((b4+1),#[.int .i64 10,.int .i64 380],72),(b4,(SV.arr {}),46),((b3+1),#[.int .i64 7,.int .i64 380],72),(b3,(SV.arr {}),46),((b2+1),#[.int .i64 0,.int .i64 0],72),(b2,sv2.arr,46),((b1+1),#[.int .i64 0,.int .i64 0],72),(b1,sv1.arr,46)]):=S14'.out
 replace H1:=Lib.hid (H1.out.kept hb)
 clear hb S14' S13
 generalize w13.heap.size=t9 at S14 ⊢
 go_wp2_with fail
 refine Calls.mono (P5.out B w14 (HE.out.kept S14.out.below)) ?_
 rw[Td]
 rintro e w15 ⟨rfl,hb⟩
 have S15:=Lib.hid (S14.out.kept hb)
 replace H1:=Lib.hid (H1.out.kept hb)
 clear hb S14
 go_upto_region 11 with(first|(refine wpList_store_row rfl 46 (.tmp 18) (.tmp 63) rfl w15.heap.size (SV.arr {}) rfl rfl 46 (SV.arr {}) ((Ei S15.out).blk 1 rfl) (Al _) rfl (Bh _) ?_)|(refine wpList_store_row rfl 72 (.tmp 19) (.tmp 64) rfl (w15.heap.size+1) #[.int .i64 24,.int .i64 382] rfl rfl 72 #[.int .i64 0,.int .i64 0] ((Eh S15.out (SV.arr {})).blk 0 rfl) (Df _ _) rfl (Ie _ _) ?_))
 refine Cw (B6 (St.start w15) (SV.arr {}) 24 382).below (B6 S15.out (SV.arr {}) 24 382) ?_
 intro w16 hb S16
 replace H1:=Lib.hid (H1.out.kept hb)
 clear hb S15
 generalize w15.heap.size=b5 at S16 ⊢
 go_wp2_with fail
 refine Calls.mono (P6.out B w16 (HE.out.kept S16.out.below)) ?_
 rw[Pd]
 rintro e w17 ⟨sv6,rfl,hs,hb⟩
 have S17:=Lib.hid (S16.out.kept hb)
 replace H1:=Lib.hid (H1.out.kept hb)
 have H6:Hid (StmIs (w16.heap.size≤·) w17 sv6 {Stm.zero with kind:=10,mode:=2}):=hs
 clear hs hb S16
 go_upto_region 12 with(first|(refine wpList_store_row rfl 46 (.tmp 20) (.tmp 67) rfl w17.heap.size sv6.arr rfl rfl 46 (SV.arr {}) ((Ei S17.out).blk 1 rfl) (Al _) rfl (Bh _) ?_)|(refine wpList_store_row rfl 72 (.tmp 21) (.tmp 68) rfl (w17.heap.size+1) #[.int .i64 0,.int .i64 0] rfl rfl 72 #[.int .i64 0,.int .i64 0] ((Eh S17.out sv6.arr).blk 0 rfl) (Df _ _) rfl (Ie _ _) ?_))
 refine Cw (B6 (St.start w17) sv6.arr 0 0).below (B6 S17.out sv6.arr 0 0) ?_
 intro w18 hb S18
 replace H1:=Lib.hid (H1.out.kept hb)
 replace H6:=Lib.hid (H6.out.kept hb)
 clear hb S17
 generalize w17.heap.size=b6 at S18 ⊢
 clear P1 P2 P3 P4 P5 P6
 obtain⟨p0,p0f,p0l⟩:=Aa (o:=0) (S18.out.blk 8 rfl) rfl
 obtain⟨p1,p1f,p1l⟩:=Aa (o:=1) (S18.out.blk 8 rfl) rfl
 obtain⟨q0,q0f,q0l⟩:=Aa (o:=0) (S18.out.blk 6 rfl) rfl
 obtain⟨q1,q1f,q1l⟩:=Aa (o:=1) (S18.out.blk 6 rfl) rfl
 obtain⟨r0,r0f,r0l⟩:=Aa (o:=0) (S18.out.blk 5 rfl) rfl
 obtain⟨r1,r1f,r1l⟩:=Aa (o:=1) (S18.out.blk 5 rfl) rfl
 obtain⟨s0,s0f,s0l⟩:=Aa (o:=0) (S18.out.blk 4 rfl) rfl
 obtain⟨s1,s1f,s1l⟩:=Aa (o:=1) (S18.out.blk 4 rfl) rfl
 obtain⟨u0,u0f,u0l⟩:=Aa (o:=0) (S18.out.blk 2 rfl) rfl
 obtain⟨u1,u1f,u1l⟩:=Aa (o:=1) (S18.out.blk 2 rfl) rfl
 go_upto_region 13 with fail
 clear p0 p0f p0l p1 p1f p1l q0 q0f q0l q1 q1f q1l r0 r0f r0l r1 r1f r1l s0 s0f s0l s1 s1f s1l u0 u0f u0l u1 u1f u1l
 go_upto_region 14 with fail
 refine Cw (ak (St.start w18)).below (ak S18.out) ?_
 intro w19 hb S19'
 have S19:Hid (St w w19 [((w18.heap.size+1),dbTab w18.heap.size,36),(w18.heap.size,dbCols,38),((b6+1),#[.int .i64 0,.int .i64 0],72),(b6,sv6.arr,46),((b5+1),#[.int .i64 24,.int .i64 382],72),(b5,(SV.arr {}),46),(t9,#[.int .i64 6,.int .i64 381],72),(t8,#[.int .i64 11,.int .i64 380],72),((b4+1),#[.int .i64 10,.int .i64 380],72),(b4,(SV.arr {}),46),((b3+1),#[.int .i64 7,.int .i64 380],72),(b3,(SV.arr {}),46),((b2+1),#[.int .i64 0,.int .i64 0],72),(b2,sv2.arr,46),((b1+1),#[.int .i64 0,.int .i64 0],72),(b1,sv1.arr,46)]):=S19'.out
 replace H1:=Lib.hid (H1.out.kept hb)
 replace H6:=Lib.hid (H6.out.kept hb)
 clear hb S19' S18
 generalize w18.heap.size=d at S19 ⊢
 obtain⟨x0,x0f,x0l⟩:=Aa (o:=21) (S19.out.blk 15 rfl) rfl
 obtain⟨x1,x1f,x1l⟩:=Aa (o:=22) (S19.out.blk 15 rfl) rfl
 obtain⟨x2,x2f,x2l⟩:=Aa (o:=23) (S19.out.blk 15 rfl) rfl
 obtain⟨x3,x3f,x3l⟩:=Aa (o:=24) (S19.out.blk 15 rfl) rfl
 obtain⟨x4,x4f,x4l⟩:=Aa (o:=25) (S19.out.blk 15 rfl) rfl
 obtain⟨x5,x5f,x5l⟩:=Aa (o:=26) (S19.out.blk 15 rfl) rfl
 obtain⟨x6,x6f,x6l⟩:=Aa (o:=27) (S19.out.blk 15 rfl) rfl
 obtain⟨x7,x7f,x7l⟩:=Aa (o:=28) (S19.out.blk 15 rfl) rfl
 obtain⟨x8,x8f,x8l⟩:=Aa (o:=29) (S19.out.blk 15 rfl) rfl
 obtain⟨x9,x9f,x9l⟩:=Aa (o:=30) (S19.out.blk 15 rfl) rfl
 obtain⟨x10,x10f,x10l⟩:=Aa (o:=31) (S19.out.blk 15 rfl) rfl
 obtain⟨x11,x11f,x11l⟩:=Aa (o:=32) (S19.out.blk 15 rfl) rfl
 obtain⟨x12,x12f,x12l⟩:=Aa (o:=33) (S19.out.blk 15 rfl) rfl
 obtain⟨x13,x13f,x13l⟩:=Aa (o:=34) (S19.out.blk 15 rfl) rfl
 go_wp2_with fail
 refine Calls.mono (Z7 (fun _=>True) (.slice (some ⟨d+1,0,none⟩) 1 1) sv1.sel w19 (bw (S19.out.blk 1 rfl) (S19.out.blk 0 rfl)) (H1.out.mono (R:=fun _=>True) (fun _ _=>trivial)).sel) ?_
 rintro e w20 ⟨qs,rfl,hb⟩
 have S20:=Lib.hid (S19.out.kept hb)
 have hk6:sv6.k=10:=H6.out.k
 have hm6:sv6.md=2:=H6.out.md
 clear hb S19 H1 H6 x0 x0f x0l x1 x1f x1l x2 x2f x2l x3 x3f x3l x4 x4f x4l x5 x5f x5l x6 x6f x6l x7 x7f x7l x8 x8f x8l x9 x9f x9l x10 x10f x10l x11 x11f x11l x12 x12f x12l x13 x13f x13l
 go_upto_region 15 with(refine wpList_store_row rfl 59 (.tmp 24) (.tmp 102) rfl w20.heap.size (QV.arr {qs with k:=7,n:=3}) rfl rfl 59 (QV.arr {}) ((St.alloc S20.out).blk 0 rfl) (Ae _) rfl (Ba _) ?_)
 refine St.gen (St.row 0 (QV.arr {qs with k:=7,n:=3}) (St.alloc S20.out (cs:=QV.arr {}) (t:=59)) rfl) ?_
 intro w21 S21'
 have S21:Hid (St w w21 [(w20.heap.size,(QV.arr {qs with k:=7,n:=3}),59),((d+1),dbTab d,36),(d,dbCols,38),((b6+1),#[.int .i64 0,.int .i64 0],72),(b6,sv6.arr,46),((b5+1),#[.int .i64 24,.int .i64 382],72),(b5,(SV.arr {}),46),(t9,#[.int .i64 6,.int .i64 381],72),(t8,#[.int .i64 11,.int .i64 380],72),((b4+1),#[.int .i64 10,.int .i64 380],72),(b4,(SV.arr {}),46),((b3+1),#[.int .i64 7,.int .i64 380],72),(b3,(SV.arr {}),46),((b2+1),#[.int .i64 0,.int .i64 0],72),(b2,sv2.arr,46),((b1+1),#[.int .i64 0,.int .i64 0],72),(b1,sv1.arr,46)]):=S21'.out
 clear S21' S20
 generalize w20.heap.size=qb at S21 ⊢
 obtain⟨q0,q0f,q0l⟩:=Aa (o:=0) (S21.out.blk 0 rfl) (show(QV.arr {qs with k:=7,n:=3})[0]?=some (.int .i64 7)from rfl)
 obtain⟨q13,q13f,q13l⟩:=Aa (o:=13) (S21.out.blk 0 rfl) (show(QV.arr {qs with k:=7,n:=3})[13]?=some (.int .i64 3)from rfl)
 obtain⟨p0,p0f,p0l⟩:=Aa (o:=0) (S21.out.blk 15 rfl) rfl
 obtain⟨p1,p1f,p1l⟩:=Aa (o:=1) (S21.out.blk 15 rfl) rfl
 obtain⟨r0,r0f,r0l⟩:=Aa (o:=0) (S21.out.blk 13 rfl) rfl
 obtain⟨r1,r1f,r1l⟩:=Aa (o:=1) (S21.out.blk 13 rfl) rfl
 obtain⟨t0,t0f,t0l⟩:=Aa (o:=0) (S21.out.blk 3 rfl) rfl
 obtain⟨t1,t1f,t1l⟩:=Aa (o:=1) (S21.out.blk 3 rfl) rfl
 obtain⟨k0,k0f,k0l⟩:=Aa (o:=0) (S21.out.blk 4 rfl) (show sv6.arr[0]?=some (.int .i64 sv6.k)from rfl)
 obtain⟨k35,k35f,k35l⟩:=Aa (o:=35) (S21.out.blk 4 rfl) (show sv6.arr[35]?=some (.int .i64 sv6.md)from rfl)
 rw[hk6]at k0
 rw[hm6]at k35
 go_wp2_with fail
 go_returns
 exact⟨rfl,S21.out.below⟩
end Go.Proofs.YtjmmbebkbkgefaaGreatDoor
