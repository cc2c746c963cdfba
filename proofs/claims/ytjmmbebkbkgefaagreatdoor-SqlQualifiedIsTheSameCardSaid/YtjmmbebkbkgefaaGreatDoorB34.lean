/- Part 34; the last part says what is proved. No condition. -/
import Derived.Test.YtjmmbebkbkgefaaGreatDoorB27
import Derived.Test.YtjmmbebkbkgefaaGreatDoorB33
set_option linter.unusedVariables false
set_option linter.unusedSimpArgs false
set_option maxHeartbeats 8000000
set_option maxRecDepth 100000
namespace Go.Proofs.YtjmmbebkbkgefaaGreatDoor
open Go.RowKit Go.Sort Tryz
theorem Oa (x:Stm) (s:SV) (w:World) (h:StmIn (·<w.heap.size) w s x) (he:Env w.heap.size w) (hk:x.kind=9) (hn:x.formed=true) (hln:(stmP x).length+10<=1000000000) (hlj:(joinSp (stmP x)).length<=140737488355328) (hC:Hid (CheckAt x)):
 Calls prog 18 #[.agg s.arr] w (fun e w'=>e=.returned (.tuple #[.string ⟨(printS x).1.toArray⟩,.int .i64 (printS x).2])/\Below w.heap.size w w'):=by
 have hkx:s.k=x.kind:=h.k
 have HFM:Hid (x.select.chosen=true):=by
  show _=_;have:=hn;unfold Stm.formed at this;rw[hk]at this;have h2:(x.select.chosen&&Stm.unused {x with select:=Sel.zero})=true:=this;simp only[Bool.and_eq_true]at h2;exact h2.1
 have HCK:Hid (∀W,Below w.heap.size w W->Calls prog 8 #[.agg s.arr] W (Says (.int .i64 (errF x.formed)) W)):=fun W hb=>
  hC.out _ s W (h.kept hb)
 have hps:stmP x=([]:List Bytes)++selP x.select:=by
  unfold stmP;rw[hk];rfl
 have hne:([]:List Bytes)++selP x.select≠[]:=by simp[selP]
 have HPR:Hid (printS x=if 4000<(joinSp (([]:List Bytes)++selP x.select)).length then([],2)else(joinSp (([]:List Bytes)++selP x.select),0)):=by
  show printS x=_;unfold printS;rw[hn,hps];rfl
 rw[hps]at hln hlj
 simp only[List.length_append,List.length_cons,List.length_nil]at hln
 have HLJ:=Lib.hid hlj
 have HNE:=Lib.hid hne
 have H:=Lib.hid h
 have HE:=Lib.hid he
 clear h hps hlj hne
 go_enter func18,ntmps18
 go_upto_region 2 with(first|(refine wpList_load_row rfl 46 (.tmp 1) rfl w.heap.size rfl 46 s.arr (0,0) _ (World.alloc_heap_new w _) underlying46 rfl (Al _) ?_))
 refine Calls.mono (HCK.out _ ((Below.refl _ _).alloc (Nat.le_refl _) _)) ?_
 rintro e w1 ⟨rfl,hb1⟩
 have h1:w1.heap[w.heap.size]?=some (.cells s.arr 46 (0,0)):=(hb1.block _ (by rw[World.size_alloc];omega)).trans (World.alloc_heap_new w _)
 have hB:Below w.heap.size w w1:=((Below.refl _ _).alloc (Nat.le_refl _) _).trans ⟨hb1.os,hb1.tape,hb1.output,hb1.size,fun k hk=>hb1.block k (by rw[World.size_alloc];omega)⟩
 have HX:=Lib.hid (PrSt.start (s:=s) he (Below.refl _ _) h1 hB)
 rw[show errF x.formed=0 by rw[hn];rfl]
 clear hb1 h1 hB HCK he
 go_upto_region 5 with fail
 refine codeGenC (fun W=>PrSt w w1.heap.size (w1.alloc (.cells #[.slice none 0 0] 119)) W s []) HX.out ?_
 clear HX
 intro W2 S0'
 have S0:=Lib.hid S0'
 clear S0'
 generalize w1.alloc (.cells #[.slice none 0 0] 119)=w0 at *
 generalize w1.heap.size=wb at *
 have hks:s.k=9:=hkx.trans hk
 have kd:W2.cell? ⟨w.heap.size,0,none⟩=some (.int .i64 s.k):=by simp only[World.cell?,S0.out.at];rfl
 rw[hks]at kd
 have CH:Hid (∀W zs,Below w.heap.size w W->Wrt (w.heap.size+1) W wb zs->Env (w.heap.size+1) W->zs.length+(selP x.select).length+10<=1000000000->Calls prog 67 #[.pointer (some ⟨wb,0,none⟩),s.sel] W (Puts (w.heap.size+1) wb W (zs++selP x.select))):=fun W zs hb hw hE hl=>
  Pm x.select _ HFM.out W ((H.out.kept hb).mono (R:=(·<w.heap.size+1)) (fun b hb=>Nat.lt_succ_of_lt hb)).sel hw hE hl
 have F0:=S0.out.f.facts
 simp only[St.Facts,cellFacts,apartFacts,and_true]at F0
 have xxd:W2.cell? ⟨w.heap.size,21,none⟩=some (.bool s.xd):=by simp only[World.cell?,S0.out.at];rfl
 have xxi:W2.cell? ⟨w.heap.size,22,none⟩=some (sl s.xi):=by simp only[World.cell?,S0.out.at];rfl
 have xxf:W2.cell? ⟨w.heap.size,23,none⟩=some (sl s.xf):=by simp only[World.cell?,S0.out.at];rfl
 have xxo:W2.cell? ⟨w.heap.size,24,none⟩=some (sl s.xo):=by simp only[World.cell?,S0.out.at];rfl
 have xyo:W2.cell? ⟨w.heap.size,25,none⟩=some (.int .i64 s.yo):=by simp only[World.cell?,S0.out.at];rfl
 have xyt:W2.cell? ⟨w.heap.size,26,none⟩=some (.string ⟨s.yt.toArray⟩):=by simp only[World.cell?,S0.out.at];rfl
 have xyn:W2.cell? ⟨w.heap.size,27,none⟩=some (.string ⟨s.yn.toArray⟩):=by simp only[World.cell?,S0.out.at];rfl
 have xy3:W2.cell? ⟨w.heap.size,28,none⟩=some (.int .i64 s.yv.k):=by simp only[World.cell?,S0.out.at];rfl
 have xy4:W2.cell? ⟨w.heap.size,29,none⟩=some (.int .i64 s.yv.n):=by simp only[World.cell?,S0.out.at];rfl
 have xy5:W2.cell? ⟨w.heap.size,30,none⟩=some (.string s.yv.s):=by simp only[World.cell?,S0.out.at];rfl
 have xya:W2.cell? ⟨w.heap.size,31,none⟩=some (sl s.ya):=by simp only[World.cell?,S0.out.at];rfl
 have xxg:W2.cell? ⟨w.heap.size,32,none⟩=some (sl s.xg):=by simp only[World.cell?,S0.out.at];rfl
 have xxs:W2.cell? ⟨w.heap.size,33,none⟩=some (sl s.xs):=by simp only[World.cell?,S0.out.at];rfl
 have xxl:W2.cell? ⟨w.heap.size,34,none⟩=some (.int .i64 s.xl):=by simp only[World.cell?,S0.out.at];rfl
 go_wp2_with fail
 refine S0.out.f.call (CH.out _ _ S0.out.below S0.out.f.wrt S0.out.env (by simp only[List.length_append,List.length_cons,List.length_nil];omega)) ?_
 intro v1 S1p
 have S1:=Lib.hid (S0.out.went S1p.out rfl)
 clear S0 S1p F0 xxd xxi xxf xxo xyo xyt xyn xy3 xy4 xy5 xya xxg xxs xxl
 have F1:=S1.out.f.facts
 simp only[St.Facts,cellFacts,apartFacts,and_true]at F1
 have xxd:v1.cell? ⟨w.heap.size,21,none⟩=some (.bool s.xd):=by simp only[World.cell?,S1.out.at];rfl
 have xxi:v1.cell? ⟨w.heap.size,22,none⟩=some (sl s.xi):=by simp only[World.cell?,S1.out.at];rfl
 have xxf:v1.cell? ⟨w.heap.size,23,none⟩=some (sl s.xf):=by simp only[World.cell?,S1.out.at];rfl
 have xxo:v1.cell? ⟨w.heap.size,24,none⟩=some (sl s.xo):=by simp only[World.cell?,S1.out.at];rfl
 have xyo:v1.cell? ⟨w.heap.size,25,none⟩=some (.int .i64 s.yo):=by simp only[World.cell?,S1.out.at];rfl
 have xyt:v1.cell? ⟨w.heap.size,26,none⟩=some (.string ⟨s.yt.toArray⟩):=by simp only[World.cell?,S1.out.at];rfl
 have xyn:v1.cell? ⟨w.heap.size,27,none⟩=some (.string ⟨s.yn.toArray⟩):=by simp only[World.cell?,S1.out.at];rfl
 have xy3:v1.cell? ⟨w.heap.size,28,none⟩=some (.int .i64 s.yv.k):=by simp only[World.cell?,S1.out.at];rfl
 have xy4:v1.cell? ⟨w.heap.size,29,none⟩=some (.int .i64 s.yv.n):=by simp only[World.cell?,S1.out.at];rfl
 have xy5:v1.cell? ⟨w.heap.size,30,none⟩=some (.string s.yv.s):=by simp only[World.cell?,S1.out.at];rfl
 have xya:v1.cell? ⟨w.heap.size,31,none⟩=some (sl s.ya):=by simp only[World.cell?,S1.out.at];rfl
 have xxg:v1.cell? ⟨w.heap.size,32,none⟩=some (sl s.xg):=by simp only[World.cell?,S1.out.at];rfl
 have xxs:v1.cell? ⟨w.heap.size,33,none⟩=some (sl s.xs):=by simp only[World.cell?,S1.out.at];rfl
 have xxl:v1.cell? ⟨w.heap.size,34,none⟩=some (.int .i64 s.xl):=by simp only[World.cell?,S1.out.at];rfl
 obtain⟨v,hv,hj⟩:=bh S1.out.f.wrt HNE.out (by simp only[List.length_append,List.length_cons,List.length_nil];omega) HLJ.out
 have HJ:=Lib.hid hj
 have y0:v1.cell? ⟨wb,0,none⟩=some v:=by simp only[World.cell?,hv];rfl
 clear hv hj
 go_wp2_with fail
 refine Calls.mono HJ.out ?_
 rintro e w4 ⟨rfl,hb4⟩
 have HB:Hid (Below w.heap.size w w4):=S1.out.below.trans ⟨hb4.os,hb4.tape,hb4.output,hb4.size,fun k hk=>hb4.block k (by have:=S1.out.f.size;have:=S1.out.lt;omega)⟩
 clear hb4 S1 F1 y0 HJ HLJ
 generalize joinSp (([]:List Bytes)++selP x.select)=js at *
 by_cases hlen:4000<js.length
 ·have hp2:=HPR.out;rw[if_pos hlen]at hp2;have hli:(4000:Int)<(js.length:Int):=by omega
  go_wp2_with fail;go_returns;exact⟨by rw[hp2];rfl,HB.out⟩
 ·have hp2:=HPR.out;rw[if_neg hlen]at hp2;have hli:¬(4000:Int)<(js.length:Int):=by omega
  go_wp2_with fail;go_returns;exact⟨by rw[hp2];rfl,HB.out⟩
def PrintPost (w:World) (x:Stm) (e:Ending) (w':World):Prop:=e=.returned (.tuple #[.string ⟨(printS x).1.toArray⟩,.int .i64 (printS x).2])/\Below w.heap.size w w'
end Go.Proofs.YtjmmbebkbkgefaaGreatDoor
