/- Part 24; the last part says what is proved. No condition. -/
import Derived.Deep.CutBlock
import Derived.Test.YtjmmbebkbkgefaaGreatDoorB22
set_option linter.unusedVariables false
set_option linter.unusedSimpArgs false
set_option maxHeartbeats 32000000
set_option maxRecDepth 100000
namespace Go.Proofs.YtjmmbebkbkgefaaGreatDoor
open Go.RowKit Go.Sort Go.Proofs.Tryz
section
variable {P:Program} {o:Oper} {a:Act} {Q:Exit->Act->World->Prop}
theorem M1 {M:Nat->Prop} {w0:World} {next:Act->Prop} (t:TypeId) (i j:Nat) (x y:Operand) (ho:o.op=.build t #[(i,x),(j,y)]) (u z:Value) (hx:a.eval x=u) (hy:a.eval y=z) (cs:Array Value)
 (hb:∀w,(Instr.build t #[(i,u),(j,z)]).run P w=.ok (.agg cs) w) (h:next (a.put o.dst (.agg cs))):o.mildT P a M w0 next:=by
 refine⟨.agg cs,?_,h⟩
 rintro w ⟨p,rfl⟩
 unfold Oper.mildAt execOp
 simp only[ho,List.map_toArray,List.map_cons,List.map_nil,hx,hy,Sem.run_bind,hb,Result.andThen_ok,Sem.run_pure,Oper.mildUpon,and_self]
theorem Nj {M:Nat->Prop} {w0 wc:World} {l:List Oper} {tail:List Oper} {k:Nat} {r:List (Nat×Bool)} (hk:l[k]?=some o) (hw:Region.wanted o (yielded l.toArray a.tmps)=true) (t:TypeId) (i j:Nat) (x y:Operand) (ho:o.op=.build t #[(i,x),(j,y)]) (u z:Value) (hx:a.eval x=u) (hy:a.eval y=z) (cs:Array Value)
 (hb:∀w,(Instr.build t #[(i,u),(j,z)]).run P w=.ok (.agg cs) w) (h:wpMT P l.toArray M w0 Q tail r (a.put o.dst (.agg cs)) wc):wpMT P l.toArray M w0 Q tail ((k,false)::r) a wc:=
 A0 hk (fun K hK=>by rw[if_pos hw];exact M1 t i j x y ho u z hx hy cs hb (hK _ h))
end
theorem au (fn xop xn:Int) (v:V) (a:Value) (w:World):(Instr.build 107 #[(0,.int .i64 fn),(1,.agg #[.int .i64 xop,.int .i64 xn,.int .i64 v.k,.int .i64 v.n,.string v.s,a])]).run prog w=.ok (.agg #[.int .i64 fn,.int .i64 xop,.int .i64 xn,.int .i64 v.k,.int .i64 v.n,.string v.s,a]) w:=by kernel_rfl
theorem Xb (fn xop xn:Int) (v:V) (a:Value) (w:World):(Instr.buildSlice 56 1 #[(0,.agg #[.int .i64 fn,.int .i64 xop,.int .i64 xn,.int .i64 v.k,.int .i64 v.n,.string v.s,a])]).run prog w=.ok (.slice (some ⟨w.heap.size,0,none⟩) 1 1) (w.alloc (.cells #[.int .i64 fn,.int .i64 xop,.int .i64 xn,.int .i64 v.k,.int .i64 v.n,.string v.s,a] 107)):=by kernel_rfl
section
variable {ops:Array Oper} {rest:List Oper} {o:Oper} {a:Act} {Q:Exit->Act->World->Prop} {W:World}
theorem Nk (hg:o.guard=none) (x:Operand) (ho:o.op=.buildSlice 56 1 #[(0,x)]) (fn xop xn:Int) (v:V) (z:Value) (hx:a.eval x=.agg #[.int .i64 fn,.int .i64 xop,.int .i64 xn,.int .i64 v.k,.int .i64 v.n,.string v.s,z])
 (h:wpList prog ops Q rest (a.put o.dst (.slice (some ⟨W.heap.size,0,none⟩) 1 1)) (W.alloc (.cells #[.int .i64 fn,.int .i64 xop,.int .i64 xn,.int .i64 v.k,.int .i64 v.n,.string v.s,z] 107))):wpList prog ops Q (o::rest) a W:=by
 refine wpList_plain hg fun K hK=>?_
 unfold Oper.wp execOp
 simp only[ho,List.map_toArray,List.map_cons,List.map_nil,hx,Sem.run_bind,Xb,Result.andThen_ok,Sem.run_pure]
 exact hK _ _ h
end
theorem Hh (db:List Tbl) (hdb:db.length<=1000000) (hdc:∀t∈db,t.cols.length<=20) (x:Sel) (hf1:1<=x.from_.length) (hf2:x.from_.length<=4) (hon:x.on.length+1=x.from_.length) (hbo:∀e∈x.on,e.brief) (hbw:x.where_.brief) (hgl:x.group.length<=16) (hbg:∀e∈x.group,e.brief)
 (hil:x.items.length<=16) (hbi:∀it∈x.items,it.arg.brief) (hsl:x.sort.length<=16) (hso:∀s∈x.sort,0<=s.place/\s.place<=549755813887) (hfine:∀sc,scopeY db [] x.from_=.ok sc->(boundY sc x).2=0->QG db 20 (boundY sc x).1) (da:Option Addr) (dc:Nat) (xa:Array Value) (w:World)
 (hd:RSl tblE (·<w.heap.size) w (.slice da db.length dc) db) (hx:RSelQ (·<w.heap.size) w x (.agg xa)):Calls prog 12 #[.slice da db.length dc,.agg xa] w (BindPost w (bindY schemaQ db x)):=by
 obtain⟨ia,ic,fa,fc,oa,oc,wa,wc0,ga,gc,sa,sn,hxe,hxi,hxf,hxo,hxw,hxg,hxs⟩:=hx
 injection hxe with hxe
 have HX0:RSelQ (·<w.heap.size) w x (.agg xa):=⟨ia,ic,fa,fc,oa,oc,wa,wc0,ga,gc,sa,sn,by rw[hxe],hxi,hxf,hxo,hxw,hxg,hxs⟩
 have HX:=Lib.hid HX0
 clear HX0
 have hx1:xa[1]?=some (.slice ia x.items.length ic):=by rw[hxe];rfl
 have hx2:xa[2]?=some (.slice fa x.from_.length fc):=by rw[hxe];rfl
 have hx3:xa[3]?=some (.slice oa x.on.length oc):=by rw[hxe];rfl
 have hx4:xa[4]?=some (.int .i64 x.where_.op):=by rw[hxe];rfl
 have hx5:xa[5]?=some (.string ⟨x.where_.table.toArray⟩):=by rw[hxe];rfl
 have hx6:xa[6]?=some (.string ⟨x.where_.name.toArray⟩):=by rw[hxe];rfl
 have hx7:xa[7]?=some (.int .i64 x.where_.val.k):=by rw[hxe];rfl
 have hx8:xa[8]?=some (.int .i64 x.where_.val.n):=by rw[hxe];rfl
 have hx9:xa[9]?=some (.string x.where_.val.s):=by rw[hxe];rfl
 have hx10:xa[10]?=some (.slice wa x.where_.args.length wc0):=by rw[hxe];rfl
 have hx11:xa[11]?=some (.slice ga x.group.length gc):=by rw[hxe];rfl
 have hxz:(prog.info? 44).map (·.size)=some xa.size:=by rw[hxe];kernel_rfl
 have HW:Hid (ExIn (·<w.heap.size) w x.where_ [.int .i64 x.where_.op,.string ⟨x.where_.table.toArray⟩,.string ⟨x.where_.name.toArray⟩,.int .i64 x.where_.val.k,.int .i64 x.where_.val.n,.string x.where_.val.s,.slice wa x.where_.args.length wc0]):=by
  show ExIn _ _ _ _;revert hxw;generalize x.where_=e;intro h;obtain⟨op,t,n,v,args⟩:=e;exact Bc h
 have HD:=Lib.hid hd
 have HI:=Lib.hid hxi
 have HF:=Lib.hid hxf
 have HO:=Lib.hid hxo
 have HG:=Lib.hid hxg
 have HDC:=Lib.hid hdc
 have HBO:=Lib.hid hbo
 have HBG:=Lib.hid hbg
 have HBI:=Lib.hid hbi
 have HBW:=Lib.hid hbw
 have HSO:=Lib.hid hso
 have HFN:=Lib.hid hfine
 obtain⟨tot,htot⟩:∃t,bindY schemaQ db x=t:=⟨_,rfl⟩
 have HT0:Hid (tot=bdA db x (scJ [] (scopeY db (x.from_.take 0) (x.from_.drop 0)))):=by
  show _=_;rw[<- htot,Ku];show _=bdA db x (scJ [] (scopeY db [] x.from_))
  cases scopeY db [] x.from_<;>rfl
 have HS0:Hid (scopeY db [] x.from_=scJ [] (scopeY db (x.from_.take 0) (x.from_.drop 0))):=by
  show _=scJ [] (scopeY db [] x.from_)
  cases scopeY db [] x.from_<;>rfl
 rw[htot]
 clear hxe hd hxi hxf hxo hxw hxg hxs hdc hbo hbg hbi hbw hso hfine htot
 go_enter func12,ntmps12
 go_upto_region 2 with fail
 refine Af (fun W=>BF M0 U1 w W (bdL w.heap.size xa (.slice none 0 0) 0) [] Far.top) ?_ ?_
 ·have h:=((BF.alloc (cs:=xa) (t:=44) ⟨StM.start M0 w,OwnRows.nil _ _,fun _ h=>absurd h (by simp),trivial⟩:BF M0 U1 w _ _ [] Far.top).alloc (cs:=QV.arr {}) (t:=59)).alloc (cs:=#[.slice none 0 0,.int .i64 0]) (t:=99);simp only[World.size_alloc]at h;exact h
 intro w1 F1'
 have F1:=Lib.hid F1'
 clear F1'
 go_upto_region 2 with fail
 obtain⟨x2,x2f,x2l⟩:=Aa (o:=2) (F1.out.blk 2 rfl) hx2
 go_upto_block 0 with fail
 clear x2 x2f x2l
 go_cut []from 7 to 65 (fun wc=>∃(ta:Option Addr) (tc:Nat) (sc:List Tbl),Hid (scopeY db [] x.from_=.ok sc)/\Hid (tot=bdB db (boundY sc x))/\Hid (∀t∈sc,t∈db)/\Hid (sc.length=x.from_.length)/\Hid (BF M0 U1 w wc (bdL w.heap.size xa (.slice ta sc.length tc) 0) [] (bT (.slice ta sc.length tc) sc)))
 case first=>
  as_aux_lemma=>
  obtain⟨x2,x2f,x2l⟩:=Aa (o:=2) (F1.out.blk 2 rfl) hx2
  go_wp2_with fail
  clear x2 x2f x2l
  go_loopw [7,8,9,32,40,44] (fun _ _ _ iv _ _ wr=>∃(j:Nat) (acc:List Tbl) (ta:Option Addr) (tc:Nat) (xs:List Value),iv=.int .i64 j/\j<=x.from_.length/\Hid (acc.length=j)/\Hid (tot=bdA db x (scJ acc (scopeY db (x.from_.take j) (x.from_.drop j))))/\Hid (scopeY db [] x.from_=scJ acc (scopeY db (x.from_.take j) (x.from_.drop j)))/\Hid (∀t∈acc,t∈db)/\Hid (BF M0 U1 w wr (bdL w.heap.size xa (.slice ta acc.length tc) 0) [⟨36,4,.slice ta acc.length tc,acc.length,xs⟩] (Far.top.and (farL tblE acc xs)))) (fun _ _ _ iv _ _ _=>x.from_.length - (intOf iv).toNat)
  case atStart=>exact⟨0,[],none,0,[],rfl,by omega,rfl,HT0.out,HS0.out,fun _ h=>absurd h (by simp),(F1.out.snoc 36 4).imp fun _ _ _=>⟨trivial,rfl⟩⟩
  case round=>
   clear F1 HT0 HS0;obtain⟨j,acc,ta,tc,xs,rfl,hj,HL,HT,HS,HM,F1⟩:=hrel;by_cases hlt:j<x.from_.length
   ·obtain⟨nm,hxj⟩:∃y,x.from_[j]?=some y:=⟨x.from_[j],by simp[hlt]⟩;obtain⟨b,o,cap,cs,hbo,hin,hat⟩:=(HF.out.kept (by decide) F1.out.below).at hxj;injection hbo with e1 _ e2;subst e1;subst e2;have e:cs=[.string ⟨nm.toArray⟩]:=hin;subst e;have y0:=hat 0 _ rfl;simp only[show strE.k=1 from rfl,Nat.mul_one,Nat.add_zero]at y0;have y0l:=block_lt_of_cell y0;have hdr:x.from_.drop j=nm::x.from_.drop (j+1):=by
     obtain⟨h1,rfl⟩:=List.getElem?_eq_some_iff.1 hxj;exact List.drop_eq_getElem_cons h1
    have htk:x.from_.take j++[nm]=x.from_.take (j+1):=by
     obtain⟨h1,rfl⟩:=List.getElem?_eq_some_iff.1 hxj;rw[List.take_succ_eq_append_getElem h1]
    have hji:(j:Int)<(x.from_.length:Int):=by omega
    have ht0:=HT.out;have hs0:=HS.out;rw[hdr]at ht0 hs0;clear hat hin hdr HT HS;go_upto_region 5 with fail;clear y0 y0l;refine Af (fun W=>BF M0 U1 w W ((wr.heap.size,#[.string ⟨nm.toArray⟩],9)::bdL w.heap.size xa (.slice ta acc.length tc) 0) [⟨36,4,.slice ta acc.length tc,acc.length,xs⟩] (Far.top.and (farL tblE acc xs))) F1.out.alloc ?_;clear F1;intro w2 F2';have F2:=Lib.hid F2';clear F2';generalize wr.heap.size=nb at *;have hnb:w2.cell? ⟨nb,0,none⟩=some (.string ⟨nm.toArray⟩):=(Aa (o:=0) (F2.out.blk 0 rfl) rfl).1;have CT:=Lib.hid (L6 39 nb (·<w.heap.size) (fun t=>t.name==nm) db _ w2 Yp (HD.out.kept (by decide) F2.out.below) (by omega) (fun W a cs hW ha hin2=>Wd (·<w.heap.size) nb nm a cs W (hW.cell_kept hnb) hin2));have hmf:∀(fn:Fn) (first cap:Array Value) (w:World),(Instr.makeFunc fn first cap).run prog w=.ok (.func fn first cap) w:=fun _ _ _ _=>rfl;clear hnb;rcases Em (fun t:Tbl=>t.name==nm) db 0 with⟨hi,hfd⟩|⟨j2,t,hi,hj2,hfd⟩
    ·rw[hi]at CT;rw[Nz hfd]at ht0;obtain rfl:tot=(Qy.zero,5):=ht0;clear hs0 hi hfd;go_wp2_with fail;refine Calls.mono CT.out ?_;rintro e w3 ⟨rfl,hb3⟩;have F3:=Lib.hid (F2.out.kept hb3);clear hb3 CT F2;go_wp2_with(first|(refine A5 rfl 59 _ rfl (QV.arr {}) Ss ?_)|(refine wpList_store_row rfl 59 (.tmp 4) (.tmp 43) rfl (w.heap.size+1) (QV.arr {}) rfl rfl 59 (QV.arr {}) (F3.out.blk 2 rfl) (Ae _) rfl (Ba _) ?_));try unfold Held
     have SE:=BF.row 2 (QV.arr {}) F3.out rfl;simp only[List.set_cons_zero,List.set_cons_succ]at SE;have hl:=run_loadVar_row (P:=prog) _ (w.heap.size+1) 59 59 (QV.arr {}) (0,0) _ (SE.blk 2 rfl) underlying59 rfl (Ae _);refine bodyPost_ret (v:=.tuple #[.agg (QV.arr {}),.int .i64 5]) (Bk rfl _ _ (w.heap.size+1) _ _ rfl rfl hl) rfl ?_;exact⟨{},rfl,Fr _ _,SE.below⟩
    ·rw[hi,Nat.zero_add]at CT;have hj2l:j2<db.length:=(List.getElem?_eq_some_iff.1 hj2).1;have hj2i:(j2:Int)<(db.length:Int):=by omega
     have htm:t∈db:=List.mem_of_getElem? hj2;go_wp2_with fail;refine Calls.mono CT.out ?_;rintro e w3 ⟨rfl,hb3⟩;have F3:=Lib.hid (F2.out.kept hb3);clear hb3 CT F2 hi;go_upto_region 8 with fail;obtain⟨n0,_,n0l⟩:=Aa (o:=0) (F3.out.blk 0 rfl) rfl;obtain⟨x2,_,x2l⟩:=Aa (o:=2) (F3.out.blk 3 rfl) hx2;replace x2:=cell_regrown x2;replace n0:=cell_regrown n0;have hcap:x.from_.length<=fc:=by
      obtain⟨_,⟨_,_,e,h,_⟩,_⟩:=HF.out;injection e with _ _ e;omega
     have hjc:(j:Int)<=(fc:Int):=by omega
     refine Ab 7 [(0,false),(1,false),(2,false),(3,false),(4,false),(5,true),(6,false)] (by kernel_rfl) (by kernel_rfl) ?_;repeat(refine An rfl (fun K hK=>?_);go_simp;first|(refine hK _ ?_;clear hK K)|(apply Exists.intro;refine⟨fun _=>?_,hK _ ?_⟩;(fail);clear hK K))
     refine I1 rfl ?_;intro w4 hb4 hb04;have F4:=Lib.hid (F3.out.kept hb4);have T4:=Lib.hid ((St.start w3).kept hb4);clear hb4 hb04 x2 n0 F3;have hlt2:(x.from_.take j).length=j:=by rw[List.length_take,Nat.min_eq_left hj]
     have CC:=V9 (·<w.heap.size) (x.from_.take j) nm (some ⟨b,o,none⟩) fc w4 (by rw[hlt2];exact Jx (HF.out.kept (by decide) F4.out.below) hj) (by omega);rw[hlt2]at CC;have CC:=Lib.hid CC;by_cases hmm:nm∈x.from_.take j
     ·rw[decide_eq_true hmm]at CC;rw[Lq hfd hmm]at ht0;obtain rfl:tot=(Qy.zero,6):=ht0;go_wp2_with fail;refine Calls.mono CC.out ?_;rintro e w5 ⟨rfl,hb5⟩;have F5:=Lib.hid (F4.out.kept hb5);have T5:=Lib.hid (T4.out.kept hb5);clear hb5 CC F4 T4;go_wp2_with fail;refine⟨T5.out.below,?_⟩;repeat(refine An rfl (fun K hK=>?_);go_simp;first|(refine hK _ ?_;clear hK K)|(apply Exists.intro;refine⟨fun _=>?_,hK _ ?_⟩;(fail);clear hK K))
      refine A3 ?_;intro w6 hb6 _;have F6:=Lib.hid (F5.out.kept hb6);clear hb6 F5 T5;go_wp2_with(first|(refine A5 rfl 59 _ rfl (QV.arr {}) Ss ?_)|(refine wpList_store_row rfl 59 (.tmp 4) (.tmp 51) rfl (w.heap.size+1) (QV.arr {}) rfl rfl 59 (QV.arr {}) (F6.out.blk 2 rfl) (Ae _) rfl (Ba _) ?_));try unfold Held
      have SE:=BF.row 2 (QV.arr {}) F6.out rfl;simp only[List.set_cons_zero,List.set_cons_succ]at SE;have hl:=run_loadVar_row (P:=prog) _ (w.heap.size+1) 59 59 (QV.arr {}) (0,0) _ (SE.blk 2 rfl) underlying59 rfl (Ae _);refine bodyPost_ret (v:=.tuple #[.agg (QV.arr {}),.int .i64 6]) (Bk rfl _ _ (w.heap.size+1) _ _ rfl rfl hl) rfl ?_;exact⟨{},rfl,Fr _ _,SE.below⟩
     ·rw[decide_eq_false hmm]at CC;rw[N0 hfd hmm,htk]at ht0 hs0;have HT:=Lib.hid ht0;have HS:=Lib.hid hs0;clear ht0 hs0;go_wp2_with fail;refine Calls.mono CC.out ?_;rintro e w5 ⟨rfl,hb5⟩;have F5:=Lib.hid (F4.out.kept hb5);have T5:=Lib.hid (T4.out.kept hb5);clear hb5 CC F4 T4;go_wp2_with fail;refine⟨T5.out.below,?_⟩;repeat(refine An rfl (fun K hK=>?_);go_simp;first|(refine hK _ ?_;clear hK K)|(apply Exists.intro;refine⟨fun _=>?_,hK _ ?_⟩;(fail);clear hK K))
      refine A3 ?_;intro w6 hb6 _;have F6:=Lib.hid (F5.out.kept hb6);clear hb6 F5 T5;obtain⟨b2,o2,cap2,cs2,hbo2,hin2,hat2⟩:=(HD.out.kept (by decide) F6.out.below).at hj2;injection hbo2 with e1 _ e2;subst e1;subst e2;have hinT:=hin2;have hb2l:b2<w.heap.size:=by
       obtain⟨_,⟨a3,_,e,_,h⟩,_⟩:=HD.out;obtain⟨b3,o3,e3,h3,_⟩:=h (by omega);simp only[Value.slice.injEq]at e;rw[<- e.1]at e3;simp only[Option.some.injEq,Addr.mk.injEq]at e3;rw[e3.1];exact h3
      have F6b:=Lib.hid F6.out.below;obtain⟨ca,cc,ja,jc,ka,kc,rfl,_⟩:=hin2;have t0:=hat2 0 _ rfl;have t1:=hat2 1 _ rfl;have t2:=hat2 2 _ rfl;have t3:=hat2 3 _ rfl;simp only[show tblE.k=4 from rfl,Nat.add_zero]at t0 t1 t2 t3;go_upto_region 10 with fail;have y0:∀p:TurnW (fun k=>(Value.slice ta acc.length tc).ownBlock=some k) w6,p.w.cell? ⟨w.heap.size+1+1,0,none⟩=some (.slice ta acc.length tc):=fun p=>F6.out.cellT (i:=0) rfl (j:=1) rfl 0 rfl p;have z0:∀p:TurnW (fun k=>(Value.slice ta acc.length tc).ownBlock=some k) w6,p.w.cell? ⟨b2,o2+j2 * 4,none⟩=some _:=fun p=>F6.out.inT (i:=0) rfl hb2l t0 p;have z1:∀p:TurnW (fun k=>(Value.slice ta acc.length tc).ownBlock=some k) w6,p.w.cell? ⟨b2,o2+j2 * 4+1,none⟩=some _:=fun p=>F6.out.inT (i:=0) rfl hb2l t1 p;have z2:∀p:TurnW (fun k=>(Value.slice ta acc.length tc).ownBlock=some k) w6,p.w.cell? ⟨b2,o2+j2 * 4+2,none⟩=some _:=fun p=>F6.out.inT (i:=0) rfl hb2l t2 p;have z3:∀p:TurnW (fun k=>(Value.slice ta acc.length tc).ownBlock=some k) w6,p.w.cell? ⟨b2,o2+j2 * 4+3,none⟩=some _:=fun p=>F6.out.inT (i:=0) rfl hb2l t3 p;clear t0 t1 t2 t3 hat2;refine Ay (fun k=>(Value.slice ta acc.length tc).ownBlock=some k) 13 [(0,false),(1,false),(2,false),(3,false),(4,false),(5,false),(6,false),(7,false),(8,false),(9,true),(10,true),(11,false),(12,false)] (by kernel_rfl) (by kernel_rfl) ?_;repeat(refine A0 rfl (fun K hK=>?_);go_simp;first|(refine hK _ ?_;clear hK K)|(apply Exists.intro;refine⟨fun _=>?_,hK _ ?_⟩;(fail);clear hK K))
      clear y0 z0 z1 z2 z3;refine A7 rfl ?_;intro w7 hb7 ht7;have F7:=Lib.hid (F6.out.kept hb7);have T7:=Lib.hid ht7;clear hb7 ht7 F6;go_wp2_with fail;refine⟨T7.out.step ((Below.refl _ _).alloc (Nat.le_refl _) _),A7 rfl ?_⟩;intro w8 hb8 ht8;have F8:=Lib.hid ((BF.alloc F7.out (cs:=#[.string ⟨t.name.toArray⟩,.slice ca t.cols.length cc,.slice ja t.indexes.length jc,.slice ka t.checks.length kc]) (t:=36)).kept hb8);have T8:=Lib.hid ht8;clear hb8 ht8 F7 T7;have hal:acc.length<=4:=by have:=HL.out;omega
      refine Ah rfl (.tmp 56) (.tmp 61) 22 rfl 36 (.agg #[.string ⟨#[]⟩,.slice none 0 0,.slice none 0 0,.slice none 0 0]) 4 88 underlying22 Sz rfl (by decide) w.heap.size (.slice ta acc.length tc) acc.length xs rfl (F8.out.own (i:=0) rfl) (.slice (some ⟨w7.heap.size,0,none⟩) 1 1) 1 [.string ⟨t.name.toArray⟩,.slice ca t.cols.length cc,.slice ja t.indexes.length jc,.slice ka t.checks.length kc] rfl (by decide) (D4 (F8.out.blk 0 rfl) (by decide)) rfl (by simp[Value.oneCell']) (by omega) (by unfold maxLen;omega) F8.out.size ?_;intro v9 w9 hown hg9 hw9 hsl9;obtain⟨g9,c9,rfl⟩:=hsl9;have F9:=Lib.hid ((F8.out.grown (i:=0) (r':=⟨36,4,.slice (some ⟨g9,0,none⟩) (acc.length+1) c9,acc.length+1,xs++[.string ⟨t.name.toArray⟩,.slice ca t.cols.length cc,.slice ja t.indexes.length jc,.slice ka t.checks.length kc]⟩) rfl hg9 hown hw9).tail);have T9:=Lib.hid (T8.out.trans (Turn.of_grown hg9) (fun _ _ h=>h));clear hown hg9 hw9 F8 T8;refine⟨T9.out,?_⟩;repeat(refine A0 rfl (fun K hK=>?_);go_simp;first|(refine hK _ ?_;clear hK K)|(apply Exists.intro;refine⟨fun _=>?_,hK _ ?_⟩;(fail);clear hK K))
      refine B3 ?_;intro w10 hb10 _;have F10:=Lib.hid (F9.out.kept hb10);clear hb10 F9 T9;obtain⟨c0,f0,l0⟩:=Aa (o:=0) (F10.out.blk 1 rfl) rfl;go_wp2_with fail;have F11:=(BF.set 1 (o:=0) (v:=.slice (some ⟨g9,0,none⟩) (acc.length+1) c9) F10.out rfl).tail;go_roundw
      case rel=>
       refine⟨j+1,acc++[t],some ⟨g9,0,none⟩,c9,xs++[.string ⟨t.name.toArray⟩,.slice ca t.cols.length cc,.slice ja t.indexes.length jc,.slice ka t.checks.length kc],by go_num,by omega,by show _=_;rw[List.length_append,HL.out];rfl,HT.out,HS.out,fun u hu=>?_,?_⟩
       ·rcases List.mem_append.1 hu with hu|hu
        ·exact HM.out u hu
        ·rw[List.mem_singleton]at hu;rw[hu];exact htm
       ·show BF _ _ _ _ _ _ _;rw[List.length_append];exact BF.addL (F11.inp (farE tblE t _) (tblE.move (fun b hl hq=>⟨hq,(F11.below.block b hq).trans (F6b.out.block b hq).symm⟩) hinT))
      case measure=>simp[intOf];omega
   ·obtain rfl:j=x.from_.length:=by omega
    have ht0:=HT.out;have hs0:=HS.out;rw[List.drop_length,List.take_length]at ht0 hs0;go_wp2_with fail;go_meet;refine⟨ta,tc,acc,?_,?_,HM.out,HL.out,?_⟩
    ·show _=_;rw[hs0];unfold scopeY;simp[scJ]
    ·show _=_;rw[ht0];unfold scopeY;simp[scJ,bdA]
    ·exact BF.fin (E:=tblE) (by decide) (R:=[]) F1.out (fun _ _=>trivial)
 obtain⟨ta,tc,sc,HSC,HT1,HM,HSL,F2⟩:=hcut
 have hsc4:sc.length<=4:=by have:=HSL.out;omega
 have hfl:(flatC sc).length<=80:=by have:=O9 (n:=20) (fun t ht=>HDC.out t (HM.out t ht));omega
 clear F1 HT0 HS0
 obtain⟨fb,fo,rfl,hfq,hfc⟩:=Mo HF.out (by omega)
 have HFC:Hid (∀W,Below w.heap.size w W->∀j s,x.from_[j]?=some s->W.cell? ⟨fb,fo+j,none⟩=some (.string ⟨s.toArray⟩)):=fun W hW j s hj=>hW.cell_kept (hfc j s hj)
 obtain⟨nm0,hn0⟩:∃y,x.from_[0]?=some y:=⟨x.from_[0],by simp⟩
 have y0:=HFC.out _ F2.out.below 0 nm0 hn0
 simp only[Nat.add_zero]at y0
 have y0l:=block_lt_of_cell y0
 obtain⟨x2,x2f,x2l⟩:=Aa (o:=2) (F2.out.blk 2 rfl) hx2
 have hf0i:(0:Int)<(x.from_.length:Int):=by omega
 go_upto_region 12 with fail
 go_upto_region 13 with(first|(refine A5 rfl 59 _ rfl (QV.arr {k:=1,tb:=nm0}) (Zn _) ?_)|(refine wpList_store_row rfl 59 (.tmp 10) (.tmp 70) rfl _ (QV.arr {k:=1,tb:=nm0}) rfl rfl 59 (QV.arr {}) ((BF.alloc F2.out).blk 0 rfl) (Ae _) rfl (Ba _) ?_))
 clear y0 y0l x2 x2f x2l hfc
 refine Af (fun W=>BF M0 U1 w W (bdQ w.heap.size wc.heap.size xa (.slice ta sc.length tc) 0 {k:=1,tb:=nm0}) [] (bQ (.slice ta sc.length tc) sc (Qy.scan nm0) {k:=1,tb:=nm0})) ((BF.row 0 (QV.arr {k:=1,tb:=nm0}) F2.out.alloc rfl).imp fun _ _ k=>⟨k,Lu _ _ _⟩) ?_
 clear F2
 intro w3 F3'
 have F3:=Lib.hid F3'
 clear F3'
 generalize wc.heap.size=qb at *
 obtain⟨jq,hjq⟩:∃r,joinsY sc 0 x.on (x.from_.drop 1) (Qy.scan nm0) 0=r:=⟨_,rfl⟩
 have HJ0:Hid (jq=joinsY sc 0 (x.on.drop 0) (x.from_.drop (0+1)) (Qy.scan nm0) 0):=by show _=_;rw[<- hjq];rfl
 have hhd:x.from_.headD []=nm0:=by
  revert hn0
  cases x.from_ with
  | nil=>intro h;cases h
  | cons a l=>intro h;injection h
 have hbY:boundY sc x=boundR sc x jq:=by unfold boundY;simp only;rw[hhd,hjq];rfl
 have HFN1:Hid ((boundR sc x jq).2=0->QG db 20 (boundR sc x jq).1):=by show _->_;rw[<- hbY];exact HFN.out sc HSC.out
 have HT2:Hid (tot=bdB db (boundR sc x jq)):=by show _=_;rw[<- hbY];exact HT1.out
 clear hbY HT1 HSC hhd hjq HFN hn0
 obtain⟨x3,x3f,x3l⟩:=Aa (o:=3) (F3.out.blk 3 rfl) hx3
 go_upto_block 3 with fail
 clear x3 x3f x3l
 go_cut []from 11 to 96 (fun wc=>∃v1:QV,Hid (BF M0 U1 w wc (bdQ w.heap.size qb xa (.slice ta sc.length tc) jq.2 v1) [] (bQ (.slice ta sc.length tc) sc jq.1 v1)))
 case first=>
  as_aux_lemma=>
  go_wp2_with fail
  go_loopw [11,12,13,74] (fun _ _ _ iv wr=>∃(j:Nat) (q:Qy) (v:QV) (e:Int),iv=.int .i64 j/\j<=x.on.length/\Hid (jq=joinsY sc j (x.on.drop j) (x.from_.drop (j+1)) q e)/\Hid (BF M0 U1 w wr (bdQ w.heap.size qb xa (.slice ta sc.length tc) e v) [] (bQ (.slice ta sc.length tc) sc q v))) (fun _ _ _ iv _=>x.on.length - (intOf iv).toNat)
  case atStart=>exact⟨0,_,_,0,rfl,by omega,HJ0.out,F3.out⟩
  case round=>
   clear F3 HJ0;obtain⟨j,q,v,e,rfl,hj,HJ,F3⟩:=hrel;by_cases hlt:j<x.on.length
   ·obtain⟨ex,hxj⟩:∃y,x.on[j]?=some y:=⟨x.on[j],by simp[hlt]⟩;obtain⟨nm,hnj⟩:∃y,x.from_[j+1]?=some y:=⟨x.from_[j+1],by simp⟩;have hbr:=HBO.out ex (List.mem_of_getElem? hxj);obtain⟨ob,oo,ocap,ecs,hbo,hin,hat⟩:=(HO.out.kept (by decide) F3.out.below).at hxj;injection hbo with e1 _ e2;subst e1;subst e2;obtain⟨op,tb0,n0,vv,args⟩:=ex;obtain⟨ea,rfl,hes⟩:=A6 (show ExIn _ _ _ ecs from hin);obtain⟨ead,eac,rfl⟩:=(Az hes).slice;have HEX:Hid (ExIn (·<w.heap.size) w (.mk op tb0 n0 vv args) _):=ExIn.back F3.out.below hin;have y0:=hat 0 _ rfl;have y1:=hat 1 _ rfl;have y2:=hat 2 _ rfl;have y3:=hat 3 _ rfl;have y4:=hat 4 _ rfl;have y5:=hat 5 _ rfl;have y6:=hat 6 _ rfl;simp only[show exE.k=7 from rfl,Nat.add_zero]at y0 y1 y2 y3 y4 y5 y6;have hjs:∀q e,joinsY sc j (x.on.drop j) (x.from_.drop (j+1)) q e=joinsY sc (j+1) (x.on.drop (j+1)) (x.from_.drop (j+1+1)) (.mk 4 [] [q,Qy.scan nm] (bresY sc (j+2) e (.mk op tb0 n0 vv args)).1 [] [] [] [] 0) (bresY sc (j+2) e (.mk op tb0 n0 vv args)).2:=fun q e=>by
     obtain⟨h1,h2⟩:=List.getElem?_eq_some_iff.1 hxj;obtain⟨h3,h4⟩:=List.getElem?_eq_some_iff.1 hnj;rw[List.drop_eq_getElem_cons h1,List.drop_eq_getElem_cons h3,h2,h4];rfl
    have hji:(j:Int)<(x.on.length:Int):=by omega
    have hjf:(j:Int)+1<(x.from_.length:Int):=by omega
    have hjfn:j+1<x.from_.length:=by omega
    have hjge:(0:Int)<=(j:Int)+1:=by omega
    have hjw:IntKind.i64.wrap ((j:Int)+1)=(j:Int)+1:=IntWalk.i64_in _ (by omega);have hjn:((j:Int)+1).toNat=j+1:=by omega
    clear hat hin hxj hes;go_upto_region 16 with fail;clear y0 y1 y2 y3 y4 y5 y6;refine Af (fun W=>BF M0 U1 w W ((wr.heap.size,#[.int .i64 op,.string ⟨tb0.toArray⟩,.string ⟨n0.toArray⟩,.int .i64 vv.k,.int .i64 vv.n,.string vv.s,.slice ead args.length eac],27)::bdQ w.heap.size qb xa (.slice ta sc.length tc) e v) [] (bQ (.slice ta sc.length tc) sc q v)) F3.out.alloc ?_;clear F3;intro w4 F4';have F4:=Lib.hid F4';clear F4';generalize wr.heap.size=eb at *;obtain⟨x2,_,x2l⟩:=Aa (o:=2) (F4.out.blk 4 rfl) hx2;have y0:=HFC.out _ F4.out.below (j+1) nm hnj;replace x2:=cell_regrown x2;replace y0:=cell_regrown y0;refine Ey 11 (.mild 0 (.mild 1 (.mild 2 (.mild 3 (.mild 4 (.mild 5 (.mild 6 (.mild 7 (.two 8 (.mild 9 (.eff 10 .stop)) 10 (.eff 8 (.mild 9 .stop))))))))))) (by kernel_rfl) (by kernel_rfl) ?_;refine Mh rfl rfl 59 (.tmp 10) rfl qb rfl 59 v.arr (0,0) _ (F4.out.blk 1 rfl) underlying59 rfl (Ae _) ?_;repeat(refine Cb rfl (fun K hK=>?_);go_simp;first|(refine hK _ ?_;clear hK K)|(apply Exists.intro;refine⟨fun _=>?_,hK _ ?_⟩;(fail);clear hK K))
    clear x2 y0;refine Sg ?_ ?_
    ·refine Ck rfl ?_;intro w5 hb5 hb05;have F5:=Lib.hid (F4.out.kept hb5);have T5:=Lib.hid ((St.start w4).kept hb05);clear hb5 hb05 F4;refine Ht rfl (.tmp 79) (.tmp 86) rfl v {k:=1,tb:=nm} rfl rfl ?_;refine⟨(St.alloc T5.out).below,?_⟩;repeat(refine Cb rfl (fun K hK=>?_);go_simp;first|(refine hK _ ?_;clear hK K)|(apply Exists.intro;refine⟨fun _=>?_,hK _ ?_⟩;(fail);clear hK K))
     refine Ck rfl ?_;intro w6 hb6 hb06;have F6:=Lib.hid ((BF.alloc F5.out (cs:=v.arr++QV.arr {k:=1,tb:=nm}) (t:=59)).kept hb6);have T6:=Lib.hid ((St.start w4).kept hb06);clear hb6 hb06 F5 T5;generalize w5.heap.size=pb at *;go_wp2_with fail;refine⟨(St.alloc T6.out).below,Ng ?_⟩;intro w7 hb7 _;have F7:=Lib.hid ((BF.alloc F6.out (cs:=QV.arr {}) (t:=59)).kept hb7);clear hb7 F6 T6;generalize w6.heap.size=jb at *;go_upto_region 17 with(refine wpList_store_row rfl 59 (.tmp 13) (.tmp 88) rfl jb (QV.arr {k:=4,s:=(some ⟨pb,0,none⟩,2,2)}) rfl rfl 59 (QV.arr {}) (F7.out.blk 0 rfl) (Ae _) rfl (Ba _) ?_);refine Af (fun W=>BF M0 U1 w W ((jb,QV.arr {k:=4,s:=(some ⟨pb,0,none⟩,2,2)},59)::(eb,#[.int .i64 op,.string ⟨tb0.toArray⟩,.string ⟨n0.toArray⟩,.int .i64 vv.k,.int .i64 vv.n,.string vv.s,.slice ead args.length eac],27)::bdQ w.heap.size qb xa (.slice ta sc.length tc) e v) [] ((bT (.slice ta sc.length tc) sc).and (farSl qyE (by decide) (.slice (some ⟨pb,0,none⟩) 2 2) [q,Qy.scan nm]))) (BF.pair (L1:=[(jb,QV.arr {k:=4,s:=(some ⟨pb,0,none⟩,2,2)},59)]) (BF.row 0 (QV.arr {k:=4,s:=(some ⟨pb,0,none⟩,2,2)}) F7.out rfl)) ?_;clear F7;intro w8 F8';have F6:=Lib.hid F8';clear F8';obtain⟨e0,_,el⟩:=Aa (o:=0) (F6.out.blk 1 rfl) rfl;obtain⟨e1,_,_⟩:=Aa (o:=1) (F6.out.blk 1 rfl) rfl;obtain⟨e2,_,_⟩:=Aa (o:=2) (F6.out.blk 1 rfl) rfl;obtain⟨e3,_,_⟩:=Aa (o:=3) (F6.out.blk 1 rfl) rfl;obtain⟨e4,_,_⟩:=Aa (o:=4) (F6.out.blk 1 rfl) rfl;obtain⟨e5,_,_⟩:=Aa (o:=5) (F6.out.blk 1 rfl) rfl
     obtain⟨e6,_,_⟩:=Aa (o:=6) (F6.out.blk 1 rfl) rfl;have CR:=Ce (OffB U1 _ _) (·<w.heap.size) sc (by omega) (by omega) (.mk op tb0 n0 vv args) hbr (j+2) (by have:=HSL.out;omega) (w.heap.size+1+1) ta tc e _ _ (F6.out.blk 3 rfl) F6.out.far.1.2 (HEX.out.kept F6.out.below);rw[show((j+2:Nat):Int)=(j:Int)+2 by omega]at CR;have hjw:IntKind.i64.wrap ((j:Int)+2)=(j:Int)+2:=IntWalk.i64_in _ (by omega);have HJ1:=Lib.hid (HJ.out.trans (hjs _ _));clear HJ hjs;generalize bresY sc (j+2) e (.mk op tb0 n0 vv args)=br at CR HJ1;obtain⟨bx,be⟩:=br;have CR:=Lib.hid CR;go_wp2_with fail;refine Calls.mono CR.out ?_;rintro e7 w7 ⟨xcs,rfl,hx7,hb7,ht7⟩;have F7:=Lib.hid (BF.bres (i:=3) F6.out rfl hx7 hb7 ht7);clear hx7 hb7 ht7 CR F6 e0 el e1 e2 e3 e4 e5 e6;obtain⟨xop,xn,xv,xargs,rfl⟩:=D1 bx;obtain⟨xa0,rfl,hx8⟩:=Ai.1 F7.out.far.2;obtain⟨xa1,xc1,rfl⟩:=hx8.slice;clear hx8;obtain⟨u3,u3f,ul⟩:=Aa (o:=3) (F7.out.blk 0 rfl) rfl;obtain⟨u4,u4f,_⟩:=Aa (o:=4) (F7.out.blk 0 rfl) rfl;obtain⟨u5,u5f,_⟩:=Aa (o:=5) (F7.out.blk 0 rfl) rfl;obtain⟨u6,u6f,_⟩:=Aa (o:=6) (F7.out.blk 0 rfl) rfl;obtain⟨u7,u7f,_⟩:=Aa (o:=7) (F7.out.blk 0 rfl) rfl;obtain⟨u8,u8f,_⟩:=Aa (o:=8) (F7.out.blk 0 rfl) rfl;go_upto_region 18 with fail
     refine Af (fun W=>BF M0 U1 w W ((jb,QV.arr {k:=4,s:=(some ⟨pb,0,none⟩,2,2),xo:=xop,xn:=xn,xv:=xv,xa:=(xa1,xargs.length,xc1)},59)::(eb,#[.int .i64 op,.string ⟨tb0.toArray⟩,.string ⟨n0.toArray⟩,.int .i64 vv.k,.int .i64 vv.n,.string vv.s,.slice ead args.length eac],27)::bdQ w.heap.size qb xa (.slice ta sc.length tc) be v) [] (bQ (.slice ta sc.length tc) sc (.mk 4 [] [q,Qy.scan nm] (.mk xop xn xv xargs) [] [] [] [] 0) {k:=4,s:=(some ⟨pb,0,none⟩,2,2),xo:=xop,xn:=xn,xv:=xv,xa:=(xa1,xargs.length,xc1)})) ((BF.setsL (i:=0) [.int .i64 xop,.int .i64 xn,.int .i64 xv.k,.int .i64 xv.n,.string xv.s,.slice xa1 xargs.length xc1] 3 _ _ _ F7.out rfl).imp fun _ _ k=>⟨k.1.1,Lz k.1.2 (by obtain⟨a9,e9,h9⟩:=Ai.1 k.2;simp only[List.cons.injEq,and_true,true_and]at e9;rw[e9];exact h9)⟩) ?_;clear F7 u3 u3f ul u4 u4f u5 u5f u6 u6f u7 u7f u8 u8f;intro w8 F8';have F8:=Lib.hid F8';clear F8';go_wp2_with(first|(refine wpList_load_row rfl 59 (.tmp 13) rfl jb rfl 59 (QV.arr {k:=4,s:=(some ⟨pb,0,none⟩,2,2),xo:=xop,xn:=xn,xv:=xv,xa:=(xa1,xargs.length,xc1)}) (0,0) _ (F8.out.blk 0 rfl) underlying59 rfl (Ae _) ?_)|(refine wpList_store_row rfl 59 (.tmp 10) (.tmp 95) rfl qb (QV.arr {k:=4,s:=(some ⟨pb,0,none⟩,2,2),xo:=xop,xn:=xn,xv:=xv,xa:=(xa1,xargs.length,xc1)}) rfl rfl 59 v.arr (F8.out.blk 2 rfl) (Ae _) rfl (Ba _) ?_));have F9:=(BF.row 2 (QV.arr {k:=4,s:=(some ⟨pb,0,none⟩,2,2),xo:=xop,xn:=xn,xv:=xv,xa:=(xa1,xargs.length,xc1)}) F8.out rfl).tail.tail;go_roundw
     case rel=>exact⟨j+1,_,_,be,by go_num,by omega,HJ1.out,F9⟩
     case measure=>simp[intOf];omega
    ·refine Ck rfl ?_;intro w5 hb5 hb05;have F5:=Lib.hid (F4.out.kept hb5);have T5:=Lib.hid ((St.start w4).kept hb05);clear hb5 hb05 F4;go_wp2_with fail;refine⟨(St.alloc T5.out).below,Ck rfl ?_⟩;intro w6 hb6 hb06;have F6:=Lib.hid ((BF.alloc F5.out (cs:=QV.arr {}) (t:=59)).kept hb6);have T6:=Lib.hid ((St.start w4).kept hb06);clear hb6 hb06 F5 T5;generalize w5.heap.size=jb at *;refine Ht rfl (.tmp 79) (.tmp 86) rfl v {k:=1,tb:=nm} rfl rfl ?_;refine⟨(St.alloc T6.out).below,?_⟩;repeat(refine Cb rfl (fun K hK=>?_);go_simp;first|(refine hK _ ?_;clear hK K)|(apply Exists.intro;refine⟨fun _=>?_,hK _ ?_⟩;(fail);clear hK K))
     refine Ng ?_;intro w7 hb7 _;have F7:=Lib.hid ((BF.alloc F6.out (cs:=v.arr++QV.arr {k:=1,tb:=nm}) (t:=59)).kept hb7);clear hb7 F6 T6;generalize w6.heap.size=pb at *;go_upto_region 17 with(refine wpList_store_row rfl 59 (.tmp 13) (.tmp 88) rfl jb (QV.arr {k:=4,s:=(some ⟨pb,0,none⟩,2,2)}) rfl rfl 59 (QV.arr {}) (F7.out.blk 1 rfl) (Ae _) rfl (Ba _) ?_);refine Af (fun W=>BF M0 U1 w W ((jb,QV.arr {k:=4,s:=(some ⟨pb,0,none⟩,2,2)},59)::(eb,#[.int .i64 op,.string ⟨tb0.toArray⟩,.string ⟨n0.toArray⟩,.int .i64 vv.k,.int .i64 vv.n,.string vv.s,.slice ead args.length eac],27)::bdQ w.heap.size qb xa (.slice ta sc.length tc) e v) [] ((bT (.slice ta sc.length tc) sc).and (farSl qyE (by decide) (.slice (some ⟨pb,0,none⟩) 2 2) [q,Qy.scan nm]))) (BF.pair (L1:=[]) (BF.row 1 (QV.arr {k:=4,s:=(some ⟨pb,0,none⟩,2,2)}) F7.out rfl)) ?_;clear F7;intro w8 F8';have F6:=Lib.hid F8';clear F8';obtain⟨e0,_,el⟩:=Aa (o:=0) (F6.out.blk 1 rfl) rfl;obtain⟨e1,_,_⟩:=Aa (o:=1) (F6.out.blk 1 rfl) rfl;obtain⟨e2,_,_⟩:=Aa (o:=2) (F6.out.blk 1 rfl) rfl;obtain⟨e3,_,_⟩:=Aa (o:=3) (F6.out.blk 1 rfl) rfl;obtain⟨e4,_,_⟩:=Aa (o:=4) (F6.out.blk 1 rfl) rfl;obtain⟨e5,_,_⟩:=Aa (o:=5) (F6.out.blk 1 rfl) rfl;obtain⟨e6,_,_⟩:=Aa (o:=6) (F6.out.blk 1 rfl) rfl;have CR:=Ce (OffB U1 _ _) (·<w.heap.size) sc (by omega) (by omega) (.mk op tb0 n0 vv args) hbr (j+2) (by have:=HSL.out;omega) (w.heap.size+1+1) ta tc e _ _ (F6.out.blk 3 rfl) F6.out.far.1.2 (HEX.out.kept F6.out.below);rw[show((j+2:Nat):Int)=(j:Int)+2 by omega]at CR
     have hjw:IntKind.i64.wrap ((j:Int)+2)=(j:Int)+2:=IntWalk.i64_in _ (by omega);have HJ1:=Lib.hid (HJ.out.trans (hjs _ _));clear HJ hjs;generalize bresY sc (j+2) e (.mk op tb0 n0 vv args)=br at CR HJ1;obtain⟨bx,be⟩:=br;have CR:=Lib.hid CR;go_wp2_with fail;refine Calls.mono CR.out ?_;rintro e7 w7 ⟨xcs,rfl,hx7,hb7,ht7⟩;have F7:=Lib.hid (BF.bres (i:=3) F6.out rfl hx7 hb7 ht7);clear hx7 hb7 ht7 CR F6 e0 el e1 e2 e3 e4 e5 e6;obtain⟨xop,xn,xv,xargs,rfl⟩:=D1 bx;obtain⟨xa0,rfl,hx8⟩:=Ai.1 F7.out.far.2;obtain⟨xa1,xc1,rfl⟩:=hx8.slice;clear hx8;obtain⟨u3,u3f,ul⟩:=Aa (o:=3) (F7.out.blk 0 rfl) rfl;obtain⟨u4,u4f,_⟩:=Aa (o:=4) (F7.out.blk 0 rfl) rfl;obtain⟨u5,u5f,_⟩:=Aa (o:=5) (F7.out.blk 0 rfl) rfl;obtain⟨u6,u6f,_⟩:=Aa (o:=6) (F7.out.blk 0 rfl) rfl;obtain⟨u7,u7f,_⟩:=Aa (o:=7) (F7.out.blk 0 rfl) rfl;obtain⟨u8,u8f,_⟩:=Aa (o:=8) (F7.out.blk 0 rfl) rfl;go_upto_region 18 with fail
     refine Af (fun W=>BF M0 U1 w W ((jb,QV.arr {k:=4,s:=(some ⟨pb,0,none⟩,2,2),xo:=xop,xn:=xn,xv:=xv,xa:=(xa1,xargs.length,xc1)},59)::(eb,#[.int .i64 op,.string ⟨tb0.toArray⟩,.string ⟨n0.toArray⟩,.int .i64 vv.k,.int .i64 vv.n,.string vv.s,.slice ead args.length eac],27)::bdQ w.heap.size qb xa (.slice ta sc.length tc) be v) [] (bQ (.slice ta sc.length tc) sc (.mk 4 [] [q,Qy.scan nm] (.mk xop xn xv xargs) [] [] [] [] 0) {k:=4,s:=(some ⟨pb,0,none⟩,2,2),xo:=xop,xn:=xn,xv:=xv,xa:=(xa1,xargs.length,xc1)})) ((BF.setsL (i:=0) [.int .i64 xop,.int .i64 xn,.int .i64 xv.k,.int .i64 xv.n,.string xv.s,.slice xa1 xargs.length xc1] 3 _ _ _ F7.out rfl).imp fun _ _ k=>⟨k.1.1,Lz k.1.2 (by obtain⟨a9,e9,h9⟩:=Ai.1 k.2;simp only[List.cons.injEq,and_true,true_and]at e9;rw[e9];exact h9)⟩) ?_;clear F7 u3 u3f ul u4 u4f u5 u5f u6 u6f u7 u7f u8 u8f;intro w8 F8';have F8:=Lib.hid F8';clear F8';go_wp2_with(first|(refine wpList_load_row rfl 59 (.tmp 13) rfl jb rfl 59 (QV.arr {k:=4,s:=(some ⟨pb,0,none⟩,2,2),xo:=xop,xn:=xn,xv:=xv,xa:=(xa1,xargs.length,xc1)}) (0,0) _ (F8.out.blk 0 rfl) underlying59 rfl (Ae _) ?_)|(refine wpList_store_row rfl 59 (.tmp 10) (.tmp 95) rfl qb (QV.arr {k:=4,s:=(some ⟨pb,0,none⟩,2,2),xo:=xop,xn:=xn,xv:=xv,xa:=(xa1,xargs.length,xc1)}) rfl rfl 59 v.arr (F8.out.blk 2 rfl) (Ae _) rfl (Ba _) ?_));have F9:=(BF.row 2 (QV.arr {k:=4,s:=(some ⟨pb,0,none⟩,2,2),xo:=xop,xn:=xn,xv:=xv,xa:=(xa1,xargs.length,xc1)}) F8.out rfl).tail.tail;go_roundw
     case rel=>exact⟨j+1,_,_,be,by go_num,by omega,HJ1.out,F9⟩
     case measure=>simp[intOf];omega
   ·obtain rfl:j=x.on.length:=by omega
    have hj0:=HJ.out;rw[List.drop_length]at hj0;obtain rfl:jq=(q,e):=by rw[hj0];unfold joinsY;rfl
    go_wp2_with fail;go_meet;exact⟨v,F3.out⟩
 obtain⟨v1,F4⟩:=hcut
 clear F3 HJ0
 obtain⟨b0,b0f,b0l⟩:=Aa (o:=0) (F4.out.blk 1 rfl) rfl
 go_upto_region 21 with fail
 obtain⟨x4,_,x4l⟩:=Aa (o:=4) (F4.out.blk 3 rfl) hx4
 obtain⟨x5,_,_⟩:=Aa (o:=5) (F4.out.blk 3 rfl) hx5
 obtain⟨x6,_,_⟩:=Aa (o:=6) (F4.out.blk 3 rfl) hx6
 obtain⟨x7,_,_⟩:=Aa (o:=7) (F4.out.blk 3 rfl) hx7
 obtain⟨x8,_,_⟩:=Aa (o:=8) (F4.out.blk 3 rfl) hx8
 obtain⟨x9,_,_⟩:=Aa (o:=9) (F4.out.blk 3 rfl) hx9
 obtain⟨x10,_,_⟩:=Aa (o:=10) (F4.out.blk 3 rfl) hx10
 clear b0 b0f b0l
 go_wp2_with fail
 refine Calls.mono (El (·<w.heap.size) x.where_ _ _ (HW.out.kept F4.out.below)) ?_
 rintro e5 w5 ⟨rfl,hb5⟩
 have F5:=Lib.hid (F4.out.kept hb5)
 clear hb5 F4 x4 x4l x5 x6 x7 x8 x9 x10
 obtain⟨jq1,je⟩:=jq
 simp only at F5
 obtain⟨fq,hfq2⟩:∃r,whereY sc x.where_ jq1 je=r:=⟨_,rfl⟩
 have HFQ:=Lib.hid hfq2
 clear hfq2
 go_upto_if 105 with fail
 go_cut []from 104 to 113 (fun wc=>∃v1:QV,Hid (BF M0 U1 w wc (bdQ w.heap.size qb xa (.slice ta sc.length tc) fq.2 v1) [] (bQ (.slice ta sc.length tc) sc fq.1 v1)))
 case first=>
  as_aux_lemma=>
  cases hz:x.where_.isZero with
  | true=>
   have h1:=HFQ.out;unfold whereY at h1;rw[if_pos hz]at h1;subst h1;go_wp2_with fail;go_meet;exact⟨v1,F5.out⟩
  | false=>
   have h1:=HFQ.out;unfold whereY at h1;rw[if_neg (by rw[hz];decide)]at h1;go_wp2_with(refine wpList_load_row rfl 59 (.tmp 10) rfl qb rfl 59 v1.arr (0,0) _ (F5.out.blk 0 rfl) underlying59 rfl (Ae _) ?_);refine Calls.mono (Di 2 v1 _) ?_;rintro e6 w6 ⟨n1,rfl,hge,hbk,hbl⟩;have H6:=Lib.hid (F5.out.kept hbl);have G6:=Lib.hid (BF.over 2 (i:=0) F5.out (fun _ _=>trivial) rfl hge hbk hbl);clear hge hbk hbl F5;go_upto_region 23 with(refine wpList_store_row rfl 59 (.tmp 10) (.tmp 107) rfl qb (QV.arr {k:=2,s:=(some ⟨n1,0,none⟩,1,1)}) rfl rfl 59 v1.arr (H6.out.blk 0 rfl) (Ae _) rfl (Ba _) ?_);refine Af (fun W=>BF M0 U1 w W (bdQ w.heap.size qb xa (.slice ta sc.length tc) je {k:=2,s:=(some ⟨n1,0,none⟩,1,1)}) [] ((bT (.slice ta sc.length tc) sc).and (farSl qyE (by decide) (.slice (some ⟨n1,0,none⟩) 1 1) [jq1]))) G6.out ?_;clear H6 G6;intro w7 F7';have F7:=Lib.hid F7';clear F7';obtain⟨x4,_,x4l⟩:=Aa (o:=4) (F7.out.blk 3 rfl) hx4;obtain⟨x5,_,_⟩:=Aa (o:=5) (F7.out.blk 3 rfl) hx5;obtain⟨x6,_,_⟩:=Aa (o:=6) (F7.out.blk 3 rfl) hx6;obtain⟨x7,_,_⟩:=Aa (o:=7) (F7.out.blk 3 rfl) hx7;obtain⟨x8,_,_⟩:=Aa (o:=8) (F7.out.blk 3 rfl) hx8;obtain⟨x9,_,_⟩:=Aa (o:=9) (F7.out.blk 3 rfl) hx9;obtain⟨x10,_,_⟩:=Aa (o:=10) (F7.out.blk 3 rfl) hx10;have CR:=Ce (OffB U1 _ _) (·<w.heap.size) sc (by omega) (by omega) x.where_ HBW.out sc.length (Nat.le_refl _) (w.heap.size+1+1) ta tc je _ _ (F7.out.blk 1 rfl) F7.out.far.1.2 (HW.out.kept F7.out.below);generalize bresY sc sc.length je x.where_=br at CR h1;obtain⟨bx,be⟩:=br
   subst h1;have CR:=Lib.hid CR;go_wp2_with fail;refine Calls.mono CR.out ?_;rintro e8 w8 ⟨xcs,rfl,hx8',hb8,ht8⟩;have F8:=Lib.hid (BF.bres (i:=1) F7.out rfl hx8' hb8 ht8);clear hx8' hb8 ht8 CR F7 x4 x4l x5 x6 x7 x8 x9 x10;obtain⟨xop,xn,xv,xargs,rfl⟩:=D1 bx;obtain⟨xa0,rfl,hx9'⟩:=Ai.1 F8.out.far.2;obtain⟨xa1,xc1,rfl⟩:=hx9'.slice;clear hx9';obtain⟨c3,c3f,ul⟩:=Aa (o:=3) (F8.out.blk 0 rfl) rfl;obtain⟨c4,c4f,_⟩:=Aa (o:=4) (F8.out.blk 0 rfl) rfl;obtain⟨c5,c5f,_⟩:=Aa (o:=5) (F8.out.blk 0 rfl) rfl;obtain⟨c6,c6f,_⟩:=Aa (o:=6) (F8.out.blk 0 rfl) rfl;obtain⟨c7,c7f,_⟩:=Aa (o:=7) (F8.out.blk 0 rfl) rfl;obtain⟨c8,c8f,_⟩:=Aa (o:=8) (F8.out.blk 0 rfl) rfl;dsimp only;go_upto_region 24 with fail;go_meet;exact⟨{k:=2,s:=(some ⟨n1,0,none⟩,1,1),xo:=xop,xn:=xn,xv:=xv,xa:=(xa1,xargs.length,xc1)},(BF.setsL (i:=0) [.int .i64 xop,.int .i64 xn,.int .i64 xv.k,.int .i64 xv.n,.string xv.s,.slice xa1 xargs.length xc1] 3 _ _ _ F8.out rfl).imp fun _ _ k=>⟨k.1.1,Om k.1.2 (by obtain⟨a9,e9,h9⟩:=Ai.1 k.2;simp only[List.cons.injEq,and_true,true_and]at e9;rw[e9];exact h9)⟩⟩
 obtain⟨v2,F6⟩:=hcut
 clear F5
 have HFN2:Hid ((boundF sc x fq).2=0->QG db 20 (boundF sc x fq).1):=by show _->_;rw[<- HFQ.out];exact HFN1.out
 have HT3:Hid (tot=bdB db (boundF sc x fq)):=by show _=_;rw[HT2.out,<- HFQ.out];rfl
 clear HFN1 HT2 HFQ
 obtain⟨fq1,fe⟩:=fq
 simp only at F6
 obtain⟨gq,hgq⟩:∃r,groupY sc x.group [] fe=r:=⟨_,rfl⟩
 have HG0:Hid (gq=groupY sc (x.group.drop 0) [] fe):=by show _=_;rw[<- hgq];rfl
 have hgqv:=Lib.hid hgq
 clear hgq
 obtain⟨x11,x11f,x11l⟩:=Aa (o:=11) (F6.out.blk 3 rfl) hx11
 go_upto_block 5 with fail
 clear x11 x11f x11l
 go_cut [15]from 16 to 134 (fun gv wc=>∃(ga2:Option Addr) (gc2:Nat),gv=.slice ga2 gq.1.length gc2/\Hid (BF M0 U1 w wc (bdQ w.heap.size qb xa (.slice ta sc.length tc) gq.2 v2) [] ((bQ (.slice ta sc.length tc) sc fq1 v2).and (farSl intE (by decide) (.slice ga2 gq.1.length gc2) gq.1))))
 case first=>
  as_aux_lemma=>
  go_wp2_with fail
  go_loopw [15,17,18,117] (fun gv _ _ iv wr=>∃(j:Nat) (g:List Int) (e:Int) (ga2:Option Addr) (gc2:Nat),gv=.slice ga2 g.length gc2/\iv=.int .i64 j/\j<=x.group.length/\Hid (g.length<=j)/\Hid (gq=groupY sc (x.group.drop j) g e)/\Hid (BF M0 U1 w wr (bdQ w.heap.size qb xa (.slice ta sc.length tc) e v2) [⟨3,1,.slice ga2 g.length gc2,g.length,intVals g⟩] (bQ (.slice ta sc.length tc) sc fq1 v2))) (fun _ _ _ iv _=>x.group.length - (intOf iv).toNat)
  case atStart=>exact⟨0,[],fe,none,0,rfl,rfl,by omega,by show _<=_;simp,HG0.out,F6.out.snoc 3 1⟩
  case round=>
   clear F6 HG0;obtain⟨j,g,e,ga2,gc2,rfl,rfl,hj,HL,HGQ,F6⟩:=hrel;by_cases hlt:j<x.group.length
   ·obtain⟨ex,hxj⟩:∃y,x.group[j]?=some y:=⟨x.group[j],by simp[hlt]⟩;have hbr:=HBG.out ex (List.mem_of_getElem? hxj);obtain⟨ob,oo,ocap,ecs,hbo,hin,hat⟩:=(HG.out.kept (by decide) F6.out.below).at hxj;injection hbo with e1 _ e2;subst e1;subst e2;obtain⟨op,tb0,n0,vv,args⟩:=ex;obtain⟨ea,rfl,hes⟩:=A6 (show ExIn _ _ _ ecs from hin);obtain⟨ead,eac,rfl⟩:=(Az hes).slice;have HEX:Hid (ExIn (·<w.heap.size) w (.mk op tb0 n0 vv args) _):=ExIn.back F6.out.below hin;have y0:=hat 0 _ rfl;have y1:=hat 1 _ rfl;have y2:=hat 2 _ rfl;have y3:=hat 3 _ rfl;have y4:=hat 4 _ rfl;have y5:=hat 5 _ rfl;have y6:=hat 6 _ rfl;simp only[show exE.k=7 from rfl,Nat.add_zero]at y0 y1 y2 y3 y4 y5 y6;have hdr:x.group.drop j=.mk op tb0 n0 vv args::x.group.drop (j+1):=by
     obtain⟨h1,h2⟩:=List.getElem?_eq_some_iff.1 hxj;rw[List.drop_eq_getElem_cons h1,h2]
    have hji:(j:Int)<(x.group.length:Int):=by omega
    have hg0:=HGQ.out;rw[hdr]at hg0;clear hat hin hxj hes hdr HGQ;go_upto_region 28 with fail;clear y0 y1 y2 y3 y4 y5 y6;refine Af (fun W=>BF M0 U1 w W ((wr.heap.size,#[.int .i64 op,.string ⟨tb0.toArray⟩,.string ⟨n0.toArray⟩,.int .i64 vv.k,.int .i64 vv.n,.string vv.s,.slice ead args.length eac],27)::bdQ w.heap.size qb xa (.slice ta sc.length tc) e v2) [⟨3,1,.slice ga2 g.length gc2,g.length,intVals g⟩] (bQ (.slice ta sc.length tc) sc fq1 v2)) F6.out.alloc ?_;clear F6;intro w7 F7';have F7:=Lib.hid F7';clear F7';generalize wr.heap.size=eb at *;obtain⟨e0,_,el⟩:=Aa (o:=0) (F7.out.blk 0 rfl) rfl;obtain⟨e1,_,_⟩:=Aa (o:=1) (F7.out.blk 0 rfl) rfl;obtain⟨e2,_,_⟩:=Aa (o:=2) (F7.out.blk 0 rfl) rfl;obtain⟨e3,_,_⟩:=Aa (o:=3) (F7.out.blk 0 rfl) rfl;obtain⟨e4,_,_⟩:=Aa (o:=4) (F7.out.blk 0 rfl) rfl;obtain⟨e5,_,_⟩:=Aa (o:=5) (F7.out.blk 0 rfl) rfl;obtain⟨e6,_,_⟩:=Aa (o:=6) (F7.out.blk 0 rfl) rfl;have CR:=Ce (OffB U1 _ _) (·<w.heap.size) sc (by omega) (by omega) (.mk op tb0 n0 vv args) hbr sc.length (Nat.le_refl _) (w.heap.size+1+1) ta tc e _ _ (F7.out.blk 2 rfl) F7.out.far.1.2 (HEX.out.kept F7.out.below);unfold groupY at hg0;generalize bresY sc sc.length e (.mk op tb0 n0 vv args)=br at CR hg0;obtain⟨bx,be⟩:=br;have CR:=Lib.hid CR;go_wp2_with fail;refine Calls.mono CR.out ?_;rintro e8 w8 ⟨xcs,rfl,hx8,hb8,ht8⟩;obtain⟨xop,xn,xv,xargs,rfl⟩:=D1 bx;obtain⟨xa0,rfl,hx9⟩:=Ai.1 hx8;obtain⟨xa1,xc1,rfl⟩:=hx9.slice;have F8:=Lib.hid (BF.turn1 2 F7.out rfl ht8 hb8)
    clear hx8 hx9 hb8 ht8 CR F7 e0 el e1 e2 e3 e4 e5 e6;have hfd:∀w:World,(Instr.field 49 (.agg #[.int .i64 xop,.int .i64 xn,.int .i64 xv.k,.int .i64 xv.n,.string xv.s,.slice xa1 xargs.length xc1]) 1).run prog w=.ok (.int .i64 xn) w:=fun _=>by kernel_rfl
    have hgl2:g.length<=16:=by have:=HL.out;omega
    have CC:=Lib.hid (Wa (fun _=>True) g xn ga2 gc2 w8 (Zr (F8.out.own (i:=0) rfl) fun _ _=>trivial) (by omega));have hg0:gq=groupY sc (x.group.drop (j+1)) (if xn∈g then g else g++[xn]) be:=hg0;by_cases hm:xn∈g
    ·rw[decide_eq_true hm]at CC;rw[if_pos hm]at hg0;have HGQ:=Lib.hid hg0;clear hg0;go_wp2_with fail;refine Calls.mono CC.out ?_;rintro e9 w9 ⟨rfl,hb9⟩;have F9:=Lib.hid ((F8.out.kept hb9).tail);clear hb9 CC F8 hfd;go_wp2_with fail;go_roundw
     case rel=>exact⟨j+1,g,be,ga2,gc2,rfl,by go_num,by omega,Nat.le_succ_of_le HL.out,HGQ.out,F9.out⟩
     case measure=>simp[intOf];omega
    ·rw[decide_eq_false hm]at CC;rw[if_neg hm]at hg0;have HGQ:=Lib.hid hg0;clear hg0;go_wp2_with fail;refine Calls.mono CC.out ?_;rintro e9 w9 ⟨rfl,hb9⟩;have F9:=Lib.hid ((F8.out.kept hb9).tail);clear hb9 CC F8 hfd;go_wp2_with(at_builtin;go_must (refine BF.append_new rfl (.tmp 130) (.tmp 132) 55 rfl 3 (.int .i64 0) 1 8 underlying55 B8 rfl (by decide) 0 (.slice ga2 g.length gc2) g.length (intVals g) F9.out rfl rfl #[.int .i64 xn] _ rfl rfl rfl (by simp[Value.oneCell']) (by omega) (by unfold maxLen;omega) ?_;intro ga3 gc3 w10 F10 T10));go_roundw
     case rel=>
      refine⟨j+1,g++[xn],be,ga3,gc3,by rw[List.length_append];rfl,by go_num,by omega,by show _<=_;rw[List.length_append];have:=HL.out;simp only[List.length_cons,List.length_nil];omega,HGQ.out,?_⟩;show BF _ _ _ _ _ _ _;rw[List.length_append,show intVals (g++[xn])=intVals g++[.int .i64 xn] by simp[intVals]];exact F10.out
     case measure=>simp[intOf];omega
   ·obtain rfl:j=x.group.length:=by omega
    have hg0:=HGQ.out;rw[List.drop_length]at hg0;obtain rfl:gq=(g,e):=by rw[hg0];unfold groupY;rfl
    go_wp2_with fail;go_meet;exact⟨ga2,gc2,rfl,BF.fin (E:=intE) (by decide) (R:=[]) (F6.out.imp fun _ _ k=>⟨k,B0 _⟩) (fun _ _=>trivial)⟩
 obtain⟨ga2,gc2,rfl,F7⟩:=hcut
 clear F6 HG0
 have HFN3:Hid ((boundG sc x fq1 gq).2=0->QG db 20 (boundG sc x fq1 gq).1):=by show _->_;rw[<- hgqv.out];exact HFN2.out
 have HT4:Hid (tot=bdB db (boundG sc x fq1 gq)):=by show _=_;rw[HT3.out,<- hgqv.out];rfl
 have hgl3:gq.1.length<=16:=by have:=Gr (sc:=sc) x.group [] fe;rw[hgqv.out]at this;simp only[List.length_nil]at this;omega
 clear HFN2 HT3 hgqv
 obtain⟨g,ge⟩:=gq
 simp only at F7 hgl3
 obtain⟨itq,hitq⟩:∃r,itemsY sc x.items [] ge=r:=⟨_,rfl⟩
 have HI0:Hid (itq=itemsY sc (x.items.drop 0) [] ge):=by show _=_;rw[<- hitq];rfl
 have hitqv:=Lib.hid hitq
 clear hitq
 obtain⟨gb0,hgb0⟩:∃b,decide (0<x.group.length)=b:=⟨_,rfl⟩
 obtain⟨x11,x11f,x11l⟩:=Aa (o:=11) (F7.out.blk 3 rfl) hx11
 go_upto_region 34 with fail
 obtain⟨x1,x1f,x1l⟩:=Aa (o:=1) (F7.out.blk 3 rfl) hx1
 go_upto_block 7 with fail
 clear x11 x11f x11l x1 x1f x1l
 go_cut [19,20]from 21 to 165 (fun gv iv wc=>∃(gb:Bool) (its:List Xp) (ie:Int) (ia2:Option Addr) (ic2:Nat) (acs:List Value),gv=.bool gb/\iv=.slice ia2 its.length ic2/\Hid (gb=groupedY x)/\Hid (itq=(its,ie))/\Hid (its.length=x.items.length)/\Hid (BF M0 U1 w wc (bdQ w.heap.size qb xa (.slice ta sc.length tc) ie v2) [⟨49,6,.slice ia2 its.length ic2,its.length,acs⟩] (((bQ (.slice ta sc.length tc) sc fq1 v2).and (farSl intE (by decide) (.slice ga2 g.length gc2) g)).and (farL xpE its acs))))
 case first=>
  go_wp2_with fail;go_loopw [19,20,22,23,142] (fun gv itv _ _ iv wr=>∃(j:Nat) (acc:List Xp) (e:Int) (gb:Bool) (ia2:Option Addr) (ic2:Nat) (acs:List Value),gv=.bool gb/\itv=.slice ia2 acc.length ic2/\iv=.int .i64 j/\j<=x.items.length/\Hid (acc.length=j)/\Hid (gb=(gb0||(x.items.take j).any (fun it=>decide (it.fn≠0))))/\Hid (itq=itemsY sc (x.items.drop j) acc e)/\Hid (BF M0 U1 w wr (bdQ w.heap.size qb xa (.slice ta sc.length tc) e v2) [⟨49,6,.slice ia2 acc.length ic2,acc.length,acs⟩] (((bQ (.slice ta sc.length tc) sc fq1 v2).and (farSl intE (by decide) (.slice ga2 g.length gc2) g)).and (farL xpE acc acs)))) (fun _ _ _ _ iv _=>x.items.length - (intOf iv).toNat)
  case atStart=>exact⟨0,[],ge,gb0,none,0,[],by rw[<- hgb0],rfl,rfl,by omega,rfl,by show _=_;simp,HI0.out,(F7.out.snoc 49 6).imp fun _ _ k=>⟨k,rfl⟩⟩
  case round=>
   clear F7 HI0;obtain⟨j,acc,e,gb,ia2,ic2,acs,rfl,rfl,rfl,hj,HL,HGB,HIQ,F7⟩:=hrel;by_cases hlt:j<x.items.length
   ·obtain⟨it,hxj⟩:∃y,x.items[j]?=some y:=⟨x.items[j],by simp[hlt]⟩;have hbr:=HBI.out it (List.mem_of_getElem? hxj);obtain⟨ob,oo,ocap,ecs,hbo,hin,hat⟩:=(HI.out.kept (by decide) F7.out.below).at hxj;injection hbo with e1 _ e2;subst e1;subst e2;obtain⟨fn,op,tb0,n0,vv,args⟩:=it;obtain⟨ecs2,rfl,hin2⟩:=(show ∃c,ecs=.int .i64 fn::c/\ExIn _ _ _ c from hin);obtain⟨ea,rfl,hes⟩:=A6 (show ExIn _ _ (.mk op tb0 n0 vv args) ecs2 from hin2);obtain⟨ead,eac,rfl⟩:=(Az hes).slice;have HEX:Hid (ExIn (·<w.heap.size) w (.mk op tb0 n0 vv args) _):=ExIn.back F7.out.below hin2;have y0:=hat 0 _ rfl;have y1:=hat 1 _ rfl;have y2:=hat 2 _ rfl;have y3:=hat 3 _ rfl;have y4:=hat 4 _ rfl;have y5:=hat 5 _ rfl;have y6:=hat 6 _ rfl;have y7:=hat 7 _ rfl;simp only[show pkE.k=8 from rfl,Nat.add_zero]at y0 y1 y2 y3 y4 y5 y6 y7;have hdr:x.items.drop j=⟨fn,.mk op tb0 n0 vv args⟩::x.items.drop (j+1):=by
     obtain⟨h1,h2⟩:=List.getElem?_eq_some_iff.1 hxj;rw[List.drop_eq_getElem_cons h1,h2]
    have htk:x.items.take (j+1)=x.items.take j++[⟨fn,.mk op tb0 n0 vv args⟩]:=by
     obtain⟨h1,h2⟩:=List.getElem?_eq_some_iff.1 hxj;rw[List.take_succ_eq_append_getElem h1,h2]
    have hji:(j:Int)<(x.items.length:Int):=by omega
    have hg0:=HIQ.out;rw[hdr]at hg0;simp only at hbr;clear hat hin hin2 hxj hes hdr HIQ;go_upto_region 38 with fail;clear y0 y1 y2 y3 y4 y5 y6 y7;refine Af (fun W=>BF M0 U1 w W ((wr.heap.size+1,#[.int .i64 0,.int .i64 0,.int .i64 0,.int .i64 0,.string ⟨#[]⟩,.slice none 0 0],49)::(wr.heap.size,#[.int .i64 fn,.int .i64 op,.string ⟨tb0.toArray⟩,.string ⟨n0.toArray⟩,.int .i64 vv.k,.int .i64 vv.n,.string vv.s,.slice ead args.length eac],70)::bdQ w.heap.size qb xa (.slice ta sc.length tc) e v2) [⟨49,6,.slice ia2 acc.length ic2,acc.length,acs⟩] (((bQ (.slice ta sc.length tc) sc fq1 v2).and (farSl intE (by decide) (.slice ga2 g.length gc2) g)).and (farL xpE acc acs))) ?_ ?_
    ·have h:=(F7.out.alloc (cs:=#[.int .i64 fn,.int .i64 op,.string ⟨tb0.toArray⟩,.string ⟨n0.toArray⟩,.int .i64 vv.k,.int .i64 vv.n,.string vv.s,.slice ead args.length eac]) (t:=70)).alloc (cs:=#[.int .i64 0,.int .i64 0,.int .i64 0,.int .i64 0,.string ⟨#[]⟩,.slice none 0 0]) (t:=49);simp only[World.size_alloc]at h;exact h
    clear F7;intro w8 F8';have F8:=Lib.hid F8';clear F8';generalize wr.heap.size=p0 at *;obtain⟨i0,_,il⟩:=Aa (o:=0) (F8.out.blk 1 rfl) rfl;unfold itemsY itemY at hg0;by_cases hfn:fn=1
    ·subst hfn;rw[if_pos rfl]at hg0;have HIQ:=Lib.hid hg0;go_upto_region 40 with fail;clear hg0 i0 il;have F9:Hid (BF M0 U1 w w8 ((p0+1,#[.int .i64 0,.int .i64 0,.int .i64 0,.int .i64 0,.string ⟨#[]⟩,.slice none 0 0],49)::(p0,_,70)::bdQ w.heap.size qb xa (.slice ta sc.length tc) e v2) [⟨49,6,.slice ia2 acc.length ic2,acc.length,acs⟩] ((((bQ (.slice ta sc.length tc) sc fq1 v2).and (farSl intE (by decide) (.slice ga2 g.length gc2) g)).and (farL xpE acc acs)).and (farE xpE Xp.zero (#[.int .i64 0,.int .i64 0,.int .i64 0,.int .i64 0,.string ⟨#[]⟩,.slice none 0 0]:Array Value).toList))):=F8.out.imp fun _ _ k=>⟨k,Cj _ _ 0 0 V.null⟩;clear F8;obtain⟨q0,_,ql⟩:=Aa (o:=0) (F9.out.blk 0 rfl) rfl;obtain⟨q1,_,_⟩:=Aa (o:=1) (F9.out.blk 0 rfl) rfl;obtain⟨q2,_,_⟩:=Aa (o:=2) (F9.out.blk 0 rfl) rfl;obtain⟨q3,_,_⟩:=Aa (o:=3) (F9.out.blk 0 rfl) rfl;obtain⟨q4,_,_⟩:=Aa (o:=4) (F9.out.blk 0 rfl) rfl;obtain⟨q5,_,_⟩:=Aa (o:=5) (F9.out.blk 0 rfl) rfl;have hal:acc.length<=16:=by have:=HL.out;omega
     cases gb;all_goals
      go_wp2_with(at_builtin;go_must (refine BF.append_new rfl (.tmp 155) (.tmp 157) 47 rfl 49 (.agg #[.int .i64 0,.int .i64 0,.int .i64 0,.int .i64 0,.string ⟨#[]⟩,.slice none 0 0]) 6 72 underlying47 Ra rfl (by decide) 0 (.slice ia2 acc.length ic2) acc.length acs F9.out rfl rfl #[.int .i64 0,.int .i64 0,.int .i64 0,.int .i64 0,.string ⟨#[]⟩,.slice none 0 0] _ rfl rfl rfl (by simp[Value.oneCell']) (by omega) (by unfold maxLen;omega) ?_;intro ga3 gc3 w10 F10 T10;obtain⟨i0,_,il⟩:=Aa (o:=0) (F10.out.blk 1 rfl) rfl))
      go_roundw
      case rel=>
       refine⟨j+1,acc++[(Xp.zero:Xp)],e,_,ga3,gc3,acs++(#[.int .i64 0,.int .i64 0,.int .i64 0,.int .i64 0,.string ⟨#[]⟩,.slice none 0 0]:Array Value).toList,rfl,by rw[List.length_append];rfl,by go_num,by omega,by show _=_;rw[List.length_append,HL.out];rfl,?_,HIQ.out,?_⟩
       ·show _=_;rw[htk,List.any_append,<- Bool.or_assoc,<- HGB.out];simp[];try rfl
       ·show BF _ _ _ _ _ _ _;rw[List.length_append];exact(BF.addL F10.out).tail.tail
      case measure=>simp[intOf];omega
    ·have hfb:(fn != (1:Int))=true:=by simpa using hfn
     rw[if_neg hfn]at hg0;obtain⟨i1,_,_⟩:=Aa (o:=1) (F8.out.blk 1 rfl) rfl;obtain⟨i2,_,_⟩:=Aa (o:=2) (F8.out.blk 1 rfl) rfl;obtain⟨i3,_,_⟩:=Aa (o:=3) (F8.out.blk 1 rfl) rfl;obtain⟨i4,_,_⟩:=Aa (o:=4) (F8.out.blk 1 rfl) rfl;obtain⟨i5,_,_⟩:=Aa (o:=5) (F8.out.blk 1 rfl) rfl;obtain⟨i6,_,_⟩:=Aa (o:=6) (F8.out.blk 1 rfl) rfl;obtain⟨i7,_,_⟩:=Aa (o:=7) (F8.out.blk 1 rfl) rfl;have CR:=Ce (OffB U1 _ _) (·<w.heap.size) sc (by omega) (by omega) (.mk op tb0 n0 vv args) hbr sc.length (Nat.le_refl _) (w.heap.size+1+1) ta tc e _ _ (F8.out.blk 3 rfl) F8.out.far.1.1.1.2 (HEX.out.kept F8.out.below);generalize bresY sc sc.length e (.mk op tb0 n0 vv args)=br at CR hg0;obtain⟨bx,be⟩:=br;have CR:=Lib.hid CR;have HIQ:=Lib.hid hg0;clear hg0;go_wp2_with fail;refine Calls.mono CR.out ?_;rintro e9 w9 ⟨xcs,rfl,hx9,hb9,ht9⟩;have H9:=Lib.hid (BF.bres (i:=3) F8.out rfl hx9 hb9 ht9);clear hx9 hb9 ht9 CR F8 i0 il i1 i2 i3 i4 i5 i6 i7;obtain⟨xop,xn,xv,xargs,rfl⟩:=D1 bx;obtain⟨xa0,rfl,hx10⟩:=Ai.1 H9.out.far.2;obtain⟨xa1,xc1,rfl⟩:=hx10.slice;clear hx10;go_upto_region 40 with(refine wpList_store_row rfl 49 (.tmp 23) (.tmp 154) rfl (p0+1) #[.int .i64 xop,.int .i64 xn,.int .i64 xv.k,.int .i64 xv.n,.string xv.s,.slice xa1 xargs.length xc1] rfl rfl 49 #[.int .i64 0,.int .i64 0,.int .i64 0,.int .i64 0,.string ⟨#[]⟩,.slice none 0 0] (H9.out.blk 0 rfl) Bx rfl (by simp[Value.oneCell']) ?_)
     refine Af (fun W=>BF M0 U1 w W ((p0+1,#[.int .i64 xop,.int .i64 xn,.int .i64 xv.k,.int .i64 xv.n,.string xv.s,.slice xa1 xargs.length xc1],49)::(p0,#[.int .i64 fn,.int .i64 op,.string ⟨tb0.toArray⟩,.string ⟨n0.toArray⟩,.int .i64 vv.k,.int .i64 vv.n,.string vv.s,.slice ead args.length eac],70)::bdQ w.heap.size qb xa (.slice ta sc.length tc) be v2) [⟨49,6,.slice ia2 acc.length ic2,acc.length,acs⟩] ((((bQ (.slice ta sc.length tc) sc fq1 v2).and (farSl intE (by decide) (.slice ga2 g.length gc2) g)).and (farL xpE acc acs)).and (farE xpE (.mk xop xn xv xargs) (#[.int .i64 xop,.int .i64 xn,.int .i64 xv.k,.int .i64 xv.n,.string xv.s,.slice xa1 xargs.length xc1]:Array Value).toList))) (BF.row 0 #[.int .i64 xop,.int .i64 xn,.int .i64 xv.k,.int .i64 xv.n,.string xv.s,.slice xa1 xargs.length xc1] H9.out rfl) ?_;clear H9;intro w9b F9';have F9:=Lib.hid F9';clear F9';obtain⟨q0,_,ql⟩:=Aa (o:=0) (F9.out.blk 0 rfl) rfl;obtain⟨q1,_,_⟩:=Aa (o:=1) (F9.out.blk 0 rfl) rfl;obtain⟨q2,_,_⟩:=Aa (o:=2) (F9.out.blk 0 rfl) rfl;obtain⟨q3,_,_⟩:=Aa (o:=3) (F9.out.blk 0 rfl) rfl;obtain⟨q4,_,_⟩:=Aa (o:=4) (F9.out.blk 0 rfl) rfl;obtain⟨q5,_,_⟩:=Aa (o:=5) (F9.out.blk 0 rfl) rfl;have hal:acc.length<=16:=by have:=HL.out;omega
     cases gb;all_goals
      go_wp2_with(at_builtin;go_must (refine BF.append_new rfl (.tmp 155) (.tmp 157) 47 rfl 49 (.agg #[.int .i64 0,.int .i64 0,.int .i64 0,.int .i64 0,.string ⟨#[]⟩,.slice none 0 0]) 6 72 underlying47 Ra rfl (by decide) 0 (.slice ia2 acc.length ic2) acc.length acs F9.out rfl rfl #[.int .i64 xop,.int .i64 xn,.int .i64 xv.k,.int .i64 xv.n,.string xv.s,.slice xa1 xargs.length xc1] _ rfl rfl rfl (by simp[Value.oneCell']) (by omega) (by unfold maxLen;omega) ?_;intro ga3 gc3 w10 F10 T10;obtain⟨i0,_,il⟩:=Aa (o:=0) (F10.out.blk 1 rfl) rfl))
      go_roundw
      case rel=>
       refine⟨j+1,acc++[(.mk xop xn xv xargs:Xp)],be,_,ga3,gc3,acs++(#[.int .i64 xop,.int .i64 xn,.int .i64 xv.k,.int .i64 xv.n,.string xv.s,.slice xa1 xargs.length xc1]:Array Value).toList,rfl,by rw[List.length_append];rfl,by go_num,by omega,by show _=_;rw[List.length_append,HL.out];rfl,?_,HIQ.out,?_⟩
       ·show _=_;rw[htk,List.any_append,<- Bool.or_assoc,<- HGB.out];simp[];try rfl
       ·show BF _ _ _ _ _ _ _;rw[List.length_append];exact(BF.addL F10.out).tail.tail
      case measure=>simp[intOf];omega
   ·obtain rfl:j=x.items.length:=by omega
    have hg0:=HIQ.out;rw[List.drop_length]at hg0;obtain rfl:itq=(acc,e):=by rw[hg0];unfold itemsY;rfl
    go_wp2_with fail;go_meet;refine⟨gb,acc,e,ia2,ic2,acs,rfl,rfl,?_,rfl,HL.out,F7.out⟩;show _=_;rw[HGB.out,List.take_length,<- hgb0];rfl
 as_aux_lemma=>
 obtain⟨gb,its,ie,ia2,ic2,acs,rfl,rfl,HGB,HITQ,HITL,F8⟩:=hcut
 clear F7 HI0 hgb0
 have HFN4:Hid ((boundI sc x fq1 g (its,ie)).2=0->QG db 20 (boundI sc x fq1 g (its,ie)).1):=by show _->_;have h:=HFN3.out;unfold boundG at h;simp only at h;rw[hitqv.out,HITQ.out]at h;exact h
 have HT5:Hid (tot=bdB db (boundI sc x fq1 g (its,ie))):=by show _=_;have h:=HT4.out;unfold boundG at h;simp only at h;rw[hitqv.out,HITQ.out]at h;exact h
 clear HFN3 HT4 hitqv HITQ
 have hil2:its.length<=16:=by have:=HITL.out;omega
 obtain⟨ie2,hie2⟩:∃r,(if gb=true/\its.length=0 then firstE ie 1 else ie)=r:=⟨_,rfl⟩
 have HIE:=Lib.hid hie2
 clear hie2
 have hi0:its.length=0\/0<its.length:=by omega
 have hib:((its.length:Int)==(0:Int))=decide (its.length=0):=by
  rcases hi0 with h|h
  ·rw[h];rfl
  ·rw[decide_eq_false (by omega),beq_eq_false_iff_ne];omega
 generalize hdz:decide (its.length=0)=dz at hib
 go_upto_region 43 with fail
 go_cut [171]from 166 to 170 (fun v wc=>v=.bool (gb&&dz)/\Hid (BF M0 U1 w wc (bdQ w.heap.size qb xa (.slice ta sc.length tc) ie v2) [⟨49,6,.slice ia2 its.length ic2,its.length,acs⟩] (((bQ (.slice ta sc.length tc) sc fq1 v2).and (farSl intE (by decide) (.slice ga2 g.length gc2) g)).and (farL xpE its acs))))
 case first=>
  cases gb with
  | false=>
   go_wp2_with fail;go_meet;exact⟨rfl,F8.out⟩
  | true=>
   go_wp2_with fail;go_meet;exact⟨by first|rfl|(rw[hib];rfl),F8.out⟩
 clear F8
 obtain⟨rfl,F8⟩:=hcut
 obtain⟨bz,hbz⟩:∃r,(gb&&dz)=r:=⟨_,rfl⟩
 rw[hbz]
 go_upto_if 171 with fail
 go_cut []from 172 to 173 (fun wc=>Hid (BF M0 U1 w wc (bdQ w.heap.size qb xa (.slice ta sc.length tc) ie2 v2) [⟨49,6,.slice ia2 its.length ic2,its.length,acs⟩] (((bQ (.slice ta sc.length tc) sc fq1 v2).and (farSl intE (by decide) (.slice ga2 g.length gc2) g)).and (farL xpE its acs))))
 case first=>
  as_aux_lemma=>
  cases bz with
  | false=>
   have h1:=HIE.out;rw[if_neg (fun h=>by rw[h.1,<- hdz,decide_eq_true h.2]at hbz;cases hbz)]at h1;subst h1;clear hbz hdz HIE;go_wp2_with fail;go_meet;exact F8.out
  | true=>
   have h1:firstE ie 1=ie2:=by
    rw[Bool.and_eq_true]at hbz;have h1:=HIE.out;rw[if_pos ⟨hbz.1,of_decide_eq_true (hdz.trans hbz.2)⟩]at h1;exact h1
   subst h1;clear hbz hdz HIE;go_wp2_with fail;refine Calls.mono (Dk (w.heap.size+1+1) _ ie 1 _ (F8.out.blk 1 rfl)) ?_;rintro e9 w9 ⟨rfl,hb9,ht9⟩;have F9:=Lib.hid (BF.turn1 1 F8.out rfl ht9 hb9);clear hb9 ht9 F8;go_wp2_with fail;go_meet;exact F9.out
 as_aux_lemma=>
 clear F8
 have F8:=hcut
 clear hcut hib hbz hdz
 obtain⟨aq,haq⟩:∃r,(if gb=true then(let a:=aggsY g x.items its [] [] ie2;((Qy.mk 5 [] [fq1] Xp.zero [] g a.1.1 [] 0,a.1.2),a.2))else((fq1,its),ie2))=r:=⟨_,rfl⟩
 have hbI:boundI sc x fq1 g (its,ie)=shapeY sc x aq.1.2 aq.1.1 aq.2:=by
  rw[<- haq];have h1:=HIE.out;have h2:=HGB.out;unfold boundI;rw[<- h2]
  cases gb with
  | false=>rw[if_neg (by simp)]at h1;subst h1;rfl
  | true=>
   simp only[if_true];rw[<- h1];simp only[true_and]
 have HFN5:Hid ((shapeY sc x aq.1.2 aq.1.1 aq.2).2=0->QG db 20 (shapeY sc x aq.1.2 aq.1.1 aq.2).1):=by show _->_;rw[<- hbI];exact HFN4.out
 have HT6:Hid (tot=bdB db (shapeY sc x aq.1.2 aq.1.1 aq.2)):=by show _=_;rw[<- hbI];exact HT5.out
 have HAQ:=Lib.hid haq
 clear hbI HFN4 HT5 haq HIE HGB
 go_upto_if 174 with fail
 go_cut [20]from 21 to 237 (fun itv wc=>∃(v3:QV) (ia3:Option Addr) (ic3:Nat),itv=.slice ia3 aq.1.2.length ic3/\Hid (aq.1.2.length<=16)/\Hid (BF M0 U1 w wc (bdQ w.heap.size qb xa (.slice ta sc.length tc) aq.2 v3) [] ((bQ (.slice ta sc.length tc) sc aq.1.1 v3).and (farSl xpE (by decide) (.slice ia3 aq.1.2.length ic3) aq.1.2))))
 case first=>
  as_aux_lemma=>
  cases gb with
  | false=>
   have h1:=HAQ.out;rw[if_neg (by simp)]at h1;subst h1;go_wp2_with fail;go_meet;exact⟨v2,ia2,ic2,rfl,hil2,(BF.fin (E:=xpE) (by decide) (R:=[]) F8.out (fun _ _=>trivial)).imp fun _ _ k=>⟨k.1.1,k.2⟩⟩
  | true=>
   have h1:=HAQ.out;simp only[if_true]at h1;go_wp2_with(refine wpList_load_row rfl 59 (.tmp 10) rfl qb rfl 59 v2.arr (0,0) _ (F8.out.blk 0 rfl) underlying59 rfl (Ae _) ?_);refine Calls.mono (Di 5 v2 _) ?_;rintro e9 w9 ⟨n1,rfl,hge,hbk,hbl⟩;have H9:=Lib.hid (F8.out.kept hbl);have G9:=Lib.hid (BF.over 5 (i:=0) (F8.out.imp (G2:=(((bT (.slice ta sc.length tc) sc).and (farSl intE (by decide) (.slice ga2 g.length gc2) g)).and (farL xpE its acs)).and (farQ fq1 v2.arr.toList)) fun _ _ k=>⟨⟨⟨k.1.1.1,k.1.2⟩,k.2⟩,k.1.1.2⟩) (fun _ _=>trivial) rfl hge hbk hbl);clear hge hbk hbl F8;go_upto_region 47 with(refine wpList_store_row rfl 59 (.tmp 10) (.tmp 176) rfl qb (QV.arr {k:=5,s:=(some ⟨n1,0,none⟩,1,1)}) rfl rfl 59 v2.arr (H9.out.blk 0 rfl) (Ae _) rfl (Ba _) ?_);refine Af (fun W=>BF M0 U1 w W (bdQ w.heap.size qb xa (.slice ta sc.length tc) ie2 {k:=5,s:=(some ⟨n1,0,none⟩,1,1)}) [⟨49,6,.slice ia2 its.length ic2,its.length,acs⟩] ((((bT (.slice ta sc.length tc) sc).and (farSl intE (by decide) (.slice ga2 g.length gc2) g)).and (farL xpE its acs)).and (farSl qyE (by decide) (.slice (some ⟨n1,0,none⟩) 1 1) [fq1]))) G9.out ?_;clear H9 G9;intro w10 F10';have F10:=Lib.hid F10';clear F10';obtain⟨c10,c10f,ul⟩:=Aa (o:=10) (F10.out.blk 0 rfl) rfl;go_upto_region 48 with fail
   refine Af (fun W=>BF M0 U1 w W (bdQ w.heap.size qb xa (.slice ta sc.length tc) ie2 {k:=5,s:=(some ⟨n1,0,none⟩,1,1),g:=(ga2,g.length,gc2)}) [⟨49,6,.slice ia2 its.length ic2,its.length,acs⟩] ((((bT (.slice ta sc.length tc) sc).and (farSl intE (by decide) (.slice ga2 g.length gc2) g)).and (farL xpE its acs)).and (farSl qyE (by decide) (.slice (some ⟨n1,0,none⟩) 1 1) [fq1]))) (BF.set 0 (o:=10) (v:=.slice ga2 g.length gc2) F10.out rfl) ?_;clear F10 c10 c10f ul;intro w11 F11';have F11:=Lib.hid F11';clear F11';obtain⟨aq2,haq2⟩:∃r,aggsY g x.items its [] [] ie2=r:=⟨_,rfl⟩;have HA0:Hid (aq2=aggsY g (x.items.drop 0) (its.drop 0) [] [] ie2):=by show _=_;rw[<- haq2];rfl
   rw[haq2]at h1;subst h1;clear haq2 HAQ;obtain⟨x1,x1f,x1l⟩:=Aa (o:=1) (F11.out.blk 3 rfl) hx1;go_wp2_with fail;clear x1 x1f x1l;go_loopw [24,25,26,182] (fun _ _ _ iv wr=>∃(j:Nat) (ag:List Ag) (out:List Xp) (e:Int) (aa:Option Addr) (ac:Nat) (icl acl:List Value),iv=.int .i64 j/\j<=x.items.length/\Hid (out.length=j)/\Hid (ag.length<=j)/\Hid (aq2=aggsY g (x.items.drop j) (its.drop j) ag out e)/\Hid (BF M0 U1 w wr (bdQ w.heap.size qb xa (.slice ta sc.length tc) e {k:=5,s:=(some ⟨n1,0,none⟩,1,1),g:=(ga2,g.length,gc2),a:=(aa,ag.length,ac)}) [⟨49,6,.slice ia2 its.length ic2,its.length,icl⟩,⟨107,7,.slice aa ag.length ac,ag.length,acl⟩] ((((bT (.slice ta sc.length tc) sc).and (farSl intE (by decide) (.slice ga2 g.length gc2) g)).and (farSl qyE (by decide) (.slice (some ⟨n1,0,none⟩) 1 1) [fq1])).and ((farL xpE (out++its.drop j) icl).and (farL agE ag acl))))) (fun _ _ _ iv _=>x.items.length - (intOf iv).toNat)
   case atStart=>exact⟨0,[],[],ie2,none,0,acs,[],rfl,by omega,rfl,Nat.le_refl _,HA0.out,(F11.out.snoc 107 7).imp fun _ _ k=>⟨⟨k.1.1,k.2⟩,k.1.2,rfl⟩⟩
   case round=>
    clear F11 HA0;obtain⟨j,ag,out,e,aa,ac,icl,acl,rfl,hj,HL,HAL,HA,F11⟩:=hrel;by_cases hlt:j<x.items.length
    ·obtain⟨it,hxj⟩:∃y,x.items[j]?=some y:=⟨x.items[j],by simp[hlt]⟩;have hjl:j<its.length:=by have:=HITL.out;omega
     obtain⟨xi,hij⟩:∃y,its[j]?=some y:=⟨its[j],by simp[hjl]⟩;have hidr:its.drop j=xi::its.drop (j+1):=by
      obtain⟨h1,h2⟩:=List.getElem?_eq_some_iff.1 hij;rw[List.drop_eq_getElem_cons h1,h2]
     obtain⟨ob,oo,ocap,ecs,hbo,hin,hat⟩:=(HI.out.kept (by decide) F11.out.below).at hxj;injection hbo with e1 _ e2;subst e1;subst e2;obtain⟨fn,op,tb0,n0,vv,args⟩:=it;obtain⟨ecs2,rfl,hin2⟩:=(show ∃c,ecs=.int .i64 fn::c/\ExIn _ _ _ c from hin);obtain⟨ea,rfl,hes⟩:=A6 (show ExIn _ _ (.mk op tb0 n0 vv args) ecs2 from hin2);obtain⟨ead,eac,rfl⟩:=(Az hes).slice;have y0:=hat 0 _ rfl;have y1:=hat 1 _ rfl;have y2:=hat 2 _ rfl;have y3:=hat 3 _ rfl;have y4:=hat 4 _ rfl;have y5:=hat 5 _ rfl;have y6:=hat 6 _ rfl;have y7:=hat 7 _ rfl;simp only[show pkE.k=8 from rfl,Nat.add_zero]at y0 y1 y2 y3 y4 y5 y6 y7;have hdr:x.items.drop j=⟨fn,.mk op tb0 n0 vv args⟩::x.items.drop (j+1):=by
      obtain⟨h1,h2⟩:=List.getElem?_eq_some_iff.1 hxj;rw[List.drop_eq_getElem_cons h1,h2]
     have hji:(j:Int)<(x.items.length:Int):=by omega
     have hjii:(j:Int)<(its.length:Int):=by omega
     have hg0:=HA.out;rw[hdr,hidr]at hg0;clear hat hin hin2 hes hdr HA;go_upto_region 51 with fail;clear y0 y1 y2 y3 y4 y5 y6 y7;refine Af (fun W=>BF M0 U1 w W ((wr.heap.size,#[.int .i64 fn,.int .i64 op,.string ⟨tb0.toArray⟩,.string ⟨n0.toArray⟩,.int .i64 vv.k,.int .i64 vv.n,.string vv.s,.slice ead args.length eac],70)::bdQ w.heap.size qb xa (.slice ta sc.length tc) e {k:=5,s:=(some ⟨n1,0,none⟩,1,1),g:=(ga2,g.length,gc2),a:=(aa,ag.length,ac)}) [⟨49,6,.slice ia2 its.length ic2,its.length,icl⟩,⟨107,7,.slice aa ag.length ac,ag.length,acl⟩] ((((bT (.slice ta sc.length tc) sc).and (farSl intE (by decide) (.slice ga2 g.length gc2) g)).and (farSl qyE (by decide) (.slice (some ⟨n1,0,none⟩) 1 1) [fq1])).and ((farL xpE (out++its.drop j) icl).and (farL agE ag acl)))) F11.out.alloc ?_;clear F11;intro w12 F12';have F12:=Lib.hid F12';clear F12';generalize wr.heap.size=eb at *;rw[hidr]at F12;obtain⟨c1,c2,c3,rfl,hc1,hl1,hx2,hl3⟩:=Sx F12.out.far.2.1;obtain⟨xop,xn,xv,xargs,rfl⟩:=D1 xi;obtain⟨xa0,rfl,hx3⟩:=Ai.1 hx2;obtain⟨xa1,xc1,rfl⟩:=hx3.slice;replace hc1:c1.length=j * 6:=by rw[hc1,HL.out];rfl
     obtain⟨ib,rfl,_⟩:=aw (F12.out.own (i:=0) rfl) (by omega);have F13:Hid (BF M0 U1 w w12 ((eb,#[.int .i64 fn,.int .i64 op,.string ⟨tb0.toArray⟩,.string ⟨n0.toArray⟩,.int .i64 vv.k,.int .i64 vv.n,.string vv.s,.slice ead args.length eac],70)::bdQ w.heap.size qb xa (.slice ta sc.length tc) e {k:=5,s:=(some ⟨n1,0,none⟩,1,1),g:=(ga2,g.length,gc2),a:=(aa,ag.length,ac)}) [⟨49,6,.slice (some ⟨ib,0,none⟩) its.length ic2,its.length,c1++(([.int .i64 xop,.int .i64 xn,.int .i64 xv.k,.int .i64 xv.n,.string xv.s,.slice xa1 xargs.length xc1]:List Value)++c3)⟩,⟨107,7,.slice aa ag.length ac,ag.length,acl⟩] ((((bT (.slice ta sc.length tc) sc).and (farSl intE (by decide) (.slice ga2 g.length gc2) g)).and (farSl qyE (by decide) (.slice (some ⟨n1,0,none⟩) 1 1) [fq1])).and (((farL xpE out c1).and (farE xpE (.mk xop xn xv xargs) [.int .i64 xop,.int .i64 xn,.int .i64 xv.k,.int .i64 xv.n,.string xv.s,.slice xa1 xargs.length xc1])).and ((farL xpE (its.drop (j+1)) c3).and (farL agE ag acl))))):=⟨F12.out.st,F12.out.rows,F12.out.apart,F12.out.far.1,⟨hl1,hx2⟩,hl3,F12.out.far.2.2⟩;clear F12 hl1 hx2 hx3 hl3;have D:=D6 (F13.out.own (i:=0) rfl);obtain⟨d0,d0f,dl⟩:=D (j * 6+0) _ (A1 hc1 (k:=0) rfl);obtain⟨d1,d1f,_⟩:=D (j * 6+1) _ (A1 hc1 (k:=1) rfl);obtain⟨d2,d2f,_⟩:=D (j * 6+2) _ (A1 hc1 (k:=2) rfl);obtain⟨d3,d3f,_⟩:=D (j * 6+3) _ (A1 hc1 (k:=3) rfl);obtain⟨d4,d4f,_⟩:=D (j * 6+4) _ (A1 hc1 (k:=4) rfl);obtain⟨d5,d5f,_⟩:=D (j * 6+5) _ (A1 hc1 (k:=5) rfl);simp only[Nat.add_zero]at d0 d0f;clear D
     obtain⟨i0,_,il⟩:=Aa (o:=0) (F13.out.blk 0 rfl) rfl;by_cases hfn:fn=0
     ·have hfb:(fn != (0:Int))=false:=by simpa using hfn
      have hg1:aq2=aggsY g (x.items.drop (j+1)) (its.drop (j+1)) ag (out++[Xp.col (placeY g xn)]) (if xop≠1\/placeY g xn<0 then firstE e 1 else e):=by
       rw[hg0]
       conv=>lhs;unfold aggsY
       rw[if_neg (fun h=>h hfn)];rfl
      clear hg0;have CI:=Lib.hid (X5 (OffB U1 _ _) g xn ga2 gc2 w12 F13.out.far.1.1.2 (by omega));go_wp2_with fail;refine Calls.mono CI.out ?_;rintro e14 w14 ⟨rfl,hb14⟩;have F14:=Lib.hid (F13.out.kept hb14);clear hb14 CI F13 d0 d0f dl d1 d1f d2 d2f d3 d3f d4 d4f d5 d5f i0 il;generalize placeY g xn=pn at *;dsimp only;have D:=D6 (F14.out.own (i:=0) rfl);obtain⟨d0,d0f,dl⟩:=D (j * 6+0) _ (A1 hc1 (k:=0) rfl);obtain⟨d1,d1f,_⟩:=D (j * 6+1) _ (A1 hc1 (k:=1) rfl);obtain⟨d2,d2f,_⟩:=D (j * 6+2) _ (A1 hc1 (k:=2) rfl);obtain⟨d3,d3f,_⟩:=D (j * 6+3) _ (A1 hc1 (k:=3) rfl);obtain⟨d4,d4f,_⟩:=D (j * 6+4) _ (A1 hc1 (k:=4) rfl);obtain⟨d5,d5f,_⟩:=D (j * 6+5) _ (A1 hc1 (k:=5) rfl);simp only[Nat.add_zero]at d0 d0f;clear D;by_cases hop:xop=1
      ·subst hop;by_cases hpn:pn<0
       ·rw[if_pos (.inr hpn)]at hg1;have HA:=Lib.hid hg1;go_wp2_with fail;refine Calls.mono (Dk (w.heap.size+1+1) _ e 1 _ (F14.out.blk 2 rfl)) ?_;rintro e15 w15 ⟨rfl,hb15,ht15⟩;have F15:=Lib.hid (BF.turn1 2 F14.out rfl ht15 hb15);clear hb15 ht15 F14 d0 d0f dl d1 d1f d2 d2f d3 d3f d4 d4f d5 d5f;have D:=D6 (F15.out.own (i:=0) rfl);obtain⟨d0,d0f,dl⟩:=D (j * 6+0) _ (A1 hc1 (k:=0) rfl);obtain⟨d1,d1f,_⟩:=D (j * 6+1) _ (A1 hc1 (k:=1) rfl);obtain⟨d2,d2f,_⟩:=D (j * 6+2) _ (A1 hc1 (k:=2) rfl);obtain⟨d3,d3f,_⟩:=D (j * 6+3) _ (A1 hc1 (k:=3) rfl);obtain⟨d4,d4f,_⟩:=D (j * 6+4) _ (A1 hc1 (k:=4) rfl);obtain⟨d5,d5f,_⟩:=D (j * 6+5) _ (A1 hc1 (k:=5) rfl);simp only[Nat.add_zero]at d0 d0f;clear D;go_wp2_with fail;have e9:setL (c1++(([.int .i64 1,.int .i64 xn,.int .i64 xv.k,.int .i64 xv.n,.string xv.s,.slice xa1 xargs.length xc1]:List Value)++c3)) (j * 6) ([.int .i64 1,.int .i64 pn,.int .i64 0,.int .i64 0,.string ⟨#[]⟩,.slice none 0 0]:List Value)=c1++(([.int .i64 1,.int .i64 pn,.int .i64 0,.int .i64 0,.string ⟨#[]⟩,.slice none 0 0]:List Value)++c3):=by rw[<- hc1];exact E7 _ _ _ _ rfl
        go_roundw
        case rel=>
         refine⟨j+1,ag,out++[Xp.col pn],(firstE e 1),aa,ac,c1++(([.int .i64 1,.int .i64 pn,.int .i64 0,.int .i64 0,.string ⟨#[]⟩,.slice none 0 0]:List Value)++c3),acl,by go_num,by omega,by show _=_;rw[List.length_append,HL.out];rfl,?_,HA.out,?_⟩
         ·show _<=_;have:=HAL.out;try rw[List.length_append]
          try simp only[List.length_cons,List.length_nil]
          omega
         ·show BF _ _ _ _ _ _ _;have h:=(BF.stores (i:=0) ([.int .i64 1,.int .i64 pn,.int .i64 0,.int .i64 0,.string ⟨#[]⟩,.slice none 0 0]:List Value) (j * 6) _ _ _ F15.out rfl).tail;rw[e9]at h;try rw[List.length_append]
          exact h.imp fun _ _ k=>⟨k.1,by rw[List.append_assoc];exact LIn.append k.2.1.1 ⟨([.int .i64 1,.int .i64 pn,.int .i64 0,.int .i64 0,.string ⟨#[]⟩,.slice none 0 0]:List Value),c3,rfl,Cj _ _ 1 pn V.null,k.2.2.1⟩,k.2.2.2⟩
        case measure=>simp[intOf];omega
       ·rw[if_neg (fun h=>h.elim (fun h=>h rfl) hpn)]at hg1;have HA:=Lib.hid hg1;go_wp2_with fail;have e9:setL (c1++(([.int .i64 1,.int .i64 xn,.int .i64 xv.k,.int .i64 xv.n,.string xv.s,.slice xa1 xargs.length xc1]:List Value)++c3)) (j * 6) ([.int .i64 1,.int .i64 pn,.int .i64 0,.int .i64 0,.string ⟨#[]⟩,.slice none 0 0]:List Value)=c1++(([.int .i64 1,.int .i64 pn,.int .i64 0,.int .i64 0,.string ⟨#[]⟩,.slice none 0 0]:List Value)++c3):=by rw[<- hc1];exact E7 _ _ _ _ rfl
        go_roundw
        case rel=>
         refine⟨j+1,ag,out++[Xp.col pn],e,aa,ac,c1++(([.int .i64 1,.int .i64 pn,.int .i64 0,.int .i64 0,.string ⟨#[]⟩,.slice none 0 0]:List Value)++c3),acl,by go_num,by omega,by show _=_;rw[List.length_append,HL.out];rfl,?_,HA.out,?_⟩
         ·show _<=_;have:=HAL.out;try rw[List.length_append]
          try simp only[List.length_cons,List.length_nil]
          omega
         ·show BF _ _ _ _ _ _ _;have h:=(BF.stores (i:=0) ([.int .i64 1,.int .i64 pn,.int .i64 0,.int .i64 0,.string ⟨#[]⟩,.slice none 0 0]:List Value) (j * 6) _ _ _ F14.out rfl).tail;rw[e9]at h;try rw[List.length_append]
          exact h.imp fun _ _ k=>⟨k.1,by rw[List.append_assoc];exact LIn.append k.2.1.1 ⟨([.int .i64 1,.int .i64 pn,.int .i64 0,.int .i64 0,.string ⟨#[]⟩,.slice none 0 0]:List Value),c3,rfl,Cj _ _ 1 pn V.null,k.2.2.1⟩,k.2.2.2⟩
        case measure=>simp[intOf];omega
      ·have hob:(xop != (1:Int))=true:=by simpa using hop
       rw[if_pos (.inl hop)]at hg1;have HA:=Lib.hid hg1;go_wp2_with fail;refine Calls.mono (Dk (w.heap.size+1+1) _ e 1 _ (F14.out.blk 2 rfl)) ?_;rintro e15 w15 ⟨rfl,hb15,ht15⟩;have F15:=Lib.hid (BF.turn1 2 F14.out rfl ht15 hb15);clear hb15 ht15 F14 d0 d0f dl d1 d1f d2 d2f d3 d3f d4 d4f d5 d5f;have D:=D6 (F15.out.own (i:=0) rfl);obtain⟨d0,d0f,dl⟩:=D (j * 6+0) _ (A1 hc1 (k:=0) rfl);obtain⟨d1,d1f,_⟩:=D (j * 6+1) _ (A1 hc1 (k:=1) rfl);obtain⟨d2,d2f,_⟩:=D (j * 6+2) _ (A1 hc1 (k:=2) rfl);obtain⟨d3,d3f,_⟩:=D (j * 6+3) _ (A1 hc1 (k:=3) rfl);obtain⟨d4,d4f,_⟩:=D (j * 6+4) _ (A1 hc1 (k:=4) rfl);obtain⟨d5,d5f,_⟩:=D (j * 6+5) _ (A1 hc1 (k:=5) rfl);simp only[Nat.add_zero]at d0 d0f;clear D;go_wp2_with fail;have e9:setL (c1++(([.int .i64 xop,.int .i64 xn,.int .i64 xv.k,.int .i64 xv.n,.string xv.s,.slice xa1 xargs.length xc1]:List Value)++c3)) (j * 6) ([.int .i64 1,.int .i64 pn,.int .i64 0,.int .i64 0,.string ⟨#[]⟩,.slice none 0 0]:List Value)=c1++(([.int .i64 1,.int .i64 pn,.int .i64 0,.int .i64 0,.string ⟨#[]⟩,.slice none 0 0]:List Value)++c3):=by rw[<- hc1];exact E7 _ _ _ _ rfl
       go_roundw
       case rel=>
        refine⟨j+1,ag,out++[Xp.col pn],(firstE e 1),aa,ac,c1++(([.int .i64 1,.int .i64 pn,.int .i64 0,.int .i64 0,.string ⟨#[]⟩,.slice none 0 0]:List Value)++c3),acl,by go_num,by omega,by show _=_;rw[List.length_append,HL.out];rfl,?_,HA.out,?_⟩
        ·show _<=_;have:=HAL.out;try rw[List.length_append]
         try simp only[List.length_cons,List.length_nil]
         omega
        ·show BF _ _ _ _ _ _ _;have h:=(BF.stores (i:=0) ([.int .i64 1,.int .i64 pn,.int .i64 0,.int .i64 0,.string ⟨#[]⟩,.slice none 0 0]:List Value) (j * 6) _ _ _ F15.out rfl).tail;rw[e9]at h;try rw[List.length_append]
         exact h.imp fun _ _ k=>⟨k.1,by rw[List.append_assoc];exact LIn.append k.2.1.1 ⟨([.int .i64 1,.int .i64 pn,.int .i64 0,.int .i64 0,.string ⟨#[]⟩,.slice none 0 0]:List Value),c3,rfl,Cj _ _ 1 pn V.null,k.2.2.1⟩,k.2.2.2⟩
       case measure=>simp[intOf];omega
     ·have hfb:(fn != (0:Int))=true:=by simpa using hfn
      have hg1:aq2=aggsY g (x.items.drop (j+1)) (its.drop (j+1)) (ag++[⟨fn,.mk xop xn xv xargs⟩]) (out++[Xp.col ((g.length:Int)+(ag.length:Int))]) e:=by
       rw[hg0]
       conv=>lhs;unfold aggsY
       rw[if_pos hfn]
      clear hg0;have HA:=Lib.hid hg1;clear hg1;have hal2:ag.length<=16:=by have:=HAL.out;omega
      have HC1:=Lib.hid hc1;clear hc1 hidr hij hxj;go_upto_region 52 with fail;have y11:∀p:TurnW (fun k=>(Value.slice aa ag.length ac).ownBlock=some k) w12,p.w.cell? ⟨qb,11,none⟩=some (.slice aa ag.length ac):=fun p=>F13.out.cellT (i:=1) rfl (j:=1) rfl 11 rfl p;have ye:∀p:TurnW (fun k=>(Value.slice aa ag.length ac).ownBlock=some k) w12,p.w.cell? ⟨eb,0,none⟩=some (.int .i64 fn):=fun p=>F13.out.cellT (i:=1) rfl (j:=0) rfl 0 rfl p;have z0:∀p:TurnW (fun k=>(Value.slice aa ag.length ac).ownBlock=some k) w12,p.w.cell? ⟨ib,j * 6,none⟩=some _:=fun p=>F13.out.rowT rfl d0 p;have z1:∀p:TurnW (fun k=>(Value.slice aa ag.length ac).ownBlock=some k) w12,p.w.cell? ⟨ib,j * 6+1,none⟩=some _:=fun p=>F13.out.rowT rfl d1 p;have z2:∀p:TurnW (fun k=>(Value.slice aa ag.length ac).ownBlock=some k) w12,p.w.cell? ⟨ib,j * 6+2,none⟩=some _:=fun p=>F13.out.rowT rfl d2 p;have z3:∀p:TurnW (fun k=>(Value.slice aa ag.length ac).ownBlock=some k) w12,p.w.cell? ⟨ib,j * 6+3,none⟩=some _:=fun p=>F13.out.rowT rfl d3 p;have z4:∀p:TurnW (fun k=>(Value.slice aa ag.length ac).ownBlock=some k) w12,p.w.cell? ⟨ib,j * 6+4,none⟩=some _:=fun p=>F13.out.rowT rfl d4 p;have z5:∀p:TurnW (fun k=>(Value.slice aa ag.length ac).ownBlock=some k) w12,p.w.cell? ⟨ib,j * 6+5,none⟩=some _:=fun p=>F13.out.rowT rfl d5 p;clear d0 d0f dl d1 d1f d2 d2f d3 d3f d4 d4f d5 d5f i0 il
      refine Ay (fun k=>(Value.slice aa ag.length ac).ownBlock=some k) 12 [(0,false),(1,false),(2,false),(3,false),(4,false),(5,false),(6,false),(7,false),(8,false),(9,true),(10,true),(11,false)] (by kernel_rfl) (by kernel_rfl) ?_
      iterate 8 (refine A0 rfl (fun K hK=>?_);go_simp;first|(refine hK _ ?_;clear hK K)|(apply Exists.intro;refine⟨fun _=>?_,hK _ ?_⟩;(fail);clear hK K))
      refine Nj rfl rfl 107 0 1 (.tmp 193) (.tmp 197) rfl (.int .i64 fn) (.agg #[.int .i64 xop,.int .i64 xn,.int .i64 xv.k,.int .i64 xv.n,.string xv.s,.slice xa1 xargs.length xc1]) rfl rfl #[.int .i64 fn,.int .i64 xop,.int .i64 xn,.int .i64 xv.k,.int .i64 xv.n,.string xv.s,.slice xa1 xargs.length xc1] (au _ _ _ _ _) ?_;clear y11 ye z0 z1 z2 z3 z4 z5;refine A7 rfl ?_;intro w14 hb14 ht14;have F14:=Lib.hid (F13.out.kept hb14);have T14:=Lib.hid ht14;clear hb14 ht14 F13;refine Nk rfl (.tmp 198) rfl fn xop xn xv (.slice xa1 xargs.length xc1) rfl ?_;refine⟨T14.out.step ((Below.refl _ _).alloc (Nat.le_refl _) _),A7 rfl ?_⟩;intro w15 hb15 ht15;have F15:=Lib.hid ((BF.alloc F14.out (cs:=#[.int .i64 fn,.int .i64 xop,.int .i64 xn,.int .i64 xv.k,.int .i64 xv.n,.string xv.s,.slice xa1 xargs.length xc1]) (t:=107)).kept hb15);have T15:=Lib.hid ht15;clear hb15 ht15 F14 T14;refine Ah rfl (.tmp 191) (.tmp 199) 56 rfl 107 (.agg #[.int .i64 0,.int .i64 0,.int .i64 0,.int .i64 0,.int .i64 0,.string ⟨#[]⟩,.slice none 0 0]) 7 80 underlying56 bi rfl (by decide) w.heap.size (.slice aa ag.length ac) ag.length acl rfl (F15.out.own (i:=1) rfl) (.slice (some ⟨w14.heap.size,0,none⟩) 1 1) 1 ([.int .i64 fn,.int .i64 xop,.int .i64 xn,.int .i64 xv.k,.int .i64 xv.n,.string xv.s,.slice xa1 xargs.length xc1]:List Value) rfl (by decide) (D4 (F15.out.blk 0 rfl) (by decide)) rfl (by simp[Value.oneCell']) (by omega) (by unfold maxLen;omega) F15.out.size ?_;intro v16 w16 hown hg16 hw16 hsl16;obtain⟨g16,c16,rfl⟩:=hsl16
      have F16:=Lib.hid ((F15.out.grown (i:=1) (r':=⟨107,7,.slice (some ⟨g16,0,none⟩) (ag.length+1) c16,ag.length+1,acl++([.int .i64 fn,.int .i64 xop,.int .i64 xn,.int .i64 xv.k,.int .i64 xv.n,.string xv.s,.slice xa1 xargs.length xc1]:List Value)⟩) rfl hg16 hown hw16).tail);have T16:=Lib.hid (T15.out.trans (Turn.of_grown hg16) (fun _ _ h=>h));clear hown hg16 hw16 F15 T15;refine⟨T16.out,?_⟩;repeat(refine A0 rfl (fun K hK=>?_);go_simp;first|(refine hK _ ?_;clear hK K)|(apply Exists.intro;refine⟨fun _=>?_,hK _ ?_⟩;(fail);clear hK K))
      refine B3 ?_;intro w17 hb17 _;have F17:=Lib.hid (F16.out.kept hb17);clear hb17 F16 T16;obtain⟨c11,f11,l11⟩:=Aa (o:=11) (F17.out.blk 1 rfl) rfl;go_upto_region 53 with fail;refine Af (fun W=>BF M0 U1 w W ((eb,#[.int .i64 fn,.int .i64 op,.string ⟨tb0.toArray⟩,.string ⟨n0.toArray⟩,.int .i64 vv.k,.int .i64 vv.n,.string vv.s,.slice ead args.length eac],70)::bdQ w.heap.size qb xa (.slice ta sc.length tc) e {k:=5,s:=(some ⟨n1,0,none⟩,1,1),g:=(ga2,g.length,gc2),a:=(some ⟨g16,0,none⟩,ag.length+1,c16)}) [⟨49,6,.slice (some ⟨ib,0,none⟩) its.length ic2,its.length,c1++(([.int .i64 xop,.int .i64 xn,.int .i64 xv.k,.int .i64 xv.n,.string xv.s,.slice xa1 xargs.length xc1]:List Value)++c3)⟩,⟨107,7,.slice (some ⟨g16,0,none⟩) (ag.length+1) c16,ag.length+1,acl++([.int .i64 fn,.int .i64 xop,.int .i64 xn,.int .i64 xv.k,.int .i64 xv.n,.string xv.s,.slice xa1 xargs.length xc1]:List Value)⟩] ((((bT (.slice ta sc.length tc) sc).and (farSl intE (by decide) (.slice ga2 g.length gc2) g)).and (farSl qyE (by decide) (.slice (some ⟨n1,0,none⟩) 1 1) [fq1])).and (((farL xpE out c1).and (farE xpE (.mk xop xn xv xargs) [.int .i64 xop,.int .i64 xn,.int .i64 xv.k,.int .i64 xv.n,.string xv.s,.slice xa1 xargs.length xc1])).and ((farL xpE (its.drop (j+1)) c3).and (farL agE ag acl))))) (BF.set 1 (o:=11) (v:=.slice (some ⟨g16,0,none⟩) (ag.length+1) c16) F17.out rfl) ?_;clear F17 c11 f11 l11;intro w18 F18';have F14:=Lib.hid F18';clear F18';have hc1:=HC1.out
      have c11:w18.cell? ⟨qb,11,none⟩=some (.slice (some ⟨g16,0,none⟩) (ag.length+1) c16):=(Aa (o:=11) (F14.out.blk 1 rfl) rfl).1;have l11:=block_lt_of_cell c11;have hw1:IntKind.i64.wrap ((g.length:Int)+((ag.length:Int)+1))=(g.length:Int)+((ag.length:Int)+1):=IntWalk.i64_in _ (by omega);have hw2:IntKind.i64.wrap ((g.length:Int)+((ag.length:Int)+1) - 1)=(g.length:Int)+(ag.length:Int):=by rw[IntWalk.i64_in _ (by omega)];omega
      have D:=D6 (F14.out.own (i:=0) rfl);obtain⟨d0,d0f,dl⟩:=D (j * 6+0) _ (A1 hc1 (k:=0) rfl);obtain⟨d1,d1f,_⟩:=D (j * 6+1) _ (A1 hc1 (k:=1) rfl);obtain⟨d2,d2f,_⟩:=D (j * 6+2) _ (A1 hc1 (k:=2) rfl);obtain⟨d3,d3f,_⟩:=D (j * 6+3) _ (A1 hc1 (k:=3) rfl);obtain⟨d4,d4f,_⟩:=D (j * 6+4) _ (A1 hc1 (k:=4) rfl);obtain⟨d5,d5f,_⟩:=D (j * 6+5) _ (A1 hc1 (k:=5) rfl);simp only[Nat.add_zero]at d0 d0f;clear D;go_wp2_with fail;have e9:setL (c1++(([.int .i64 xop,.int .i64 xn,.int .i64 xv.k,.int .i64 xv.n,.string xv.s,.slice xa1 xargs.length xc1]:List Value)++c3)) (j * 6) ([.int .i64 1,.int .i64 ((g.length:Int)+(ag.length:Int)),.int .i64 0,.int .i64 0,.string ⟨#[]⟩,.slice none 0 0]:List Value)=c1++(([.int .i64 1,.int .i64 ((g.length:Int)+(ag.length:Int)),.int .i64 0,.int .i64 0,.string ⟨#[]⟩,.slice none 0 0]:List Value)++c3):=by rw[<- hc1];exact E7 _ _ _ _ rfl
      go_roundw
      case rel=>
       refine⟨j+1,ag++[(⟨fn,.mk xop xn xv xargs⟩:Ag)],out++[Xp.col ((g.length:Int)+(ag.length:Int))],e,some ⟨g16,0,none⟩,c16,c1++(([.int .i64 1,.int .i64 ((g.length:Int)+(ag.length:Int)),.int .i64 0,.int .i64 0,.string ⟨#[]⟩,.slice none 0 0]:List Value)++c3),acl++([.int .i64 fn,.int .i64 xop,.int .i64 xn,.int .i64 xv.k,.int .i64 xv.n,.string xv.s,.slice xa1 xargs.length xc1]:List Value),by go_num,by omega,by show _=_;rw[List.length_append,HL.out];rfl,?_,HA.out,?_⟩
       ·show _<=_;have:=HAL.out;try rw[List.length_append]
        try simp only[List.length_cons,List.length_nil]
        omega
       ·show BF _ _ _ _ _ _ _;have h:=(BF.stores (i:=0) ([.int .i64 1,.int .i64 ((g.length:Int)+(ag.length:Int)),.int .i64 0,.int .i64 0,.string ⟨#[]⟩,.slice none 0 0]:List Value) (j * 6) _ _ _ F14.out rfl).tail;rw[e9]at h;try rw[List.length_append]
        exact h.imp fun _ _ k=>⟨k.1,by rw[List.append_assoc];exact LIn.append k.2.1.1 ⟨([.int .i64 1,.int .i64 ((g.length:Int)+(ag.length:Int)),.int .i64 0,.int .i64 0,.string ⟨#[]⟩,.slice none 0 0]:List Value),c3,rfl,Cj _ _ 1 ((g.length:Int)+(ag.length:Int)) V.null,k.2.2.1⟩,LIn.append k.2.2.2 (LIn.one ⟨_,rfl,k.2.1.2⟩)⟩
      case measure=>simp[intOf];omega
    ·obtain rfl:j=x.items.length:=by omega
     have hg0:=HA.out;rw[List.drop_length]at hg0;obtain rfl:aq2=((ag,out),e):=by rw[hg0];unfold aggsY;rfl
     clear hg0;go_wp2_with fail;go_meet;have hdn:its.drop x.items.length=[]:=by rw[<- HITL.out,List.drop_length]
     rw[hdn,List.append_nil]at F11;have hol:out.length=its.length:=by rw[HL.out,HITL.out]
     have F12:=BF.fin (E:=agE) (by decide) (R:=[⟨49,6,.slice ia2 its.length ic2,its.length,icl⟩]) (F11.out.imp (G2:=((((bT (.slice ta sc.length tc) sc).and (farSl intE (by decide) (.slice ga2 g.length gc2) g)).and (farSl qyE (by decide) (.slice (some ⟨n1,0,none⟩) 1 1) [fq1])).and (farL xpE out icl)).and (farL agE ag acl)) fun _ _ k=>⟨⟨k.1,k.2.1⟩,k.2.2⟩) (fun _ _=>trivial);rw[<- hol]at F12;have F13:=BF.fin (E:=xpE) (by decide) (R:=[]) (F12.imp (G2:=((((bT (.slice ta sc.length tc) sc).and (farSl intE (by decide) (.slice ga2 g.length gc2) g)).and (farSl qyE (by decide) (.slice (some ⟨n1,0,none⟩) 1 1) [fq1])).and (farSl agE (by decide) (.slice aa ag.length ac) ag)).and (farL xpE out icl)) fun _ _ k=>⟨⟨k.1.1,k.2⟩,k.1.2⟩) (fun _ _=>trivial);exact⟨{k:=5,s:=(some ⟨n1,0,none⟩,1,1),g:=(ga2,g.length,gc2),a:=(aa,ag.length,ac)},ia2,ic2,by rw[hol],by show _<=_;simp only;omega,F13.imp fun _ _ k=>⟨⟨k.1.1.1.1,Q4 k.1.1.2 k.1.1.1.2 k.1.2⟩,k.2⟩⟩
 as_aux_lemma=>
 obtain⟨v3,ia3,ic3,rfl,HIL,F9⟩:=hcut
 clear F8 HAQ
 obtain⟨⟨aq1,its3⟩,ae⟩:=aq
 simp only at F9 HIL HFN5 HT6
 go_wp2_with(first|(refine wpList_load_row rfl 59 (.tmp 10) rfl qb rfl 59 v3.arr (0,0) _ (F9.out.blk 0 rfl) underlying59 rfl (Ae _) ?_)|(refine wpList_load_row rfl 44 (.tmp 3) rfl w.heap.size rfl 44 xa (0,0) _ (F9.out.blk 3 rfl) underlying44 rfl hxz ?_))
 have hge:=F9.out.ge
 have hlt:=F9.out.lt.1
 have CS:=Ue (fun b=>OffB U1 (bdQ w.heap.size qb xa (.slice ta sc.length tc) ae v3) [] b\/b<w.heap.size) (w.heap.size+1+1) (fun h=>by
  rcases h with h|h
  ·exact h.2.1 _ (List.mem_cons_of_mem _ List.mem_cons_self) rfl
  ·omega) ta tc sc ae aq1 v3 x xa its3 ia3 ic3 wc (F9.out.blk 1 rfl) (Bt F9.out.far.1.1.2 (by decide) fun _ h=>.inl h) (Ax (fun b _ h=>⟨.inl h,rfl⟩) _ _ F9.out.far.1.2) (Bt F9.out.far.2 (by decide) fun _ h=>.inl h)
  ((farSel (.agg xa) x).move (fun b hl hq=>⟨.inr hq,F9.out.below.block b hq⟩) HX.out) (by have:=HIL.out;omega) (by omega) (by omega) (by omega) HSO.out
 generalize shapeY sc x its3 aq1 ae=sh at CS HFN5 HT6
 obtain⟨sq,se⟩:=sh
 refine Calls.mono CS ?_
 clear CS
 rintro e10 w10 ⟨v4,rfl,hq4,hb4,ht4⟩
 have F10:Hid (BF M0 U1 w w10 (bdQ w.heap.size qb xa (.slice ta sc.length tc) se v3) [] (Far.top.and (farQ sq v4.arr.toList))):=by
  have h:=BF.turn1 1 F9.out rfl ht4 hb4;refine⟨h.st,h.rows,h.apart,trivial,Ax (fun b _ hq=>⟨⟨trivial,fun y hy e=>?_,by simp⟩,rfl⟩) _ _ hq4⟩;have hy2:∃z∈bdQ w.heap.size qb xa (.slice ta sc.length tc) ae v3,z.1=y.1:=by
   have hm:y.1∈(bdQ w.heap.size qb xa (.slice ta sc.length tc) se v3).map (·.1):=List.mem_map.2 ⟨y,hy,rfl⟩;have hm2:y.1∈(bdQ w.heap.size qb xa (.slice ta sc.length tc) ae v3).map (·.1):=hm;exact List.mem_map.1 hm2
  obtain⟨z,hz,e2⟩:=hy2;have h1:=hge z hz;have h2:=hlt z hz;rcases hq with(hq|hq)|hq
  ·exact hq.2.1 z hz (e2.trans e)
  ·omega
  ·omega
 clear hb4 ht4 F9 hq4 hge hlt
 go_upto_region 60 with(refine wpList_store_row rfl 59 (.tmp 10) (.tmp 242) rfl qb v4.arr rfl rfl 59 v3.arr (F10.out.blk 0 rfl) (Ae _) rfl (Ba _) ?_)
 refine Af (fun W=>BF M0 U1 w W (bdQ w.heap.size qb xa (.slice ta sc.length tc) se v4) [] (Far.top.and (farQ sq v4.arr.toList))) (BF.row 0 v4.arr F10.out rfl) ?_
 clear F10
 intro w11 F11'
 have F11:=Lib.hid F11'
 clear F11'
 obtain⟨b1,b1f,b1l⟩:=Aa (o:=1) (F11.out.blk 1 rfl) rfl
 by_cases hse:se=0
 ·subst hse;have hqg:=HFN5.out rfl;have HT7:Hid (tot=if(schemaQ db sq).2=0 then(sq,0)else(Qy.zero,(schemaQ db sq).2)):=by
   show _=_;rw[HT6.out];unfold bdB;simp only[if_true]
  have CQ:=Hx (·<w.heap.size) (OffB U1 (bdQ w.heap.size qb xa (.slice ta sc.length tc) 0 v4) []) db hdb (fun t ht=>by have:=HDC.out t ht;omega) sq hqg.fine (by have:=hqg.nodes;omega) (.slice da db.length dc) v4.arr.toList w11 (HD.out.kept (by decide) F11.out.below) F11.out.far.2;clear hqg;generalize schemaQ db sq=rs at CQ HT7;obtain⟨rk,re⟩:=rs;simp only at HT7;have CQ:=Lib.hid CQ;go_upto_region 61 with fail;clear b1 b1f b1l;go_wp2_with(refine wpList_load_row rfl 59 (.tmp 10) rfl qb rfl 59 v4.arr (0,0) _ (F11.out.blk 0 rfl) underlying59 rfl (Ae _) ?_);refine Calls.mono CQ.out ?_;rintro e12 w12 hks;have hks2:∃vk,e12=.returned (.tuple #[vk,.int .i64 re])/\Below w11.heap.size w11 w12:=by
   rcases hks with⟨h0,v,rfl,_,_,hb⟩|⟨_,rfl,hb⟩
   ·have h0:re=0:=h0;exact⟨v,by rw[h0],hb⟩
   ·exact⟨_,rfl,hb⟩
  obtain⟨vk,rfl,hb12⟩:=hks2;have F12:=Lib.hid (F11.out.kept hb12);clear hks hb12 CQ F11;obtain⟨b1,b1f,b1l⟩:=Aa (o:=1) (F12.out.blk 1 rfl) rfl;go_upto_region 62 with fail;refine Af (fun W=>BF M0 U1 w W (bdQ w.heap.size qb xa (.slice ta sc.length tc) re v4) [] (Far.top.and (farQ sq v4.arr.toList))) (BF.set 1 (o:=1) (v:=.int .i64 re) F12.out rfl) ?_;clear F12 b1 b1f b1l;intro w13 F13';have F13:=Lib.hid F13';clear F13';by_cases hre:re=0
  ·subst hre;obtain rfl:tot=(sq,0):=HT7.out.trans (if_pos rfl);obtain⟨b1,b1f,b1l⟩:=Aa (o:=1) (F13.out.blk 1 rfl) rfl;go_upto_region 64 with fail;clear b1 b1f b1l;go_wp2_with(first|(refine wpList_load_row rfl 59 (.tmp 10) rfl qb rfl 59 v4.arr (0,0) _ (F13.out.blk 0 rfl) underlying59 rfl (Ae _) ?_)|(refine wpList_store_row rfl 59 (.tmp 4) (.tmp 267) rfl (w.heap.size+1) v4.arr rfl rfl 59 (QV.arr {}) (F13.out.blk 2 rfl) (Ae _) rfl (Ba _) ?_)|(with_reducible (refine Dj ?_)));try unfold Held
   have SE:=BF.row 2 v4.arr F13.out rfl;simp only[List.set_cons_zero,List.set_cons_succ]at SE;have hl:=run_loadVar_row (P:=prog) _ (w.heap.size+1) 59 59 v4.arr (0,0) _ (SE.blk 2 rfl) underlying59 rfl (Ae _);refine bodyPost_ret (v:=.tuple #[.agg v4.arr,.int .i64 0]) (Bk rfl _ _ (w.heap.size+1) _ _ rfl rfl hl) rfl ?_;exact⟨v4,rfl,Ax (fun b _ _=>⟨trivial,rfl⟩) _ _ SE.far.2,SE.below⟩
  ·have hrb:(re != (0:Int))=true:=by simpa using hre
   obtain rfl:tot=(Qy.zero,re):=HT7.out.trans (if_neg hre);obtain⟨b1,b1f,b1l⟩:=Aa (o:=1) (F13.out.blk 1 rfl) rfl;go_upto_region 63 with fail;have hbn:¬(w.heap.size+1+1=w.heap.size+1):=by omega
   have y1:∀p:TurnW (fun k=>k=w.heap.size+1) w13,p.w.cell? ⟨w.heap.size+1+1,1,none⟩=some (.int .i64 re):=fun p=>Bd p b1 hbn;refine Ay (fun k=>k=w.heap.size+1) 7 [(0,false),(1,false),(2,false),(3,false),(4,false),(5,true),(6,false)] (by kernel_rfl) (by kernel_rfl) ?_;repeat(refine A0 rfl (fun K hK=>?_);go_simp;first|(refine hK _ ?_;clear hK K)|(apply Exists.intro;refine⟨fun _=>?_,hK _ ?_⟩;(fail);clear hK K))
   refine A7 rfl ?_;intro w20 hb20 ht20;have F20:=Lib.hid (F13.out.kept hb20);clear F13 hb20 y1 b1 b1f b1l;go_wp2_with(refine wpList_store_row rfl 59 (.tmp 4) (.tmp 262) rfl (w.heap.size+1) (QV.arr {}) rfl rfl 59 (QV.arr {}) (F20.out.blk 2 rfl) (Ae _) rfl (Ba _) ?_);refine⟨ht20.setRow (.inl rfl),?_⟩;repeat(refine A0 rfl (fun K hK=>?_);go_simp;first|(refine hK _ ?_;clear hK K)|(apply Exists.intro;refine⟨fun _=>?_,hK _ ?_⟩;(fail);clear hK K))
   refine Ni ?_;intro w21 hb21 _;have F21:=Lib.hid ((BF.row 2 (QV.arr {}) F20.out rfl).kept hb21);clear hb21 ht20 F20;go_wp2_with(with_reducible (refine Dj ?_));try unfold Held
   have hl:=run_loadVar_row (P:=prog) _ (w.heap.size+1) 59 59 (QV.arr {}) (0,0) _ (F21.out.blk 2 rfl) underlying59 rfl (Ae _);refine bodyPost_ret (v:=.tuple #[.agg (QV.arr {}),.int .i64 re]) (Bk rfl _ _ (w.heap.size+1) _ _ rfl rfl hl) rfl ?_;exact⟨{},rfl,Fr _ _,F21.out.below⟩
 ·have hrb:(se != (0:Int))=true:=by simpa using hse
  have hrb2:(se==(0:Int))=false:=by simpa using hse
  obtain rfl:tot=(Qy.zero,se):=by
   rw[HT6.out];unfold bdB;simp only[if_neg hse]
  clear b1 b1f b1l;obtain⟨b1,b1f,b1l⟩:=Aa (o:=1) (F11.out.blk 1 rfl) rfl;go_upto_region 63 with fail;have hbn:¬(w.heap.size+1+1=w.heap.size+1):=by omega
  have y1:∀p:TurnW (fun k=>k=w.heap.size+1) w11,p.w.cell? ⟨w.heap.size+1+1,1,none⟩=some (.int .i64 se):=fun p=>Bd p b1 hbn;refine Ay (fun k=>k=w.heap.size+1) 7 [(0,false),(1,false),(2,false),(3,false),(4,false),(5,true),(6,false)] (by kernel_rfl) (by kernel_rfl) ?_;repeat(refine A0 rfl (fun K hK=>?_);go_simp;first|(refine hK _ ?_;clear hK K)|(apply Exists.intro;refine⟨fun _=>?_,hK _ ?_⟩;(fail);clear hK K))
  refine A7 rfl ?_;intro w20 hb20 ht20;have F20:=Lib.hid (F11.out.kept hb20);clear F11 hb20 y1 b1 b1f b1l;go_wp2_with(refine wpList_store_row rfl 59 (.tmp 4) (.tmp 262) rfl (w.heap.size+1) (QV.arr {}) rfl rfl 59 (QV.arr {}) (F20.out.blk 2 rfl) (Ae _) rfl (Ba _) ?_);refine⟨ht20.setRow (.inl rfl),?_⟩;repeat(refine A0 rfl (fun K hK=>?_);go_simp;first|(refine hK _ ?_;clear hK K)|(apply Exists.intro;refine⟨fun _=>?_,hK _ ?_⟩;(fail);clear hK K))
  refine Ni ?_;intro w21 hb21 _;have F21:=Lib.hid ((BF.row 2 (QV.arr {}) F20.out rfl).kept hb21);clear hb21 ht20 F20;go_wp2_with(with_reducible (refine Dj ?_));try unfold Held
  have hl:=run_loadVar_row (P:=prog) _ (w.heap.size+1) 59 59 (QV.arr {}) (0,0) _ (F21.out.blk 2 rfl) underlying59 rfl (Ae _);refine bodyPost_ret (v:=.tuple #[.agg (QV.arr {}),.int .i64 se]) (Bk rfl _ _ (w.heap.size+1) _ _ rfl rfl hl) rfl ?_;exact⟨{},rfl,Fr _ _,F21.out.below⟩
end Go.Proofs.YtjmmbebkbkgefaaGreatDoor
