/- Part 31; the last part says what is proved. No condition. -/
import Derived.Test.YtjmmbebkbkgefaaGreatDoorA30
namespace Go.Proofs.YtjmmbebkbkgefaaGreatDoor
open Go.RowKit Go.Sort
set_option maxRecDepth 100000 in
set_option maxHeartbeats 16000000 in
theorem rres_col (Q : Nat→Prop) (sc : List Tbl) (tv : Value) (t n : Bytes) (v : V) (ad : Option Addr) (an ac : Nat) (w : World) (ht : RSl tblE Q w tv sc) (hs : sc.length≤1000000) (hf : (flatC sc).length≤1000000) :
  Calls Tryz.prog 10 #[tv,.agg #[.int .i64 1,.string ⟨t.toArray⟩,.string ⟨n.toArray⟩,.int .i64 v.k,.int .i64 v.n,.string v.s,.slice ad an ac]] w (ResPost w (pickC (fndC t n 0 (flatC sc)))):=by
 have CF:=Lib.hid (fun W (hb : Below w.heap.size w W)=>find_any Q sc tv t n W (RSl.kept (by decide) ht hb) hs hf)
 clear ht
 obtain ⟨tot,htot⟩ : ∃ tot,fndC t n 0 (flatC sc) = tot:=⟨_,rfl⟩
 rw [htot] at CF ⊢
 have hpk:=noteC_pick tot
 clear htot
 generalize pickC tot = res at hpk ⊢
 have HPK:=Lib.hid hpk
 clear hpk
 go_enter Tryz.func10,Tryz.ntmps10
 go_upto_region 1 with fail
 refine St.gen (St.alloc (St.alloc (St.start _))) ?_
 intro w1 S1
 try (simp only [World.size_alloc] at S1)
 have F1:=S1.out.facts
 simp only [St.Facts,cellFacts,apartFacts,and_true] at F1
 go_wp2_with fail
 refine Calls.mono (CF.out w1 S1.out.below) ?_
 rintro e w2 ⟨rfl,hb2⟩
 have S2:=Lib.hid (S1.out.kept hb2)
 clear hb2 S1 F1 CF
 go_upto_region 3 with fail
 refine St.gen (St.alloc (S2.out)) ?_
 intro w3 S3
 try (simp only [List.set_cons_zero,List.set_cons_succ,List.setIfInBounds_toArray,World.size_alloc] at S3)
 clear S2
 have F3:=S3.out.facts
 simp only [St.Facts,cellFacts,apartFacts,and_true] at F3
 generalize w2.heap.size = bf at *
 by_cases he : (noteC tot).2 = 0
 ·obtain rfl : res = .ok (.col (noteC tot).1):=by rw [HPK.out,if_pos he]
  have hb0 : ((noteC tot).2 != 0) = false:=by rw [he]; rfl
  go_wp2_with (refine wpList_store_row rfl 49 (.tmp 4) (.tmp 28) rfl (w.heap.size + 1) #[.int .i64 1,.int .i64 (noteC tot).1,.int .i64 0,.int .i64 0,.string ⟨#[]⟩,.slice none 0 0] rfl rfl 49 #[.int .i64 0,.int .i64 0,.int .i64 0,.int .i64 0,.string ⟨#[]⟩,.slice none 0 0] (S3.out.blk 1 rfl) xp_size rfl (by simp [Value.oneCell']) ?_)
  refine bodyGen (fun W=>St w W _) (St.row 1 #[.int .i64 1,.int .i64 (noteC tot).1,.int .i64 0,.int .i64 0,.string ⟨#[]⟩,.slice none 0 0] S3.out rfl) ?_
  intro w9 S9'
  have S9:=Lib.hid S9'
  clear S9'
  have F9 : w9.heap[w.heap.size + 1]? = some (.cells #[.int .i64 1,.int .i64 (noteC tot).1,.int .i64 0,.int .i64 0,.string ⟨#[]⟩,.slice none 0 0] 49 (0,0)):=S9.out.blk 1 rfl
  have c0 : w9.cell? ⟨w.heap.size + 1,0,none⟩ = some (.int .i64 1):=by simp only [World.cell?,F9]; rfl
  have c1 : w9.cell? ⟨w.heap.size + 1,1,none⟩ = some (.int .i64 (noteC tot).1):=by simp only [World.cell?,F9]; rfl
  have c2 : w9.cell? ⟨w.heap.size + 1,2,none⟩ = some (.int .i64 0):=by simp only [World.cell?,F9]; rfl
  have c3 : w9.cell? ⟨w.heap.size + 1,3,none⟩ = some (.int .i64 0):=by simp only [World.cell?,F9]; rfl
  have c4 : w9.cell? ⟨w.heap.size + 1,4,none⟩ = some (.string ⟨#[]⟩):=by simp only [World.cell?,F9]; rfl
  have c5 : w9.cell? ⟨w.heap.size + 1,5,none⟩ = some (.slice none 0 0):=by simp only [World.cell?,F9]; rfl
  refine bodyPost_ret (v:=.tuple #[.agg #[.int .i64 1,.int .i64 (noteC tot).1,.int .i64 0,.int .i64 0,.string ⟨#[]⟩,.slice none 0 0],.int .i64 0]) (by simp [results,Tryz.results10,go_sem,c0,c1,c2,c3,c4,c5]) rfl ?_
  exact ⟨_,rfl,xp_leaf _ _ 1 _ V.null,S9.out.below⟩
 ·obtain rfl : res = .error (noteC tot).2:=by rw [HPK.out,if_neg he]
  have hb0 : ((noteC tot).2 != 0) = true:=by simpa using he
  go_upto_region 4 with fail
  have hbf : ¬ bf = w.heap.size + 1:=by omega
  have y1 : ∀ q : TurnW (fun k=>k = w.heap.size + 1) w3,q.w.cell? ⟨bf,1,none⟩ = some (.int .i64 (noteC tot).2):=fun q=>turnW_cell q (blk_cell (o:=1) (S3.out.blk 0 rfl) rfl).1 hbf
  clear F3
  refine wp_region_mixedT (fun k=>k = w.heap.size + 1) 5 [(0,false),(1,false),(2,false),(3,true),(4,false)] (by kernel_rfl) (by kernel_rfl) ?_
  repeat (refine wpM_mildT rfl (fun K hK=>?_); go_simp; first | (refine hK _ ?_; clear hK K) | (apply Exists.intro; refine ⟨fun _=>?_,hK _ ?_⟩; (fail); clear hK K))
  refine wpM_effT rfl ?_
  intro w7 hb7 ht7
  have S7:=Lib.hid (S3.out.kept hb7)
  clear S3 hb7
  refine wpList_store_row rfl 49 (.tmp 4) (.tmp 23) rfl (w.heap.size + 1) #[.int .i64 0,.int .i64 0,.int .i64 0,.int .i64 0,.string ⟨#[]⟩,.slice none 0 0] rfl rfl 49 #[.int .i64 0,.int .i64 0,.int .i64 0,.int .i64 0,.string ⟨#[]⟩,.slice none 0 0] (S7.out.blk 1 rfl) xp_size rfl (by simp [Value.oneCell']) ?_
  refine ⟨ht7.setRow (.inl rfl),?_⟩
  repeat (refine wpM_mildT rfl (fun K hK=>?_); go_simp; first | (refine hK _ ?_; clear hK K) | (apply Exists.intro; refine ⟨fun _=>?_,hK _ ?_⟩; (fail); clear hK K))
  refine wpM_endT ?_
  intro w9 hb9 _
  have S9:=Lib.hid ((St.row 1 #[.int .i64 0,.int .i64 0,.int .i64 0,.int .i64 0,.string ⟨#[]⟩,.slice none 0 0] S7.out rfl).kept hb9)
  clear hb9 ht7 S7 y1
  go_wp2_with fail
  have F9 : w9.heap[w.heap.size + 1]? = some (.cells #[.int .i64 0,.int .i64 0,.int .i64 0,.int .i64 0,.string ⟨#[]⟩,.slice none 0 0] 49 (0,0)):=S9.out.blk 1 rfl
  have c0 : w9.cell? ⟨w.heap.size + 1,0,none⟩ = some (.int .i64 0):=by simp only [World.cell?,F9]; rfl
  have c1 : w9.cell? ⟨w.heap.size + 1,1,none⟩ = some (.int .i64 0):=by simp only [World.cell?,F9]; rfl
  have c2 : w9.cell? ⟨w.heap.size + 1,2,none⟩ = some (.int .i64 0):=by simp only [World.cell?,F9]; rfl
  have c3 : w9.cell? ⟨w.heap.size + 1,3,none⟩ = some (.int .i64 0):=by simp only [World.cell?,F9]; rfl
  have c4 : w9.cell? ⟨w.heap.size + 1,4,none⟩ = some (.string ⟨#[]⟩):=by simp only [World.cell?,F9]; rfl
  have c5 : w9.cell? ⟨w.heap.size + 1,5,none⟩ = some (.slice none 0 0):=by simp only [World.cell?,F9]; rfl
  refine bodyPost_ret (v:=.tuple #[.agg #[.int .i64 0,.int .i64 0,.int .i64 0,.int .i64 0,.string ⟨#[]⟩,.slice none 0 0],.int .i64 (noteC tot).2]) (by simp [results,Tryz.results10,go_sem,c0,c1,c2,c3,c4,c5]) rfl ?_
  exact ⟨_,rfl,xp_leaf _ _ 0 0 V.null,S9.out.below⟩
set_option maxRecDepth 100000 in
set_option maxHeartbeats 16000000 in
theorem rres_any (Q R : Nat→Prop) (sc : List Tbl) (hs : sc.length≤1000000) (hf : (flatC sc).length≤1000000) : ∀ e : Ex,e.brief→∀ (tv : Value) (cs : List Value) (w : World),RSl tblE Q w tv sc→ExIn R w e cs →
  Calls Tryz.prog 10 #[tv,.agg cs.toArray] w (ResPost w (Ex.res (flatC sc) e)):=by
 refine Ex.ind fun op t n v args ih=>?_
 intro hbr tv cs w ht he
 obtain ⟨a,rfl,hsl⟩:=exIn_of he
 have hsl2:=exSl_rSl hsl
 obtain ⟨ad,ac,rfl⟩:=hsl2.slice
 by_cases ho : op = 1
 ·subst ho
  rw [res_col]
  exact rres_col Q sc tv t n v ad args.length ac w ht hs hf
 ·rw [res_mk _ _ _ _ _ _ ho]
  obtain ⟨tot,htot⟩ : ∃ tot,joinX op v [] (resL (flatC sc) args) = tot:=⟨_,rfl⟩
  rw [htot]
  have HM0 : Hid (tot = joinX op v [] (resL (flatC sc) (args.drop 0))):=htot.symm
  have hal : args.length≤1000000:=hbr.1
  have hob : (op == (1 : Int)) = false:=by simpa using ho
  obtain ⟨ta,tc,rfl⟩:=ht.slice
  have IH:=Lib.hid (fun (e' : Ex) (hm : e' ∈ args) (cs' : List Value) (he' : ExIn R w e' cs') (W : World) (hb : Below w.heap.size w W)=>ih e' hm (briefL_mem hbr.2 e' hm) _ cs' W (RSl.kept (by decide) ht hb) (he'.kept hb))
  have HS:=Lib.hid hsl2
  clear ih hbr he ht hsl hsl2 htot ho
  go_enter Tryz.func10,Tryz.ntmps10
  go_upto_region 1 with fail
  refine St.gen (St.alloc (St.alloc (St.start _))) ?_
  intro w1 S1
  try (simp only [World.size_alloc] at S1)
  have F1:=S1.out.facts
  simp only [St.Facts,cellFacts,apartFacts,and_true] at F1
  go_upto_region 7 with fail
  have hbo : w.heap.size + 1 < w1.heap.size:=(Array.getElem?_eq_some_iff.1 (S1.out.blk 0 rfl)).1
  refine St.gen (St.alloc (S1.out)) ?_
  intro w2 S2
  try (simp only [List.set_cons_zero,List.set_cons_succ,List.setIfInBounds_toArray,World.size_alloc] at S2)
  clear S1 F1
  generalize w1.heap.size = bo at *
  go_upto_region 8 with fail
  go_loopw [8,9,10] (fun iv _ _ wr=>∃ (k : Nat) (acc : List Xp) (oa : Option Addr) (oc : Nat),iv = .int .i64 k∧k≤args.length∧Hid (acc.length = k)∧Hid (tot = joinX op v acc (resL (flatC sc) (args.drop k)))∧Hid (St w wr [(bo,#[.int .i64 op,.int .i64 0,.int .i64 v.k,.int .i64 v.n,.string v.s,.slice oa acc.length oc],49),(w.heap.size + 1,#[.int .i64 0,.int .i64 0,.int .i64 0,.int .i64 0,.string ⟨#[]⟩,.slice none 0 0],49),(w.heap.size,#[.int .i64 op,.string ⟨t.toArray⟩,.string ⟨n.toArray⟩,.int .i64 v.k,.int .i64 v.n,.string v.s,.slice ad args.length ac],27)])∧Hid (LRow xpE 49 (bo + 1) wr acc (.slice oa acc.length oc))) (fun iv _ _ _=>args.length - (intOf iv).toNat)
  case atStart=>exact ⟨0,[],none,0,rfl,by omega,rfl,HM0.out,S2.out,⟨[],World.ownsRow_nil _ _ _ _,rfl⟩⟩
  case round=>
   clear HM0 S2
   obtain ⟨k,acc,oa,oc,rfl,hk,HK,HM,S2,HL⟩:=hrel
   have F2:=S2.out.facts
   simp only [St.Facts,cellFacts,apartFacts,and_true] at F2
   by_cases hlt : k < args.length
   ·obtain ⟨e',hx⟩ : ∃ x,args[k]? = some x:=⟨args[k],by simp [hlt]⟩
    obtain ⟨b,o,cap,cs,hbo,hin,hat⟩:=HS.out.at hx
    injection hbo with e1 _ e2
    subst e1
    subst e2
    have HI:=Lib.hid (IH.out e' (List.mem_of_getElem? hx) cs hin)
    have hdr : args.drop k = e' :: args.drop (k + 1):=by
     obtain ⟨h1,rfl⟩:=List.getElem?_eq_some_iff.1 hx
     exact List.drop_eq_getElem_cons h1
    have hm0:=HM.out
    rw [hdr] at hm0
    obtain ⟨res,hres⟩ : ∃ r,Ex.res (flatC sc) e' = r:=⟨_,rfl⟩
    rw [hres] at HI
    have HR:=Lib.hid hres
    have HM1:=Lib.hid hm0
    obtain ⟨op2,t2,n2,v2,args2⟩:=e'
    obtain ⟨a2,rfl,hsl3⟩:=exIn_of hin
    obtain ⟨ad2,ac2,rfl⟩:=(exSl_rSl hsl3).slice
    have x0:=S2.out.below.cell_kept (hat 0 _ rfl)
    have x1:=S2.out.below.cell_kept (hat 1 _ rfl)
    have x2:=S2.out.below.cell_kept (hat 2 _ rfl)
    have x3:=S2.out.below.cell_kept (hat 3 _ rfl)
    have x4:=S2.out.below.cell_kept (hat 4 _ rfl)
    have x5:=S2.out.below.cell_kept (hat 5 _ rfl)
    have x6:=S2.out.below.cell_kept (hat 6 _ rfl)
    simp only [show exE.k = 7 from rfl,Nat.add_zero] at x0 x1 x2 x3 x4 x5 x6
    have hki : (k : Int) < (args.length : Int):=by omega
    clear hin hat hsl3 hx hdr hm0 HM hres
    go_wp2_with fail
    refine Calls.mono (HI.out wr S2.out.below) ?_
    rintro e w4 ⟨xcs,hxe,hxi,hb4⟩
    have S4:=Lib.hid (S2.out.kept hb4)
    have HL4:=Lib.hid (HL.out.kept hb4)
    have hw3:=hb4.size
    clear HI F2 hb4 x0 x1 x2 x3 x4 x5 x6
    cases res with
    | error kk=>
     obtain rfl : e = .returned (.tuple #[.agg xcs.toArray,.int .i64 kk]):=hxe
     have hkb : (kk != 0) = true:=by simpa using res_err _ _ _ HR.out
     have HT : Hid (tot = .error kk):=HM1.out.trans (joinX_err _ _ _ _ _ _ _ HR.out)
     obtain ⟨xa0,rfl,hx2⟩:=xpIn_iff.1 (show XpIn _ _ (.mk 0 0 V.null []) _ from hxi)
     obtain ⟨xa,xc,rfl⟩:=hx2.slice
     clear S2 HL HL4 HR HM1 hxi hx2
     go_wp2_with (refine wpList_store_row rfl 49 (.tmp 4) (.tmp 53) rfl (w.heap.size + 1) #[.int .i64 0,.int .i64 0,.int .i64 0,.int .i64 0,.string ⟨#[]⟩,.slice none 0 0] rfl rfl 49 #[.int .i64 0,.int .i64 0,.int .i64 0,.int .i64 0,.string ⟨#[]⟩,.slice none 0 0] ((St.laid S4.out).blk 1 rfl) xp_size rfl (by simp [Value.oneCell']) ?_)
     refine bodyGen (fun W=>St w W _) (St.row 1 #[.int .i64 0,.int .i64 0,.int .i64 0,.int .i64 0,.string ⟨#[]⟩,.slice none 0 0] (St.laid S4.out) rfl) ?_
     intro w9 S9'
     have S9:=Lib.hid S9'
     clear S9'
     have F9 : w9.heap[w.heap.size + 1]? = some (.cells #[.int .i64 0,.int .i64 0,.int .i64 0,.int .i64 0,.string ⟨#[]⟩,.slice none 0 0] 49 (0,0)):=S9.out.blk 1 rfl
     have c0 : w9.cell? ⟨w.heap.size + 1,0,none⟩ = some (.int .i64 0):=by simp only [World.cell?,F9]; rfl
     have c1 : w9.cell? ⟨w.heap.size + 1,1,none⟩ = some (.int .i64 0):=by simp only [World.cell?,F9]; rfl
     have c2 : w9.cell? ⟨w.heap.size + 1,2,none⟩ = some (.int .i64 0):=by simp only [World.cell?,F9]; rfl
     have c3 : w9.cell? ⟨w.heap.size + 1,3,none⟩ = some (.int .i64 0):=by simp only [World.cell?,F9]; rfl
     have c4 : w9.cell? ⟨w.heap.size + 1,4,none⟩ = some (.string ⟨#[]⟩):=by simp only [World.cell?,F9]; rfl
     have c5 : w9.cell? ⟨w.heap.size + 1,5,none⟩ = some (.slice none 0 0):=by simp only [World.cell?,F9]; rfl
     rw [HT.out]
     refine bodyPost_ret (v:=.tuple #[.agg #[.int .i64 0,.int .i64 0,.int .i64 0,.int .i64 0,.string ⟨#[]⟩,.slice none 0 0],.int .i64 kk]) (by simp [results,Tryz.results10,go_sem,c0,c1,c2,c3,c4,c5]) rfl ?_
     exact ⟨_,rfl,xp_leaf _ _ 0 0 V.null,S9.out.below⟩
    | ok x=>
     obtain rfl : e = .returned (.tuple #[.agg xcs.toArray,.int .i64 0]):=hxe
     have HT : Hid (tot = joinX op v (acc ++ [x]) (resL (flatC sc) (args.drop (k + 1)))):=HM1.out.trans (joinX_ok _ _ _ _ _ _ _ HR.out)
     obtain ⟨xop,xn,xv,xargs⟩:=x
     have hxi2 : XpIn (wr.heap.size≤·) w4 (.mk xop xn xv xargs) xcs:=hxi
     obtain ⟨xa0,rfl,hx2⟩:=xpIn_iff.1 hxi2
     obtain ⟨xa,xc,rfl⟩:=hx2.slice
     have HG : Hid (∀ g,(Value.slice oa acc.length oc).ownBlock = some g→g < wr.heap.size):=fun g hg=>by
      obtain ⟨acs2,h2,_⟩:=HL.out
      exact (World.ownsRow.lt h2 g hg).2
     have hbo3 : bo < wr.heap.size:=(Array.getElem?_eq_some_iff.1 (S2.out.blk 0 rfl)).1
     clear S2 HL HR HM1 hxi hx2
     go_upto_region 13 with fail
     refine codeGenT (fun W=>St w W [(w4.heap.size,#[.int .i64 xop,.int .i64 xn,.int .i64 xv.k,.int .i64 xv.n,.string xv.s,.slice xa xargs.length xc],49),(bo,#[.int .i64 op,.int .i64 0,.int .i64 v.k,.int .i64 v.n,.string v.s,.slice oa acc.length oc],49),(w.heap.size + 1,#[.int .i64 0,.int .i64 0,.int .i64 0,.int .i64 0,.string ⟨#[]⟩,.slice none 0 0],49),(w.heap.size,#[.int .i64 op,.string ⟨t.toArray⟩,.string ⟨n.toArray⟩,.int .i64 v.k,.int .i64 v.n,.string v.s,.slice (some ⟨b,o,none⟩) args.length ac],27)]∧LRow xpE 49 (bo + 1) W acc (.slice oa acc.length oc)∧XpIn (wr.heap.size≤·) W (.mk xop xn xv xargs) [.int .i64 xop,.int .i64 xn,.int .i64 xv.k,.int .i64 xv.n,.string xv.s,.slice xa xargs.length xc]) ⟨St.alloc S4.out,HL4.out.kept ((Below.refl _ _).alloc (Nat.le_refl _) _),xpIn_move (fun b hb hq=>⟨hq,((Below.refl w4.heap.size w4).alloc (Nat.le_refl _) _).block b hb⟩) _ _ hxi2⟩ ?_
     clear S4 HL4 hxi2
     rintro w5 ⟨S5',HL5',HX5'⟩
     have S5:=Lib.hid S5'
     have HE:=Lib.hid HX5'
     obtain ⟨acs,hown,hin⟩:=HL5'
     have HO:=Lib.hid hown
     have HI:=Lib.hid hin
     clear S5' HX5' hown hin
     generalize w4.heap.size = bx at *
     have hbo5 : bo < w5.heap.size:=(Array.getElem?_eq_some_iff.1 (S5.out.blk 1 rfl)).1
     have hkk : acc.length≤k:=Nat.le_of_eq HK.out
     have F5:=S5.out.facts
     simp only [St.Facts,cellFacts,apartFacts,and_true] at F5
     go_wp2_with (at_builtin; go_must (refine wpList_append_newq rfl _ _ 47 rfl 49 (.agg #[.int .i64 0,.int .i64 0,.int .i64 0,.int .i64 0,.string ⟨#[]⟩,.slice none 0 0]) 6 72 Tryz.underlying47 infoXp rfl (by decide) (bo + 1) (.slice oa acc.length oc) acc.length acs rfl HO.out #[.int .i64 xop,.int .i64 xn,.int .i64 xv.k,.int .i64 xv.n,.string xv.s,.slice xa xargs.length xc] 1 w5.heap.size (by simp) rfl rfl (by simp [Value.oneCell']) (by omega) (by unfold maxLen; omega) (by omega) ?_))
     intro v6 w6 hown6 hg6 hw6
     have HA6 : Hid (LRow xpE 49 (bo + 1) w6 (acc ++ [.mk xop xn xv xargs]) v6):=LRow.add (C:=wr.heap.size) (by omega) HG.out HO.out HI.out HE.out hown6 hg6 hw6
     have S6 : Hid (St w w6 [(bo,#[.int .i64 op,.int .i64 0,.int .i64 v.k,.int .i64 v.n,.string v.s,.slice oa acc.length oc],49),(w.heap.size + 1,#[.int .i64 0,.int .i64 0,.int .i64 0,.int .i64 0,.string ⟨#[]⟩,.slice none 0 0],49),(w.heap.size,#[.int .i64 op,.string ⟨t.toArray⟩,.string ⟨n.toArray⟩,.int .i64 v.k,.int .i64 v.n,.string v.s,.slice (some ⟨b,o,none⟩) args.length ac],27)]):=(St.tail S5.out).turned (Turn.of_grown hg6) (fun i h=>by have:=(World.ownsRow.lt HO.out i h).1; omega) (fun x hx h=>by
      have h1:=(World.ownsRow.lt HO.out _ h).1
      simp only [List.mem_cons,List.not_mem_nil,or_false] at hx
      rcases hx with rfl | rfl | rfl
      all_goals (simp only at h1; omega))
     obtain ⟨a6,c6,rfl⟩:=HA6.out.slice
     clear hown6 hg6 hw6 S5 F5 HE HO HI HG
     have F6:=S6.out.facts
     simp only [St.Facts,cellFacts,apartFacts,and_true] at F6
     go_wp2_with fail
     go_roundw
     case rel=>exact ⟨k + 1,acc ++ [(.mk xop xn xv xargs : Xp)],a6,c6,by go_num,by omega,(by show _ = _; rw [List.length_append,HK.out]; rfl),HT.out,(by show St _ _ _; rw [List.length_append]; exact St.set 0 S6.out rfl),HA6.out.turned (M:=(· = bo)) ((Turn.refl _ _).setCell (.inl rfl)) (fun b hb e=>by omega)⟩
     case measure=>simp [intOf]; omega
   ·obtain rfl : k = args.length:=by omega
    have HT : Hid (tot = .ok (.mk op 0 v acc)):=by show _ = _; rw [HM.out,List.drop_length,joinX_nil]
    have hbo2 : bo < wr.heap.size:=(Array.getElem?_eq_some_iff.1 (S2.out.blk 0 rfl)).1
    clear HM HK
    go_wp2_with (first | (refine wpList_load_row rfl 49 (.tmp 7) rfl bo rfl 49 #[.int .i64 op,.int .i64 0,.int .i64 v.k,.int .i64 v.n,.string v.s,.slice oa acc.length oc] (0,0) _ (S2.out.blk 0 rfl) Tryz.underlying49 rfl xp_size ?_) | (refine wpList_store_row rfl 49 (.tmp 4) (.tmp 61) rfl (w.heap.size + 1) #[.int .i64 op,.int .i64 0,.int .i64 v.k,.int .i64 v.n,.string v.s,.slice oa acc.length oc] rfl rfl 49 #[.int .i64 0,.int .i64 0,.int .i64 0,.int .i64 0,.string ⟨#[]⟩,.slice none 0 0] (S2.out.blk 1 rfl) xp_size rfl (by simp [Value.oneCell']) ?_))
    refine bodyGen (fun W=>St w W _∧LRow xpE 49 (bo + 1) W acc (.slice oa acc.length oc)) ⟨St.row 1 #[.int .i64 op,.int .i64 0,.int .i64 v.k,.int .i64 v.n,.string v.s,.slice oa acc.length oc] S2.out rfl,HL.out.turned (M:=(· = w.heap.size + 1)) ((Turn.refl _ _).setRow (.inl rfl)) (fun b hb e=>by omega)⟩ ?_
    rintro w9 ⟨S9',HL9⟩
    have S9:=Lib.hid S9'
    clear S9'
    have F9 : w9.heap[w.heap.size + 1]? = some (.cells #[.int .i64 op,.int .i64 0,.int .i64 v.k,.int .i64 v.n,.string v.s,.slice oa acc.length oc] 49 (0,0)):=S9.out.blk 1 rfl
    have c0 : w9.cell? ⟨w.heap.size + 1,0,none⟩ = some (.int .i64 op):=by simp only [World.cell?,F9]; rfl
    have c1 : w9.cell? ⟨w.heap.size + 1,1,none⟩ = some (.int .i64 0):=by simp only [World.cell?,F9]; rfl
    have c2 : w9.cell? ⟨w.heap.size + 1,2,none⟩ = some (.int .i64 v.k):=by simp only [World.cell?,F9]; rfl
    have c3 : w9.cell? ⟨w.heap.size + 1,3,none⟩ = some (.int .i64 v.n):=by simp only [World.cell?,F9]; rfl
    have c4 : w9.cell? ⟨w.heap.size + 1,4,none⟩ = some (.string v.s):=by simp only [World.cell?,F9]; rfl
    have c5 : w9.cell? ⟨w.heap.size + 1,5,none⟩ = some (.slice oa acc.length oc):=by simp only [World.cell?,F9]; rfl
    rw [HT.out]
    refine bodyPost_ret (v:=.tuple #[.agg #[.int .i64 op,.int .i64 0,.int .i64 v.k,.int .i64 v.n,.string v.s,.slice oa acc.length oc],.int .i64 0]) (by simp [results,Tryz.results10,go_sem,c0,c1,c2,c3,c4,c5]) rfl ?_
    exact ⟨_,rfl,xpIn_iff.2 ⟨_,rfl,rSl_mono (LRow.done (by decide) HL9) (by decide) (fun b hb=>by have h : bo + 1≤b:=hb; omega)⟩,S9.out.below⟩
set_option maxRecDepth 100000 in
set_option maxHeartbeats 16000000 in
theorem xequal_same (Q R : Nat→Prop) : ∀ e : Xp,e.short→∀ (cs ds : List Value) (w : World),XpIn Q w e cs→XpIn R w e ds →
  Calls Tryz.prog 11 #[.agg cs.toArray,.agg ds.toArray] w (Says (.bool true) w):=by
 refine Xp.ind fun op n v args ih=>?_
 intro hsh cs ds w h1 h2
 obtain ⟨a,rfl,hs1⟩:=xpIn_iff.1 h1
 obtain ⟨a',rfl,hs2⟩:=xpIn_iff.1 h2
 obtain ⟨ad,ac,rfl⟩:=hs1.slice
 obtain ⟨bd,bc,rfl⟩:=hs2.slice
 have hal : args.length≤1000000:=hsh.1
 have HV1:=Lib.hid hs1
 have HV2:=Lib.hid hs2
 have IH:=Lib.hid (fun (x : Xp) (hm : x ∈ args)=>ih x hm (shortL_mem hsh.2 x hm))
 clear ih hsh hs1 hs2 h1 h2
 go_enter Tryz.func11,Tryz.ntmps11
 go_upto_region 1 with fail
 refine St.gen (St.alloc (St.alloc (St.start _))) ?_
 intro w1 S1
 try (simp only [World.size_alloc] at S1)
 have F1:=S1.out.facts
 simp only [St.Facts,cellFacts,apartFacts,and_true] at F1
 go_upto_region 4 with fail
 go_loopw [5,6] (fun iv _ wr=>∃ k : Nat,k≤args.length∧iv = .int .i64 k∧Hid (St w wr [(w.heap.size + 1,#[.int .i64 op,.int .i64 n,.int .i64 v.k,.int .i64 v.n,.string v.s,.slice bd args.length bc],49),(w.heap.size,#[.int .i64 op,.int .i64 n,.int .i64 v.k,.int .i64 v.n,.string v.s,.slice ad args.length ac],49)])) (fun iv _ _=>args.length - (intOf iv).toNat)
 case atStart=>exact ⟨0,by omega,rfl,S1.out⟩
 case round=>
  clear S1 F1
  obtain ⟨k,hk,rfl,S2⟩:=hrel
  have F2:=S2.out.facts
  simp only [St.Facts,cellFacts,apartFacts,and_true] at F2
  by_cases hlt : k < args.length
  ·obtain ⟨x,hx⟩ : ∃ x,args[k]? = some x:=⟨args[k],by simp [hlt]⟩
   have hbx : w.heap.size + 1 < wr.heap.size:=(Array.getElem?_eq_some_iff.1 (S2.out.blk 0 rfl)).1
   obtain ⟨b1,o1,cp1,cs1,hb1,hc1,hatx⟩:=(HV1.out.kept (by decide) S2.out.below).at hx
   obtain ⟨b2,o2,cp2,cs2,hb2,hc2,haty⟩:=(HV2.out.kept (by decide) S2.out.below).at hx
   injection hb1 with e1 e3 e2
   subst e1 e2
   clear e3
   injection hb2 with e1 e3 e2
   subst e1 e2
   clear e3
   have HC1 : Hid (∀ W,Below wr.heap.size wr W→XpIn Q W x cs1):=fun W hb=>xpE.move (fun b hl k=>⟨k,hb.block b hl⟩) hc1
   have HC2 : Hid (∀ W,Below wr.heap.size wr W→XpIn R W x cs2):=fun W hb=>xpE.move (fun b hl k=>⟨k,hb.block b hl⟩) hc2
   obtain ⟨op2,n2,v2,args2⟩:=x
   obtain ⟨s1,rfl,hr1⟩:=xpIn_iff.1 (show XpIn Q wr (.mk op2 n2 v2 args2) cs1 from hc1)
   obtain ⟨s2,rfl,hr2⟩:=xpIn_iff.1 (show XpIn R wr (.mk op2 n2 v2 args2) cs2 from hc2)
   obtain ⟨s1,d1,rfl⟩:=hr1.slice
   obtain ⟨s2,d2,rfl⟩:=hr2.slice
   have x0:=cell_regrown (hatx 0 _ rfl)
   have x1:=cell_regrown (hatx 1 _ rfl)
   have x2:=cell_regrown (hatx 2 _ rfl)
   have x3:=cell_regrown (hatx 3 _ rfl)
   have x4:=cell_regrown (hatx 4 _ rfl)
   have x5:=cell_regrown (hatx 5 _ rfl)
   simp only [show xpE.k = 6 from rfl,Nat.add_zero] at x0 x1 x2 x3 x4 x5
   have y0:=cell_regrown (haty 0 _ rfl)
   have y1:=cell_regrown (haty 1 _ rfl)
   have y2:=cell_regrown (haty 2 _ rfl)
   have y3:=cell_regrown (haty 3 _ rfl)
   have y4:=cell_regrown (haty 4 _ rfl)
   have y5:=cell_regrown (haty 5 _ rfl)
   simp only [show xpE.k = 6 from rfl,Nat.add_zero] at y0 y1 y2 y3 y4 y5
   have hki : (k : Int) < (args.length : Int):=by omega
   have CC : Hid (∀ (d : Nat) (os : Array Obj),Calls Tryz.prog 11 #[.agg #[.int .i64 op2,.int .i64 n2,.int .i64 v2.k,.int .i64 v2.n,.string v2.s,.slice s1 args2.length d1],.agg #[.int .i64 op2,.int .i64 n2,.int .i64 v2.k,.int .i64 v2.n,.string v2.s,.slice s2 args2.length d2]] (grow (redrawn wr d) os) (Says (.bool true) (grow (redrawn wr d) os))):=fun d os=>
    IH.out (.mk op2 n2 v2 args2) (List.mem_of_getElem? hx) _ _ _ (HC1.out _ (below_regrown wr d os)) (HC2.out _ (below_regrown wr d os))
   clear hr1 hr2 hatx haty hc1 hc2 hx HC1 HC2
   have F2:=S2.out.factsG
   simp only [St.FactsG,cellFactsG,and_true] at F2
   go_upto_region 6 with fail
   refine wp_region_mixed 12 [(0,false),(1,false),(2,false),(3,false),(4,false),(5,false),(6,false),(7,false),(8,false),(9,false),(10,false),(11,false)] (by kernel_rfl) (by kernel_rfl) ?_
   repeat (refine wpM_mild rfl (fun K hK=>?_); go_simp; first | (refine hK _ ?_; clear hK K) | (apply Exists.intro; refine ⟨fun _=>?_,hK _ ?_⟩; (exact CC.out _ _); clear hK K))
   refine wpM_end ?_
   intro w3 hb3 _
   have S3:=Lib.hid (S2.out.kept hb3)
   clear hb3 x0 x1 x2 x3 x4 x5 y0 y1 y2 y3 y4 y5 S2 F2 CC
   go_wp2_with fail
   go_roundw
   case rel=>exact ⟨k + 1,by omega,by go_num,S3.out⟩
   case measure=>simp [intOf]; omega
  ·obtain rfl : k = args.length:=by omega
   go_wp2_with fail
   go_returns
   exact ⟨rfl,S2.out.below⟩
set_option maxRecDepth 100000 in
set_option maxHeartbeats 16000000 in
theorem tables_any (Q : Nat→Prop) (sc : List Tbl) (tv : Value) (w : World) (ht : RSl tblE Q w tv sc) (hs : sc.length≤4611686018427387904) :
  Calls Tryz.prog 7 #[tv] w (Says (.bool (tablesP sc)) w):=by
 obtain ⟨ta,tc,rfl⟩:=ht.slice
 have HT:=Lib.hid ht
 have S0:=Lib.hid (St.start w)
 clear ht
 generalize hbb : tablesP sc = bb
 have HBB:=Lib.hid hbb
 clear hbb
 go_enter Tryz.func7,Tryz.ntmps7
 go_wp2_with fail
 go_loopw [3] (fun iv wr=>∃ k : Nat,k≤sc.length∧iv = .int .i64 k∧Hid (∀ t ∈ sc.take k,t.cols.length≤20)∧Hid (St w wr [])) (fun iv _=>sc.length - (intOf iv).toNat)
 case atStart=>exact ⟨0,by omega,rfl,(by show ∀ t ∈ List.take 0 sc,_; simp),S0.out⟩
 case round=>
  clear S0
  obtain ⟨k,hk,rfl,HP,S1⟩:=hrel
  by_cases hlt : k < sc.length
  ·obtain ⟨a,hx⟩ : ∃ x,sc[k]? = some x:=⟨sc[k],by simp [hlt]⟩
   obtain ⟨b,o,cap,cs,hbo,hin,hat⟩:=HT.out.at hx
   injection hbo with e1 _ e2
   subst e1
   subst e2
   obtain ⟨ca,cc,ia,ic,ka,kc,rfl,hcols⟩:=hin
   have x1:=S1.out.below.cell_kept (hat 1 _ rfl)
   simp only [show tblE.k = 4 from rfl] at x1
   have hki : (k : Int) < (sc.length : Int):=by omega
   have HX:=Lib.hid hx
   clear hat hx hcols
   by_cases hc : 20 < a.cols.length
   ·have hci : decide ((20 : Int) < (a.cols.length : Int)) = true:=by simp; omega
    have hb : bb = false:=by
     rw [← HBB.out]
     unfold tablesP
     rw [Bool.and_eq_false_iff]
     refine .inl (List.all_eq_false.2 ⟨a,List.mem_of_getElem? HX.out,?_⟩)
     simp; omega
    subst hb
    go_wp2_with fail
    go_returns
    exact ⟨rfl,S1.out.below⟩
   ·have hci : decide ((20 : Int) < (a.cols.length : Int)) = false:=by simp; omega
    have HP1 : Hid (∀ t ∈ sc.take (k + 1),t.cols.length≤20):=fun t ht=>by
     obtain ⟨h1,rfl⟩:=List.getElem?_eq_some_iff.1 HX.out
     rw [List.take_succ_eq_append_getElem h1,List.mem_append,List.mem_singleton] at ht
     rcases ht with ht | rfl
     ·exact HP.out t ht
     ·omega
    clear HP HX
    go_wp2_with fail
    go_roundw
    case rel=>exact ⟨k + 1,by omega,by go_num,HP1.out,S1.out⟩
    case measure=>simp [intOf]; omega
  ·obtain rfl : k = sc.length:=by omega
   have hb : bb = decide ((sc.length : Int)≤10):=by
    rw [← HBB.out]
    unfold tablesP
    rw [List.all_eq_true.2 (fun t ht=>by have:=HP.out t (by rw [List.take_length]; exact ht); simpa using this),Bool.true_and]
    rw [decide_eq_decide]; omega
   subst hb
   go_wp2_with fail
   go_returns
   exact ⟨rfl,S1.out.below⟩
theorem delE_in {Q : Nat→Prop} {w : World} {op : Int} {t n : Bytes} {v : V} {args : List Ex} {a : Option Addr} {c : Nat} (h : ExSl Q w (.slice a args.length c) args) : StmIn Q w { k:=8,tb:=[116],wo:=op,wt:=t,wn:=n,wv:=v,wa:=(a,args.length,c) } (delE (.mk op t n v args)):=
 { k:=rfl,tb:=rfl,nm:=rfl,sch:=⟨none,0,none,0,none,0,rfl,rSl_nil,rSl_nil⟩,col:=rfl,ns:=rSl_nil,un:=rfl,rs:=rSl_nil,es:=rSl_nil,wh:=⟨rfl,rfl,rfl,rfl,h⟩,sel:=⟨none,0,none,0,none,0,none,0,none,0,none,0,rfl,rSl_nil,rSl_nil,rSl_nil,exSl_of rSl_nil,rSl_nil,rSl_nil⟩,md:=rfl }
set_option maxRecDepth 100000 in
set_option maxHeartbeats 16000000 in
theorem law39_of (HS : SanityAt) (CK : ∀ e : Ex,e.Wf→CheckAt (delE e)) {B : Nat} (sc : List Tbl) (e : Ex) (tv : Value) (cs : List Value) (w : World) (he : Env B w) (ht : RSl tblE (fun _=>True) w tv sc) (hs : sc.length≤4611686018427387904) (hin : ExIn (fun _=>True) w e cs) (hwf : e.Wf) :
  Calls Tryz.prog 3 #[tv,.agg cs.toArray] w (fun e w'=>e = .returned (.bool true)∧Below w.heap.size w w'):=by
 have HE:=Lib.hid he
 have C6:=Lib.hid HS
 have CK8:=Lib.hid (CK e hwf)
 obtain ⟨op,t,n,v,args⟩:=e
 obtain ⟨a,rfl,hsl⟩:=exIn_of hin
 obtain ⟨ad,ac,rfl⟩:=(exSl_rSl hsl).slice
 have CT:=Lib.hid (fun W (hb : Below w.heap.size w W)=>tables_any _ sc tv W (RSl.kept (by decide) ht hb) hs)
 have CB8 : Hid (∀ W,Below w.heap.size w W→Calls Tryz.prog 8 #[.agg #[.int .i64 8,.string ⟨#[116]⟩,.string ⟨#[]⟩,.string ⟨#[]⟩,.slice none 0 0,.slice none 0 0,.slice none 0 0,.string ⟨#[]⟩,.int .i64 0,.bool false,.slice none 0 0,.bool false,.slice none 0 0,.slice none 0 0,.int .i64 op,.string ⟨t.toArray⟩,.string ⟨n.toArray⟩,.int .i64 v.k,.int .i64 v.n,.string v.s,.slice ad args.length ac,.bool false,.slice none 0 0,.slice none 0 0,.slice none 0 0,.int .i64 0,.string ⟨#[]⟩,.string ⟨#[]⟩,.int .i64 0,.int .i64 0,.string ⟨#[]⟩,.slice none 0 0,.slice none 0 0,.slice none 0 0,.int .i64 0,.int .i64 0]] W (Says (.int .i64 (errF (delE (.mk op t n v args)).formed)) W)):=fun W hb=>CK8.out (fun _=>True) { k:=8,tb:=[116],wo:=op,wt:=t,wn:=n,wv:=v,wa:=(ad,args.length,ac) } W (delE_in (exSl_of (RSl.kept (by decide) (exSl_rSl hsl) hb)))
 have HT:=Lib.hid ht
 have HX:=Lib.hid hin
 obtain ⟨ta,tc,rfl⟩:=ht.slice
 clear he HS CK ht hin hsl CK8
 go_enter Tryz.func3,Tryz.ntmps3
 go_upto_region 1 with fail
 refine St.gen (St.alloc (St.start _)) ?_
 intro w1 S1
 try (simp only [List.set_cons_zero,List.set_cons_succ,List.setIfInBounds_toArray,World.size_alloc] at S1)
 go_wp2_with fail
 refine Calls.mono (C6.out B w1 (HE.out.kept S1.out.below)) ?_
 rintro e w2 ⟨rfl,hb2⟩
 have S2:=Lib.hid (S1.out.kept hb2)
 clear hb2 S1
 have F2:=S2.out.facts
 simp only [St.Facts,cellFacts,apartFacts,and_true] at F2
 cases htb : tablesP sc with
 | false=>
  go_wp2_with fail
  refine Calls.mono (CT.out _ S2.out.below) ?_
  rw [htb]
  rintro e w3 ⟨rfl,hb3⟩
  have S3:=Lib.hid (S2.out.kept hb3)
  clear hb3 S2 F2
  go_wp2_with fail
  go_returns
  exact ⟨rfl,S3.out.below⟩
 | true=>
  obtain ⟨hsl,hfl⟩:=tablesP_le htb
  go_wp2_with fail
  refine Calls.mono (CT.out _ S2.out.below) ?_
  rw [htb]
  rintro e w3 ⟨rfl,hb3⟩
  have S3:=Lib.hid (S2.out.kept hb3)
  clear hb3 S2 F2
  have F3:=S3.out.facts
  simp only [St.Facts,cellFacts,apartFacts,and_true] at F3
  go_wp2_with fail
  refine Calls.mono (CB8.out _ S3.out.below) ?_
  rintro e w4 ⟨rfl,hb4⟩
  have S4:=Lib.hid (S3.out.kept hb4)
  clear hb4 S3 F3
  have F4:=S4.out.facts
  simp only [St.Facts,cellFacts,apartFacts,and_true] at F4
  cases hfm : (delE (.mk op t n v args)).formed with
  | false=>
   simp only [errF]
   go_wp2_with fail
   go_returns
   exact ⟨rfl,S4.out.below⟩
  | true=>
   simp only [errF]
   by_cases h0 : op = 0
   ·have h0b : (op == 0) = true:=by simpa using h0
    go_wp2_with fail
    go_returns
    exact ⟨rfl,S4.out.below⟩
   ·have h0b : (op == 0) = false:=by simpa using h0
    have hbr : (Ex.mk op t n v args).brief:=formed_brief _ (delE_ok hfm h0)
    have CA:=Lib.hid (fun W (hb : Below w.heap.size w W)=>resolve_any (fun _=>True) (fun _=>True) sc (by omega) (by omega) (.mk op t n v args) hbr _ _ W (RSl.kept (by decide) HT.out hb) (HX.out.kept hb))
    have CB:=Lib.hid (fun W (hb : Below w.heap.size w W)=>rres_any (fun _=>True) (fun _=>True) sc (by omega) (by omega) (.mk op t n v args) hbr _ _ W (RSl.kept (by decide) HT.out hb) (HX.out.kept hb))
    have hsh:=okX_short (flatC sc) _ hbr
    generalize Ex.res (flatC sc) (.mk op t n v args) = res at CA CB hsh
    go_wp2_with fail
    refine Calls.mono (CA.out _ S4.out.below) ?_
    rintro e w5 ⟨xcs,rfl,hx5,hb5⟩
    have S5:=Lib.hid (S4.out.kept hb5)
    obtain ⟨xop,xn,xv,xargs,hxe⟩ : ∃ a b c d,okX res = .mk a b c d:=by
     cases okX res with | mk a b c d=>exact ⟨a,b,c,d,rfl⟩
    have HX5:=Lib.hid hx5
    rw [hxe] at hx5 hsh
    obtain ⟨xa0,rfl,hx2⟩:=xpIn_iff.1 hx5
    obtain ⟨xa,xc,rfl⟩:=hx2.slice
    have HX5:=Lib.hid hx5
    clear hb5 S4 F4 hx5 hx2
    have F5:=S5.out.facts
    simp only [St.Facts,cellFacts,apartFacts,and_true] at F5
    go_wp2_with fail
    refine Calls.mono (CB.out _ (St.alloc S5.out).below) ?_
    rintro e w6 ⟨ycs,rfl,hy6,hb6⟩
    have S6:=Lib.hid ((St.alloc S5.out (cs:=#[.int .i64 xop,.int .i64 xn,.int .i64 xv.k,.int .i64 xv.n,.string xv.s,.slice xa xargs.length xc]) (t:=49)).kept hb6)
    have HX6 : Hid (XpIn (fun _=>True) w6 (.mk xop xn xv xargs) [.int .i64 xop,.int .i64 xn,.int .i64 xv.k,.int .i64 xv.n,.string xv.s,.slice xa xargs.length xc]):=
     xpIn_move (fun b hl _=>⟨trivial,by rw [hb6.block b (by rw [World.size_alloc]; omega)]; exact ((Below.refl _ w5).alloc (Nat.le_refl _) _).block b hl⟩) _ _ HX5.out
    rw [hxe] at hy6
    obtain ⟨ya0,rfl,hy2⟩:=xpIn_iff.1 hy6
    obtain ⟨ya,yc,rfl⟩:=hy2.slice
    have HY6:=Lib.hid hy6
    clear hb6 S5 F5 hy6 hy2 HX5
    have F6:=S6.out.facts
    simp only [St.Facts,cellFacts,apartFacts,and_true] at F6
    go_wp2_with fail
    refine Calls.mono (xequal_same _ _ (.mk xop xn xv xargs) hsh _ _ _ (xpIn_move (fun b hl _=>⟨trivial,((Below.refl _ w6).alloc (Nat.le_refl _) _).block b hl⟩) _ _ HX6.out) (xpIn_move (R:=fun _=>True) (fun b hl _=>⟨trivial,((Below.refl _ w6).alloc (Nat.le_refl _) _).block b hl⟩) _ _ HY6.out)) ?_
    rintro e w7 ⟨rfl,hb7⟩
    have S7:=Lib.hid ((St.alloc S6.out (cs:=#[.int .i64 xop,.int .i64 xn,.int .i64 xv.k,.int .i64 xv.n,.string xv.s,.slice ya xargs.length yc]) (t:=49)).kept hb7)
    clear hb7 S6 HX6 HY6 F6
    go_wp2_with fail
    go_returns
    exact ⟨rfl,S7.out.below⟩
end Go.Proofs.YtjmmbebkbkgefaaGreatDoor
