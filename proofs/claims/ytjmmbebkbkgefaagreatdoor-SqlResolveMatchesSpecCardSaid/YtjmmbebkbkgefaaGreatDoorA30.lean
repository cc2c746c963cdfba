/- Part 30; the last part says what is proved. No condition. -/
import Derived.Test.YtjmmbebkbkgefaaGreatDoorA29
namespace Go.Proofs.YtjmmbebkbkgefaaGreatDoor
open Go.RowKit Go.Sort
def SanityAt : Prop:=∀ (B : Nat) (W : World),Env B W→Calls Tryz.prog 6 #[] W (fun e w'=>e = .returned (.bool true)∧Below W.heap.size W w')
def ResPost (w : World) (x : Except Int Xp) (e : Ending) (w' : World) : Prop:=∃ xcs,e = .returned (.tuple #[.agg xcs.toArray,.int .i64 (errX x)])∧XpIn (w.heap.size≤·) w' (okX x) xcs∧Below w.heap.size w w'
theorem xp_leaf (Q : Nat→Prop) (w : World) (op n : Int) (v : V) : XpIn Q w (.mk op n v []) [.int .i64 op,.int .i64 n,.int .i64 v.k,.int .i64 v.n,.string v.s,.slice none 0 0]:=
 xpIn_iff.2 ⟨_,rfl,rSl_nil⟩
theorem xp_size : (Tryz.prog.info? 49).map (·.size) = some 6:=by kernel_rfl
def notAt (b : Nat) (v : Value) : Prop:=∀ g,v.ownBlock = some g→g ≠ b
theorem res_miss {P : Prop} (h : P:=by
 have HO3:=Lib.hid (HO.out.later ((Below.refl _ _).alloc (Nat.le_refl _) (.cells #[.string ⟨c.name.toArray⟩,.int .i64 c.kind,.bool c.null] 38)))
 have S4:=Lib.hid (St.laid (o:=(.cells #[.string ⟨c.name.toArray⟩,.int .i64 c.kind,.bool c.null] 38)) S3.out)
 clear HO F3 y0 y1 y2 S3
 go_wp2_with fail
 go_roundw
 case rel=>exact ⟨j + 1,q + 1,ac2,fa2,fc2,rfl,by go_num,by go_num,by omega,HP1.out,HM1.out,HO3.out,HN.out,S4.out⟩
 case measure=>simp [intOf]; omega) : P:=h
theorem res_hit {P : Prop} (h : P:=by
 rw [fndC_hit _ _ _ _ _ hh] at hm0 hac
 have hal : ac2.length < 1000000:=by
  have h1:=hac
  simp only [List.length_cons] at h1
  omega
 have hm1 : tot = (ac2 ++ [(q : Int)]) ++ fndC t n (q + 1) (restC a (j + 1) (sc.drop (k + 1))):=by rw [hm0]; simp
 have HM1:=Lib.hid hm1
 have HO3:=Lib.hid (HO.out.later ((Below.refl _ _).alloc (Nat.le_refl _) (.cells #[.string ⟨c.name.toArray⟩,.int .i64 c.kind,.bool c.null] 38)))
 have S4:=Lib.hid (St.laid (o:=(.cells #[.string ⟨c.name.toArray⟩,.int .i64 c.kind,.bool c.null] 38)) S3.out)
 clear HO F3 y0 y1 y2 hm0 hac hh hm1 S3
 refine codeGenT (fun W=>W.ownsRow (w.heap.size + 2) 3 1 (.slice fa2 ac2.length fc2) ac2.length (intVals ac2)∧St w W [(bt,#[.string ⟨a.name.toArray⟩,.slice (some ⟨b2,o2,none⟩) a.cols.length cc,.slice ia a.indexes.length ic,.slice ka a.checks.length kc],36),(w.heap.size + 1,#[.int .i64 0,.int .i64 0,.int .i64 0,.int .i64 0,.string ⟨#[]⟩,.slice none 0 0],49),(w.heap.size,#[.int .i64 1,.string ⟨t.toArray⟩,.string ⟨n.toArray⟩,.int .i64 v.k,.int .i64 v.n,.string v.s,.slice ad an ac],27)]) ⟨HO3.out,S4.out⟩ ?_
 clear HO3 S4
 rintro w4 ⟨HO4',S4'⟩
 have HO4:=Lib.hid HO4'
 have S4:=Lib.hid S4'
 clear HO4' S4'
 have hbt : bt < w4.heap.size:=(Array.getElem?_eq_some_iff.1 (S4.out.blk 0 rfl)).1
 have hbx : w.heap.size + 1 < w4.heap.size:=(Array.getElem?_eq_some_iff.1 (S4.out.blk 1 rfl)).1
 have HBT:=Lib.hid hbt
 go_wp2_with (refine wpList_append_at rfl (.tmp 50) (.tmp 52) 55 rfl 3 (.int .i64 0) 1 8 Tryz.underlying55 infoInt rfl (by decide) (w.heap.size + 2) _ ac2.length (intVals ac2) rfl (HO4.out.later ((Below.refl _ _).alloc (Nat.le_refl _) _)) _ 1 [.int .i64 (q : Int)] rfl (by decide) (slAt_fresh (by decide)) rfl (by simp [Value.oneCell']) (by omega) (by unfold maxLen; omega) (by simp; omega) ?_; intro v' w7 hown hgr hblk hsl; obtain ⟨g,cp,rfl⟩:=hsl)
 have HN7 : Hid (notAt bt (.slice (some ⟨g,0,none⟩) (ac2 ++ [(q : Int)]).length cp)):=fun g' hg=>by
  have hg2 : (.slice (some ⟨g,0,none⟩) (ac2.length + 1) cp : Value).ownBlock = some g':=hg
  rcases hblk with h | ⟨g2,h,hl⟩
  ·exact HN.out g' (h.symm.trans hg2)
  ·rw [h] at hg2
   injection hg2 with e
   simp at hl
   omega
 have S7 : Hid (St w w7 [(bt,#[.string ⟨a.name.toArray⟩,.slice (some ⟨b2,o2,none⟩) a.cols.length cc,.slice ia a.indexes.length ic,.slice ka a.checks.length kc],36),(w.heap.size + 1,#[.int .i64 0,.int .i64 0,.int .i64 0,.int .i64 0,.string ⟨#[]⟩,.slice none 0 0],49),(w.heap.size,#[.int .i64 1,.string ⟨t.toArray⟩,.string ⟨n.toArray⟩,.int .i64 v.k,.int .i64 v.n,.string v.s,.slice ad an ac],27)]):=(St.laid S4.out).turned (Turn.of_grown hgr) (fun i h=>by have:=(World.ownsRow.lt HO4.out i h).1; omega) (fun x hx h=>by
  simp only [List.mem_cons,List.not_mem_nil,or_false] at hx
  rcases hx with rfl | rfl | rfl
  ·exact HN.out _ h rfl
  ·have:=(World.ownsRow.lt HO4.out _ h).1; omega
  ·have:=(World.ownsRow.lt HO4.out _ h).1; omega)
 have HO7 : Hid (w7.ownsRow (w.heap.size + 2) 3 1 (.slice (some ⟨g,0,none⟩) (ac2 ++ [(q : Int)]).length cp) (ac2 ++ [(q : Int)]).length (intVals (ac2 ++ [(q : Int)]))):=by
  rw [List.length_append]
  unfold intVals at hown ⊢
  rw [List.map_append]
  exact hown
 clear hown hgr hblk S4 HO4 HN
 go_wp2_with fail
 go_roundw
 case rel=>exact ⟨j + 1,q + 1,ac2 ++ [(q : Int)],some ⟨g,0,none⟩,cp,by simp,by go_num,by go_num,by omega,HP1.out,HM1.out,HO7.out,HN7.out,S7.out⟩
 case measure=>simp [intOf]; omega) : P:=h
set_option maxRecDepth 100000 in
set_option maxHeartbeats 16000000 in
theorem resolve_col (Q : Nat→Prop) (sc : List Tbl) (tv : Value) (t n : Bytes) (v : V) (ad : Option Addr) (an ac : Nat) (w : World) (ht : RSl tblE Q w tv sc) (hs : sc.length≤1000000) (hf : (flatC sc).length≤1000000) :
  Calls Tryz.prog 9 #[tv,.agg #[.int .i64 1,.string ⟨t.toArray⟩,.string ⟨n.toArray⟩,.int .i64 v.k,.int .i64 v.n,.string v.s,.slice ad an ac]] w (ResPost w (pickC (fndC t n 0 (flatC sc)))):=by
 obtain ⟨ta,tc,rfl⟩:=ht.slice
 have HT:=Lib.hid ht
 clear ht
 obtain ⟨tot,htot⟩ : ∃ tot,fndC t n 0 (flatC sc) = tot:=⟨_,rfl⟩
 rw [htot]
 have HTL : Hid (tot.length≤1000000):=by rw [← htot]; exact Nat.le_trans (fndC_le _ _ _ _) hf
 have HT0 : Hid (tot = [] ++ fndC t n 0 (flatC (sc.drop 0))):=by show _ = _; rw [← htot]; rfl
 clear htot
 go_enter Tryz.func9,Tryz.ntmps9
 go_upto_region 4 with fail
 refine St.gen (St.alloc (St.alloc (St.start _))) ?_
 intro w1 S1
 try (simp only [World.size_alloc] at S1)
 have F1:=S1.out.facts
 simp only [St.Facts,cellFacts,apartFacts,and_true] at F1
 go_upto_region 5 with fail
 clear F1
 go_loopw [6,7,9,11,22,29] (fun fv av _ _ kv _ wr=>∃ (k p : Nat) (acc : List Int) (fa : Option Addr) (fc : Nat),fv = .slice fa acc.length fc∧av = .int .i64 p∧kv = .int .i64 k∧k≤sc.length∧Hid (p + (flatC (sc.drop k)).length = (flatC sc).length)∧Hid (tot = acc ++ fndC t n p (flatC (sc.drop k)))∧Hid (wr.ownsRow (w.heap.size + 2) 3 1 (.slice fa acc.length fc) acc.length (intVals acc))∧Hid (St w wr [(w.heap.size + 1,#[.int .i64 0,.int .i64 0,.int .i64 0,.int .i64 0,.string ⟨#[]⟩,.slice none 0 0],49),(w.heap.size,#[.int .i64 1,.string ⟨t.toArray⟩,.string ⟨n.toArray⟩,.int .i64 v.k,.int .i64 v.n,.string v.s,.slice ad an ac],27)])) (fun _ _ _ _ kv _ _=>sc.length - (intOf kv).toNat)
 case atStart=>exact ⟨0,0,[],none,0,rfl,rfl,rfl,by omega,by show _ = _; simp,HT0.out,World.ownsRow_nil _ _ _ _,S1.out⟩
 case round=>
  clear HT0 S1
  obtain ⟨k,p,acc,fa,fc,rfl,rfl,rfl,hk,HP,HM,HO,S1⟩:=hrel
  by_cases hlt : k < sc.length
  ·obtain ⟨a,hx⟩ : ∃ x,sc[k]? = some x:=⟨sc[k],by simp [hlt]⟩
   obtain ⟨b,o,cap,cs,hbo,hin,hat⟩:=HT.out.at hx
   injection hbo with e1 _ e2
   subst e1
   subst e2
   obtain ⟨ca,cc,ia,ic,ka,kc,rfl,hcols⟩:=hin
   have x0:=S1.out.below.cell_kept (hat 0 _ rfl)
   have x1:=S1.out.below.cell_kept (hat 1 _ rfl)
   have x2:=S1.out.below.cell_kept (hat 2 _ rfl)
   have x3:=S1.out.below.cell_kept (hat 3 _ rfl)
   simp only [show tblE.k = 4 from rfl,Nat.add_zero] at x0 x1 x2 x3
   have HC:=Lib.hid hcols
   have hdr : sc.drop k = a :: sc.drop (k + 1):=by
    obtain ⟨h1,rfl⟩:=List.getElem?_eq_some_iff.1 hx
    exact List.drop_eq_getElem_cons h1
   have hp0:=HP.out
   have hm0:=HM.out
   rw [hdr,← restC_zero] at hp0 hm0
   have HP1:=Lib.hid hp0
   have HM1:=Lib.hid hm0
   have hcl : a.cols.length≤1000000:=by
    have h1:=HP1.out
    unfold restC at h1
    simp only [List.drop_zero,List.length_append,List.length_map] at h1
    omega
   have HO0:=Lib.hid (HO.out.later ((Below.refl _ _).alloc (Nat.le_refl _) (.cells #[.string ⟨a.name.toArray⟩,.slice ca a.cols.length cc,.slice ia a.indexes.length ic,.slice ka a.checks.length kc] 36)))
   have HN0 : Hid (notAt wr.heap.size (.slice fa acc.length fc)):=fun g hg=>by have:=(World.ownsRow.lt HO.out g hg).2; omega
   clear hp0 hm0 hdr HP HM hat hx hcols
   go_upto_region 8 with fail
   refine codeGenT (fun W=>St w W [(wr.heap.size,#[.string ⟨a.name.toArray⟩,.slice ca a.cols.length cc,.slice ia a.indexes.length ic,.slice ka a.checks.length kc],36),(w.heap.size + 1,#[.int .i64 0,.int .i64 0,.int .i64 0,.int .i64 0,.string ⟨#[]⟩,.slice none 0 0],49),(w.heap.size,#[.int .i64 1,.string ⟨t.toArray⟩,.string ⟨n.toArray⟩,.int .i64 v.k,.int .i64 v.n,.string v.s,.slice ad an ac],27)]∧W.ownsRow (w.heap.size + 2) 3 1 (.slice fa acc.length fc) acc.length (intVals acc)) ⟨St.alloc S1.out,HO0.out⟩ ?_
   clear HO0 S1 HO x0 x1 x2 x3
   rintro w2 ⟨S2',HO2'⟩
   have S2:=Lib.hid S2'
   have HO2:=Lib.hid HO2'
   clear S2' HO2'
   generalize wr.heap.size = bt at *
   go_loopw [6,7,11,29] (fun fv av _ jv wq=>∃ (j q : Nat) (acc : List Int) (fa : Option Addr) (fc : Nat),fv = .slice fa acc.length fc∧av = .int .i64 q∧jv = .int .i64 j∧j≤a.cols.length∧Hid (q + (restC a j (sc.drop (k + 1))).length = (flatC sc).length)∧Hid (tot = acc ++ fndC t n q (restC a j (sc.drop (k + 1))))∧Hid (wq.ownsRow (w.heap.size + 2) 3 1 (.slice fa acc.length fc) acc.length (intVals acc))∧Hid (notAt bt (.slice fa acc.length fc))∧Hid (St w wq [(bt,#[.string ⟨a.name.toArray⟩,.slice ca a.cols.length cc,.slice ia a.indexes.length ic,.slice ka a.checks.length kc],36),(w.heap.size + 1,#[.int .i64 0,.int .i64 0,.int .i64 0,.int .i64 0,.string ⟨#[]⟩,.slice none 0 0],49),(w.heap.size,#[.int .i64 1,.string ⟨t.toArray⟩,.string ⟨n.toArray⟩,.int .i64 v.k,.int .i64 v.n,.string v.s,.slice ad an ac],27)])) (fun _ _ _ jv _=>a.cols.length - (intOf jv).toNat)
   case atStart=>exact ⟨0,p,acc,fa,fc,rfl,rfl,rfl,by omega,HP1.out,HM1.out,HO2.out,HN0.out,S2.out⟩
   case round=>
    clear HP1 HM1 HO2 HN0 S2
    obtain ⟨j,q,ac2,fa2,fc2,rfl,rfl,rfl,hj,HP,HM,HO,HN,S3⟩:=hrel
    by_cases hlj : j < a.cols.length
    ·obtain ⟨c,hx⟩ : ∃ x,a.cols[j]? = some x:=⟨a.cols[j],by simp [hlj]⟩
     obtain ⟨b2,o2,cap2,cs2,hbo2,hin2,hat2⟩:=HC.out.at hx
     injection hbo2 with e1 _ e2
     subst e1
     subst e2
     have hin3 : cs2 = c.cells:=hin2
     subst hin3
     have y0:=S3.out.below.cell_kept (hat2 0 _ rfl)
     have y1:=S3.out.below.cell_kept (hat2 1 _ rfl)
     have y2:=S3.out.below.cell_kept (hat2 2 _ rfl)
     simp only [show colE.k = 3 from rfl,Nat.add_zero] at y0 y1 y2
     have hp0:=HP.out
     have hm0:=HM.out
     rw [restC_step _ _ _ _ hx] at hp0 hm0
     have hq : q < 1000000:=by
      have h1:=hp0
      simp only [List.length_cons] at h1
      omega
     have hpn : q + 1 + (restC a (j + 1) (sc.drop (k + 1))).length = (flatC sc).length:=by
      have h1:=hp0
      simp only [List.length_cons] at h1
      omega
     have HP1:=Lib.hid hpn
     have hac : ac2.length + (fndC t n q ((a.name,c.name) :: restC a (j + 1) (sc.drop (k + 1)))).length≤1000000:=by
      have h1:=HTL.out
      rw [hm0] at h1
      simpa using h1
     clear hp0 hpn HP HM hat2 hx hin2
     have F3:=S3.out.facts
     simp only [St.Facts,cellFacts,apartFacts,and_true] at F3
     cases h1 : c.name == n with
     | false=>
      have hh : hitC t n (a.name,c.name) = false:=by unfold hitC; rw [h1]; rfl
      rw [fndC_miss _ _ _ _ _ hh] at hm0
      have HM1:=Lib.hid hm0
      clear hm0 hh hac
      go_upto_region 12 with fail
      exact res_miss
     | true=>
      cases h2 : t == [] with
      | true=>
       have hh : hitC t n (a.name,c.name) = true:=by unfold hitC; rw [h1,h2]; rfl
       go_upto_region 11 with fail
       exact res_hit
      | false=>
       cases h3 : t == a.name with
       | true=>
        have hh : hitC t n (a.name,c.name) = true:=by unfold hitC; rw [h1,h2,h3]; rfl
        go_upto_region 11 with fail
        exact res_hit
       | false=>
        have hh : hitC t n (a.name,c.name) = false:=by unfold hitC; rw [h1,h2,h3]; rfl
        rw [fndC_miss _ _ _ _ _ hh] at hm0
        have HM1:=Lib.hid hm0
        clear hm0 hh hac
        go_upto_region 12 with fail
        exact res_miss
    ·obtain rfl : j = a.cols.length:=by omega
     have hp0:=HP.out
     have hm0:=HM.out
     rw [restC_end] at hp0 hm0
     have hq : q≤1000000:=by omega
     have HP1:=Lib.hid hp0
     have HM1:=Lib.hid hm0
     clear HP HM hp0 hm0
     go_wp2_with fail
     go_roundw
     case rel=>exact ⟨k + 1,q,ac2,fa2,fc2,rfl,rfl,by go_num,by omega,HP1.out,HM1.out,HO.out,St.tail S3.out⟩
     case measure=>simp [intOf]; omega
  ·obtain rfl : k = sc.length:=by omega
   have hm0:=HM.out
   rw [List.drop_length] at hm0
   have hm1 : tot = acc:=by rw [hm0]; simp [flatC,fndC]
   subst hm1
   clear hm0 HM HP
   obtain ⟨oa,oc,hsl,hoc,hoat⟩:=World.ownsRow.slAt HO.out
   injection hsl with e1 _ e2
   subst e1
   subst e2
   have hbr:=S1.out.blk 0 rfl
   rcases tot with _ | ⟨i,_ | ⟨i2,l⟩⟩
   ·go_wp2_with (refine wpList_store_row rfl 49 (.tmp 4) (.tmp 62) rfl (w.heap.size + 1) #[.int .i64 0,.int .i64 0,.int .i64 0,.int .i64 0,.string ⟨#[]⟩,.slice none 0 0] rfl rfl 49 #[.int .i64 0,.int .i64 0,.int .i64 0,.int .i64 0,.string ⟨#[]⟩,.slice none 0 0] hbr xp_size rfl (by simp [Value.oneCell']) ?_)
    refine bodyGen (fun W=>St w W _) (St.row 0 #[.int .i64 0,.int .i64 0,.int .i64 0,.int .i64 0,.string ⟨#[]⟩,.slice none 0 0] S1.out rfl) ?_
    intro w9 S9'
    have S9:=Lib.hid S9'
    clear S9'
    have F9 : w9.heap[w.heap.size + 1]? = some (.cells #[.int .i64 0,.int .i64 0,.int .i64 0,.int .i64 0,.string ⟨#[]⟩,.slice none 0 0] 49 (0,0)):=S9.out.blk 0 rfl
    have c0 : w9.cell? ⟨w.heap.size + 1,0,none⟩ = some (.int .i64 0):=by simp only [World.cell?,F9]; rfl
    have c1 : w9.cell? ⟨w.heap.size + 1,1,none⟩ = some (.int .i64 0):=by simp only [World.cell?,F9]; rfl
    have c2 : w9.cell? ⟨w.heap.size + 1,2,none⟩ = some (.int .i64 0):=by simp only [World.cell?,F9]; rfl
    have c3 : w9.cell? ⟨w.heap.size + 1,3,none⟩ = some (.int .i64 0):=by simp only [World.cell?,F9]; rfl
    have c4 : w9.cell? ⟨w.heap.size + 1,4,none⟩ = some (.string ⟨#[]⟩):=by simp only [World.cell?,F9]; rfl
    have c5 : w9.cell? ⟨w.heap.size + 1,5,none⟩ = some (.slice none 0 0):=by simp only [World.cell?,F9]; rfl
    refine bodyPost_ret (v:=.tuple #[.agg #[.int .i64 0,.int .i64 0,.int .i64 0,.int .i64 0,.string ⟨#[]⟩,.slice none 0 0],.int .i64 5]) (by simp [results,Tryz.results9,go_sem,c0,c1,c2,c3,c4,c5]) rfl ?_
    exact ⟨_,rfl,xp_leaf _ _ 0 0 V.null,S9.out.below⟩
   ·obtain ⟨b3,o3,rfl,hat3⟩:=hoat (by simp)
    have z0:=hat3 0 (.int .i64 i) rfl
    simp only [Nat.add_zero] at z0
    go_wp2_with (refine wpList_store_row rfl 49 (.tmp 4) (.tmp 68) rfl (w.heap.size + 1) #[.int .i64 1,.int .i64 i,.int .i64 0,.int .i64 0,.string ⟨#[]⟩,.slice none 0 0] rfl rfl 49 #[.int .i64 0,.int .i64 0,.int .i64 0,.int .i64 0,.string ⟨#[]⟩,.slice none 0 0] hbr xp_size rfl (by simp [Value.oneCell']) ?_)
    refine bodyGen (fun W=>St w W _) (St.row 0 #[.int .i64 1,.int .i64 i,.int .i64 0,.int .i64 0,.string ⟨#[]⟩,.slice none 0 0] S1.out rfl) ?_
    intro w9 S9'
    have S9:=Lib.hid S9'
    clear S9'
    have F9 : w9.heap[w.heap.size + 1]? = some (.cells #[.int .i64 1,.int .i64 i,.int .i64 0,.int .i64 0,.string ⟨#[]⟩,.slice none 0 0] 49 (0,0)):=S9.out.blk 0 rfl
    have c0 : w9.cell? ⟨w.heap.size + 1,0,none⟩ = some (.int .i64 1):=by simp only [World.cell?,F9]; rfl
    have c1 : w9.cell? ⟨w.heap.size + 1,1,none⟩ = some (.int .i64 i):=by simp only [World.cell?,F9]; rfl
    have c2 : w9.cell? ⟨w.heap.size + 1,2,none⟩ = some (.int .i64 0):=by simp only [World.cell?,F9]; rfl
    have c3 : w9.cell? ⟨w.heap.size + 1,3,none⟩ = some (.int .i64 0):=by simp only [World.cell?,F9]; rfl
    have c4 : w9.cell? ⟨w.heap.size + 1,4,none⟩ = some (.string ⟨#[]⟩):=by simp only [World.cell?,F9]; rfl
    have c5 : w9.cell? ⟨w.heap.size + 1,5,none⟩ = some (.slice none 0 0):=by simp only [World.cell?,F9]; rfl
    refine bodyPost_ret (v:=.tuple #[.agg #[.int .i64 1,.int .i64 i,.int .i64 0,.int .i64 0,.string ⟨#[]⟩,.slice none 0 0],.int .i64 0]) (by simp [results,Tryz.results9,go_sem,c0,c1,c2,c3,c4,c5]) rfl ?_
    exact ⟨_,rfl,xp_leaf _ _ 1 i V.null,S9.out.below⟩
   ·have h0 : (((i :: i2 :: l).length : Nat) : Int) = (l.length : Int) + 2:=by simp; omega
    have h1 : ((((i :: i2 :: l).length : Nat) : Int) == 0) = false:=by rw [h0]; simp; omega
    have h2 : ((((i :: i2 :: l).length : Nat) : Int) == 1) = false:=by rw [h0]; simp; omega
    go_wp2_with (refine wpList_store_row rfl 49 (.tmp 4) (.tmp 69) rfl (w.heap.size + 1) #[.int .i64 0,.int .i64 0,.int .i64 0,.int .i64 0,.string ⟨#[]⟩,.slice none 0 0] rfl rfl 49 #[.int .i64 0,.int .i64 0,.int .i64 0,.int .i64 0,.string ⟨#[]⟩,.slice none 0 0] hbr xp_size rfl (by simp [Value.oneCell']) ?_)
    refine bodyGen (fun W=>St w W _) (St.row 0 #[.int .i64 0,.int .i64 0,.int .i64 0,.int .i64 0,.string ⟨#[]⟩,.slice none 0 0] S1.out rfl) ?_
    intro w9 S9'
    have S9:=Lib.hid S9'
    clear S9'
    have F9 : w9.heap[w.heap.size + 1]? = some (.cells #[.int .i64 0,.int .i64 0,.int .i64 0,.int .i64 0,.string ⟨#[]⟩,.slice none 0 0] 49 (0,0)):=S9.out.blk 0 rfl
    have c0 : w9.cell? ⟨w.heap.size + 1,0,none⟩ = some (.int .i64 0):=by simp only [World.cell?,F9]; rfl
    have c1 : w9.cell? ⟨w.heap.size + 1,1,none⟩ = some (.int .i64 0):=by simp only [World.cell?,F9]; rfl
    have c2 : w9.cell? ⟨w.heap.size + 1,2,none⟩ = some (.int .i64 0):=by simp only [World.cell?,F9]; rfl
    have c3 : w9.cell? ⟨w.heap.size + 1,3,none⟩ = some (.int .i64 0):=by simp only [World.cell?,F9]; rfl
    have c4 : w9.cell? ⟨w.heap.size + 1,4,none⟩ = some (.string ⟨#[]⟩):=by simp only [World.cell?,F9]; rfl
    have c5 : w9.cell? ⟨w.heap.size + 1,5,none⟩ = some (.slice none 0 0):=by simp only [World.cell?,F9]; rfl
    refine bodyPost_ret (v:=.tuple #[.agg #[.int .i64 0,.int .i64 0,.int .i64 0,.int .i64 0,.string ⟨#[]⟩,.slice none 0 0],.int .i64 6]) (by simp [results,Tryz.results9,go_sem,c0,c1,c2,c3,c4,c5]) rfl ?_
    exact ⟨_,rfl,xp_leaf _ _ 0 0 V.null,S9.out.below⟩
theorem pickC_err {l : List Int} {k : Int} (h : pickC l = .error k) : k ≠ 0:=by
 rcases l with _ | ⟨a,_ | ⟨b,l⟩⟩
 ·injection h with h; omega
 ·cases h
 ·injection h with h; omega
theorem res_err (sc : List (Bytes × Bytes)) : ∀ e : Ex,∀ k,Ex.res sc e = .error k→k ≠ 0:=by
 refine Ex.ind fun op t n v args ih=>?_
 intro k h
 have key : ∀ l : List Ex,(∀ a ∈ l,∀ k,Ex.res sc a = .error k→k ≠ 0)→∀ k,resL sc l = .error k→k ≠ 0:=by
  intro l
  induction l with
  | nil=>intro _ k h; cases h
  | cons a l ihl=>
   intro hl k h
   unfold resL at h
   cases h1 : Ex.res sc a with
   | error x=>
    rw [h1] at h
    injection h with h
    subst h
    exact hl a (by simp) _ h1
   | ok x=>
    rw [h1] at h
    cases h2 : resL sc l with
    | error y=>
     rw [h2] at h
     injection h with h
     subst h
     exact ihl (fun d hd=>hl d (by simp [hd])) _ h2
    | ok y=>rw [h2] at h; cases h
 by_cases ho : op = 1
 ·subst ho
  rw [res_col] at h
  exact pickC_err h
 ·rw [res_mk _ _ _ _ _ _ ho] at h
  cases h2 : resL sc args with
  | error y=>
   rw [h2] at h
   injection h with h
   subst h
   exact key args ih _ h2
  | ok y=>rw [h2] at h; cases h
set_option maxRecDepth 100000 in
set_option maxHeartbeats 16000000 in
theorem resolve_any (Q R : Nat→Prop) (sc : List Tbl) (hs : sc.length≤1000000) (hf : (flatC sc).length≤1000000) : ∀ e : Ex,e.brief→∀ (tv : Value) (cs : List Value) (w : World),RSl tblE Q w tv sc→ExIn R w e cs →
  Calls Tryz.prog 9 #[tv,.agg cs.toArray] w (ResPost w (Ex.res (flatC sc) e)):=by
 refine Ex.ind fun op t n v args ih=>?_
 intro hbr tv cs w ht he
 obtain ⟨a,rfl,hsl⟩:=exIn_of he
 have hsl2:=exSl_rSl hsl
 obtain ⟨ad,ac,rfl⟩:=hsl2.slice
 by_cases ho : op = 1
 ·subst ho
  rw [res_col]
  exact resolve_col Q sc tv t n v ad args.length ac w ht hs hf
 ·rw [res_mk _ _ _ _ _ _ ho]
  obtain ⟨tot,htot⟩ : ∃ tot,joinX op v [] (resL (flatC sc) args) = tot:=⟨_,rfl⟩
  rw [htot]
  have HM0 : Hid (tot = joinX op v [] (resL (flatC sc) (args.drop 0))):=htot.symm
  have hal : args.length≤1000000:=hbr.1
  have hob : (op == (1 : Int)) = false:=by simpa using ho
  obtain ⟨ta,tc,rfl⟩:=ht.slice
  have IH:=Lib.hid (fun (e' : Ex) (hm : e' ∈ args) (cs' : List Value) (he' : ExIn R w e' cs') (W : World) (hb : Below w.heap.size w W)=>ih e' hm (briefL_mem hbr.2 e' hm) _ cs' W (RSl.kept (by decide) ht hb) (he'.kept hb))
  have HS:=Lib.hid hsl2
  clear ih hbr he ht hsl hsl2 htot ho
  go_enter Tryz.func9,Tryz.ntmps9
  go_upto_region 1 with fail
  refine St.gen (St.alloc (St.alloc (St.start _))) ?_
  intro w1 S1
  try (simp only [World.size_alloc] at S1)
  have F1:=S1.out.facts
  simp only [St.Facts,cellFacts,apartFacts,and_true] at F1
  go_upto_region 22 with fail
  have hbo : w.heap.size + 1 < w1.heap.size:=(Array.getElem?_eq_some_iff.1 (S1.out.blk 0 rfl)).1
  refine St.gen (St.alloc (S1.out)) ?_
  intro w2 S2
  try (simp only [List.set_cons_zero,List.set_cons_succ,List.setIfInBounds_toArray,World.size_alloc] at S2)
  clear S1 F1
  generalize w1.heap.size = bo at *
  have F2:=S2.out.facts
  simp only [St.Facts,cellFacts,apartFacts,and_true] at F2
  go_upto_region 23 with fail
  clear F2
  go_loopw [14,15,16,78] (fun _ _ _ kv wr=>∃ (k : Nat) (acc : List Xp) (oa : Option Addr) (oc : Nat),kv = .int .i64 k∧k≤args.length∧Hid (acc.length = k)∧Hid (tot = joinX op v acc (resL (flatC sc) (args.drop k)))∧Hid (St w wr [(bo,#[.int .i64 op,.int .i64 0,.int .i64 v.k,.int .i64 v.n,.string v.s,.slice oa acc.length oc],49),(w.heap.size + 1,#[.int .i64 0,.int .i64 0,.int .i64 0,.int .i64 0,.string ⟨#[]⟩,.slice none 0 0],49),(w.heap.size,#[.int .i64 op,.string ⟨t.toArray⟩,.string ⟨n.toArray⟩,.int .i64 v.k,.int .i64 v.n,.string v.s,.slice ad args.length ac],27)])∧Hid (LRow xpE 49 (bo + 1) wr acc (.slice oa acc.length oc))) (fun _ _ _ kv _=>args.length - (intOf kv).toNat)
  case atStart=>exact ⟨0,[],none,0,rfl,by omega,rfl,HM0.out,S2.out,⟨[],World.ownsRow_nil _ _ _ _,rfl⟩⟩
  case round=>
   clear HM0 S2
   obtain ⟨k,acc,oa,oc,rfl,hk,HK,HM,S2,HL⟩:=hrel
   by_cases hlt : k < args.length
   ·obtain ⟨e',hx⟩ : ∃ x,args[k]? = some x:=⟨args[k],by simp [hlt]⟩
    obtain ⟨b,o,cap,cs,hbo,hin,hat⟩:=HS.out.at hx
    injection hbo with e1 _ e2
    subst e1
    subst e2
    have HI:=Lib.hid (IH.out e' (List.mem_of_getElem? hx) cs hin)
    have hdr : args.drop k = e' :: args.drop (k + 1):=by
     obtain ⟨h1,rfl⟩:=List.getElem?_eq_some_iff.1 hx
     exact List.drop_eq_getElem_cons h1
    have hm0:=HM.out
    rw [hdr] at hm0
    obtain ⟨res,hres⟩ : ∃ r,Ex.res (flatC sc) e' = r:=⟨_,rfl⟩
    rw [hres] at HI
    have HR:=Lib.hid hres
    have HM1:=Lib.hid hm0
    obtain ⟨op2,t2,n2,v2,args2⟩:=e'
    obtain ⟨a2,rfl,hsl3⟩:=exIn_of hin
    obtain ⟨ad2,ac2,rfl⟩:=(exSl_rSl hsl3).slice
    have x0:=S2.out.below.cell_kept (hat 0 _ rfl)
    have x1:=S2.out.below.cell_kept (hat 1 _ rfl)
    have x2:=S2.out.below.cell_kept (hat 2 _ rfl)
    have x3:=S2.out.below.cell_kept (hat 3 _ rfl)
    have x4:=S2.out.below.cell_kept (hat 4 _ rfl)
    have x5:=S2.out.below.cell_kept (hat 5 _ rfl)
    have x6:=S2.out.below.cell_kept (hat 6 _ rfl)
    simp only [show exE.k = 7 from rfl,Nat.add_zero] at x0 x1 x2 x3 x4 x5 x6
    clear hin hat hsl3 hx hdr hm0 HM hres
    go_upto_region 25 with fail
    refine codeGenT (fun W=>St w W [(wr.heap.size,#[.int .i64 op2,.string ⟨t2.toArray⟩,.string ⟨n2.toArray⟩,.int .i64 v2.k,.int .i64 v2.n,.string v2.s,.slice ad2 args2.length ac2],27),(bo,#[.int .i64 op,.int .i64 0,.int .i64 v.k,.int .i64 v.n,.string v.s,.slice oa acc.length oc],49),(w.heap.size + 1,#[.int .i64 0,.int .i64 0,.int .i64 0,.int .i64 0,.string ⟨#[]⟩,.slice none 0 0],49),(w.heap.size,#[.int .i64 op,.string ⟨t.toArray⟩,.string ⟨n.toArray⟩,.int .i64 v.k,.int .i64 v.n,.string v.s,.slice (some ⟨b,o,none⟩) args.length ac],27)]∧LRow xpE 49 (bo + 1) W acc (.slice oa acc.length oc)) ⟨St.alloc S2.out,HL.out.kept ((Below.refl _ _).alloc (Nat.le_refl _) _)⟩ ?_
    clear S2 HL x0 x1 x2 x3 x4 x5 x6
    rintro w3 ⟨S3',HL3'⟩
    have S3:=Lib.hid S3'
    have HL3:=Lib.hid HL3'
    clear S3' HL3'
    generalize wr.heap.size = bt at *
    have F3:=S3.out.facts
    simp only [St.Facts,cellFacts,apartFacts,and_true] at F3
    go_wp2_with fail
    refine Calls.mono (HI.out w3 S3.out.below) ?_
    rintro e w4 ⟨xcs,hxe,hxi,hb4⟩
    have S4:=Lib.hid (S3.out.kept hb4)
    have HL4:=Lib.hid (HL3.out.kept hb4)
    have hw3:=hb4.size
    clear HI F3 hb4
    cases res with
    | error kk=>
     obtain rfl : e = .returned (.tuple #[.agg xcs.toArray,.int .i64 kk]):=hxe
     have hkb : (kk != 0) = true:=by simpa using res_err _ _ _ HR.out
     have HT : Hid (tot = .error kk):=HM1.out.trans (joinX_err _ _ _ _ _ _ _ HR.out)
     obtain ⟨xa0,rfl,hx2⟩:=xpIn_iff.1 (show XpIn _ _ (.mk 0 0 V.null []) _ from hxi)
     obtain ⟨xa,xc,rfl⟩:=hx2.slice
     clear S3 HL3 HL4 HR HM1 hxi hx2
     go_wp2_with (refine wpList_store_row rfl 49 (.tmp 4) (.tmp 90) rfl (w.heap.size + 1) #[.int .i64 0,.int .i64 0,.int .i64 0,.int .i64 0,.string ⟨#[]⟩,.slice none 0 0] rfl rfl 49 #[.int .i64 0,.int .i64 0,.int .i64 0,.int .i64 0,.string ⟨#[]⟩,.slice none 0 0] ((St.laid S4.out).blk 2 rfl) xp_size rfl (by simp [Value.oneCell']) ?_)
     refine bodyGen (fun W=>St w W _) (St.row 2 #[.int .i64 0,.int .i64 0,.int .i64 0,.int .i64 0,.string ⟨#[]⟩,.slice none 0 0] (St.laid S4.out) rfl) ?_
     intro w9 S9'
     have S9:=Lib.hid S9'
     clear S9'
     have F9 : w9.heap[w.heap.size + 1]? = some (.cells #[.int .i64 0,.int .i64 0,.int .i64 0,.int .i64 0,.string ⟨#[]⟩,.slice none 0 0] 49 (0,0)):=S9.out.blk 2 rfl
     have c0 : w9.cell? ⟨w.heap.size + 1,0,none⟩ = some (.int .i64 0):=by simp only [World.cell?,F9]; rfl
     have c1 : w9.cell? ⟨w.heap.size + 1,1,none⟩ = some (.int .i64 0):=by simp only [World.cell?,F9]; rfl
     have c2 : w9.cell? ⟨w.heap.size + 1,2,none⟩ = some (.int .i64 0):=by simp only [World.cell?,F9]; rfl
     have c3 : w9.cell? ⟨w.heap.size + 1,3,none⟩ = some (.int .i64 0):=by simp only [World.cell?,F9]; rfl
     have c4 : w9.cell? ⟨w.heap.size + 1,4,none⟩ = some (.string ⟨#[]⟩):=by simp only [World.cell?,F9]; rfl
     have c5 : w9.cell? ⟨w.heap.size + 1,5,none⟩ = some (.slice none 0 0):=by simp only [World.cell?,F9]; rfl
     rw [HT.out]
     refine bodyPost_ret (v:=.tuple #[.agg #[.int .i64 0,.int .i64 0,.int .i64 0,.int .i64 0,.string ⟨#[]⟩,.slice none 0 0],.int .i64 kk]) (by simp [results,Tryz.results9,go_sem,c0,c1,c2,c3,c4,c5]) rfl ?_
     exact ⟨_,rfl,xp_leaf _ _ 0 0 V.null,S9.out.below⟩
    | ok x=>
     obtain rfl : e = .returned (.tuple #[.agg xcs.toArray,.int .i64 0]):=hxe
     have HT : Hid (tot = joinX op v (acc ++ [x]) (resL (flatC sc) (args.drop (k + 1)))):=HM1.out.trans (joinX_ok _ _ _ _ _ _ _ HR.out)
     obtain ⟨xop,xn,xv,xargs⟩:=x
     have hxi2 : XpIn (w3.heap.size≤·) w4 (.mk xop xn xv xargs) xcs:=hxi
     obtain ⟨xa0,rfl,hx2⟩:=xpIn_iff.1 hxi2
     obtain ⟨xa,xc,rfl⟩:=hx2.slice
     have HG : Hid (∀ g,(Value.slice oa acc.length oc).ownBlock = some g→g < w3.heap.size):=fun g hg=>by
      obtain ⟨acs2,h2,_⟩:=HL3.out
      exact (World.ownsRow.lt h2 g hg).2
     have hbo3 : bo < w3.heap.size:=(Array.getElem?_eq_some_iff.1 (S3.out.blk 1 rfl)).1
     clear S3 HL3 HR HM1 hxi hx2
     go_upto_region 28 with fail
     refine codeGenT (fun W=>St w W [(w4.heap.size,#[.int .i64 xop,.int .i64 xn,.int .i64 xv.k,.int .i64 xv.n,.string xv.s,.slice xa xargs.length xc],49),(bt,#[.int .i64 op2,.string ⟨t2.toArray⟩,.string ⟨n2.toArray⟩,.int .i64 v2.k,.int .i64 v2.n,.string v2.s,.slice ad2 args2.length ac2],27),(bo,#[.int .i64 op,.int .i64 0,.int .i64 v.k,.int .i64 v.n,.string v.s,.slice oa acc.length oc],49),(w.heap.size + 1,#[.int .i64 0,.int .i64 0,.int .i64 0,.int .i64 0,.string ⟨#[]⟩,.slice none 0 0],49),(w.heap.size,#[.int .i64 op,.string ⟨t.toArray⟩,.string ⟨n.toArray⟩,.int .i64 v.k,.int .i64 v.n,.string v.s,.slice (some ⟨b,o,none⟩) args.length ac],27)]∧LRow xpE 49 (bo + 1) W acc (.slice oa acc.length oc)∧XpIn (w3.heap.size≤·) W (.mk xop xn xv xargs) [.int .i64 xop,.int .i64 xn,.int .i64 xv.k,.int .i64 xv.n,.string xv.s,.slice xa xargs.length xc]) ⟨St.alloc S4.out,HL4.out.kept ((Below.refl _ _).alloc (Nat.le_refl _) _),xpIn_move (fun b hb hq=>⟨hq,((Below.refl w4.heap.size w4).alloc (Nat.le_refl _) _).block b hb⟩) _ _ hxi2⟩ ?_
     clear S4 HL4 hxi2
     rintro w5 ⟨S5',HL5',HX5'⟩
     have S5:=Lib.hid S5'
     have HE:=Lib.hid HX5'
     obtain ⟨acs,hown,hin⟩:=HL5'
     have HO:=Lib.hid hown
     have HI:=Lib.hid hin
     clear S5' HX5' hown hin
     generalize w4.heap.size = bx at *
     have hbo5 : bo < w5.heap.size:=(Array.getElem?_eq_some_iff.1 (S5.out.blk 2 rfl)).1
     have hkk : acc.length≤k:=Nat.le_of_eq HK.out
     have F5:=S5.out.facts
     simp only [St.Facts,cellFacts,apartFacts,and_true] at F5
     go_wp2_with (at_builtin; go_must (refine wpList_append_newq rfl _ _ 47 rfl 49 (.agg #[.int .i64 0,.int .i64 0,.int .i64 0,.int .i64 0,.string ⟨#[]⟩,.slice none 0 0]) 6 72 Tryz.underlying47 infoXp rfl (by decide) (bo + 1) (.slice oa acc.length oc) acc.length acs rfl HO.out #[.int .i64 xop,.int .i64 xn,.int .i64 xv.k,.int .i64 xv.n,.string xv.s,.slice xa xargs.length xc] 1 w5.heap.size (by simp) rfl rfl (by simp [Value.oneCell']) (by omega) (by unfold maxLen; omega) (by omega) ?_))
     intro v6 w6 hown6 hg6 hw6
     have HA6 : Hid (LRow xpE 49 (bo + 1) w6 (acc ++ [.mk xop xn xv xargs]) v6):=LRow.add (C:=w3.heap.size) (by omega) HG.out HO.out HI.out HE.out hown6 hg6 hw6
     have S6 : Hid (St w w6 [(bo,#[.int .i64 op,.int .i64 0,.int .i64 v.k,.int .i64 v.n,.string v.s,.slice oa acc.length oc],49),(w.heap.size + 1,#[.int .i64 0,.int .i64 0,.int .i64 0,.int .i64 0,.string ⟨#[]⟩,.slice none 0 0],49),(w.heap.size,#[.int .i64 op,.string ⟨t.toArray⟩,.string ⟨n.toArray⟩,.int .i64 v.k,.int .i64 v.n,.string v.s,.slice (some ⟨b,o,none⟩) args.length ac],27)]):=(St.tail (St.tail S5.out)).turned (Turn.of_grown hg6) (fun i h=>by have:=(World.ownsRow.lt HO.out i h).1; omega) (fun x hx h=>by
      have h1:=(World.ownsRow.lt HO.out _ h).1
      simp only [List.mem_cons,List.not_mem_nil,or_false] at hx
      rcases hx with rfl | rfl | rfl
      all_goals (simp only at h1; omega))
     obtain ⟨a6,c6,rfl⟩:=HA6.out.slice
     clear hown6 hg6 hw6 S5 F5 HE HO HI HG
     have F6:=S6.out.facts
     simp only [St.Facts,cellFacts,apartFacts,and_true] at F6
     go_wp2_with fail
     go_roundw
     case rel=>exact ⟨k + 1,acc ++ [(.mk xop xn xv xargs : Xp)],a6,c6,by go_num,by omega,(by show _ = _; rw [List.length_append,HK.out]; rfl),HT.out,(by show St _ _ _; rw [List.length_append]; exact St.set 0 S6.out rfl),HA6.out.turned (M:=(· = bo)) ((Turn.refl _ _).setCell (.inl rfl)) (fun b hb e=>by omega)⟩
     case measure=>simp [intOf]; omega
   ·obtain rfl : k = args.length:=by omega
    have HT : Hid (tot = .ok (.mk op 0 v acc)):=by show _ = _; rw [HM.out,List.drop_length,joinX_nil]
    have hbo2 : bo < wr.heap.size:=(Array.getElem?_eq_some_iff.1 (S2.out.blk 0 rfl)).1
    clear HM HK
    go_wp2_with (first | (refine wpList_load_row rfl 49 (.tmp 12) rfl bo rfl 49 #[.int .i64 op,.int .i64 0,.int .i64 v.k,.int .i64 v.n,.string v.s,.slice oa acc.length oc] (0,0) _ (S2.out.blk 0 rfl) Tryz.underlying49 rfl xp_size ?_) | (refine wpList_store_row rfl 49 (.tmp 4) (.tmp 99) rfl (w.heap.size + 1) #[.int .i64 op,.int .i64 0,.int .i64 v.k,.int .i64 v.n,.string v.s,.slice oa acc.length oc] rfl rfl 49 #[.int .i64 0,.int .i64 0,.int .i64 0,.int .i64 0,.string ⟨#[]⟩,.slice none 0 0] (S2.out.blk 1 rfl) xp_size rfl (by simp [Value.oneCell']) ?_))
    refine bodyGen (fun W=>St w W _∧LRow xpE 49 (bo + 1) W acc (.slice oa acc.length oc)) ⟨St.row 1 #[.int .i64 op,.int .i64 0,.int .i64 v.k,.int .i64 v.n,.string v.s,.slice oa acc.length oc] S2.out rfl,HL.out.turned (M:=(· = w.heap.size + 1)) ((Turn.refl _ _).setRow (.inl rfl)) (fun b hb e=>by omega)⟩ ?_
    rintro w9 ⟨S9',HL9⟩
    have S9:=Lib.hid S9'
    clear S9'
    have F9 : w9.heap[w.heap.size + 1]? = some (.cells #[.int .i64 op,.int .i64 0,.int .i64 v.k,.int .i64 v.n,.string v.s,.slice oa acc.length oc] 49 (0,0)):=S9.out.blk 1 rfl
    have c0 : w9.cell? ⟨w.heap.size + 1,0,none⟩ = some (.int .i64 op):=by simp only [World.cell?,F9]; rfl
    have c1 : w9.cell? ⟨w.heap.size + 1,1,none⟩ = some (.int .i64 0):=by simp only [World.cell?,F9]; rfl
    have c2 : w9.cell? ⟨w.heap.size + 1,2,none⟩ = some (.int .i64 v.k):=by simp only [World.cell?,F9]; rfl
    have c3 : w9.cell? ⟨w.heap.size + 1,3,none⟩ = some (.int .i64 v.n):=by simp only [World.cell?,F9]; rfl
    have c4 : w9.cell? ⟨w.heap.size + 1,4,none⟩ = some (.string v.s):=by simp only [World.cell?,F9]; rfl
    have c5 : w9.cell? ⟨w.heap.size + 1,5,none⟩ = some (.slice oa acc.length oc):=by simp only [World.cell?,F9]; rfl
    rw [HT.out]
    refine bodyPost_ret (v:=.tuple #[.agg #[.int .i64 op,.int .i64 0,.int .i64 v.k,.int .i64 v.n,.string v.s,.slice oa acc.length oc],.int .i64 0]) (by simp [results,Tryz.results9,go_sem,c0,c1,c2,c3,c4,c5]) rfl ?_
    exact ⟨_,rfl,xpIn_iff.2 ⟨_,rfl,rSl_mono (LRow.done (by decide) HL9) (by decide) (fun b hb=>by have h : bo + 1≤b:=hb; omega)⟩,S9.out.below⟩
theorem fd_size : (Tryz.prog.info? 95).map (·.size) = some 2:=by kernel_rfl
theorem fd_next {P : Prop} (h : P:=by
 go_wp2_with fail
 go_roundw
 case rel=>exact ⟨j + 1,q + 1,ac3,by go_num,by go_num,by omega,HP1.out,HM1.out,S4.out⟩
 case measure=>simp [intOf]; omega) : P:=h
theorem fd_miss {P : Prop} (h : P:=by
 rw [fndC_miss _ _ _ _ _ hh] at hm0
 have HM1:=Lib.hid hm0
 have S4:=S3
 obtain ⟨ac3,hac3⟩ : ∃ l,l = ac2:=⟨_,rfl⟩
 rw [← hac3] at S4 HM1
 clear hm0 hh S3 F3 x0 x1 y0 hac3
 exact fd_next) : P:=h
theorem fd_hit {P : Prop} (h : P:=by
 rw [fndC_hit _ _ _ _ _ hh] at hm0
 clear hh
 rcases ac2 with _ | ⟨i1,_ | ⟨i2,l2⟩⟩
 ·have hm1 : tot = [(q : Int)] ++ fndC t n (q + 1) (restC a (j + 1) (sc.drop (k + 1))):=by rw [hm0]; simp
  have HM1:=Lib.hid hm1
  clear hm0 hm1
  have S4 : Hid (St w wr [(w.heap.size + 1,#[.int .i64 0,.int .i64 5],95),(w.heap.size,#[.int .i64 0,.int .i64 0],95)]):=S3
  clear S3 F3
  have F4:=S4.out.facts
  simp only [St.Facts,cellFacts,apartFacts,and_true] at F4
  go_wp2_with (refine wpList_store_row rfl 95 (.tmp 7) (.tmp 62) rfl (w.heap.size + 1) #[.int .i64 (q : Int),.int .i64 0] rfl rfl 95 #[.int .i64 0,.int .i64 5] (S4.out.blk 0 rfl) fd_size rfl (by simp [Value.oneCell']) ?_)
  go_roundw
  case rel=>exact ⟨j + 1,q + 1,[(q : Int)],by go_num,by go_num,by omega,HP1.out,HM1.out,St.row 0 #[.int .i64 (q : Int),.int .i64 0] S4.out rfl⟩
  case measure=>simp [intOf]; omega
 ·have hm1 : tot = [i1,(q : Int)] ++ fndC t n (q + 1) (restC a (j + 1) (sc.drop (k + 1))):=by rw [hm0]; simp
  have HM1:=Lib.hid hm1
  clear hm0 hm1
  have S4 : Hid (St w wr [(w.heap.size + 1,#[.int .i64 i1,.int .i64 0],95),(w.heap.size,#[.int .i64 0,.int .i64 0],95)]):=S3
  clear S3 F3
  have F4:=S4.out.facts
  simp only [St.Facts,cellFacts,apartFacts,and_true] at F4
  go_wp2_with (refine wpList_store_row rfl 95 (.tmp 7) (.tmp 60) rfl (w.heap.size + 1) #[.int .i64 0,.int .i64 6] rfl rfl 95 #[.int .i64 i1,.int .i64 0] (S4.out.blk 0 rfl) fd_size rfl (by simp [Value.oneCell']) ?_)
  go_roundw
  case rel=>exact ⟨j + 1,q + 1,[i1,(q : Int)],by go_num,by go_num,by omega,HP1.out,HM1.out,St.row 0 #[.int .i64 0,.int .i64 6] S4.out rfl⟩
  case measure=>simp [intOf]; omega
 ·have hm1 : tot = (i1 :: i2 :: (l2 ++ [(q : Int)])) ++ fndC t n (q + 1) (restC a (j + 1) (sc.drop (k + 1))):=by rw [hm0]; simp
  have HM1:=Lib.hid hm1
  clear hm0 hm1
  have S4 : Hid (St w wr [(w.heap.size + 1,#[.int .i64 0,.int .i64 6],95),(w.heap.size,#[.int .i64 0,.int .i64 0],95)]):=S3
  clear S3 F3
  have F4:=S4.out.facts
  simp only [St.Facts,cellFacts,apartFacts,and_true] at F4
  go_wp2_with (refine wpList_store_row rfl 95 (.tmp 7) (.tmp 60) rfl (w.heap.size + 1) #[.int .i64 0,.int .i64 6] rfl rfl 95 #[.int .i64 0,.int .i64 6] (S4.out.blk 0 rfl) fd_size rfl (by simp [Value.oneCell']) ?_)
  go_roundw
  case rel=>exact ⟨j + 1,q + 1,i1 :: i2 :: (l2 ++ [(q : Int)]),by go_num,by go_num,by omega,HP1.out,HM1.out,St.row 0 #[.int .i64 0,.int .i64 6] S4.out rfl⟩
  case measure=>simp [intOf]; omega) : P:=h
set_option maxRecDepth 100000 in
set_option maxHeartbeats 16000000 in
theorem find_any (Q : Nat→Prop) (sc : List Tbl) (tv : Value) (t n : Bytes) (w : World) (ht : RSl tblE Q w tv sc) (hs : sc.length≤1000000) (hf : (flatC sc).length≤1000000) :
  Calls Tryz.prog 37 #[tv,.string ⟨t.toArray⟩,.string ⟨n.toArray⟩] w (Says (.agg #[.int .i64 (noteC (fndC t n 0 (flatC sc))).1,.int .i64 (noteC (fndC t n 0 (flatC sc))).2]) w):=by
 obtain ⟨ta,tc,rfl⟩:=ht.slice
 have HT:=Lib.hid ht
 clear ht
 obtain ⟨tot,htot⟩ : ∃ tot,fndC t n 0 (flatC sc) = tot:=⟨_,rfl⟩
 rw [htot]
 have HT0 : Hid (tot = [] ++ fndC t n 0 (flatC (sc.drop 0))):=by show _ = _; rw [← htot]; rfl
 clear htot
 go_enter Tryz.func37,Tryz.ntmps37
 go_upto_region 3 with fail
 refine St.gen (St.alloc (St.alloc (St.start _))) ?_
 intro w1 S1
 try (simp only [World.size_alloc] at S1)
 go_upto_region 4 with fail
 go_loopw [8,9,10] (fun av kv _ wr=>∃ (k p : Nat) (acc : List Int),av = .int .i64 p∧kv = .int .i64 k∧k≤sc.length∧Hid (p + (flatC (sc.drop k)).length = (flatC sc).length)∧Hid (tot = acc ++ fndC t n p (flatC (sc.drop k)))∧Hid (St w wr [(w.heap.size + 1,#[.int .i64 (noteC acc).1,.int .i64 (noteC acc).2],95),(w.heap.size,#[.int .i64 0,.int .i64 0],95)])) (fun _ kv _ _=>sc.length - (intOf kv).toNat)
 case atStart=>exact ⟨0,0,[],rfl,rfl,by omega,by show _ = _; simp,HT0.out,S1.out⟩
 case round=>
  clear HT0 S1
  obtain ⟨k,p,acc,rfl,rfl,hk,HP,HM,S2⟩:=hrel
  by_cases hlt : k < sc.length
  ·obtain ⟨a,hx⟩ : ∃ x,sc[k]? = some x:=⟨sc[k],by simp [hlt]⟩
   obtain ⟨b,o,cap,cs,hbo,hin,hat⟩:=HT.out.at hx
   injection hbo with e1 _ e2
   subst e1
   subst e2
   obtain ⟨ca,cc,ia,ic,ka,kc,rfl,hcols⟩:=hin
   have HX0 : Hid (∀ W,Below w.heap.size w W→W.cell? ⟨b,o + k * 4,none⟩ = some (.string ⟨a.name.toArray⟩)):=fun W hW=>by
    have:=hW.cell_kept (hat 0 _ rfl)
    simpa [show tblE.k = 4 from rfl] using this
   have HX1 : Hid (∀ W,Below w.heap.size w W→W.cell? ⟨b,o + k * 4 + 1,none⟩ = some (.slice ca a.cols.length cc)):=fun W hW=>by
    have:=hW.cell_kept (hat 1 _ rfl)
    simpa [show tblE.k = 4 from rfl,Nat.add_assoc] using this
   have HC:=Lib.hid hcols
   have hdr : sc.drop k = a :: sc.drop (k + 1):=by
    obtain ⟨h1,rfl⟩:=List.getElem?_eq_some_iff.1 hx
    exact List.drop_eq_getElem_cons h1
   have hp0:=HP.out
   have hm0:=HM.out
   rw [hdr,← restC_zero] at hp0 hm0
   have HP1:=Lib.hid hp0
   have HM1:=Lib.hid hm0
   have hcl : a.cols.length≤1000000:=by
    have h1:=HP1.out
    unfold restC at h1
    simp only [List.drop_zero,List.length_append,List.length_map] at h1
    omega
   have hki : (k : Int) < (sc.length : Int):=by omega
   clear hp0 hm0 hdr HP HM hat hx hcols
   go_upto_region 7 with fail
   go_loopw [8,10] (fun av jv wq=>∃ (j q : Nat) (acc : List Int),av = .int .i64 q∧jv = .int .i64 j∧j≤a.cols.length∧Hid (q + (restC a j (sc.drop (k + 1))).length = (flatC sc).length)∧Hid (tot = acc ++ fndC t n q (restC a j (sc.drop (k + 1))))∧Hid (St w wq [(w.heap.size + 1,#[.int .i64 (noteC acc).1,.int .i64 (noteC acc).2],95),(w.heap.size,#[.int .i64 0,.int .i64 0],95)])) (fun _ jv _=>a.cols.length - (intOf jv).toNat)
   case atStart=>exact ⟨0,p,acc,rfl,rfl,by omega,HP1.out,HM1.out,S2.out⟩
   case round=>
    clear HP1 HM1 S2
    obtain ⟨j,q,ac2,rfl,rfl,hj,HP,HM,S3⟩:=hrel
    have x0:=HX0.out _ S3.out.below
    have x1:=HX1.out _ S3.out.below
    by_cases hlj : j < a.cols.length
    ·obtain ⟨c,hx⟩ : ∃ x,a.cols[j]? = some x:=⟨a.cols[j],by simp [hlj]⟩
     obtain ⟨b2,o2,cap2,cs2,hbo2,hin2,hat2⟩:=HC.out.at hx
     injection hbo2 with e1 _ e2
     subst e1
     subst e2
     have hin3 : cs2 = c.cells:=hin2
     subst hin3
     have y0:=S3.out.below.cell_kept (hat2 0 _ rfl)
     simp only [show colE.k = 3 from rfl,Nat.add_zero] at y0
     have hp0:=HP.out
     have hm0:=HM.out
     rw [restC_step _ _ _ _ hx] at hp0 hm0
     have hq : q < 1000000:=by
      have h1:=hp0
      simp only [List.length_cons] at h1
      omega
     have hpn : q + 1 + (restC a (j + 1) (sc.drop (k + 1))).length = (flatC sc).length:=by
      have h1:=hp0
      simp only [List.length_cons] at h1
      omega
     have HP1:=Lib.hid hpn
     have hji : (j : Int) < (a.cols.length : Int):=by omega
     clear hp0 hpn HP HM hat2 hx hin2
     have F3:=S3.out.facts
     simp only [St.Facts,cellFacts,apartFacts,and_true] at F3
     cases h1 : c.name == n with
     | false=>
      have hh : hitC t n (a.name,c.name) = false:=by unfold hitC; rw [h1]; rfl
      go_upto_region 13 with fail
      exact fd_miss
     | true=>
      cases h2 : t == [] with
      | true=>
       have hh : hitC t n (a.name,c.name) = true:=by unfold hitC; rw [h1,h2]; rfl
       go_upto_region 10 with fail
       exact fd_hit
      | false=>
       cases h3 : a.name == t with
       | true=>
        have h4 : (t == a.name) = true:=by rw [beq_iff_eq] at h3 ⊢; exact h3.symm
        have hh : hitC t n (a.name,c.name) = true:=by unfold hitC; rw [h1,h2,h4]; rfl
        go_upto_region 10 with fail
        exact fd_hit
       | false=>
        have h4 : (t == a.name) = false:=by rw [beq_eq_false_iff_ne] at h3 ⊢; exact fun e=>h3 e.symm
        have hh : hitC t n (a.name,c.name) = false:=by unfold hitC; rw [h1,h2,h4]; rfl
        go_upto_region 13 with fail
        exact fd_miss
    ·obtain rfl : j = a.cols.length:=by omega
     have hp0:=HP.out
     have hm0:=HM.out
     rw [restC_end] at hp0 hm0
     have HP1:=Lib.hid hp0
     have HM1:=Lib.hid hm0
     clear HP HM hp0 hm0
     go_wp2_with fail
     go_roundw
     case rel=>exact ⟨k + 1,q,ac2,rfl,by go_num,by omega,HP1.out,HM1.out,S3.out⟩
     case measure=>simp [intOf]; omega
  ·obtain rfl : k = sc.length:=by omega
   have hm0:=HM.out
   rw [List.drop_length] at hm0
   have hm1 : tot = acc:=by rw [hm0]; simp [flatC,fndC]
   subst hm1
   clear hm0 HM HP
   go_wp2_with (first | (refine wpList_load_row rfl 95 (.tmp 7) rfl (w.heap.size + 1) rfl 95 #[.int .i64 (noteC tot).1,.int .i64 (noteC tot).2] (0,0) _ (S2.out.blk 0 rfl) Tryz.underlying95 rfl fd_size ?_) | (refine wpList_store_row rfl 95 (.tmp 6) (.tmp 65) rfl w.heap.size #[.int .i64 (noteC tot).1,.int .i64 (noteC tot).2] rfl rfl 95 #[.int .i64 0,.int .i64 0] (S2.out.blk 1 rfl) fd_size rfl (by simp [Value.oneCell']) ?_))
   refine bodyGen (fun W=>St w W _) (St.row 1 #[.int .i64 (noteC tot).1,.int .i64 (noteC tot).2] S2.out rfl) ?_
   intro w9 S9'
   have S9:=Lib.hid S9'
   clear S9'
   have F9 : w9.heap[w.heap.size]? = some (.cells #[.int .i64 (noteC tot).1,.int .i64 (noteC tot).2] 95 (0,0)):=S9.out.blk 1 rfl
   have c0 : w9.cell? ⟨w.heap.size,0,none⟩ = some (.int .i64 (noteC tot).1):=by simp only [World.cell?,F9]; rfl
   have c1 : w9.cell? ⟨w.heap.size,1,none⟩ = some (.int .i64 (noteC tot).2):=by simp only [World.cell?,F9]; rfl
   refine bodyPost_ret (v:=.agg #[.int .i64 (noteC tot).1,.int .i64 (noteC tot).2]) (by simp [results,Tryz.results37,go_sem,c0,c1]) rfl ⟨rfl,S9.out.below⟩
end Go.Proofs.YtjmmbebkbkgefaaGreatDoor
