/- Part 18; the last part says what is proved. No condition. -/
import Derived.Test.YtjmmbebkbkgefaaGreatDoorB16
import Derived.Test.YtjmmbebkbkgefaaGreatDoorB17
set_option linter.unusedVariables false
set_option linter.unusedSimpArgs false
set_option maxHeartbeats 16000000
set_option maxRecDepth 100000
namespace Go.Proofs.YtjmmbebkbkgefaaGreatDoor
open Go.RowKit Go.Sort Go.Proofs.Tryz
def exSel:Sel:=⟨false,[⟨0,colEx [] [97]⟩,⟨2,colEx [] [98]⟩],[[116]],[],Ex.zero,[colEx [] [97]],[⟨2,true⟩],3⟩
theorem D4 {w:World} {b n cap:Nat} {cs:Array Value} {t:TypeId} (h:w.heap[b]?=some (.cells cs t (0,0))) (hc:n<=cap):SlAt w (.slice (some ⟨b,0,none⟩) n cap) n cs.toList:=by
 refine⟨_,cap,rfl,hc,fun _=>⟨b,0,rfl,fun j u hu=>?_⟩⟩;simp only[World.cell?,h,Nat.zero_add];simpa using hu
theorem So {α:Type} {E:ElRep α} {Q:Nat->Prop} {W:World} {l:List α} {acs zs:List Value} {g cap:Nat} {t:TypeId} (h:W.heap[g]?=some (.cells (acs++zs).toArray t (0,0))) (hl:LIn E Q W l acs) (hc:l.length<=cap) (hq:Q g):RSl E Q W (.slice (some ⟨g,0,none⟩) l.length cap) l:=by
 refine⟨acs,⟨_,_,rfl,hc,fun _=>⟨g,0,rfl,hq,fun j u hu=>?_⟩⟩,hl⟩;simp only[World.cell?,h,Nat.zero_add];have hj:=(List.getElem?_eq_some_iff.1 hu).1;simp only[List.getElem?_toArray];rw[List.getElem?_append_left hj];exact hu
theorem St.join {w0 w w':World} {L L':List Blk} (h:St w0 w L) (k:St w w' L'):St w0 w' (L'++L):=by
 have hk:=h.kept k.below;refine⟨hk.below,fun x hx=>?_,?_⟩
 ·rcases List.mem_append.1 hx with hx|hx
  ·exact⟨Nat.le_trans h.below.size (k.own x hx).1,(k.own x hx).2⟩
  ·exact hk.own x hx
 ·rw[List.map_append];refine List.nodup_append.2 ⟨k.apart,h.apart,fun a ha b hb=>?_⟩;obtain⟨x,hx,rfl⟩:=List.mem_map.1 ha;obtain⟨y,hy,rfl⟩:=List.mem_map.1 hb;have h1:=(k.own x hx).1;have h2:=(Array.getElem?_eq_some_iff.1 (h.own y hy).2).1;omega
theorem Bk {P:Program} {fn:Func} {p q:Tmp} {ty:TypeId} (h:fn.results=#[.cell p ty,.tmp q]) (tmps:Array Value) (w:World) (g:Nat) (x y:Value)
 (hp:tmps.getD p undef=.pointer (some ⟨g,0,none⟩)) (hq:tmps.getD q undef=y) (h1:(loadVar ty ⟨g,0,none⟩).run P w=.ok x w):
 (results fn tmps).run P w=.ok (.tuple #[x,y]) w:=by
 have hp':tmps[p]?.getD undef=.pointer (some ⟨g,0,none⟩):=by simpa using hp
 have hq':tmps[q]?.getD undef=y:=by simpa using hq
 simp[results,h,hp',hq',asAddr,h1]
section
variable {W:World} {T:Nat->Prop} (hT:∀b,T b)
include hT
end
theorem Sz:(prog.info? 36).map (fun i=>(i.zero,i.size,i.bytes))=some (some (.agg #[.string ⟨#[]⟩,.slice none 0 0,.slice none 0 0,.slice none 0 0]),4,88):=by kernel_rfl
theorem Ra:(prog.info? 49).map (fun i=>(i.zero,i.size,i.bytes))=some (some (.agg #[.int .i64 0,.int .i64 0,.int .i64 0,.int .i64 0,.string ⟨#[]⟩,.slice none 0 0]),6,72):=by kernel_rfl
theorem bi:(prog.info? 107).map (fun i=>(i.zero,i.size,i.bytes))=some (some (.agg #[.int .i64 0,.int .i64 0,.int .i64 0,.int .i64 0,.int .i64 0,.string ⟨#[]⟩,.slice none 0 0]),7,80):=by kernel_rfl
end Go.Proofs.YtjmmbebkbkgefaaGreatDoor
namespace Go.Proofs.YtjmmbebkbkgefaaGreatDoor
open Go.RowKit Go.Sort Go.Proofs.Tryz
def ResPost (w:World) (x:Except Int Xp) (e:Ending) (w':World):Prop:=∃xcs,e=.returned (.tuple #[.agg xcs.toArray,.int .i64 (errX x)])/\XpIn (w.heap.size≤·) w' (okX x) xcs/\Below w.heap.size w w'
theorem Cj (Q:Nat->Prop) (w:World) (op n:Int) (v:V):XpIn Q w (.mk op n v []) [.int .i64 op,.int .i64 n,.int .i64 v.k,.int .i64 v.n,.string v.s,.slice none 0 0]:=
 Ai.2 ⟨_,rfl,Aj⟩
theorem Bx:(prog.info? 49).map (·.size)=some 6:=by kernel_rfl
def notAt (b:Nat) (v:Value):Prop:=∀g,v.ownBlock=some g->g≠b
theorem N3 {P:Prop} (h:P:=by
 have HO3:=Lib.hid (HO.out.later ((Below.refl _ _).alloc (Nat.le_refl _) (.cells #[.string ⟨c.name.toArray⟩,.int .i64 c.kind,.bool c.null] 38)));have S4:=Lib.hid (St.laid (o:=(.cells #[.string ⟨c.name.toArray⟩,.int .i64 c.kind,.bool c.null] 38)) S3.out);clear HO F3 y0 y1 y2 S3;go_wp2_with fail;go_roundw
 case rel=>exact⟨j+1,q+1,ac2,fa2,fc2,rfl,by go_num,by go_num,by omega,HP1.out,HM1.out,HO3.out,HN.out,S4.out⟩
 case measure=>simp[intOf];omega):P:=h
theorem Sm {P:Prop} (h:P:=by
 rw[Hb _ _ _ _ _ hh]at hm0 hac;have hal:ac2.length<1000000:=by
  have h1:=hac;simp only[List.length_cons]at h1;omega
 have hm1:tot=(ac2++[(q:Int)])++fndC t n (q+1) (restC a (j+1) (sc.drop (k+1))):=by rw[hm0];simp
 have HM1:=Lib.hid hm1;have HO3:=Lib.hid (HO.out.later ((Below.refl _ _).alloc (Nat.le_refl _) (.cells #[.string ⟨c.name.toArray⟩,.int .i64 c.kind,.bool c.null] 38)));have S4:=Lib.hid (St.laid (o:=(.cells #[.string ⟨c.name.toArray⟩,.int .i64 c.kind,.bool c.null] 38)) S3.out);clear HO F3 y0 y1 y2 hm0 hac hh hm1 S3;refine Af (fun W=>W.ownsRow (w.heap.size+2) 3 1 (.slice fa2 ac2.length fc2) ac2.length (intVals ac2)/\St w W [(bt,#[.string ⟨a.name.toArray⟩,.slice (some ⟨b2,o2,none⟩) a.cols.length cc,.slice ia a.indexes.length ic,.slice ka a.checks.length kc],36),(w.heap.size+1,#[.int .i64 0,.int .i64 0,.int .i64 0,.int .i64 0,.string ⟨#[]⟩,.slice none 0 0],49),(w.heap.size,#[.int .i64 1,.string ⟨t.toArray⟩,.string ⟨n.toArray⟩,.int .i64 v.k,.int .i64 v.n,.string v.s,.slice ad an ac],27)]) ⟨HO3.out,S4.out⟩ ?_;clear HO3 S4;rintro w4 ⟨HO4',S4'⟩;have HO4:=Lib.hid HO4';have S4:=Lib.hid S4';clear HO4' S4';have hbt:bt<w4.heap.size:=(Array.getElem?_eq_some_iff.1 (S4.out.blk 0 rfl)).1;have hbx:w.heap.size+1<w4.heap.size:=(Array.getElem?_eq_some_iff.1 (S4.out.blk 1 rfl)).1;have HBT:=Lib.hid hbt;go_wp2_with(refine Ah rfl (.tmp 50) (.tmp 52) 55 rfl 3 (.int .i64 0) 1 8 underlying55 B8 rfl (by decide) (w.heap.size+2) _ ac2.length (intVals ac2) rfl (HO4.out.later ((Below.refl _ _).alloc (Nat.le_refl _) _)) _ 1 [.int .i64 (q:Int)] rfl (by decide) (Bq (by decide)) rfl (by simp[Value.oneCell']) (by omega) (by unfold maxLen;omega) (by simp;omega) ?_;intro v' w7 hown hgr hblk hsl;obtain⟨g,cp,rfl⟩:=hsl)
 have HN7:Hid (notAt bt (.slice (some ⟨g,0,none⟩) (ac2++[(q:Int)]).length cp)):=fun g' hg=>by
  have hg2:(.slice (some ⟨g,0,none⟩) (ac2.length+1) cp:Value).ownBlock=some g':=hg;rcases hblk with h|⟨g2,h,hl⟩
  ·exact HN.out g' (h.symm.trans hg2)
  ·rw[h]at hg2;injection hg2 with e;simp at hl;omega
 have S7:Hid (St w w7 [(bt,#[.string ⟨a.name.toArray⟩,.slice (some ⟨b2,o2,none⟩) a.cols.length cc,.slice ia a.indexes.length ic,.slice ka a.checks.length kc],36),(w.heap.size+1,#[.int .i64 0,.int .i64 0,.int .i64 0,.int .i64 0,.string ⟨#[]⟩,.slice none 0 0],49),(w.heap.size,#[.int .i64 1,.string ⟨t.toArray⟩,.string ⟨n.toArray⟩,.int .i64 v.k,.int .i64 v.n,.string v.s,.slice ad an ac],27)]):=(St.laid S4.out).turned (Turn.of_grown hgr) (fun i h=>by have:=(World.ownsRow.lt HO4.out i h).1;omega) (fun x hx h=>by
  simp only[List.mem_cons,List.not_mem_nil,or_false]at hx;rcases hx with rfl|rfl|rfl
  ·exact HN.out _ h rfl
  ·have:=(World.ownsRow.lt HO4.out _ h).1;omega
  ·have:=(World.ownsRow.lt HO4.out _ h).1;omega)
 have HO7:Hid (w7.ownsRow (w.heap.size+2) 3 1 (.slice (some ⟨g,0,none⟩) (ac2++[(q:Int)]).length cp) (ac2++[(q:Int)]).length (intVals (ac2++[(q:Int)]))):=by
  rw[List.length_append];unfold intVals at hown ⊢;rw[List.map_append];exact hown
 clear hown hgr hblk S4 HO4 HN;go_wp2_with fail;go_roundw
 case rel=>exact⟨j+1,q+1,ac2++[(q:Int)],some ⟨g,0,none⟩,cp,by simp,by go_num,by go_num,by omega,HP1.out,HM1.out,HO7.out,HN7.out,S7.out⟩
 case measure=>simp[intOf];omega):P:=h
theorem N1 (Q:Nat->Prop) (sc:List Tbl) (tv:Value) (t n:Bytes) (v:V) (ad:Option Addr) (an ac:Nat) (w:World) (ht:RSl tblE Q w tv sc) (hs:sc.length<=1000000) (hf:(flatC sc).length<=1000000):
 Calls prog 9 #[tv,.agg #[.int .i64 1,.string ⟨t.toArray⟩,.string ⟨n.toArray⟩,.int .i64 v.k,.int .i64 v.n,.string v.s,.slice ad an ac]] w (ResPost w (pickC (fndC t n 0 (flatC sc)))):=by
 obtain⟨ta,tc,rfl⟩:=ht.slice
 have HT:=Lib.hid ht
 clear ht
 obtain⟨tot,htot⟩:∃tot,fndC t n 0 (flatC sc)=tot:=⟨_,rfl⟩
 rw[htot]
 have HTL:Hid (tot.length<=1000000):=by rw[<- htot];exact Nat.le_trans (Tc _ _ _ _) hf
 have HT0:Hid (tot=[]++fndC t n 0 (flatC (sc.drop 0))):=by show _=_;rw[<- htot];rfl
 clear htot
 go_enter func9,ntmps9
 go_upto_region 4 with fail
 refine St.gen (St.alloc (St.alloc (St.start _))) ?_
 intro w1 S1
 try(simp only[List.set_cons_zero,List.set_cons_succ,List.setIfInBounds_toArray,World.size_alloc]at S1)
 have F1:=S1.out.facts
 simp only[St.Facts,cellFacts,apartFacts,and_true]at F1
 go_upto_region 5 with fail
 clear F1
 go_loopw [6,7,9,11,22,29] (fun fv av _ _ kv _ wr=>∃(k p:Nat) (acc:List Int) (fa:Option Addr) (fc:Nat),fv=.slice fa acc.length fc/\av=.int .i64 p/\kv=.int .i64 k/\k<=sc.length/\Hid (p+(flatC (sc.drop k)).length=(flatC sc).length)/\Hid (tot=acc++fndC t n p (flatC (sc.drop k)))/\Hid (wr.ownsRow (w.heap.size+2) 3 1 (.slice fa acc.length fc) acc.length (intVals acc))/\Hid (St w wr [(w.heap.size+1,#[.int .i64 0,.int .i64 0,.int .i64 0,.int .i64 0,.string ⟨#[]⟩,.slice none 0 0],49),(w.heap.size,#[.int .i64 1,.string ⟨t.toArray⟩,.string ⟨n.toArray⟩,.int .i64 v.k,.int .i64 v.n,.string v.s,.slice ad an ac],27)])) (fun _ _ _ _ kv _ _=>sc.length - (intOf kv).toNat)
 case atStart=>exact⟨0,0,[],none,0,rfl,rfl,rfl,by omega,by show _=_;simp,HT0.out,World.ownsRow_nil _ _ _ _,S1.out⟩
 case round=>
  clear HT0 S1;obtain⟨k,p,acc,fa,fc,rfl,rfl,rfl,hk,HP,HM,HO,S1⟩:=hrel;by_cases hlt:k<sc.length
  ·obtain⟨a,hx⟩:∃x,sc[k]?=some x:=⟨sc[k],by simp[hlt]⟩;obtain⟨b,o,cap,cs,hbo,hin,hat⟩:=HT.out.at hx;injection hbo with e1 _ e2;subst e1;subst e2;obtain⟨ca,cc,ia,ic,ka,kc,rfl,hcols⟩:=hin;have x0:=S1.out.below.cell_kept (hat 0 _ rfl);have x1:=S1.out.below.cell_kept (hat 1 _ rfl);have x2:=S1.out.below.cell_kept (hat 2 _ rfl);have x3:=S1.out.below.cell_kept (hat 3 _ rfl);simp only[show tblE.k=4 from rfl,Nat.add_zero]at x0 x1 x2 x3;have HC:=Lib.hid hcols;have hdr:sc.drop k=a::sc.drop (k+1):=by
    obtain⟨h1,rfl⟩:=List.getElem?_eq_some_iff.1 hx;exact List.drop_eq_getElem_cons h1
   have hp0:=HP.out;have hm0:=HM.out;rw[hdr,<- Ju]at hp0 hm0;have HP1:=Lib.hid hp0;have HM1:=Lib.hid hm0;have hcl:a.cols.length<=1000000:=by
    have h1:=HP1.out;unfold restC at h1;simp only[List.drop_zero,List.length_append,List.length_map]at h1;omega
   have HO0:=Lib.hid (HO.out.later ((Below.refl _ _).alloc (Nat.le_refl _) (.cells #[.string ⟨a.name.toArray⟩,.slice ca a.cols.length cc,.slice ia a.indexes.length ic,.slice ka a.checks.length kc] 36)));have HN0:Hid (notAt wr.heap.size (.slice fa acc.length fc)):=fun g hg=>by have:=(World.ownsRow.lt HO.out g hg).2;omega
   clear hp0 hm0 hdr HP HM hat hx hcols;go_upto_region 8 with fail;refine Af (fun W=>St w W [(wr.heap.size,#[.string ⟨a.name.toArray⟩,.slice ca a.cols.length cc,.slice ia a.indexes.length ic,.slice ka a.checks.length kc],36),(w.heap.size+1,#[.int .i64 0,.int .i64 0,.int .i64 0,.int .i64 0,.string ⟨#[]⟩,.slice none 0 0],49),(w.heap.size,#[.int .i64 1,.string ⟨t.toArray⟩,.string ⟨n.toArray⟩,.int .i64 v.k,.int .i64 v.n,.string v.s,.slice ad an ac],27)]/\W.ownsRow (w.heap.size+2) 3 1 (.slice fa acc.length fc) acc.length (intVals acc)) ⟨St.alloc S1.out,HO0.out⟩ ?_;clear HO0 S1 HO x0 x1 x2 x3;rintro w2 ⟨S2',HO2'⟩;have S2:=Lib.hid S2';have HO2:=Lib.hid HO2';clear S2' HO2';generalize wr.heap.size=bt at *
   go_loopw [6,7,11,29] (fun fv av _ jv wq=>∃(j q:Nat) (acc:List Int) (fa:Option Addr) (fc:Nat),fv=.slice fa acc.length fc/\av=.int .i64 q/\jv=.int .i64 j/\j<=a.cols.length/\Hid (q+(restC a j (sc.drop (k+1))).length=(flatC sc).length)/\Hid (tot=acc++fndC t n q (restC a j (sc.drop (k+1))))/\Hid (wq.ownsRow (w.heap.size+2) 3 1 (.slice fa acc.length fc) acc.length (intVals acc))/\Hid (notAt bt (.slice fa acc.length fc))/\Hid (St w wq [(bt,#[.string ⟨a.name.toArray⟩,.slice ca a.cols.length cc,.slice ia a.indexes.length ic,.slice ka a.checks.length kc],36),(w.heap.size+1,#[.int .i64 0,.int .i64 0,.int .i64 0,.int .i64 0,.string ⟨#[]⟩,.slice none 0 0],49),(w.heap.size,#[.int .i64 1,.string ⟨t.toArray⟩,.string ⟨n.toArray⟩,.int .i64 v.k,.int .i64 v.n,.string v.s,.slice ad an ac],27)])) (fun _ _ _ jv _=>a.cols.length - (intOf jv).toNat)
   case atStart=>exact⟨0,p,acc,fa,fc,rfl,rfl,rfl,by omega,HP1.out,HM1.out,HO2.out,HN0.out,S2.out⟩
   case round=>
    clear HP1 HM1 HO2 HN0 S2;obtain⟨j,q,ac2,fa2,fc2,rfl,rfl,rfl,hj,HP,HM,HO,HN,S3⟩:=hrel;by_cases hlj:j<a.cols.length
    ·obtain⟨c,hx⟩:∃x,a.cols[j]?=some x:=⟨a.cols[j],by simp[hlj]⟩;obtain⟨b2,o2,cap2,cs2,hbo2,hin2,hat2⟩:=HC.out.at hx;injection hbo2 with e1 _ e2;subst e1;subst e2;have hin3:cs2=c.cells:=hin2;subst hin3;have y0:=S3.out.below.cell_kept (hat2 0 _ rfl);have y1:=S3.out.below.cell_kept (hat2 1 _ rfl);have y2:=S3.out.below.cell_kept (hat2 2 _ rfl);simp only[show colE.k=3 from rfl,Nat.add_zero]at y0 y1 y2;have hp0:=HP.out;have hm0:=HM.out;rw[Jv _ _ _ _ hx]at hp0 hm0;have hq:q<1000000:=by
      have h1:=hp0;simp only[List.length_cons]at h1;omega
     have hpn:q+1+(restC a (j+1) (sc.drop (k+1))).length=(flatC sc).length:=by
      have h1:=hp0;simp only[List.length_cons]at h1;omega
     have HP1:=Lib.hid hpn;have hac:ac2.length+(fndC t n q ((a.name,c.name)::restC a (j+1) (sc.drop (k+1)))).length<=1000000:=by
      have h1:=HTL.out;rw[hm0]at h1;simpa using h1
     clear hp0 hpn HP HM hat2 hx hin2;have F3:=S3.out.facts;simp only[St.Facts,cellFacts,apartFacts,and_true]at F3
     cases h1:c.name==n with
     | false=>
      have hh:hitC t n (a.name,c.name)=false:=by unfold hitC;rw[h1];rfl
      rw[Db _ _ _ _ _ hh]at hm0;have HM1:=Lib.hid hm0;clear hm0 hh hac;go_upto_region 12 with fail;exact N3
     | true=>
      cases h2:t==[]with
      | true=>
       have hh:hitC t n (a.name,c.name)=true:=by unfold hitC;rw[h1,h2];rfl
       go_upto_region 11 with fail;exact Sm
      | false=>
       cases h3:t==a.name with
       | true=>
        have hh:hitC t n (a.name,c.name)=true:=by unfold hitC;rw[h1,h2,h3];rfl
        go_upto_region 11 with fail;exact Sm
       | false=>
        have hh:hitC t n (a.name,c.name)=false:=by unfold hitC;rw[h1,h2,h3];rfl
        rw[Db _ _ _ _ _ hh]at hm0;have HM1:=Lib.hid hm0;clear hm0 hh hac;go_upto_region 12 with fail;exact N3
    ·obtain rfl:j=a.cols.length:=by omega
     have hp0:=HP.out;have hm0:=HM.out;rw[Lr]at hp0 hm0;have hq:q<=1000000:=by omega
     have HP1:=Lib.hid hp0;have HM1:=Lib.hid hm0;clear HP HM hp0 hm0;go_wp2_with fail;go_roundw
     case rel=>exact⟨k+1,q,ac2,fa2,fc2,rfl,rfl,by go_num,by omega,HP1.out,HM1.out,HO.out,St.tail S3.out⟩
     case measure=>simp[intOf];omega
  ·obtain rfl:k=sc.length:=by omega
   have hm0:=HM.out;rw[List.drop_length]at hm0;have hm1:tot=acc:=by rw[hm0];simp[flatC,fndC]
   subst hm1;clear hm0 HM HP;obtain⟨oa,oc,hsl,hoc,hoat⟩:=World.ownsRow.slAt HO.out;injection hsl with e1 _ e2;subst e1;subst e2;have hbr:=S1.out.blk 0 rfl;rcases tot with _|⟨i,_|⟨i2,l⟩⟩
   ·go_wp2_with(refine wpList_store_row rfl 49 (.tmp 4) (.tmp 62) rfl (w.heap.size+1) #[.int .i64 0,.int .i64 0,.int .i64 0,.int .i64 0,.string ⟨#[]⟩,.slice none 0 0] rfl rfl 49 #[.int .i64 0,.int .i64 0,.int .i64 0,.int .i64 0,.string ⟨#[]⟩,.slice none 0 0] hbr Bx rfl (by simp[Value.oneCell']) ?_);refine Dw (fun W=>St w W _) (St.row 0 #[.int .i64 0,.int .i64 0,.int .i64 0,.int .i64 0,.string ⟨#[]⟩,.slice none 0 0] S1.out rfl) ?_;intro w9 S9';have S9:=Lib.hid S9';clear S9';have F9:w9.heap[w.heap.size+1]?=some (.cells #[.int .i64 0,.int .i64 0,.int .i64 0,.int .i64 0,.string ⟨#[]⟩,.slice none 0 0] 49 (0,0)):=S9.out.blk 0 rfl;have c0:w9.cell? ⟨w.heap.size+1,0,none⟩=some (.int .i64 0):=by simp only[World.cell?,F9];rfl
    have c1:w9.cell? ⟨w.heap.size+1,1,none⟩=some (.int .i64 0):=by simp only[World.cell?,F9];rfl
    have c2:w9.cell? ⟨w.heap.size+1,2,none⟩=some (.int .i64 0):=by simp only[World.cell?,F9];rfl
    have c3:w9.cell? ⟨w.heap.size+1,3,none⟩=some (.int .i64 0):=by simp only[World.cell?,F9];rfl
    have c4:w9.cell? ⟨w.heap.size+1,4,none⟩=some (.string ⟨#[]⟩):=by simp only[World.cell?,F9];rfl
    have c5:w9.cell? ⟨w.heap.size+1,5,none⟩=some (.slice none 0 0):=by simp only[World.cell?,F9];rfl
    refine bodyPost_ret (v:=.tuple #[.agg #[.int .i64 0,.int .i64 0,.int .i64 0,.int .i64 0,.string ⟨#[]⟩,.slice none 0 0],.int .i64 5]) (by simp[results,results9,go_sem,c0,c1,c2,c3,c4,c5]) rfl ?_;exact⟨_,rfl,Cj _ _ 0 0 V.null,S9.out.below⟩
   ·obtain⟨b3,o3,rfl,hat3⟩:=hoat (by simp);have z0:=hat3 0 (.int .i64 i) rfl;simp only[Nat.add_zero]at z0;go_wp2_with(refine wpList_store_row rfl 49 (.tmp 4) (.tmp 68) rfl (w.heap.size+1) #[.int .i64 1,.int .i64 i,.int .i64 0,.int .i64 0,.string ⟨#[]⟩,.slice none 0 0] rfl rfl 49 #[.int .i64 0,.int .i64 0,.int .i64 0,.int .i64 0,.string ⟨#[]⟩,.slice none 0 0] hbr Bx rfl (by simp[Value.oneCell']) ?_);refine Dw (fun W=>St w W _) (St.row 0 #[.int .i64 1,.int .i64 i,.int .i64 0,.int .i64 0,.string ⟨#[]⟩,.slice none 0 0] S1.out rfl) ?_;intro w9 S9';have S9:=Lib.hid S9';clear S9';have F9:w9.heap[w.heap.size+1]?=some (.cells #[.int .i64 1,.int .i64 i,.int .i64 0,.int .i64 0,.string ⟨#[]⟩,.slice none 0 0] 49 (0,0)):=S9.out.blk 0 rfl;have c0:w9.cell? ⟨w.heap.size+1,0,none⟩=some (.int .i64 1):=by simp only[World.cell?,F9];rfl
    have c1:w9.cell? ⟨w.heap.size+1,1,none⟩=some (.int .i64 i):=by simp only[World.cell?,F9];rfl
    have c2:w9.cell? ⟨w.heap.size+1,2,none⟩=some (.int .i64 0):=by simp only[World.cell?,F9];rfl
    have c3:w9.cell? ⟨w.heap.size+1,3,none⟩=some (.int .i64 0):=by simp only[World.cell?,F9];rfl
    have c4:w9.cell? ⟨w.heap.size+1,4,none⟩=some (.string ⟨#[]⟩):=by simp only[World.cell?,F9];rfl
    have c5:w9.cell? ⟨w.heap.size+1,5,none⟩=some (.slice none 0 0):=by simp only[World.cell?,F9];rfl
    refine bodyPost_ret (v:=.tuple #[.agg #[.int .i64 1,.int .i64 i,.int .i64 0,.int .i64 0,.string ⟨#[]⟩,.slice none 0 0],.int .i64 0]) (by simp[results,results9,go_sem,c0,c1,c2,c3,c4,c5]) rfl ?_;exact⟨_,rfl,Cj _ _ 1 i V.null,S9.out.below⟩
   ·have h0:(((i::i2::l).length:Nat):Int)=(l.length:Int)+2:=by simp;omega
    have h1:((((i::i2::l).length:Nat):Int)==0)=false:=by rw[h0];simp;omega
    have h2:((((i::i2::l).length:Nat):Int)==1)=false:=by rw[h0];simp;omega
    go_wp2_with(refine wpList_store_row rfl 49 (.tmp 4) (.tmp 69) rfl (w.heap.size+1) #[.int .i64 0,.int .i64 0,.int .i64 0,.int .i64 0,.string ⟨#[]⟩,.slice none 0 0] rfl rfl 49 #[.int .i64 0,.int .i64 0,.int .i64 0,.int .i64 0,.string ⟨#[]⟩,.slice none 0 0] hbr Bx rfl (by simp[Value.oneCell']) ?_);refine Dw (fun W=>St w W _) (St.row 0 #[.int .i64 0,.int .i64 0,.int .i64 0,.int .i64 0,.string ⟨#[]⟩,.slice none 0 0] S1.out rfl) ?_;intro w9 S9';have S9:=Lib.hid S9';clear S9';have F9:w9.heap[w.heap.size+1]?=some (.cells #[.int .i64 0,.int .i64 0,.int .i64 0,.int .i64 0,.string ⟨#[]⟩,.slice none 0 0] 49 (0,0)):=S9.out.blk 0 rfl;have c0:w9.cell? ⟨w.heap.size+1,0,none⟩=some (.int .i64 0):=by simp only[World.cell?,F9];rfl
    have c1:w9.cell? ⟨w.heap.size+1,1,none⟩=some (.int .i64 0):=by simp only[World.cell?,F9];rfl
    have c2:w9.cell? ⟨w.heap.size+1,2,none⟩=some (.int .i64 0):=by simp only[World.cell?,F9];rfl
    have c3:w9.cell? ⟨w.heap.size+1,3,none⟩=some (.int .i64 0):=by simp only[World.cell?,F9];rfl
    have c4:w9.cell? ⟨w.heap.size+1,4,none⟩=some (.string ⟨#[]⟩):=by simp only[World.cell?,F9];rfl
    have c5:w9.cell? ⟨w.heap.size+1,5,none⟩=some (.slice none 0 0):=by simp only[World.cell?,F9];rfl
    refine bodyPost_ret (v:=.tuple #[.agg #[.int .i64 0,.int .i64 0,.int .i64 0,.int .i64 0,.string ⟨#[]⟩,.slice none 0 0],.int .i64 6]) (by simp[results,results9,go_sem,c0,c1,c2,c3,c4,c5]) rfl ?_;exact⟨_,rfl,Cj _ _ 0 0 V.null,S9.out.below⟩
theorem Uw {l:List Int} {k:Int} (h:pickC l=.error k):k≠0:=by
 rcases l with _|⟨a,_|⟨b,l⟩⟩
 ·injection h with h;omega
 ·cases h
 ·injection h with h;omega
theorem Zl (sc:List (Bytes×Bytes)):∀e:Ex,∀k,Ex.res sc e=.error k->k≠0:=by
 refine Ex.ind fun op t n v args ih=>?_;intro k h;have key:∀l:List Ex,(∀a∈l,∀k,Ex.res sc a=.error k->k≠0)->∀k,resL sc l=.error k->k≠0:=by
  intro l
  induction l with
  | nil=>intro _ k h;cases h
  | cons a l ihl=>
   intro hl k h;unfold resL at h
   cases h1:Ex.res sc a with
   | error x=>
    rw[h1]at h;injection h with h;subst h;exact hl a (by simp) _ h1
   | ok x=>
    rw[h1]at h
    cases h2:resL sc l with
    | error y=>
     rw[h2]at h;injection h with h;subst h;exact ihl (fun d hd=>hl d (by simp[hd])) _ h2
    | ok y=>rw[h2]at h;cases h
 by_cases ho:op=1
 ·subst ho;rw[G8]at h;exact Uw h
 ·rw[Jw _ _ _ _ _ _ ho]at h
  cases h2:resL sc args with
  | error y=>
   rw[h2]at h;injection h with h;subst h;exact key args ih _ h2
  | ok y=>rw[h2]at h;cases h
theorem N2 (Q R:Nat->Prop) (sc:List Tbl) (hs:sc.length<=1000000) (hf:(flatC sc).length<=1000000):∀e:Ex,e.brief->∀(tv:Value) (cs:List Value) (w:World),RSl tblE Q w tv sc->ExIn R w e cs ->
 Calls prog 9 #[tv,.agg cs.toArray] w (ResPost w (Ex.res (flatC sc) e)):=by
 refine Ex.ind fun op t n v args ih=>?_
 intro hbr tv cs w ht he
 obtain⟨a,rfl,hsl⟩:=A6 he
 have hsl2:=Az hsl
 obtain⟨ad,ac,rfl⟩:=hsl2.slice
 by_cases ho:op=1
 ·subst ho;rw[G8];exact N1 Q sc tv t n v ad args.length ac w ht hs hf
 ·rw[Jw _ _ _ _ _ _ ho];obtain⟨tot,htot⟩:∃tot,joinX op v [] (resL (flatC sc) args)=tot:=⟨_,rfl⟩;rw[htot];have HM0:Hid (tot=joinX op v [] (resL (flatC sc) (args.drop 0))):=htot.symm;have hal:args.length<=1000000:=hbr.1;have hob:(op==(1:Int))=false:=by simpa using ho
  obtain⟨ta,tc,rfl⟩:=ht.slice;have IH:=Lib.hid (fun(e':Ex) (hm:e'∈args) (cs':List Value) (he':ExIn R w e' cs') (W:World) (hb:Below w.heap.size w W)=>ih e' hm (Gu hbr.2 e' hm) _ cs' W (RSl.kept (by decide) ht hb) (he'.kept hb));have HS:=Lib.hid hsl2;clear ih hbr he ht hsl hsl2 htot ho;go_enter func9,ntmps9;go_upto_region 1 with fail;refine St.gen (St.alloc (St.alloc (St.start _))) ?_;intro w1 S1;try(simp only[List.set_cons_zero,List.set_cons_succ,List.setIfInBounds_toArray,World.size_alloc]at S1)
  have F1:=S1.out.facts;simp only[St.Facts,cellFacts,apartFacts,and_true]at F1;go_upto_region 22 with fail;have hbo:w.heap.size+1<w1.heap.size:=(Array.getElem?_eq_some_iff.1 (S1.out.blk 0 rfl)).1;refine St.gen (St.alloc (S1.out)) ?_;intro w2 S2;try(simp only[List.set_cons_zero,List.set_cons_succ,List.setIfInBounds_toArray,World.size_alloc]at S2)
  clear S1 F1;generalize w1.heap.size=bo at *;have F2:=S2.out.facts;simp only[St.Facts,cellFacts,apartFacts,and_true]at F2;go_upto_region 23 with fail;clear F2;go_loopw [14,15,16,78] (fun _ _ _ kv wr=>∃(k:Nat) (acc:List Xp) (oa:Option Addr) (oc:Nat),kv=.int .i64 k/\k<=args.length/\Hid (acc.length=k)/\Hid (tot=joinX op v acc (resL (flatC sc) (args.drop k)))/\Hid (St w wr [(bo,#[.int .i64 op,.int .i64 0,.int .i64 v.k,.int .i64 v.n,.string v.s,.slice oa acc.length oc],49),(w.heap.size+1,#[.int .i64 0,.int .i64 0,.int .i64 0,.int .i64 0,.string ⟨#[]⟩,.slice none 0 0],49),(w.heap.size,#[.int .i64 op,.string ⟨t.toArray⟩,.string ⟨n.toArray⟩,.int .i64 v.k,.int .i64 v.n,.string v.s,.slice ad args.length ac],27)])/\Hid (LRow xpE 49 (bo+1) wr acc (.slice oa acc.length oc))) (fun _ _ _ kv _=>args.length - (intOf kv).toNat)
  case atStart=>exact⟨0,[],none,0,rfl,by omega,rfl,HM0.out,S2.out,⟨[],World.ownsRow_nil _ _ _ _,rfl⟩⟩
  case round=>
   clear HM0 S2;obtain⟨k,acc,oa,oc,rfl,hk,HK,HM,S2,HL⟩:=hrel;by_cases hlt:k<args.length
   ·obtain⟨e',hx⟩:∃x,args[k]?=some x:=⟨args[k],by simp[hlt]⟩;obtain⟨b,o,cap,cs,hbo,hin,hat⟩:=HS.out.at hx;injection hbo with e1 _ e2;subst e1;subst e2;have HI:=Lib.hid (IH.out e' (List.mem_of_getElem? hx) cs hin);have hdr:args.drop k=e'::args.drop (k+1):=by
     obtain⟨h1,rfl⟩:=List.getElem?_eq_some_iff.1 hx;exact List.drop_eq_getElem_cons h1
    have hm0:=HM.out;rw[hdr]at hm0;obtain⟨res,hres⟩:∃r,Ex.res (flatC sc) e'=r:=⟨_,rfl⟩;rw[hres]at HI;have HR:=Lib.hid hres;have HM1:=Lib.hid hm0;obtain⟨op2,t2,n2,v2,args2⟩:=e';obtain⟨a2,rfl,hsl3⟩:=A6 hin;obtain⟨ad2,ac2,rfl⟩:=(Az hsl3).slice;have x0:=S2.out.below.cell_kept (hat 0 _ rfl);have x1:=S2.out.below.cell_kept (hat 1 _ rfl);have x2:=S2.out.below.cell_kept (hat 2 _ rfl);have x3:=S2.out.below.cell_kept (hat 3 _ rfl);have x4:=S2.out.below.cell_kept (hat 4 _ rfl);have x5:=S2.out.below.cell_kept (hat 5 _ rfl);have x6:=S2.out.below.cell_kept (hat 6 _ rfl);simp only[show exE.k=7 from rfl,Nat.add_zero]at x0 x1 x2 x3 x4 x5 x6;clear hin hat hsl3 hx hdr hm0 HM hres;go_upto_region 25 with fail;refine Af (fun W=>St w W [(wr.heap.size,#[.int .i64 op2,.string ⟨t2.toArray⟩,.string ⟨n2.toArray⟩,.int .i64 v2.k,.int .i64 v2.n,.string v2.s,.slice ad2 args2.length ac2],27),(bo,#[.int .i64 op,.int .i64 0,.int .i64 v.k,.int .i64 v.n,.string v.s,.slice oa acc.length oc],49),(w.heap.size+1,#[.int .i64 0,.int .i64 0,.int .i64 0,.int .i64 0,.string ⟨#[]⟩,.slice none 0 0],49),(w.heap.size,#[.int .i64 op,.string ⟨t.toArray⟩,.string ⟨n.toArray⟩,.int .i64 v.k,.int .i64 v.n,.string v.s,.slice (some ⟨b,o,none⟩) args.length ac],27)]/\LRow xpE 49 (bo+1) W acc (.slice oa acc.length oc)) ⟨St.alloc S2.out,HL.out.kept ((Below.refl _ _).alloc (Nat.le_refl _) _)⟩ ?_;clear S2 HL x0 x1 x2 x3 x4 x5 x6;rintro w3 ⟨S3',HL3'⟩;have S3:=Lib.hid S3';have HL3:=Lib.hid HL3';clear S3' HL3';generalize wr.heap.size=bt at *
    have F3:=S3.out.facts;simp only[St.Facts,cellFacts,apartFacts,and_true]at F3;go_wp2_with fail;refine Calls.mono (HI.out w3 S3.out.below) ?_;rintro e w4 ⟨xcs,hxe,hxi,hb4⟩;have S4:=Lib.hid (S3.out.kept hb4);have HL4:=Lib.hid (HL3.out.kept hb4);have hw3:=hb4.size;clear HI F3 hb4
    cases res with
    | error kk=>
     obtain rfl:e=.returned (.tuple #[.agg xcs.toArray,.int .i64 kk]):=hxe;have hkb:(kk != 0)=true:=by simpa using Zl _ _ _ HR.out
     have HT:Hid (tot=.error kk):=HM1.out.trans (Vd _ _ _ _ _ _ _ HR.out);obtain⟨xa0,rfl,hx2⟩:=Ai.1 (show XpIn _ _ (.mk 0 0 V.null []) _ from hxi);obtain⟨xa,xc,rfl⟩:=hx2.slice;clear S3 HL3 HL4 HR HM1 hxi hx2;go_wp2_with(refine wpList_store_row rfl 49 (.tmp 4) (.tmp 90) rfl (w.heap.size+1) #[.int .i64 0,.int .i64 0,.int .i64 0,.int .i64 0,.string ⟨#[]⟩,.slice none 0 0] rfl rfl 49 #[.int .i64 0,.int .i64 0,.int .i64 0,.int .i64 0,.string ⟨#[]⟩,.slice none 0 0] ((St.laid S4.out).blk 2 rfl) Bx rfl (by simp[Value.oneCell']) ?_);refine Dw (fun W=>St w W _) (St.row 2 #[.int .i64 0,.int .i64 0,.int .i64 0,.int .i64 0,.string ⟨#[]⟩,.slice none 0 0] (St.laid S4.out) rfl) ?_;intro w9 S9';have S9:=Lib.hid S9';clear S9';have F9:w9.heap[w.heap.size+1]?=some (.cells #[.int .i64 0,.int .i64 0,.int .i64 0,.int .i64 0,.string ⟨#[]⟩,.slice none 0 0] 49 (0,0)):=S9.out.blk 2 rfl;have c0:w9.cell? ⟨w.heap.size+1,0,none⟩=some (.int .i64 0):=by simp only[World.cell?,F9];rfl
     have c1:w9.cell? ⟨w.heap.size+1,1,none⟩=some (.int .i64 0):=by simp only[World.cell?,F9];rfl
     have c2:w9.cell? ⟨w.heap.size+1,2,none⟩=some (.int .i64 0):=by simp only[World.cell?,F9];rfl
     have c3:w9.cell? ⟨w.heap.size+1,3,none⟩=some (.int .i64 0):=by simp only[World.cell?,F9];rfl
     have c4:w9.cell? ⟨w.heap.size+1,4,none⟩=some (.string ⟨#[]⟩):=by simp only[World.cell?,F9];rfl
     have c5:w9.cell? ⟨w.heap.size+1,5,none⟩=some (.slice none 0 0):=by simp only[World.cell?,F9];rfl
     rw[HT.out];refine bodyPost_ret (v:=.tuple #[.agg #[.int .i64 0,.int .i64 0,.int .i64 0,.int .i64 0,.string ⟨#[]⟩,.slice none 0 0],.int .i64 kk]) (by simp[results,results9,go_sem,c0,c1,c2,c3,c4,c5]) rfl ?_;exact⟨_,rfl,Cj _ _ 0 0 V.null,S9.out.below⟩
    | ok x=>
     obtain rfl:e=.returned (.tuple #[.agg xcs.toArray,.int .i64 0]):=hxe;have HT:Hid (tot=joinX op v (acc++[x]) (resL (flatC sc) (args.drop (k+1)))):=HM1.out.trans (X3 _ _ _ _ _ _ _ HR.out);obtain⟨xop,xn,xv,xargs⟩:=x;have hxi2:XpIn (w3.heap.size≤·) w4 (.mk xop xn xv xargs) xcs:=hxi;obtain⟨xa0,rfl,hx2⟩:=Ai.1 hxi2;obtain⟨xa,xc,rfl⟩:=hx2.slice;have HG:Hid (∀g,(Value.slice oa acc.length oc).ownBlock=some g->g<w3.heap.size):=fun g hg=>by
      obtain⟨acs2,h2,_⟩:=HL3.out;exact(World.ownsRow.lt h2 g hg).2
     have hbo3:bo<w3.heap.size:=(Array.getElem?_eq_some_iff.1 (S3.out.blk 1 rfl)).1;clear S3 HL3 HR HM1 hxi hx2;go_upto_region 28 with fail;refine Af (fun W=>St w W [(w4.heap.size,#[.int .i64 xop,.int .i64 xn,.int .i64 xv.k,.int .i64 xv.n,.string xv.s,.slice xa xargs.length xc],49),(bt,#[.int .i64 op2,.string ⟨t2.toArray⟩,.string ⟨n2.toArray⟩,.int .i64 v2.k,.int .i64 v2.n,.string v2.s,.slice ad2 args2.length ac2],27),(bo,#[.int .i64 op,.int .i64 0,.int .i64 v.k,.int .i64 v.n,.string v.s,.slice oa acc.length oc],49),(w.heap.size+1,#[.int .i64 0,.int .i64 0,.int .i64 0,.int .i64 0,.string ⟨#[]⟩,.slice none 0 0],49),(w.heap.size,#[.int .i64 op,.string ⟨t.toArray⟩,.string ⟨n.toArray⟩,.int .i64 v.k,.int .i64 v.n,.string v.s,.slice (some ⟨b,o,none⟩) args.length ac],27)]/\LRow xpE 49 (bo+1) W acc (.slice oa acc.length oc)/\XpIn (w3.heap.size≤·) W (.mk xop xn xv xargs) [.int .i64 xop,.int .i64 xn,.int .i64 xv.k,.int .i64 xv.n,.string xv.s,.slice xa xargs.length xc]) ⟨St.alloc S4.out,HL4.out.kept ((Below.refl _ _).alloc (Nat.le_refl _) _),Au (fun b hb hq=>⟨hq,((Below.refl w4.heap.size w4).alloc (Nat.le_refl _) _).block b hb⟩) _ _ hxi2⟩ ?_;clear S4 HL4 hxi2;rintro w5 ⟨S5',HL5',HX5'⟩;have S5:=Lib.hid S5';have HE:=Lib.hid HX5';obtain⟨acs,hown,hin⟩:=HL5';have HO:=Lib.hid hown;have HI:=Lib.hid hin;clear S5' HX5' hown hin;generalize w4.heap.size=bx at *;have hbo5:bo<w5.heap.size:=(Array.getElem?_eq_some_iff.1 (S5.out.blk 2 rfl)).1;have hkk:acc.length<=k:=Nat.le_of_eq HK.out;have F5:=S5.out.facts
     simp only[St.Facts,cellFacts,apartFacts,and_true]at F5;go_wp2_with(at_builtin;go_must (refine A9 rfl _ _ 47 rfl 49 (.agg #[.int .i64 0,.int .i64 0,.int .i64 0,.int .i64 0,.string ⟨#[]⟩,.slice none 0 0]) 6 72 underlying47 Ra rfl (by decide) (bo+1) (.slice oa acc.length oc) acc.length acs rfl HO.out #[.int .i64 xop,.int .i64 xn,.int .i64 xv.k,.int .i64 xv.n,.string xv.s,.slice xa xargs.length xc] 1 w5.heap.size (by simp) rfl rfl (by simp[Value.oneCell']) (by omega) (by unfold maxLen;omega) (by omega) ?_));intro v6 w6 hown6 hg6 hw6;have HA6:Hid (LRow xpE 49 (bo+1) w6 (acc++[.mk xop xn xv xargs]) v6):=LRow.add (C:=w3.heap.size) (by omega) HG.out HO.out HI.out HE.out hown6 hg6 hw6;have S6:Hid (St w w6 [(bo,#[.int .i64 op,.int .i64 0,.int .i64 v.k,.int .i64 v.n,.string v.s,.slice oa acc.length oc],49),(w.heap.size+1,#[.int .i64 0,.int .i64 0,.int .i64 0,.int .i64 0,.string ⟨#[]⟩,.slice none 0 0],49),(w.heap.size,#[.int .i64 op,.string ⟨t.toArray⟩,.string ⟨n.toArray⟩,.int .i64 v.k,.int .i64 v.n,.string v.s,.slice (some ⟨b,o,none⟩) args.length ac],27)]):=(St.tail (St.tail S5.out)).turned (Turn.of_grown hg6) (fun i h=>by have:=(World.ownsRow.lt HO.out i h).1;omega) (fun x hx h=>by
      have h1:=(World.ownsRow.lt HO.out _ h).1;simp only[List.mem_cons,List.not_mem_nil,or_false]at hx;rcases hx with rfl|rfl|rfl
      all_goals(simp only at h1;omega))
     obtain⟨a6,c6,rfl⟩:=HA6.out.slice;clear hown6 hg6 hw6 S5 F5 HE HO HI HG;have F6:=S6.out.facts;simp only[St.Facts,cellFacts,apartFacts,and_true]at F6;go_wp2_with fail;go_roundw
     case rel=>exact⟨k+1,acc++[(.mk xop xn xv xargs:Xp)],a6,c6,by go_num,by omega,(by show _=_;rw[List.length_append,HK.out];rfl),HT.out,(by show St _ _ _;rw[List.length_append];exact St.set 0 S6.out rfl),HA6.out.turned (M:=(·=bo)) ((Turn.refl _ _).setCell (.inl rfl)) (fun b hb e=>by omega)⟩
     case measure=>simp[intOf];omega
   ·obtain rfl:k=args.length:=by omega
    have HT:Hid (tot=.ok (.mk op 0 v acc)):=by show _=_;rw[HM.out,List.drop_length,Vc]
    have hbo2:bo<wr.heap.size:=(Array.getElem?_eq_some_iff.1 (S2.out.blk 0 rfl)).1;clear HM HK;go_wp2_with(first|(refine wpList_load_row rfl 49 (.tmp 12) rfl bo rfl 49 #[.int .i64 op,.int .i64 0,.int .i64 v.k,.int .i64 v.n,.string v.s,.slice oa acc.length oc] (0,0) _ (S2.out.blk 0 rfl) underlying49 rfl Bx ?_)|(refine wpList_store_row rfl 49 (.tmp 4) (.tmp 99) rfl (w.heap.size+1) #[.int .i64 op,.int .i64 0,.int .i64 v.k,.int .i64 v.n,.string v.s,.slice oa acc.length oc] rfl rfl 49 #[.int .i64 0,.int .i64 0,.int .i64 0,.int .i64 0,.string ⟨#[]⟩,.slice none 0 0] (S2.out.blk 1 rfl) Bx rfl (by simp[Value.oneCell']) ?_));refine Dw (fun W=>St w W _/\LRow xpE 49 (bo+1) W acc (.slice oa acc.length oc)) ⟨St.row 1 #[.int .i64 op,.int .i64 0,.int .i64 v.k,.int .i64 v.n,.string v.s,.slice oa acc.length oc] S2.out rfl,HL.out.turned (M:=(·=w.heap.size+1)) ((Turn.refl _ _).setRow (.inl rfl)) (fun b hb e=>by omega)⟩ ?_;rintro w9 ⟨S9',HL9⟩;have S9:=Lib.hid S9';clear S9';have F9:w9.heap[w.heap.size+1]?=some (.cells #[.int .i64 op,.int .i64 0,.int .i64 v.k,.int .i64 v.n,.string v.s,.slice oa acc.length oc] 49 (0,0)):=S9.out.blk 1 rfl;have c0:w9.cell? ⟨w.heap.size+1,0,none⟩=some (.int .i64 op):=by simp only[World.cell?,F9];rfl
    have c1:w9.cell? ⟨w.heap.size+1,1,none⟩=some (.int .i64 0):=by simp only[World.cell?,F9];rfl
    have c2:w9.cell? ⟨w.heap.size+1,2,none⟩=some (.int .i64 v.k):=by simp only[World.cell?,F9];rfl
    have c3:w9.cell? ⟨w.heap.size+1,3,none⟩=some (.int .i64 v.n):=by simp only[World.cell?,F9];rfl
    have c4:w9.cell? ⟨w.heap.size+1,4,none⟩=some (.string v.s):=by simp only[World.cell?,F9];rfl
    have c5:w9.cell? ⟨w.heap.size+1,5,none⟩=some (.slice oa acc.length oc):=by simp only[World.cell?,F9];rfl
    rw[HT.out];refine bodyPost_ret (v:=.tuple #[.agg #[.int .i64 op,.int .i64 0,.int .i64 v.k,.int .i64 v.n,.string v.s,.slice oa acc.length oc],.int .i64 0]) (by simp[results,results9,go_sem,c0,c1,c2,c3,c4,c5]) rfl ?_;exact⟨_,rfl,Ai.2 ⟨_,rfl,Bt (LRow.done (by decide) HL9) (by decide) (fun b hb=>by have h:bo+1<=b:=hb;omega)⟩,S9.out.below⟩
structure KiEnd (w W:World) (L:List Blk) (tb:Nat) (Q:Nat->Prop) (lv:Value) (l:List Int):Prop where
 st:St w W L
 cell:W.cell? ⟨tb,0,none⟩=some lv
 row:RSl intE Q W lv l
theorem KiEnd.kept {w W W':World} {L:List Blk} {tb:Nat} {Q:Nat->Prop} {lv:Value} {l:List Int} (h:KiEnd w W L tb Q lv l) (hb:Below W.heap.size W W'):KiEnd w W' L tb Q lv l:=
 ⟨h.st.kept hb,hb.cell_kept h.cell,h.row.kept (by decide) hb⟩
theorem X0 (Q R:Nat->Prop) (kinds:List Int) (hkl:kinds.length<=1000000):∀e:Xp,e.formed=true->e.Wf->∀(kv:Value) (cs:List Value) (w:World),RSl intE Q w kv kinds->XpIn R w e cs ->
 Calls prog 212 #[kv,.agg cs.toArray] w (Says (.tuple #[.int .i64 (Xp.kindX kinds e).1,.int .i64 (Xp.kindX kinds e).2]) w):=by
 refine Xp.ind fun op n v args ih=>?_
 intro hfm hwf kv cs w hv hin
 have hal:args.length<=1000000:=(Be _ hfm).1
 obtain⟨a,rfl,hsl⟩:=Ai.1 hin
 obtain⟨ad,ac,rfl⟩:=hsl.slice
 obtain⟨ka,kc,rfl⟩:=hv.slice
 have IH:=Lib.hid (fun(x:Xp) (hm:x∈args) (xcs:List Value) (W:World) (hb:Below w.heap.size w W) (hx:XpIn R W x xcs)=>ih x hm (Ec hfm x hm) (Lc hwf.2 x hm) _ xcs W (hv.kept (by decide) hb) hx)
 have HS:=Lib.hid hsl
 have HV:=Lib.hid hv
 have HFM:=Lib.hid hfm
 have CR:=Lib.hid (fun W=>Fp v hwf.1 W)
 obtain⟨tot,htot⟩:∃tot,Xp.kindX kinds (.mk op n v args)=tot:=⟨_,rfl⟩
 rw[htot]
 have HM0:Hid (tot=kindJ kinds op n v [] (kindXs kinds (args.drop 0))):=by show _=_;rw[<- htot,X1];rfl
 clear ih hfm hwf hin hsl hv htot
 go_enter func212,ntmps212
 go_upto_region 2 with fail
 refine St.gen (St.alloc (St.alloc (St.start _))) ?_
 intro w1 S1
 try(simp only[List.set_cons_zero,List.set_cons_succ,List.setIfInBounds_toArray,World.size_alloc]at S1)
 have F1:=S1.out.facts
 simp only[St.Facts,cellFacts,apartFacts,and_true]at F1
 go_upto_region 3 with fail
 clear F1
 have hb10:w.heap.size+1<w1.heap.size:=(Array.getElem?_eq_some_iff.1 (S1.out.blk 0 rfl)).1
 go_loopw [8,9,10,15] (fun _ _ _ iv wr=>∃(k:Nat) (acc:List Int) (oa:Option Addr) (oc:Nat),iv=.int .i64 k/\k<=args.length/\Hid (acc.length=k)/\Hid (tot=kindJ kinds op n v acc (kindXs kinds (args.drop k)))/\Hid (St w wr [(w.heap.size+1,#[.slice oa acc.length oc],55),(w.heap.size,#[.int .i64 op,.int .i64 n,.int .i64 v.k,.int .i64 v.n,.string v.s,.slice ad args.length ac],49)])/\Hid (LRow intE 3 (w.heap.size+2) wr acc (.slice oa acc.length oc))) (fun _ _ _ iv _=>args.length - (intOf iv).toNat)
 case atStart=>exact⟨0,[],none,0,rfl,by omega,rfl,HM0.out,S1.out,⟨[],World.ownsRow_nil _ _ _ _,rfl⟩⟩
 case round=>
  clear HM0 S1;obtain⟨k,acc,oa,oc,rfl,hk,HK,HM,S2,HL⟩:=hrel;by_cases hlt:k<args.length
  ·obtain⟨x,hx⟩:∃x,args[k]?=some x:=⟨args[k],by simp[hlt]⟩;obtain⟨b,o,cap,cs,hbo,hxin,hat⟩:=(HS.out.kept (by decide) S2.out.below).at hx;injection hbo with e1 _ e2;subst e1;subst e2;have hdr:args.drop k=x::args.drop (k+1):=by
    obtain⟨h1,rfl⟩:=List.getElem?_eq_some_iff.1 hx;exact List.drop_eq_getElem_cons h1
   have hm0:=HM.out;rw[hdr]at hm0;have HI:Hid (∀W,Below wr.heap.size wr W->Calls prog 212 #[.slice ka kinds.length kc,.agg cs.toArray] W (Says (.tuple #[.int .i64 (Xp.kindX kinds x).1,.int .i64 (Xp.kindX kinds x).2]) W)):=fun W hb=>IH.out x (List.mem_of_getElem? hx) cs W (S2.out.below.step hb) (xpE.move (fun b hl k=>⟨k,hb.block b hl⟩) hxin);have HME:Hid ((Xp.kindX kinds x).2≠0->tot=(0,(Xp.kindX kinds x).2)):=fun h=>hm0.trans (Vb _ _ _ _ _ _ _ h);have HMO:Hid ((Xp.kindX kinds x).2=0->tot=kindJ kinds op n v (acc++[(Xp.kindX kinds x).1]) (kindXs kinds (args.drop (k+1)))):=fun h=>hm0.trans (X2 _ _ _ _ _ _ _ h);generalize (Xp.kindX kinds x).1=rk at *;generalize (Xp.kindX kinds x).2=re at *;obtain⟨op2,n2,v2,args2⟩:=x;obtain⟨a2,rfl,hsl3⟩:=Ai.1 (show XpIn R wr (.mk op2 n2 v2 args2) cs from hxin);obtain⟨ad2,ac2,rfl⟩:=hsl3.slice;have x0:=hat 0 _ rfl;have x1:=hat 1 _ rfl;have x2:=hat 2 _ rfl;have x3:=hat 3 _ rfl;have x4:=hat 4 _ rfl;have x5:=hat 5 _ rfl;simp only[show xpE.k=6 from rfl,Nat.add_zero]at x0 x1 x2 x3 x4 x5;have hki:(k:Int)<(args.length:Int):=by omega
   clear hxin hat hsl3 hx hdr hm0 HM;go_wp2_with fail;refine Calls.mono (HI.out _ ((Below.refl _ _).alloc (Nat.le_refl _) _)) ?_;rintro e w4 ⟨rfl,hb4⟩;have hb5:Below wr.heap.size wr w4:=((Below.refl _ _).alloc (Nat.le_refl _) (.cells #[.int .i64 op2,.int .i64 n2,.int .i64 v2.k,.int .i64 v2.n,.string v2.s,.slice ad2 args2.length ac2] 49)).step hb4;have S4:=Lib.hid (S2.out.kept hb5);have HL4:=Lib.hid (HL.out.kept hb5);clear HI hb4 hb5 x0 x1 x2 x3 x4 x5 S2 HL;by_cases he:re=0
   ·subst he;have HT:=Lib.hid (HMO.out rfl);have hkk:acc.length<=k:=Nat.le_of_eq HK.out;have hb44:w.heap.size+1<w4.heap.size:=(Array.getElem?_eq_some_iff.1 (S4.out.blk 0 rfl)).1;obtain⟨acs,hown,hinn⟩:=HL4.out;have HO:=Lib.hid hown;have HI:=Lib.hid hinn;have HG:Hid (∀g,(Value.slice oa acc.length oc).ownBlock=some g->g<w4.heap.size):=fun g hg=>(World.ownsRow.lt HO.out g hg).2;clear HME HMO hown hinn HL4;have F4:=S4.out.facts;simp only[St.Facts,cellFacts,apartFacts,and_true]at F4;go_wp2_with(at_builtin;go_must (refine A9 rfl _ _ 55 rfl 3 (.int .i64 0) 1 8 underlying55 B8 rfl (by decide) (w.heap.size+2) (.slice oa acc.length oc) acc.length acs rfl HO.out #[.int .i64 rk] 1 w4.heap.size (by simp) rfl rfl (by simp[Value.oneCell']) (by omega) (by unfold maxLen;omega) (by omega) ?_));intro v6 w6 hown6 hg6 hw6;have HA6:Hid (LRow intE 3 (w.heap.size+2) w6 (acc++[rk]) v6):=LRow.add (C:=w4.heap.size) (by omega) HG.out HO.out HI.out (show intE.In _ _ rk [.int .i64 rk]from rfl) hown6 hg6 hw6;have S6:Hid (St w w6 [(w.heap.size+1,#[.slice oa acc.length oc],55),(w.heap.size,#[.int .i64 op,.int .i64 n,.int .i64 v.k,.int .i64 v.n,.string v.s,.slice (some ⟨b,o,none⟩) args.length ac],49)]):=S4.out.turned (Turn.of_grown hg6) (fun i h=>by have:=(World.ownsRow.lt HO.out i h).1;omega) (fun x hx h=>by
     have h1:=(World.ownsRow.lt HO.out _ h).1;simp only[List.mem_cons,List.not_mem_nil,or_false]at hx;rcases hx with rfl|rfl
     all_goals(simp only at h1;omega))
    obtain⟨a6,c6,rfl⟩:=HA6.out.slice;clear hown6 hg6 hw6 S4 F4 HO HI HG;have F6:=S6.out.facts;simp only[St.Facts,cellFacts,apartFacts,and_true]at F6;go_wp2_with fail;go_roundw
    case rel=>exact⟨k+1,acc++[rk],a6,c6,by go_num,by omega,(by show _=_;rw[List.length_append,HK.out];rfl),HT.out,(by show St _ _ _;rw[List.length_append];exact St.set 0 S6.out rfl),HA6.out.turned (M:=(·=w.heap.size+1)) ((Turn.refl _ _).setCell (.inl rfl)) (fun b hb e=>by omega)⟩
    case measure=>simp[intOf];omega
   ·have HT:=Lib.hid (HME.out he);have hb0:(re != (0:Int))=true:=by simpa using he
    clear HME HMO HL4;go_wp2_with fail;go_returns;exact⟨by rw[HT.out];rfl,S4.out.below⟩
  ·obtain rfl:k=args.length:=by omega
   have hm0:=HM.out;rw[List.drop_length,Va]at hm0;have HT0:=Lib.hid hm0;have S3:Hid (KiEnd w wr [(w.heap.size+1,#[.slice oa acc.length oc],55),(w.heap.size,#[.int .i64 op,.int .i64 n,.int .i64 v.k,.int .i64 v.n,.string v.s,.slice ad args.length ac],49)] (w.heap.size+1) (w.heap.size+2≤·) (.slice oa acc.length oc) acc):=
    ⟨S2.out,(Aa (o:=0) (S2.out.blk 0 rfl) rfl).1,LRow.done (by decide) HL.out⟩
   clear hm0 HM HL S2 IH HS;have CA:=Lib.hid (fun W=>Wn op W);have CC:=Lib.hid (fun W=>Rx op W);have CL:Hid (∀(want:Int) (W:World),Below wr.heap.size wr W->Calls prog 232 #[.int .i64 want,.pointer (some ⟨w.heap.size+1,0,none⟩)] W (Says (.bool (allK want acc)) W)):=fun want W hb=>cf _ want _ _ acc W (S3.out.kept hb).cell (S3.out.kept hb).row (by have:=HK.out;omega);have hfm:=HFM.out;unfold Xp.formed at hfm;simp only[Bool.and_eq_true,decide_eq_true_eq]at hfm;have har:=hfm.1.1.1;have HLA:Hid ((acc.length:Int)=arityX op):=by show _=_;rw[HK.out];exact har
   have hmf:∀(fn:Fn) (first cap:Array Value) (w:World),(Instr.makeFunc fn first cap).run prog w=.ok (.func fn first cap) w:=fun _ _ _ _=>rfl;have he232:=Vt;clear hfm HFM;have F3:=S3.out.st.facts;simp only[St.Facts,cellFacts,apartFacts,and_true]at F3;by_cases h1:op=1
   ·subst h1;clear CA CC CL CR he232 har HLA;by_cases h2:n<0
    ·have HT:Hid (tot=(0,1)):=by show _=_;rw[HT0.out];simp[kindN,h2]
     clear HT0;go_wp2_with fail;go_returns;exact⟨by rw[HT.out];rfl,S3.out.st.below⟩
    ·by_cases h3:(kinds.length:Int)<=n
     ·have HT:Hid (tot=(0,1)):=by show _=_;rw[HT0.out];simp[kindN,h3]
      clear HT0;go_wp2_with fail;go_returns;exact⟨by rw[HT.out];rfl,S3.out.st.below⟩
     ·have hnl:n.toNat<kinds.length:=by omega
      obtain⟨kk,hkk⟩:∃x,kinds[n.toNat]?=some x:=⟨kinds[n.toNat],by simp[hnl]⟩;obtain⟨b,o,cap,cs,hbo,hin,hat⟩:=(HV.out.kept (by decide) S3.out.st.below).at hkk;injection hbo with e1 _ e2;subst e1;subst e2;have e:cs=[.int .i64 kk]:=hin;subst e;have z0:=hat 0 _ rfl;simp only[show intE.k=1 from rfl,Nat.mul_one,Nat.add_zero]at z0;have hg:kinds.getD n.toNat 0=kk:=by rw[List.getD_eq_getElem?_getD,hkk];rfl
      have hlti:n<(kinds.length:Int):=by omega
      have h0:0<=n:=by omega
      clear hat hin hkk;by_cases h4:kk<0
      ·have HT:Hid (tot=(0,1)):=by show _=_;rw[HT0.out];unfold kindN;rw[if_pos rfl,if_pos (.inr (.inr (.inl (by rw[hg];exact h4))))]
       clear HT0 hg;go_wp2_with fail;go_returns;exact⟨by rw[HT.out];rfl,S3.out.st.below⟩
      ·by_cases h5:3<kk
       ·have HT:Hid (tot=(0,1)):=by show _=_;rw[HT0.out];unfold kindN;rw[if_pos rfl,if_pos (.inr (.inr (.inr (by rw[hg];exact h5))))]
        clear HT0 hg;go_wp2_with fail;go_returns;exact⟨by rw[HT.out];rfl,S3.out.st.below⟩
       ·have HT:Hid (tot=(kk,0)):=by show _=_;rw[HT0.out];unfold kindN;rw[if_pos rfl,if_neg (by rw[hg];omega),hg]
        clear HT0 hg;go_wp2_with fail;go_returns;exact⟨by rw[HT.out];rfl,S3.out.st.below⟩
   have b1:(op==(1:Int))=false:=by simpa using h1
   by_cases h2:op=2
   ·subst h2;clear CA CC CL he232 har HLA
    cases hr:v.right with
    | false=>
     have HT:Hid (tot=(0,1)):=by show _=_;rw[HT0.out];simp[kindN,hr]
     clear HT0;rw[hr]at CR;go_wp2_with fail;refine Calls.mono (CR.out _) ?_;rintro e w4 ⟨rfl,hb4⟩;have S4:=Lib.hid (S3.out.kept hb4);clear hb4 S3 F3;go_wp2_with fail;go_returns;exact⟨by rw[HT.out];rfl,S4.out.st.below⟩
    | true=>
     have HT:Hid (tot=(v.k,0)):=by show _=_;rw[HT0.out];simp[kindN,hr]
     clear HT0;rw[hr]at CR;go_wp2_with fail;refine Calls.mono (CR.out _) ?_;rintro e w4 ⟨rfl,hb4⟩;have S4:=Lib.hid (S3.out.kept hb4);clear hb4 S3 F3;have F4:=S4.out.st.facts;simp only[St.Facts,cellFacts,apartFacts,and_true]at F4;go_wp2_with fail;go_returns;exact⟨by rw[HT.out];rfl,S4.out.st.below⟩
   have b2:(op==(2:Int))=false:=by simpa using h2
   clear CR;have hk0:kindN kinds op n v acc=if 3<=op/\op<=5 then(if allK 1 acc then(1,0)else(0,7))else if 6<=op/\op<=11 then(if !allK (acc.getD 0 0) acc&&!allK (acc.getD 1 0) acc then(0,7)else(3,0))else if op≠15/\allK 3 acc=false then(0,7)else(3,0):=by
    unfold kindN;rw[if_neg h1,if_neg h2]
   have HK0:=Lib.hid (HT0.out.trans hk0);clear hk0 HT0;by_cases h3:3<=op/\op<=5
   ·have HK1:=Lib.hid (HK0.out.trans (if_pos h3));have hcb:(decide (3<=op)&&decide (op<=5))=true:=by simp[h3.1,h3.2]
    rw[hcb]at CA;clear HK0 CC hcb h3;go_wp2_with fail;refine Calls.mono (CA.out _) ?_;rintro e w4 ⟨rfl,hb4⟩;have S4:=Lib.hid (S3.out.kept hb4);have HB4:=Lib.hid hb4;clear hb4 F3 CA;go_wp2_with fail;refine Calls.mono (CL.out 1 _ HB4.out) ?_;rintro e w5 ⟨rfl,hb5⟩;have S2:=Lib.hid (S4.out.kept hb5);clear hb5 S4 S3 CL
    cases hq:allK 1 acc with
    | false=>
     have HT:Hid (tot=(0,7)):=by show _=_;rw[HK1.out,hq];rfl
     clear HK1;go_wp2_with fail;go_returns;exact⟨by rw[HT.out];rfl,S2.out.st.below⟩
    | true=>
     have HT:Hid (tot=(1,0)):=by show _=_;rw[HK1.out,hq];rfl
     clear HK1;go_wp2_with fail;go_returns;exact⟨by rw[HT.out];rfl,S2.out.st.below⟩
   have HK1:=Lib.hid (HK0.out.trans (if_neg h3));have hcb:(decide (3<=op)&&decide (op<=5))=false:=by simp;omega
   rw[hcb]at CA;clear HK0 hcb;by_cases h6:6<=op/\op<=11
   ·have HK2:=Lib.hid (HK1.out.trans (if_pos h6));have hcb:(decide (6<=op)&&decide (op<=11))=true:=by simp[h6.1,h6.2]
    rw[hcb]at CC;have hl2:acc.length=2:=by
     have h:=HLA.out;unfold arityX at h;rw[if_neg (by omega),if_neg (by omega),if_pos (by omega)]at h;omega
    obtain⟨k0,k1,rfl⟩:∃a b,acc=[a,b]:=by
     rcases acc with _|⟨a,_|⟨b,_|⟨c,l⟩⟩⟩<;>simp at hl2
     exact⟨a,b,rfl⟩
    simp only[List.length_cons,List.length_nil,Nat.reduceAdd]at *;obtain⟨b,o,cap,cs,hbo,hin,hat0⟩:=S3.out.row.at (k:=0) rfl;injection hbo with e1 _ e2;subst e1;subst e2;have e:cs=[.int .i64 k0]:=hin;subst e;obtain⟨b',o',cap',cs',hbo',hin',hat1⟩:=S3.out.row.at (k:=1) rfl;injection hbo' with e1 _ e2;injection e1 with e1;injection e1 with e1 e1';subst e1;subst e1';have e:cs'=[.int .i64 k1]:=hin';subst e;have z0:=hat0 0 _ rfl;have z1:=hat1 0 _ rfl;simp only[show intE.k=1 from rfl,Nat.mul_one,Nat.add_zero]at z0 z1;have Z0:=Lib.hid z0;have Z1:=Lib.hid z1;clear HK1 hcb h6 hin hin' hat0 hat1 HLA z0 z1 e2;go_wp2_with fail;refine Calls.mono (CA.out _) ?_;rintro e w4 ⟨rfl,hb4⟩;have S4:=Lib.hid (S3.out.kept hb4);have HB4:=Lib.hid hb4;clear hb4 F3 CA;have F4:=S4.out.st.facts;simp only[St.Facts,cellFacts,apartFacts,and_true]at F4;go_wp2_with fail;refine Calls.mono (CC.out _) ?_;rintro e w5 ⟨rfl,hb5⟩;have S5:=Lib.hid (S4.out.kept hb5);have HB5:=Lib.hid (HB4.out.step hb5);clear hb5 CC S4 F4;have F5:=S5.out.st.facts;simp only[St.Facts,cellFacts,apartFacts,and_true]at F5;have z0:=HB5.out.cell_kept Z0.out;have z1:=HB5.out.cell_kept Z1.out;go_wp2_with fail;refine Calls.mono (CL.out _ _ HB5.out) ?_;rintro e w6 ⟨rfl,hb6⟩;have S6:=Lib.hid (S5.out.kept hb6);have HB6:=Lib.hid (HB5.out.step hb6);clear hb6 S5 F5 z0 z1;have F6:=S6.out.st.facts;simp only[St.Facts,cellFacts,apartFacts,and_true]at F6;have z0:=HB6.out.cell_kept Z0.out;have z1:=HB6.out.cell_kept Z1.out
    cases hq:allK k0 [k0,k1]with
    | true=>
     have HT:Hid (tot=(3,0)):=by show _=_;rw[HK2.out];simp[hq]
     clear HK2;go_wp2_with fail;go_returns;exact⟨by rw[HT.out];rfl,S6.out.st.below⟩
    | false=>
     go_wp2_with fail;refine Calls.mono (CL.out _ _ HB6.out) ?_;rintro e w7 ⟨rfl,hb7⟩;have S2:=Lib.hid (S6.out.kept hb7);clear hb7 S6 F6 z0 z1
     cases hq2:allK k1 [k0,k1]with
     | true=>
      have HT:Hid (tot=(3,0)):=by show _=_;rw[HK2.out];simp[hq2]
      clear HK2;go_wp2_with fail;go_returns;exact⟨by rw[HT.out];rfl,S2.out.st.below⟩
     | false=>
      have HT:Hid (tot=(0,7)):=by show _=_;rw[HK2.out];simp[hq,hq2]
      clear HK2;go_wp2_with fail;go_returns;exact⟨by rw[HT.out];rfl,S2.out.st.below⟩
   have HK2:=Lib.hid (HK1.out.trans (if_neg h6));have hcb:(decide (6<=op)&&decide (op<=11))=false:=by simp;omega
   rw[hcb]at CC;clear HK1 hcb h3 h6 HLA;go_wp2_with fail;refine Calls.mono (CA.out _) ?_;rintro e w4 ⟨rfl,hb4⟩;have S4:=Lib.hid (S3.out.kept hb4);have HB4:=Lib.hid hb4;clear hb4 F3 CA;have F4:=S4.out.st.facts;simp only[St.Facts,cellFacts,apartFacts,and_true]at F4;go_wp2_with fail;refine Calls.mono (CC.out _) ?_;rintro e w5 ⟨rfl,hb5⟩;have S5:=Lib.hid (S4.out.kept hb5);have HB5:=Lib.hid (HB4.out.step hb5);clear hb5 CC S4 F4;have F5:=S5.out.st.facts;simp only[St.Facts,cellFacts,apartFacts,and_true]at F5;by_cases h15:op=15
   ·subst h15;have HT:Hid (tot=(3,0)):=by show _=_;rw[HK2.out,if_neg (fun h=>h.1 rfl)]
    clear HK2;go_wp2_with fail;go_returns;exact⟨by rw[HT.out];rfl,S5.out.st.below⟩
   ·have b15:(op==(15:Int))=false:=by simpa using h15
    go_wp2_with fail;refine Calls.mono (CL.out 3 _ HB5.out) ?_;rintro e w6 ⟨rfl,hb6⟩;have S2:=Lib.hid (S5.out.kept hb6);clear hb6 S5 F5
    cases hq:allK 3 acc with
    | false=>
     have HT:Hid (tot=(0,7)):=by show _=_;rw[HK2.out,if_pos ⟨h15,hq⟩]
     clear HK2;go_wp2_with fail;go_returns;exact⟨by rw[HT.out];rfl,S2.out.st.below⟩
    | true=>
     have HT:Hid (tot=(3,0)):=by show _=_;rw[HK2.out,if_neg (fun h=>by rw[hq]at h;exact absurd h.2 (by decide))]
     clear HK2;go_wp2_with fail;go_returns;exact⟨by rw[HT.out];rfl,S2.out.st.below⟩
end Go.Proofs.YtjmmbebkbkgefaaGreatDoor
