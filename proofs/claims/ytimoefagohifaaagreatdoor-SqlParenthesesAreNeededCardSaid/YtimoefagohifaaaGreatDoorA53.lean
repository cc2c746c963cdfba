/-
card: for every argument the law returns true, and what was there is as it was. No condition beside the card's own.
-/
import Derived.Test.YtimoefagohifaaaGreatDoorA42
import Derived.Test.YtimoefagohifaaaGreatDoorA43
import Derived.Test.YtimoefagohifaaaGreatDoorA49
import Derived.Test.YtimoefagohifaaaGreatDoorA52
set_option maxHeartbeats 16000000
set_option maxRecDepth 100000
namespace Go.Proofs.YtimoefagohifaaaGreatDoor
open Go.RowKit Go.Proofs.Tryz
section
open Go.Sort
theorem ae8:∀(l:List Tok) (k:Nat) (t:Tok),l[k]?=some t->∀j u,t.cells[j]?=some u->(tkVals l)[k * 4+j]?=some u
 | [],k,t,h=>by cases h
 | a::l,0,t,h=>by
  intro j u hu;obtain rfl:a=t:=by simpa using h
  have hj:=(uu.1 hu).1;rw[yg,xr];show(a.cells++tkVals l)[j]?=_;rw[ab0 hj];exact hu
 | a::l,k+1,t,h=>by
  intro j u hu;have ih:=ae8 l k t (by simpa using h) j u hu;show(a.cells++tkVals l)[(k+1) * 4+j]?=_;have ha:a.cells.length=4:=rfl;rw[aa2 acw,ha,show(k+1) * 4+j - 4=k * 4+j by omega];exact ih
def opensTo (l:List Tok) (k:Nat):List Int:=((List.range k).filter fun j=>((l[j]?).map isOpen).getD false).map fun j:Nat=>(j:Int)
theorem afc {l:List Tok} {k:Nat} {t:Tok} (h:l[k]?=some t):opensTo l (k+1)=opensTo l k++if isOpen t then[(k:Int)]else[]:=by
 unfold opensTo;rw[List.range_succ,List.filter_append,abk];congr 1;rw[List.filter_cons,List.filter_nil,h];show List.map _ (if isOpen t=true then[k]else[])=_;split<;>rfl
theorem afy (l:List Tok) (k:Nat):(opensTo l k).length<=k:=by
 unfold opensTo;rw[zr];exact vj (List.length_filter_le _ _) acx
theorem afx {l:List Tok} {k:Nat} {n:Int} (h:n∈opensTo l k):∃f:Nat,n=f/\f<k/\∃t,l[f]?=some t/\isOpen t=true:=by
 unfold opensTo at h;obtain⟨f,hf,rfl⟩:=zd.1 h;obtain⟨h1,h2⟩:=List.mem_filter.1 hf;refine⟨f,rfl,ach.1 h1,?_⟩
 cases hl:l[f]? with
 | none=>rw[hl]at h2;cases h2
 | some t=>rw[hl]at h2;exact⟨t,rfl,h2⟩
theorem aek (tk ta:Int) (ts:Bytes) (tn:Int):isOpen ⟨tk,ta,ts,tn⟩=((tk==5)&&(ts==[40])):=by
 unfold isOpen;rw[yx];simp
theorem afe (tk ta:Int) (ts:Bytes) (tn:Int):isClose ⟨tk,ta,ts,tn⟩=((tk==5)&&(ts==[41])):=by
 unfold isClose;rw[yx];simp
theorem adl:b2i false=0:=rfl
theorem ae7:b2i true=1:=rfl
theorem agr (m:Nat) (h:m<=65535) (w:World):(convert 60 3 (.int .u16 (m:Int))).run prog w=.ok (U (m:Int)) w:=by
 have h1:IntKind.i64.wrap (m:Int)=m:=by rw[IntKind.wrap_i64];omega
 go_simp
theorem ae1 {l:List Int} {k:Nat} {z:Int} (h:l[k]?=some z):(intVals l)[k]?=some (U z):=by
 unfold intVals;rw[aai,h];rfl
theorem ag2 {f k j:Nat} {d:Int} {l:List Tok} {t:Tok} (ht:l[k]?=some t) (h:seek f (l.drop k) k d=j):(deeper t d=0->k≠f->k=j)/\(¬(deeper t d=0/\k≠f)->seek f (l.drop (k+1)) (k+1) (deeper t d)=j):=by
 obtain⟨hk,rfl⟩:=uu.1 ht;rw[ww hk,seek]at h;refine⟨fun h0 h1=>?_,fun h0=>?_⟩
 ·rw[if_pos ⟨h0,h1⟩]at h;exact h
 ·rw[if_neg h0]at h;exact h
theorem afb (w:World) (t:Bytes):RowB (Lib.bytesWorld w 5 ⟨t.toArray⟩) w.heap.size t:=by
 refine⟨_,_,Lib.bytesWorld_at_new w 5 ⟨t.toArray⟩,fun i hi=>?_,?_⟩
 ·have h:=Lib.bytesWorld_cell w 5 ⟨t.toArray⟩ i (by show i<t.toArray.size;simpa using hi);simp only[World.cell?,Lib.bytesWorld_at_new]at h;simpa using h
 ·simp[Lib.bytesCells]
theorem afm {P:Prop} (h:P:=by
 refine Lo (fun W=>Below wr.heap.size wr W/\RowB W wr.heap.size (t.set ni 32)) ⟨HB1.out.setCell (tu _) _,HRW.out.set ni⟩ ?_;rintro W2 ⟨hb2,hr⟩;have HB2:=tm hb2;have HR:=tm hr;have z:=HCELL.out j tj W2 htj (HB.out.step hb2) 1 _ rfl;rw[HAJ.out]at z;simp only[<- zx]at z;obtain⟨r0,r1,r2⟩:=hr.cell (i:=nj) (by rw[List.length_set];exact hnj);clear nza nzb nzc y1 y2 HB1 HRW hb2 hr;go_upto_region 33 with fail;refine Lo (fun W=>Below wr.heap.size wr W/\RowB W wr.heap.size ((t.set ni 32).set nj 32)) ⟨HB2.out.setCell (tu _) _,HR.out.set nj⟩ ?_;rintro W3 ⟨hb3,hr⟩;have hcv:=hr.string (cap:=cap);rw[List.length_set,List.length_set]at hcv;have S:=tm (Sv.out.kept hb3);clear r0 r1 r2 z HB2 HR hb3 hr;have hul:((t.set ni 32).set nj 32).length=t.length:=by rw[List.length_set,List.length_set]
 generalize (t.set ni 32).set nj 32=u at hcv NE hul
 cases hpu:parseS u with
 | error pq=>
  obtain⟨p,q⟩:=pq;have CP:Hid (∀(B:Nat) (W:World),Env B W->Calls prog 15 #[.string ⟨u.toArray⟩] W (ParsePost W (.error (p,q)))):=by rw[<- hpu];exact Cs u acw
  have g:(q==0)=false:=by simpa using(Su hpu).2.2
  have g:(q != 0)=true:=by simpa using(Su hpu).2.2
  clear hpu NE;go_wp2_with fail;refine tp (CP.out w.heap.size W3 (HE.out.kept S.out.below)) ?_;rintro e w9 ⟨rfl,hb⟩;refine z252 ?_;intro S;clear hb CP;go_upto_region 34 with(first|(refine ur rfl 50 (.tmp 17) (.tmp 178) rfl w9.heap.size (SV.arr {}) rfl rfl 50 (SV.arr {}) ((De S.out).blk 1 rfl) (sv_size _) rfl (sv_one _) ?_)|(refine ur rfl 26 (.tmp 18) (.tmp 179) rfl (w9.heap.size+1) #[U p,U q] rfl rfl 26 #[U 0,U 0] ((Dd S.out (SV.arr {})).blk 0 rfl) (Cc _ _) rfl (Gl _ _) ?_));refine Cf (Bl (St.start w9) (SV.arr {}) p q).below (Bl S.out (SV.arr {}) p q) ?_;intro wa hb Sa;clear hb S;generalize w9.heap.size=b at Sa ⊢;obtain⟨q1,qf,ql⟩:=Aa (o:=1) (Sa.out.blk 0 rfl) rfl;go_wp2_with fail;go_returns;exact⟨rfl,Sa.out.below⟩
 | ok y=>
  have CP:Hid (∀(B:Nat) (W:World),Env B W->Calls prog 15 #[.string ⟨u.toArray⟩] W (ParsePost W (.ok y))):=by rw[<- hpu];exact Cs u acw
  have hne:y≠x:=fun e=>NE.out (by rw[hpu,e]);have hyf:=(Ee hpu).1;have CS2:=tm (fun(r:SV) W h1 h2=>CS.out y r W hne hyf h1 h2);clear hpu NE hne hyf CS;go_wp2_with fail;refine tp (CP.out w.heap.size W3 (HE.out.kept S.out.below)) ?_;rintro e w9 ⟨sv,rfl,hs,hb⟩;refine z252 ?_;intro S;have H:Hid (StmIs (W3.heap.size≤·) w9 sv y):=hs;clear hb hs CP;go_upto_region 34 with(first|(refine ur rfl 50 (.tmp 17) (.tmp 178) rfl w9.heap.size sv.arr rfl rfl 50 (SV.arr {}) ((De S.out).blk 1 rfl) (sv_size _) rfl (sv_one _) ?_)|(refine ur rfl 26 (.tmp 18) (.tmp 179) rfl (w9.heap.size+1) #[U 0,U 0] rfl rfl 26 #[U 0,U 0] ((Dd S.out sv.arr).blk 0 rfl) (Cc _ _) rfl (Gl _ _) ?_));refine Cf (Bl (St.start w9) sv.arr 0 0).below (Bl S.out sv.arr 0 0) ?_;intro wa hb Sa;replace H:=tm (H.out.kept hb);clear hb S;generalize w9.heap.size=b at Sa ⊢;obtain⟨q1,qf,ql⟩:=Aa (o:=1) (Sa.out.blk 0 rfl) rfl;go_wp2_with(first|(refine Ap rfl 50 (.tmp 2) rfl w.heap.size rfl 50 s.arr (0,0) _ (Sa.out.blk 3 rfl) underlying50 rfl (sv_size _) ?_)|(refine Ap rfl 50 (.tmp 17) rfl b rfl 50 sv.arr (0,0) _ (Sa.out.blk 1 rfl) underlying50 rfl (sv_size _) ?_));refine tp (CS2.out sv wa (Hs.out.kept Sa.out.below) H.out.lt) ?_;rintro e wb ⟨rfl,hb⟩;have Sb:=tm (Sa.out.kept hb);clear hb Sa;go_wp2_with fail;go_returns;exact⟨rfl,Sb.out.below⟩):P:=h
theorem ag5 (HS:SanityAt) (x:Stm) (s:SV) (m:Nat) (hm:m<=65535) (w:World) (h:StmIn (·<w.heap.size) w s x) (hwf:x.Wf) (hl:x.lists<=4611686018427387904) (ht:x.txt<=4611686018427387904) (he:Env w.heap.size w):Calls prog 7 #[.agg s.arr,.int .u16 (m:Int)] w (fun e w'=>e=.returned (.bool true)/\Below w.heap.size w w'):=by
 have HE:=tm he;have C:=tm HS;have FW:=tm (fun W (h:StmIn (·<w.heap.size) W s x)=>aet _ x s W h hl);have PR:=tm (fun W (h:StmIn (·<w.heap.size) W s x) (he:Env W.heap.size W) (hs:w.heap.size<=W.heap.size)=>Ph x s W (h.mono (fun _ hb=>vw hb hs)) he hwf hl ht);have S:Hid (St w (w.alloc (.cells s.arr 50)) [(w.heap.size,s.arr,50)]):=St.alloc (St.start w);have H:Hid (StmIn (·<w.heap.size) w s x):=h;clear h hwf hl ht he HS;go_enter func7,ntmps7;go_upto_region 1 with fail;refine St.gen S.out ?_;clear S;intro w1 S;go_wp2_with fail;refine tp (C.out w.heap.size w1 (HE.out.kept S.out.below)) ?_;rintro e w2 ⟨rfl,hb⟩;replace S:=tm (S.out.kept hb);clear hb;go_upto_region 2 with fail;go_wp2_with(refine ux rfl 50 (.tmp 2) rfl w.heap.size rfl 50 s.arr (0,0) _ (S.out.blk 0 rfl) underlying50 rfl (sv_size _) ?_);refine tp (FW.out w2 (H.out.kept S.out.below)) ?_;rintro e w3 ⟨b,rfl,hb⟩;replace S:=tm (S.out.kept hb);clear hb FW
 cases b with
 | false=>exact z1033
 | true=>
  go_upto_region 4 with fail;go_wp2_with(refine ux rfl 50 (.tmp 2) rfl w.heap.size rfl 50 s.arr (0,0) _ (S.out.blk 0 rfl) underlying50 rfl (sv_size _) ?_);refine tp (PR.out w3 (H.out.kept S.out.below) ((HE.out.kept S.out.below).up S.out.below.size (tu _)) S.out.below.size) ?_;rintro e w4 ⟨rfl,hb⟩;refine z252 ?_;intro S;clear hb PR;by_cases hfl:x.formed=true/\(joinSp (stmP x)).length<=4000
  ·obtain⟨hf,hle⟩:=hfl;have hpx:printS x=(joinSp (stmP x),0):=by unfold printS;rw[if_pos hf,if_neg acw]
   rw[hpx];obtain⟨l,hto,hcar⟩:∃l,toksR (joinSp (stmP x))=.ok l/\Carries (stmP x) l:=⟨_,V3 (stmP x) (gz hf) hle⟩;have HSK:=tm (fun(fi0:Nat) (t:Tok) (ht:l[fi0]?=some t) (ho:isOpen t=true)=>aga hf hcar ht ho);have HN:=tm (fun(i j:Nat) (ti tj:Tok) (hij:i<j) (hi:l[i]?=some ti) (hj:l[j]?=some tj) (oi:isOpen ti=true) (cj:isClose tj=true)=>aec (fun s l h t ht=>((E8 h).1 t ht).num) hf hle hto hij hi hj oi cj);have CT:Hid (∀(B:Nat) (W:World),Env B W->Calls prog 9 #[.string ⟨(joinSp (stmP x)).toArray⟩] W (ToksPost W.heap.size W (.ok l))):=fun B W h=>by
    have:=Fa (joinSp (stmP x)) acw W h;rw[hto]at this;exact this
   have CS:=tm (fun(y:Stm) (r:SV) W (hne:y≠x) (hy:y.formed=true) (h1:StmIn (·<w.heap.size) W s x) (h2:StmIn (·<W.heap.size) W r y)=>O5 _ _ x y s r W h1 h2 (Ji hf) (T5 hy) false (by simp[Ne.symm hne]));have hll:l.length<=4000:=by
    have:=E8 hto;omega
   clear hpx hto hcar hf;generalize joinSp (stmP x)=t at hle HN CT ⊢;go_wp2_with fail;refine tp (CT.out w.heap.size w4 (HE.out.kept S.out.below)) ?_;rintro e w5 ⟨v,rfl,hv,hb⟩;refine z252 ?_;intro S;have HV:=tm hv.slAt;clear hb hv CT;go_upto_region 6 with(refine ur rfl 26 (.tmp 9) (.tmp 33) rfl w5.heap.size #[U 0,U 0] rfl rfl 26 #[U 0,U 0] ((St.alloc S.out (cs:=#[U 0,U 0]) (t:=26)).blk 0 rfl) (Cc _ _) rfl (Gl _ _) ?_);refine Cf (St.row 0 #[U 0,U 0] (St.alloc (St.start w5) (cs:=#[U 0,U 0]) (t:=26)) rfl).below (St.row 0 #[U 0,U 0] (St.alloc S.out (cs:=#[U 0,U 0]) (t:=26)) rfl) ?_;intro w6 hb S;replace S:Hid (St w w6 [(w5.heap.size,#[U 0,U 0],26),(w.heap.size,s.arr,50)]):=S.out;replace HV:=tm (HV.out.kept hb);clear hb;generalize w5.heap.size=gq at S ⊢;obtain⟨va,vc,rfl,hvc,hva⟩:=HV.out;have HA:=tm hva;clear HV hvc hva;obtain⟨q0,qf,ql⟩:=Aa (o:=0) (S.out.blk 0 rfl) rfl;obtain⟨q1,q1f,q1l⟩:=Aa (o:=1) (S.out.blk 0 rfl) rfl;go_wp2_with fail;clear q0 qf ql q1 q1f q1l;go_loopw [10,11] (fun ov i wr=>∃k:Nat,k<=l.length/\i=U k/\Hid (wr.ownsRow w6.heap.size 3 1 ov (opensTo l k).length (intVals (opensTo l k)))/\Hid (Below w6.heap.size w6 wr)) (fun _ i _=>l.length - (intOf i).toNat)
   case atStart=>exact⟨0,by omega,rfl,aah _ _ _ _,uj _ _⟩
   case round=>
    obtain⟨k,hk,rfl,HO,HB⟩:=hrel;by_cases hlt:k<l.length
    ·obtain⟨vb,vo,rfl,hat⟩:=HA.out acw;obtain⟨t',ht'⟩:∃t,l[k]?=some t:=⟨l[k],by simp[hlt]⟩;have hv:=ae8 l k t' ht';have hst:=afc ht';have hol:=afy l k;obtain⟨tk,ta,ts,tn⟩:=t';have x (j u) (hu:(Tok.cells ⟨tk,ta,ts,tn⟩)[j]?=some u):wr.cell? ⟨vb,vo+(k * 4+j),none⟩=some u:=HB.out.cell_kept (hat _ _ (hv j u hu));have x0:=x 0 _ rfl;have x2:=x 2 _ rfl;simp only[u0,<- zx]at x0 x2;have hki:(k:Int)<(l.length:Int):=acw;clear x hv hat ht';have HST:=tm hst;rw[aek]at HST;clear hst
     cases h5:tk==5 with
     | false=>
      rw[h5]at HST;go_wp2_with fail;go_roundw
      case rel=>exact⟨k+1,by omega,by go_num,by rw[HST.out,zm,if_neg Bool.false_ne_true,vr];exact HO.out,HB.out⟩
      case measure=>simp[intOf];omega
     | true=>
      rw[h5]at HST
      cases h40:ts==[40]with
      | false=>
       rw[h40]at HST;go_wp2_with fail;go_roundw
       case rel=>exact⟨k+1,by omega,by go_num,by rw[HST.out,Bool.and_false,if_neg Bool.false_ne_true,vr];exact HO.out,HB.out⟩
       case measure=>simp[intOf];omega
      | true=>
       rw[h40]at HST;go_wp2_with(refine wpList_append_at rfl (.tmp 71) (.tmp 73) 61 rfl 3 (U 0) 1 8 underlying61 infoInt rfl acy w6.heap.size _ (opensTo l k).length (intVals (opensTo l k)) rfl (HO.out.later ((uj _ _).alloc (tu _) _)) _ 1 [U (k:Int)] rfl acy (Bk acy) rfl (by simp[Value.oneCell']) acw (by unfold maxLen;omega) (by have:=HB.out.size;simp;omega) ?_;intro v' w7 hown hgr hblk hsl;obtain⟨g,cp,rfl⟩:=hsl);have HB2:Hid (Below w6.heap.size w6 w7):=Ra (HB.out.alloc HB.out.size _) hgr (fun g hg=>(vx HO.out g hg).1) (by have:=HB.out.size;simp;omega);have HO2:Hid (w7.ownsRow w6.heap.size 3 1 (.slice (O g) ((opensTo l k).length+1) cp) (opensTo l (k+1)).length (intVals (opensTo l (k+1)))):=by
        rw[HST.out,Bool.and_self,if_pos rfl,ua];unfold intVals at hown ⊢;rw[abk];exact hown
       clear hown hgr hblk HB HO;go_wp2_with fail;go_roundw
       case rel=>exact⟨k+1,by omega,by go_num,HO2.out,HB2.out⟩
       case measure=>simp[intOf];omega
    ·obtain rfl:k=l.length:=acw
     obtain⟨oa,oc,rfl,hoc,hoat⟩:=World.ownsRow.slAt HO.out
     replace S:=tm (S.out.kept HB.out)
     clear HO
     by_cases hem:opensTo l l.length=[]
     ·rw[hem];exact z1033
     have hpos:0<(opensTo l l.length).length:=aib.2 hem
     obtain⟨z,hz⟩:∃z,(opensTo l l.length)[m % (opensTo l l.length).length]?=some z:=⟨_,vd (Nat.mod_lt _ hpos)⟩
     obtain⟨f,rfl,hfl,tf,htf,hof⟩:=afx (uq hz)
     obtain⟨j,tj,hfj,htj,hcj,hseek⟩:=HSK.out f tf htf hof
     obtain⟨ni,nj,hai,haj,hni,hnj,hne⟩:=HN.out f j tf tj hfj htf htj hof hcj
     obtain⟨ob,oo,rfl,hx⟩:=hoat hpos
     have y0:wr.cell? ⟨ob,oo+m % (opensTo l l.length).length,none⟩=some (U (f:Int)):=hx _ _ (ae1 hz)
     have hml:=Nat.mod_lt m hpos
     generalize (opensTo l l.length).length=c at *
     rename World=>wq
     obtain⟨vb,vo,rfl,hat⟩:=HA.out (show 0<l.length by omega)
     have HCELL:Hid (∀(k:Nat) (t:Tok) (W:World),l[k]?=some t->Below w6.heap.size w6 W->∀j u,t.cells[j]?=some u->W.cell? ⟨vb,vo+(k * 4+j),none⟩=some u):=fun k t W hk hb j u hu=>hb.cell_kept (hat _ _ (ae8 l k t hk j u hu))
     have HS2:=tm hseek
     have hc:((c:Int)==0)=false:=by rw[us];omega
     have hcv:=fun w=>agr m hm w
     have NE:=tm hne
     have HAI:=tm hai
     have HAJ:=tm haj
     clear hem hz hx hoat hseek hne hai haj HSK HN hof hcj hat HA
     go_wp2_with fail
     clear y0 hml hc hcv
     go_loopw [13,14,15] (fun lv dv iv wr=>wr=wq/\((∃(k:Nat) (d:Int),f<=k/\k<=l.length/\-(k:Int)<=d/\d<=k/\lv=U (f:Int)/\dv=U d/\iv=U (k:Int)/\Hid (seek f (l.drop k) k d=j))\/(∃(k:Nat) (d:Int),k<=l.length/\lv=U (j:Int)/\dv=U d/\iv=U (k:Int)))) (fun _ _ iv _=>l.length - (intOf iv).toNat)
     case atStart=>exact⟨rfl,.inl ⟨f,0,tu _,by omega,by omega,by omega,rfl,rfl,rfl,HS2.out⟩⟩
     case round=>
      clear HS2;obtain⟨rfl,⟨k,d,hfk,hk,hd1,hd2,rfl,rfl,rfl,HSK⟩|⟨k,d,hk,rfl,rfl,rfl⟩⟩:=hrel
      ·by_cases hlt:k<l.length
       ·obtain⟨t',ht'⟩:∃t,l[k]?=some t:=⟨l[k],by simp[hlt]⟩;have HSK2:=tm (ag2 ht' HSK.out);have x:=HCELL.out k t' wr ht' HB.out;obtain⟨tk,ta,ts,tn⟩:=t';have x0:=x 0 _ rfl;have x2:=x 2 _ rfl;simp only[u0,<- zx]at x0 x2;have hki:(k:Int)<(l.length:Int):=acw;unfold deeper at HSK2;rw[aek,afe]at HSK2;clear x ht' HSK
        cases h5:tk==5 with
        | false=>
         rw[h5]at HSK2;simp only[zm,adl,Int.add_zero,Int.sub_zero]at HSK2;exact z22
        | true=>
         rw[h5]at HSK2
         cases h40:ts==[40]with
         | true=>
          obtain rfl:ts=[40]:=by simpa using h40
          rw[h40]at HSK2;simp only[show(([40]:Bytes)==[41])=false from rfl,Bool.and_self,Bool.and_false,adl,ae7,Int.sub_zero]at HSK2;by_cases hz:d+1=0
          ·obtain rfl:d=(-1):=acw;exact z14
          ·have hzb:((d+1)==0)=false:=by rw[us];exact hz
           have HNX:=tm HSK2.out.2;clear HSK2;go_wp2_with fail;go_roundw
           case rel=>exact⟨by first|rfl|trivial,.inl ⟨k+1,(d+1),by omega,by omega,by omega,by omega,rfl,by go_num,by go_num,HNX.out (fun h=>hz h.1)⟩⟩
           case measure=>simp[intOf];omega
         | false=>
          rw[h40]at HSK2
          cases h41:ts==[41]with
          | true=>
           rw[h41]at HSK2;simp only[Bool.and_self,Bool.and_false,adl,ae7,Int.add_zero]at HSK2;by_cases hz:d - 1=0
           ·obtain rfl:d=1:=acw;exact z14
           ·have hzb:((d - 1)==0)=false:=by rw[us];exact hz
            have HNX:=tm HSK2.out.2;clear HSK2;go_wp2_with fail;go_roundw
            case rel=>exact⟨by first|rfl|trivial,.inl ⟨k+1,(d - 1),by omega,by omega,by omega,by omega,rfl,by go_num,by go_num,HNX.out (fun h=>hz h.1)⟩⟩
            case measure=>simp[intOf];omega
          | false=>
           rw[h41]at HSK2;simp only[Bool.and_false,adl,Int.add_zero,Int.sub_zero]at HSK2;exact z22
       ·obtain rfl:k=l.length:=acw;exfalso;have:=HSK.out;rw[aaj]at this;have e:f=j:=this;omega
      ·have hjf:((j:Int)==(f:Int))=false:=by rw[us];omega
       have hjl:=(uu.1 htj).1;have hcb:=Lib.run_convert_string_bytes (P:=prog) wr 9 58 5 ⟨t.toArray⟩ (u:=.string) underlying9 underlying58 underlying5;have hsz:(⟨t.toArray⟩:ByteArray).size=t.length:=by show t.toArray.size=_;simp
       have hbel:Below wr.heap.size wr (Lib.bytesWorld wr 5 ⟨t.toArray⟩):=Lib.bytesWorld_below wr 5 ⟨t.toArray⟩;have hrow:=afb wr t;generalize Lib.bytesWorld wr 5 ⟨t.toArray⟩=W1 at hcb hrow hbel;rw[hsz]at hcb;generalize grownCap wr t.length 0 5=cap at hcb;have hb8:=HB.out.step hbel;have y1:=HCELL.out f tf W1 htf hb8 1 _ rfl;have y2:=HCELL.out j tj W1 htj hb8 1 _ rfl;rw[HAI.out]at y1;rw[HAJ.out]at y2;simp only[<- zx]at y1 y2;have g1:¬((t.length:Int)<=(ni:Int)):=acw;have g2:¬((t.length:Int)<=(nj:Int)):=acw;have g3:(f:Int)<(l.length:Int):=acw;have g4:(j:Int)<(l.length:Int):=acw;have HRW:=tm hrow;have HB1:=tm hbel;obtain⟨nza,nzb,nzc⟩:=hrow.cell hni;have Sv:=S;have Hs:=H;clear hb8 hbel hrow;by_cases hlt:k<l.length
       ·have hki:(k:Int)<(l.length:Int):=acw;go_upto_region 32 with fail;exact afm
       ·obtain rfl:k=l.length:=acw;go_upto_region 32 with fail;exact afm
  ·have hpr:∃q:Int,printS x=([],q)/\(q != 0)=true:=by
    unfold printS;by_cases hf:x.formed=true
    ·rw[if_pos hf,if_pos (by
      have:¬(joinSp (stmP x)).length<=4000:=fun h=>hfl ⟨hf,h⟩;omega)]
     exact⟨2,rfl,rfl⟩
    ·rw[if_neg hf];exact⟨3,rfl,rfl⟩
   obtain⟨q,hpx,hq⟩:=hpr;rw[hpx];have CT:Hid (∀(B:Nat) (W:World),Env B W->Calls prog 9 #[.string ⟨#[]⟩] W (ToksPost W.heap.size W (.ok []))):=fun B W h=>Fa [] acx W h;clear hpx hfl;go_wp2_with fail;refine tp (CT.out w.heap.size w4 (HE.out.kept S.out.below)) ?_;rintro e w5 ⟨v,rfl,hv,hb⟩;refine z252 ?_;intro S;clear hb hv CT;go_upto_region 6 with(refine ur rfl 26 (.tmp 9) (.tmp 33) rfl w5.heap.size #[U 0,U 0] rfl rfl 26 #[U 0,U 0] ((St.alloc S.out (cs:=#[U 0,U 0]) (t:=26)).blk 0 rfl) (Cc _ _) rfl (Gl _ _) ?_);refine Cf (St.row 0 #[U 0,U 0] (St.alloc (St.start w5) (cs:=#[U 0,U 0]) (t:=26)) rfl).below (St.row 0 #[U 0,U 0] (St.alloc S.out (cs:=#[U 0,U 0]) (t:=26)) rfl) ?_;intro w6 hb S;replace S:Hid (St w w6 [(w5.heap.size,#[U 0,U 0],26),(w.heap.size,s.arr,50)]):=S.out;clear hb;exact z1033
theorem agl (x:Stm) (s:SV) (m:Nat) (hm:m<=65535) (w:World) (h:StmIn (·<w.heap.size) w s x) (hwf:x.Wf) (hl:x.lists<=4611686018427387904) (ht:x.txt<=4611686018427387904) (he:Env w.heap.size w):
 Calls prog 7 #[.agg s.arr,.int .u16 (m:Int)] w (fun e w'=>e=.returned (.bool true)/\Below w.heap.size w w'):=ag5 Ry x s m hm w h hwf hl ht he
theorem agk (x:Stm) (s:SV) (n:Int) (hn:0<=n/\n<=65535) (w:World) (h:StmIn (·<w.heap.size) w s x) (hwf:x.Wf) (hl:x.lists<=4611686018427387904) (ht:x.txt<=4611686018427387904) (he:Env w.heap.size w):Calls prog 7 #[.agg s.arr,.int .u16 n] w (fun e w'=>e=.returned (.bool true)/\Below w.heap.size w w'):=by
 obtain⟨m,rfl⟩:=Int.eq_ofNat_of_zero_le hn.1;exact agl x s m acw w h hwf hl ht he
end
section
open Go.ChangeShapes Go.WideShapes Go.ChangeAt Go.Joins
namespace parenthesesAreNeeded
noncomputable def start (os:Os):World:=startOf os allLaid
theorem laid_same:Rows.sqlParenthesesAreNeededRow.laid=allLaid:=acz
theorem laid_met (os:Os):laidMet prog Rows.sqlParenthesesAreNeededRow.laid ((start os).forCall (fun _ _=>0) ⟨#[],#[(.agg (SV.arr {})),(.int .u16 0)],[]⟩).memory:=ags
theorem reads (os:Os) {H:Type} (enc:TypeId×Value->H):∃x,DataW.whole enc prog ((start os).forCall (fun _ _=>0) ⟨#[],#[(.agg (SV.arr {})),(.int .u16 0)],[]⟩).memory Tryz.f7.params.toList Rows.sqlParenthesesAreNeededSpec.vars false #[(.agg (SV.arr {})),(.int .u16 0)].toList 8=some x/\True:=
 ⟨([.agg [.lit (.int .i64 0),.lit (.string []),.lit (.string []),.agg [.lit (.string []),.nil,.nil,.nil],.agg [.lit (.string []),.lit (.int .i64 0),.lit (.bool false)],.nil,.lit (.bool false),.nil,.nil,.agg [.lit (.int .i64 0),.lit (.string []),.lit (.string []),.agg [.lit (.int .i64 0),.lit (.int .i64 0),.lit (.string [])],.nil],.agg [.lit (.bool false),.nil,.nil,.nil,.agg [.lit (.int .i64 0),.lit (.string []),.lit (.string []),.agg [.lit (.int .i64 0),.lit (.int .i64 0),.lit (.string [])],.nil],.nil,.nil,.lit (.int .i64 0)],.lit (.int .i64 0)],.lit (.int .u16 0)],[],[]),by kernel_rfl,trivial⟩
theorem closed:joinedFacts prog 7 Tryz.f7 (OpenSpec.ofChange Rows.sqlParenthesesAreNeededSpec).bare Rows.sqlParenthesesAreNeededRow=true:=by
 unfold joinedFacts
 simp only[tr]
 and_intros
 all_goals(as_aux_lemma=>kernel_rfl)
theorem plain (f:FuncId) (fn:Func) (hf:Tryz.pinned.checked.prog.funcNamed Rows.sqlParenthesesAreNeededRow.func=some f) (hfn:Tryz.pinned.checked.prog.funcs[f]?=some fn):true=Tryz.pinned.checked.prog.looks []/\∀(j:Nat) t,fn.params[j]?=some t->Tryz.pinned.checked.prog.wantsStandIn t=false:=by
 obtain rfl:f=7:=xt ((show prog.funcNamed Rows.sqlParenthesesAreNeededRow.func=some 7 by kernel_rfl).symm.trans hf) |>.symm
 obtain rfl:fn=Tryz.f7:=(xt (func7.symm.trans hfn)).symm;refine⟨by kernel_rfl,fun j t ht=>?_⟩;rw[Tryz.params7]at ht;exact Ht
end parenthesesAreNeeded
namespace parenthesesAreNeeded
theorem contract (H:Type) (enc:TypeId×Value->H) (W:World) (base:Nat) (args:Array Value) (ds gs:List (DataW H)) (before:List MemPlace) (hval:∀(j:Nat) t v,Tryz.f7.params[j]?=some t->args[j]?=some v->Value.okWide prog W .any base t v) (hW:DataW.Whole enc prog Tryz.f7.params.toList Rows.sqlParenthesesAreNeededSpec.vars false W args.toList ds gs before) (hZ:(DataW.weightsEach prog (Tryz.f7.params.toList++(OpenSpec.ofChange Rows.sqlParenthesesAreNeededSpec).bare.plain.varTypes prog) (ds++gs)).all (·≤reachBytes)=true) (hL:laidMetH prog Rows.sqlParenthesesAreNeededRow.laid W) (hS:W.ShapedOpen prog):Calls prog 7 args W fun e W'=>∃v,e=.returned v/\Rows.sqlParenthesesAreNeededSpec.post enc prog Tryz.f7 false true false false W args v W':=by
 have hE:Env W.heap.size W:=o9 hL hS acz acz acz acz acz;have hW':=hW;obtain⟨p,q,hA,hV,rfl,_,_⟩:=hW;rw[Tryz.params7]at hA hval;obtain⟨v0,vs,d,ds0,p0,q0,hargs,rfl,rfl,h0,r⟩:=trodAll_cons hA;obtain⟨v1,vs,d,ds1,p1,q1,rfl,rfl,rfl,h1,r1⟩:=trodAll_cons r;obtain⟨rfl,rfl,rfl⟩:=trodAll_nil r1;obtain rfl:args=#[v0,v1]:=by cases args;simp_all
 obtain⟨rfl,rfl⟩:=trodVars_none hV;obtain⟨sa,xa,rfl,hina,hwfa,hla,hta⟩:=adw (hval 0 50 v0 rfl rfl) h0 (fun k hk=>by simpa using vg.1 hZ k (DataW.weights_mem_each (j:=0) rfl rfl k hk));obtain⟨b,rfl,rfl,rfl,wb⟩:=open_int underlying60 (hval 1 60 v1 rfl rfl) h1;refine(agk xa sa b (bounds_u16 wb) W (hina.move fun _ h _=>⟨h,rfl⟩) hwfa hla hta hE).mono fun e W' ⟨he,hb⟩=>⟨_,he,?_⟩;exact cw jj (fun t ht=>adv t (by rw[Tryz.params7]at ht;simp at ht;rcases ht with rfl|rfl<;>simp)) rfl acz underlying4 hW' hb rfl
theorem lifted (os:Os) (started:os.Started) (H:Type) (enc:TypeId×Value->H) (F:Stop.Interp):ReturnsInHanded {} Tryz.checked os 7 .any ((OpenSpec.ofChange Rows.sqlParenthesesAreNeededSpec).preRow enc prog Tryz.f7 Rows.sqlParenthesesAreNeededRow.domain false Rows.sqlParenthesesAreNeededRow.laid) (((OpenSpec.ofChange Rows.sqlParenthesesAreNeededSpec).at F).post enc prog Tryz.f7 false true false false):=by
 obtain⟨x,hx,_⟩:=reads os enc;refine returnsInHanded_of_row (C:=Tryz.checked) (s:=OpenSpec.ofChange Rows.sqlParenthesesAreNeededSpec) own started acz func7
  (Hz (enc:=enc) (C:=Tryz.checked) false (start os) #[(.agg (SV.arr {})),(.int .u16 0)] (Ru _ _) (kh os _) (Uu os _) acz
   (OpenSpec.preRow_of_cond 8 hx acz (fun k hk=>by cases hk) acz (laid_met os))) ?_
 exact rd
theorem said:Rows.SqlParenthesesAreNeededSaid:=
 OpenClaim.holds_of_cond 7 Tryz.f7 rfl rfl rfl rfl rfl rfl rfl ⟨rfl,rfl,rfl,rfl,rfl⟩ rfl rfl rfl rfl rfl acz func7 closed
  (zw acz) (by unfold Func.isWrapper;first|(rw[if_pos ac0];kernel_rfl)|(rw[if_neg ac0];exact⟨rfl,rfl⟩))
  (fun os started H enc _ F=>by rw[OpenClaim.pre_eq_preRow];exact lifted os started H enc F)
theorem card:Rows.SqlParenthesesAreNeededCardSaid:=
 Claim7.holds_tied_plain_at .later [] _ _ _ _ said (fun _ h=>by cases h) acz (fun _ h=>by cases h) sqlParenthesesAreNeeded_row_tie rfl ⟨rfl,rfl⟩ acz rfl plain acz
#print axioms card
end parenthesesAreNeeded
end
end Go.Proofs.YtimoefagohifaaaGreatDoor
