/- Laws that the last part needs. No condition. -/
import Derived.Test.YtimoefagohifaaaGreatDoorA08
set_option maxHeartbeats 8000000
set_option maxRecDepth 100000
namespace Go.Proofs.YtimoefagohifaaaGreatDoor
open Go.RowKit Go.Sort Tryz
section
theorem de:(prog.info? 37).map (fun i=>(i.zero,i.size,i.bytes))=some (some (.agg #[eS,U 0,.bool false]),3,32):=acz
theorem jn:(prog.info? 151).map (fun i=>(i.zero,i.size,i.bytes))=some (some (.agg #[U 0,U 0,U 0,U 0,eS]),5,48):=acz
theorem Q9 (a b c:Value) (W:World):(Instr.buildSlice 31 1 #[(0,.agg #[a,b,c])]).run prog W=.ok (.slice (O W.heap.size) 1 1) (W.alloc (.cells #[a,b,c] 37)):=acz
theorem fd (a b c d e:Value) (W:World):(Instr.buildSlice 33 1 #[(0,.agg #[a,b,c,d,e])]).run prog W=.ok (.slice (O W.heap.size) 1 1) (W.alloc (.cells #[a,b,c,d,e] 151)):=acz
theorem Cd {w:World} {b:Nat} {cs:Array Value} {t:TypeId} {fr:Nat×Nat} (h:w.heap[b]?=some (.cells cs t fr)):SlAt w (.slice (O b) 1 1) 1 cs.toList:=by
 refine⟨_,1,rfl,tu _,fun _=>⟨b,0,rfl,fun j u hu=>?_⟩⟩;exact ahh
theorem afr (pb:Nat) (sz:Int) (l:List Tok) (w:World) (h:Psr w pb sz l):Calls prog 123 #[.pointer (some ⟨pb,0,none⟩)] w (Post pb sz (RTbl w.heap.size) (tableR sz l) w):=by
 have S:=tm (PFr.start h);have HF:=tm h.few;clear h;refine Bt (C:=fun y=>Calls prog 123 _ w (Post pb sz (RTbl w.heap.size) y w)) _ ?_;intro y HM;unfold tableR at HM;go_enter func123,ntmps123;go_wp2_with fail;refine PFr.post (PFr.alloc (S.out)) (name_any pb sz _ _ ((PFr.alloc (S.out))).psr) (fun p q h=>by rw[HM.out,h];try rfl) (fun _ _ h=>⟨rfl,h⟩) ?_;clear S;intro a1 r v1 w1 h1 hv ht S;have HL1:=tm (Be h1);refine z52 ?_;intro HM;clear h1;obtain rfl:=hv;refine z1076 ?_;intro F;go_wp2_with fail;refine PFr.wants (PFr.laid (PFr.alloc (S.out))) [[40]] (blk_at acx) rfl acy rfl acy acy (fun p q h=>by rw[HM.out,h];try rfl) (fun _ _ h=>⟨rfl,h⟩) ?_;intro r w2 h2 ht2 SP;have HL2:=tm (Aw h2);replace HM:=HM.out;rw[h2]at HM;simp only[]at HM;replace HM:=tm HM;have S2:=tm (RFr.snoc (RFr.snoc (RFr.mk0 SP.out) 37 3) 151 5);simp only[uc,tz]at S2;have HS:Hid (w.heap.size<w1.heap.size):=S.out.facts.1;clear h2 ht2 ht SP S F;go_wp2_with fail;have y0:∀p:TurnW (fun k=>k=pb\/(eL:Value).ownBlock=some k) w2,p.w.cell? ⟨w1.heap.size,1,none⟩=some eL:=fun p=>S2.out.cellT (i:=0) rfl (j:=0) rfl 1 rfl p;refine Av (fun k=>k=pb\/(eL:Value).ownBlock=some k) (fun c w'=>Post pb sz (RTbl w.heap.size) y w (.panicked c) w') (fun _ _ _ hd h=>⟨hd,h⟩) 6 [(0,false),(1,false),(2,false),(3,true),(4,true),(5,true)] acz acz ?_;refine adr ?_;refine acm rfl rfl ?_;intro wa hba hta;have Sa:=tm (S2.out.kept hba);have HTa:=tm hta;clear hba hta y0;go_wp2_with fail
 refine RFr.post Sa.out (column_any pb sz _ _ Sa.out.psr) (fun p q h=>by rw[HM.out,h];try rfl) (fun _ _ h=>h) ?_;intro ab rb vb wb h2b hvb htb Sb;have HLb:=tm (Ej _ _ _ h2b);have HMb:=HM.out;rw[h2b]at HMb;try(simp only[]at HMb)
 replace HMb:=tm HMb;clear h2b HM;obtain rfl:=hvb;have HTb:=tm (HTa.out.trans htb (fun _ _ h=>.inl h));clear HTa htb Sa S2;refine qv ?_;clear Sb HTb;intro wc wd Sd HTd;refine wpList_append_at rfl _ _ 31 rfl 37 (.agg #[eS,U 0,.bool false]) 3 32 underlying31 de rfl acy w.heap.size eL (0) ([]) rfl (Sd.out.own (i:=0) rfl) (.slice (O wc.heap.size) 1 1) 1 (ab.cells) rfl acy (Cd (Sd.out.fr.blk 0 rfl)) rfl ?_ acy acy Sd.out.size ?_
 ·exact px
 intro ve we hown hg hw hsl;obtain⟨g,c2,rfl⟩:=hsl;have Se:=tm ((Sd.out.grown (i:=0) (r':=⟨37,3,.slice (O g) (0+1) c2,0+1,[]++ab.cells⟩) rfl hg hown hw).tail);clear hown hw Sd;have HTe:=tm (HTd.out.trans (Turn.of_grown hg) (fun _ _ h=>.inr h));refine⟨HTe.out,B8 ?_⟩;intro wf hbf _;have Sf:=tm (Se.out.kept hbf);clear hbf HTe;simp only[ub,uc]at Sf;refine z279 ?_;clear hg HTd Se;have Ff:=fx_ Sf.out.facts;go_wp2_with(with_reducible (refine hold ?_));have HMl:Hid (y=(tableMore sz rb.length [ab] [] rb).bind fun cc l4=>(wantsR sz [[41]] l4).map fun _=>(⟨a1,cc.1,[],cc.2⟩:Tbl)):=HMb;clear HMb Ff;refine Ce (fun W=>RFr pb sz w W [(w1.heap.size,#[.string (Y a1),.slice (O g) 1 c2,eL,eL],35),(w.heap.size,#[eS,eL,eL,eL],35)] [⟨37,3,.slice (O g) 1 c2,1,colVals [ab]⟩,⟨151,5,eL,0,[]⟩] rb) ((RFr.set 0 (Sf.out) rfl)) ?_;clear Sf;intro wl SL';have SL:=tm SL';clear SL'
 go_loopw [4,5] (fun _ _ wr=>∃(cols:List Col) (checks:List Chk) (lr:List Tok) (ca ka:Option Addr) (cc kc:Nat),Hid (y=(tableMore sz lr.length cols checks lr).bind fun cc l4=>(wantsR sz [[41]] l4).map fun _=>(⟨a1,cc.1,[],cc.2⟩:Tbl))/\Hid (cols.length+checks.length+lr.length<=l.length+1)/\Hid (RFr pb sz w wr [(w1.heap.size,#[.string (Y a1),.slice ca cols.length cc,eL,.slice ka checks.length kc],35),(w.heap.size,#[eS,eL,eL,eL],35)] [⟨37,3,.slice ca cols.length cc,cols.length,colVals cols⟩,⟨151,5,.slice ka checks.length kc,checks.length,chkVals checks⟩] lr)) (fun _ _ wr=>psLeft pb wr)
 case atStart=>exact⟨[ab],[],rb,_,none,_,0,HMl.out,by show _<=_;have h1:=HL1.out;have h2:=HL2.out;have h3:=HLb.out;simp at h2 ⊢;omega,SL.out⟩
 case round=>
  clear HMl HL1 HL2 HLb SL;obtain⟨cols,checks,lr,ca,ka,cc,kc,HM,HL,S⟩:=hrel;have HMS:=tm (Bf S.out.psr);go_wp2_with fail;refine RFr.takes (RFr.laid (S.out)) [44] (blk_at acx) acy ?_ ?_
  ·clear S;intro r4 w4 hn ht S;have HLt:=tm (A5 hn);replace HM:Hid (y=(if(tk [99,104,101,99,107] r4).isSome||decide (0<checks.length)then(checkR sz cols r4).bind fun x l1=>tableMore sz l1.length cols (checks++[x]) l1
    else if headIs 2 r4 then(columnR sz r4).bind fun c l1=>tableMore sz l1.length (cols++[c]) checks l1
    else stopR sz r4 380).bind fun cc l4=>(wantsR sz [[41]] l4).map fun _=>(⟨a1,cc.1,[],cc.2⟩:Tbl)):=by
    show _=_
    rw[HM.out]
    obtain⟨f,hf⟩:∃f,lr.length=f+1:=⟨lr.length - 1,by have:=A5 hn;omega⟩
    rw[hf,Cp,hn]
    simp only
    congr 1
    split
    ·cases hx:checkR sz cols r4 with
     | err p q=>rfl
     | ok a l1=>
      have k1:=Hs r4 a l1 hx;exact ah3
    ·split
     ·cases hx:columnR sz r4 with
      | err p q=>rfl
      | ok a l1=>
       have k1:=Ej r4 a l1 hx;exact ah3
     ·rfl
   clear hn ht;go_wp2_with fail;refine RFr.sees1 (RFr.laid (S.out)) [99,104,101,99,107] (blk_at acx) acy ?_;clear S;intro w5 hb5 S;clear hb5;generalize (tk [99,104,101,99,107] r4).isSome=bc at HM ⊢;by_cases hx:(bc||decide (0<checks.length))=true
   ·replace HM:Hid (y=(checkR sz cols r4).bind fun x l1=>(tableMore sz l1.length cols (checks++[x]) l1).bind fun cc l4=>(wantsR sz [[41]] l4).map fun _=>(⟨a1,cc.1,[],cc.2⟩:Tbl)):=by
     show _=_;rw[HM.out,if_pos hx]
     cases checkR sz cols r4<;>rfl
    have hy:bc=true\/bc=false/\0<checks.length:=by cases bc<;>simp_all
    clear hx;refine z1076 ?_;intro F;rcases hy with rfl|⟨rfl,hpos⟩
    all_goals
     go_wp2_with fail
     have y0:∀p:TurnW (fun k=>k=pb\/(.slice ka checks.length kc:Value).ownBlock=some k) w5,p.w.cell? ⟨w1.heap.size,3,none⟩=some (.slice ka checks.length kc):=fun p=>S.out.cellT (i:=1) rfl (j:=0) rfl 3 rfl p
     have yb:=fun(p:TurnW (fun k=>k=pb\/(.slice ka checks.length kc:Value).ownBlock=some k) w5)=>S.out.blkT (i:=1) rfl (j:=0) rfl p
     clear F
     refine Av (fun k=>k=pb\/(.slice ka checks.length kc:Value).ownBlock=some k) (fun c w'=>Post pb sz (RTbl w.heap.size) y w (.panicked c) w') (fun _ _ _ hd h=>⟨hd,h⟩) 7 [(0,false),(1,false),(2,false),(3,false),(4,true),(5,true),(6,true)] acz acz ?_
     repeat(refine wpM_mildP rfl (fun K hK=>?_);go_simp;first|(refine hK _ ?_;clear hK K)|(apply Exists.intro;refine⟨fun _=>?_,hK _ ?_⟩;(fail);clear hK K))
     refine Db rfl rfl 35 (.tmp 3) rfl w1.heap.size rfl 35 _ (0,0) _ yb underlying35 rfl (af _ _ _ _) ?_
     clear yb
     refine acm rfl rfl ?_
     intro wa hba hta
     have Sa:=tm (S.out.kept hba)
     have HTa:=tm hta
     clear hba hta y0
     go_wp2_with fail
     refine RFr.post Sa.out (Y4 pb sz a1 ca ka cc checks.length kc cols _ _ Sa.out.psr ((Sa.out.own (i:=0) rfl).slIn.mono (fun b hb e=>by have h1:=Sa.out.lt;have h2:w.heap.size<=b:=hb;have h3:b=pb:=e;omega)) (by have h1:=HF.out;have h2:=HL.out;omega)) (fun p q h=>by rw[HM.out,h];try rfl) (fun _ _ h=>h) ?_
     intro ab rb vb wb h5b hvb htb Sb
     have HLb:=tm (Hs _ _ _ h5b)
     have HMb:=HM.out
     rw[h5b]at HMb
     try(simp only[Res.bind,Res.map]at HMb)
     replace HMb:=tm HMb
     clear h5b HM
     obtain rfl:=hvb
     have HTb:=tm (HTa.out.trans htb (fun _ _ h=>.inl h))
     clear HTa htb Sa S
     go_wp2_with fail
     refine⟨HTb.out,?_⟩
     refine acm rfl rfl ?_
     intro wc hbc htc
     have Sc:=tm (Sb.out.kept hbc)
     have HTc:=tm htc
     clear hbc htc Sb HTb
     refine Bx rfl _ rfl rfl (fd _ _ _ _ _ _) ?_
     refine⟨HTc.out.step ((uj _ _).alloc (tu _) _),?_⟩
     clear HTc
     refine acm rfl rfl ?_
     intro wd hbd htd
     have Sd:=tm ((RFr.alloc (cs:=#[U ab.col,U ab.op,U ab.val.k,U ab.val.n,.string ab.val.s]) (t:=151) Sc.out).kept hbd)
     have HTd:=tm htd
     clear hbd htd Sc
     refine wpList_append_at rfl _ _ 33 rfl 151 (.agg #[U 0,U 0,U 0,U 0,eS]) 5 48 underlying33 jn rfl acy w.heap.size (.slice ka checks.length kc) (checks.length) (chkVals checks) rfl (Sd.out.own (i:=1) rfl) (.slice (O wc.heap.size) 1 1) 1 (chkCells ab) rfl acy (Cd (Sd.out.fr.blk 0 rfl)) rfl ?_ (by have h1:=HF.out;have h2:=HL.out;omega) (by have h1:=HF.out;have h2:=HL.out;simp[maxLen];omega) Sd.out.size ?_
     ·intro u hu;simp only[chkCells,uw,vl,xp]at hu;rcases hu with rfl|rfl|rfl|rfl|rfl<;>rfl
     intro ve we hown hg hw hsl
     obtain⟨g,c5,rfl⟩:=hsl
     have Se:=tm ((Sd.out.grown (i:=1) (r':=⟨151,5,.slice (O g) (checks.length+1) c5,checks.length+1,chkVals checks++chkCells ab⟩) rfl hg hown hw).tail)
     have HTe:=tm (HTd.out.trans (Turn.of_grown hg) (fun _ _ h=>.inr h))
     clear hown hg hw HTd Sd
     refine⟨HTe.out,B8 ?_⟩
     intro wf hbf _
     have Sf:=tm (Se.out.kept hbf)
     clear hbf HTe Se
     simp only[ub,ui]at Sf
     simp only[vo,vz]
     have Ff:=fx_ Sf.out.facts
     go_wp2_with(with_reducible (refine hold ?_))
     go_roundw
     have e1:(checks++[ab]).length=checks.length+1:=acx
     have e2:chkVals (checks++[ab])=chkVals checks++chkCells ab:=by simp[chkVals]
     case rel=>exact⟨cols,checks++[ab],rb,ca,some ⟨g,0,none⟩,cc,c5,HMb.out,by show _<=_;have h1:=HL.out;have h2:=HLt.out;have h3:=HLb.out;rw[e1];omega,by show RFr _ _ _ _ _ _ _;rw[e1,e2];exact(RFr.set 0 (Sf.out) rfl)⟩
     case measure=>
      have h1:=HMS.out;have h2:=HLt.out;have h3:=HLb.out;rw[Bf ((RFr.set 0 (Sf.out) rfl)).psr,h1];omega
   ·have hx2:bc=false/\checks.length=0:=by cases bc<;>simp_all
    obtain⟨rfl,hz⟩:=hx2;obtain rfl:checks=[]:=ut hz;replace HM:Hid (y=(if headIs 2 r4 then(columnR sz r4).bind fun c l1=>tableMore sz l1.length (cols++[c]) [] l1 else stopR sz r4 380).bind fun cc l4=>(wantsR sz [[41]] l4).map fun _=>(⟨a1,cc.1,[],cc.2⟩:Tbl)):=by
     show _=_;rw[HM.out,if_neg acx]
    simp only[tx]at S;have HL':Hid (cols.length+lr.length<=l.length+1):=by show _<=_;have:=HL.out;simp at this;omega
    clear hx hz HL;have HL:=HL';clear HL';refine z1076 ?_;intro F;by_cases hh:headIs 2 r4=true
    ·obtain⟨t,q,rfl⟩:∃t q,r4=t::q:=by
      cases r4 with
      | nil=>cases hh
      | cons t q=>exact⟨t,q,rfl⟩
     refine m6 ?_;intro b o cap H G t0;have hk:t.kind=2:=by simpa[headIs]using hh
     rw[hk]at t0;have hc:1<=cap:=by have:=H.cap1;omega
     replace HM:Hid (y=(columnR sz (t::q)).bind fun c l1=>(tableMore sz l1.length (cols++[c]) [] l1).bind fun cc l4=>(wantsR sz [[41]] l4).map fun _=>(⟨a1,cc.1,[],cc.2⟩:Tbl)):=by
      show _=_;rw[HM.out,if_pos hh]
      cases columnR sz (t::q)<;>rfl
     clear H hh;go_wp2_with fail;clear G t0 hc hk F;have y0:∀p:TurnW (fun k=>k=pb\/(.slice ca cols.length cc:Value).ownBlock=some k) w5,p.w.cell? ⟨w1.heap.size,1,none⟩=some (.slice ca cols.length cc):=fun p=>S.out.cellT (i:=0) rfl (j:=0) rfl 1 rfl p;refine Av (fun k=>k=pb\/(.slice ca cols.length cc:Value).ownBlock=some k) (fun c w'=>Post pb sz (RTbl w.heap.size) y w (.panicked c) w') (fun _ _ _ hd h=>⟨hd,h⟩) 6 [(0,false),(1,false),(2,false),(3,true),(4,true),(5,true)] acz acz ?_;refine adr ?_;refine acm rfl rfl ?_;intro wa hba hta;have Sa:=tm (S.out.kept hba);have HTa:=tm hta;clear hba hta y0;go_wp2_with fail;refine RFr.post Sa.out (column_any pb sz _ _ Sa.out.psr) (fun p q h=>by rw[HM.out,h];try rfl) (fun _ _ h=>h) ?_;intro ab rb vb wb h5b hvb htb Sb;have HLb:=tm (Ej _ _ _ h5b);have HMb:=HM.out;rw[h5b]at HMb;try(simp only[Res.bind,Res.map]at HMb)
     replace HMb:=tm HMb;clear h5b HM;obtain rfl:=hvb;have HTb:=tm (HTa.out.trans htb (fun _ _ h=>.inl h));clear HTa htb Sa S;refine qv ?_;clear Sb HTb;intro wc wd Sd HTd;refine wpList_append_at rfl _ _ 31 rfl 37 (.agg #[eS,U 0,.bool false]) 3 32 underlying31 de rfl acy w.heap.size (.slice ca cols.length cc) (cols.length) (colVals cols) rfl (Sd.out.own (i:=0) rfl) (.slice (O wc.heap.size) 1 1) 1 (ab.cells) rfl acy (Cd (Sd.out.fr.blk 0 rfl)) rfl ?_ (by have h1:=HF.out;have h2:=HL.out;omega) (by have h1:=HF.out;have h2:=HL.out;simp[maxLen];omega) Sd.out.size ?_
     ·exact px
     intro ve we hown hg hw hsl;obtain⟨g,c5,rfl⟩:=hsl;have Se:=tm ((Sd.out.grown (i:=0) (r':=⟨37,3,.slice (O g) (cols.length+1) c5,cols.length+1,colVals cols++ab.cells⟩) rfl hg hown hw).tail);clear hown hw Sd;have HTe:=tm (HTd.out.trans (Turn.of_grown hg) (fun _ _ h=>.inr h));refine⟨HTe.out,B8 ?_⟩;intro wf hbf _;have Sf:=tm (Se.out.kept hbf);clear hbf HTe;simp only[ub]at Sf;refine z279 ?_;clear hg HTd Se;have Ff:=fx_ Sf.out.facts;go_wp2_with(with_reducible (refine hold ?_));go_roundw;have e1:(cols++[ab]).length=cols.length+1:=acx;have e2:colVals (cols++[ab])=colVals cols++ab.cells:=by simp[colVals]
     case rel=>exact⟨cols++[ab],[],rb,some ⟨g,0,none⟩,ka,c5,kc,HMb.out,by show _<=_;have h1:=HL.out;have h2:=HLt.out;have h3:=HLb.out;rw[e1];simp at h3 h2 ⊢;omega,by show RFr _ _ _ _ _ _ _;rw[e1,e2];exact(RFr.set 0 (Sf.out) rfl)⟩
     case measure=>
      have h1:=HMS.out;have h2:=HLt.out;have h3:=HLb.out;rw[Bf ((RFr.set 0 (Sf.out) rfl)).psr,h1];simp at h2 h3;omega
    ·replace HM:Hid (y=stopR sz r4 380):=by show _=_;rw[HM.out,if_neg hh];rfl
     cases r4 with
     | nil=>
      obtain⟨a,cap,h1⟩:=S.out.psr.nil;have G:=Al h1 [.slice a 0 cap,U sz] 0 (fun j=>acx);simp only[cellFacts,uo]at G;clear h1 hh;go_wp2_with fail;exact RFr.stop S.out 380 HM.out (fun _ _ h=>⟨rfl,h⟩)
     | cons t q=>
      refine m6 ?_;intro b o cap H G t0;have hk:(t.kind==2)=false:=by simpa[headIs]using hh
      have hc:1<=cap:=by have:=H.cap1;omega
      clear H hh;obtain⟨tkk,hkk⟩:∃x,t.kind=x:=⟨_,rfl⟩;rw[hkk]at t0 hk;clear hkk;go_wp2_with fail;exact RFr.stop S.out 380 HM.out (fun _ _ h=>⟨rfl,h⟩)
  ·clear S;intro w4 hn ht S;replace HM:Hid (y=(wantsR sz [[41]] lr).map fun _=>(⟨a1,cols,[],checks⟩:Tbl)):=by
    show _=_;rw[HM.out]
    cases hf:lr.length with
    | zero=>rfl
    | succ f=>rw[Cp,hn];rfl
   clear hn ht;go_wp2_with fail;refine RFr.wants (RFr.laid (S.out)) [[41]] (blk_at acx) rfl acy rfl acy acy (fun p q h=>by rw[HM.out,h];try rfl) (fun _ _ h=>⟨rfl,h⟩) ?_;clear S;intro r w5 h5 ht S;replace HM:=HM.out;rw[h5]at HM;simp only[Res.map]at HM;replace HM:=tm HM;clear h5 ht;refine z1076 ?_;intro F;go_wp2_with fail;refine ue (v:=.agg #[.string (Y a1),.slice ca cols.length cc,eL,.slice ka checks.length kc]) (by simp[results,results123,go_sem,F]) rfl ?_;exact RFr.done (RFr.set 1 (RFr.set 1 (RFr.set 1 (RFr.set 1 (S.out) rfl) rfl) rfl) rfl) HM.out (fun SE=>⟨ca,cc,ka,kc,rfl,rfl,⟨_,(SE.own (i:=0) rfl).slIn,Qc⟩,⟨_,(SE.own (i:=1) rfl).slIn,Qd⟩⟩)
structure Far where
 P:(Nat->Prop)->World->Prop
 move:∀{Q R:Nat->Prop} {w w':World},(∀b,b<w.heap.size->Q b->R b/\w'.heap[b]?=w.heap[b]?)->P Q w->P R w'
def Far.top:Far:=⟨fun _ _=>True,fun _ h=>h⟩
def Far.and (F G:Far):Far:=⟨fun Q w=>F.P Q w/\G.P Q w,fun hq h=>⟨F.move hq h.1,G.move hq h.2⟩⟩
def farSl {α:Type} (E:ElRep α) (hk:0<E.k) (v:Value) (l:List α):Far:=⟨fun Q w=>RSl E Q w v l,fun hq h=>rSl_move hk hq h⟩
def farL {α:Type} (E:ElRep α) (l:List α) (acs:List Value):Far:=⟨fun Q w=>LIn E Q w l acs,fun hq h=>LIn.move hq h⟩
def farEx (e:Ex) (cs:List Value):Far:=⟨fun Q w=>ExIn Q w e cs,fun hq h=>Bj hq _ _ h⟩
def OffL (B:Nat) (L:List Blk) (R:List Row) (b:Nat):Prop:=B<=b/\(∀x∈L,x.1≠b)/\b∉R.flatMap Row.blk
structure XFr (pb:Nat) (sz:Int) (w0 w:World) (L:List Blk) (R:List Row) (l:List Tok) (G:Far):Prop where
 fr:RFr pb sz w0 w L R l
 far:G.P (OffL w0.heap.size L R) w
variable {pb:Nat} {sz:Int} {w0 w w':World} {L:List Blk} {R:List Row} {l:List Tok} {G:Far}
theorem XFr.mk0 (h:RFr pb sz w0 w L R l):XFr pb sz w0 w L R l Far.top:=⟨h,trivial⟩
theorem XFr.facts (h:XFr pb sz w0 w L R l G):St.Facts w L:=h.fr.facts
theorem XFr.psr (h:XFr pb sz w0 w L R l G):Psr w pb sz l:=h.fr.psr
theorem XFr.size (h:XFr pb sz w0 w L R l G):w0.heap.size<=w.heap.size:=h.fr.size
theorem XFr.lt (h:XFr pb sz w0 w L R l G):pb<w0.heap.size:=h.fr.lt
theorem XFr.kept (h:XFr pb sz w0 w L R l G) (hb:Below w.heap.size w w'):XFr pb sz w0 w' L R l G:=⟨h.fr.kept hb,G.move (fun b hlt hq=>⟨hq,hb.block b hlt⟩) h.far⟩
theorem XFr.laid {o:Obj} (h:XFr pb sz w0 w L R l G):XFr pb sz w0 (w.alloc o) L R l G:=h.kept ((uj _ _).alloc (tu _) o)
theorem XFr.alloc {cs:Array Value} {t:TypeId} (h:XFr pb sz w0 w L R l G):XFr pb sz w0 (w.alloc (.cells cs t)) ((w.heap.size,cs,t)::L) R l G:=
 ⟨h.fr.alloc,G.move (fun b hlt hq=>⟨⟨hq.1,fun x hx=>by
  rcases uw.1 hx with rfl|hx
  ·intro e;have e':w.heap.size=b:=e;omega
  ·exact hq.2.1 x hx,hq.2.2⟩,xe _ _ _ hlt⟩) h.far⟩
theorem XFr.tail {x:Blk} (h:XFr pb sz w0 w (x::L) R l G):XFr pb sz w0 w L R l G:=⟨h.fr.tail,G.move (fun _b _ hq=>⟨⟨hq.1,fun y hy=>hq.2.1 y (zk _ hy),hq.2.2⟩,rfl⟩) h.far⟩
theorem XFr.set (i:Nat) {b o:Nat} {cs:Array Value} {t:TypeId} {v:Value} (h:XFr pb sz w0 w L R l G) (hi:L[i]?=some (b,cs,t)):XFr pb sz w0 (w.setCell ⟨b,o,none⟩ v) (L.set i (b,cs.setIfInBounds o v,t)) R l G:=by
 refine⟨h.fr.set i hi,G.move (fun c hlt hq=>⟨⟨hq.1,fun x hx=>?_,hq.2.2⟩,?_⟩) h.far⟩
 ·exact ah6
 ·have:=hq.2.1 (b,cs,t) (uq hi);exact xk _ _ _ _ (fun e=>this e.symm)
theorem XFr.went {r:List Tok} (h:XFr pb sz w0 w L R l G) (ht:Turn (·=pb) w w') (hp:Psr w' pb sz r):XFr pb sz w0 w' L R r G:=
 ⟨h.fr.went ht hp,G.move (fun b hlt hq=>⟨hq,ht.block b hlt (fun e=>by have h1:=hq.1;have h2:=h.lt;have e':b=pb:=e;omega)⟩) h.far⟩
theorem XFr.grown {i:Nat} {r r':Row} (h:XFr pb sz w0 w L R l G) (hi:R[i]?=some r) (hg:w.grownBy w' r.v.ownBlock) (hown:w'.ownsRow w0.heap.size r'.e r'.k r'.v r'.n r'.xs) (hb:r'.v.ownBlock=r.v.ownBlock\/∃g,r'.v.ownBlock=some g/\w.heap.size<=g):XFr pb sz w0 w' L (R.set i r') l G:=by
 refine⟨h.fr.grown hi hg hown hb,G.move (fun b hlt hq=>?_) h.far⟩;have:=h.fr.off hi hb hlt ⟨hq.1,hq.2.2⟩;exact⟨⟨hq.1,hq.2.1,this.1.2⟩,hg.block b hlt (fun e=>this.2 e.symm)⟩
theorem XFr.own {i:Nat} {r:Row} (h:XFr pb sz w0 w L R l G) (hi:R[i]?=some r):w.ownsRow w0.heap.size r.e r.k r.v r.n r.xs:=h.fr.own hi
theorem XFr.imp {G2:Far} (h:XFr pb sz w0 w L R l G) (k:∀Q w,G.P Q w->G2.P Q w):XFr pb sz w0 w L R l G2:=⟨h.fr,k _ _ h.far⟩
theorem XFr.add {C:Nat} (h:XFr pb sz w0 w L R l G) (G2:Far) (hC:w0.heap.size<=C) (hL:∀x∈L,x.1<C) (hR:∀g∈R.flatMap Row.blk,g<C) (h2:G2.P (C≤·) w):XFr pb sz w0 w L R l (G.and G2):=
 ⟨h.fr,h.far,G2.move (fun b _ hq=>⟨⟨vj hC hq,fun x hx e=>by have h1:=hL x hx;have h2:C<=b:=hq;omega,fun hm=>by have h1:=hR b hm;have h2:C<=b:=hq;omega⟩,rfl⟩) h2⟩
theorem XFr.bounds (h:XFr pb sz w0 w L R l G):(∀x∈L,x.1<w.heap.size)/\∀g∈R.flatMap Row.blk,g<w.heap.size:=by
 refine⟨fun x hx=>?_,fun g hg=>(h.fr.rows.mem_blk hg).2⟩;obtain⟨j,hj⟩:=yi.1 hx;obtain⟨b,cs,t⟩:=x;exact(uh.1 (h.fr.fr.blk j hj)).1
theorem XFr.takes (S:XFr pb sz w0 w L R l G) (s:Bytes) {nb cap:Nat} {t:TypeId} {K:Ending->World->Prop} (hs:w.heap[nb]?=some (.cells #[.string (Y s)] t (0,0))) (hc:1<=cap)
 (hyes:∀r w',tk s l=some r->Turn (·=pb) w w'->Hid (XFr pb sz w0 w' L R r G)->K (.returned (.bool true)) w') (hno:∀w',tk s l=none->Turn (·=pb) w w'->Hid (XFr pb sz w0 w' L R l G)->K (.returned (.bool false)) w'):
 Calls prog 122 #[.pointer (O pb),.slice (O nb) 1 cap] w K:=
 S.fr.takes s hs hc (fun r w' h1 h2 h3=>hyes r w' h1 h2 (S.went h2 h3.out.psr)) (fun w' h1 h2 h3=>hno w' h1 h2 (S.went h2 h3.out.psr))
theorem XFr.opt (S:XFr pb sz w0 w L R l G) (s:Bytes) {nb cap:Nat} {t:TypeId} {K:Ending->World->Prop} (hs:w.heap[nb]?=some (.cells #[.string (Y s)] t (0,0))) (hc:1<=cap) (hok:∀w',Turn (·=pb) w w'->Hid (XFr pb sz w0 w' L R (optR s l).2 G)->K (.returned (.bool (optR s l).1)) w'):Calls prog 122 #[.pointer (O pb),.slice (O nb) 1 cap] w K:=by
 refine S.takes s hs hc (fun r w' h1 h2 h3=>?_) (fun w' h1 h2 h3=>?_)
 ·have:=hok w' h2;unfold optR at this;rw[h1]at this;exact this h3
 ·have:=hok w' h2;unfold optR at this;rw[h1]at this;exact this h3
theorem XFr.post {α β:Type} {f:FuncId} {args:Array Value} {Rep:World->α->Value->Prop} {Rep2:World->β->Value->Prop} {x:Res α} {y:Res β} {K:Ending->World->Prop} (S:XFr pb sz w0 w L R l G) (C:Calls prog f args w (Post pb sz Rep x w))
 (herr:∀p q,x=.err p q->y=.err p q) (hK:∀c w',Post pb sz Rep2 y w0 (.panicked c) w'->K (.panicked c) w')
 (hok:∀a r v w',x=.ok a r->Rep w' a v->Turn (·=pb) w w'->Hid (XFr pb sz w0 w' L R r G)->K (.returned v) w'):Calls prog f args w K:=
 S.fr.post C herr hK (fun a r v w' h1 h2 h3 h4=>hok a r v w' h1 h2 h3 (S.went h3 h4.out.psr))
theorem XFr.postG {α β:Type} {f:FuncId} {args:Array Value} {Rep:World->α->Value->Prop} {Rep2:World->β->Value->Prop} {x:Res α} {y:Res β} {K:Ending->World->Prop} (S:XFr pb sz w0 w L R l G) (C:Calls prog f args w (Post pb sz Rep x w))
 (herr:∀p q,x=.err p q->y=.err p q) (hK:∀c w',Post pb sz Rep2 y w0 (.panicked c) w'->K (.panicked c) w')
 (hok:∀a r v w',x=.ok a r->Rep w' a v->Turn (·=pb) w w'->Hid (∀G2:Far,G2.P (w.heap.size≤·) w'->XFr pb sz w0 w' L R r (G.and G2))->K (.returned v) w'):Calls prog f args w K:=
 S.post C herr hK (fun a r v w' h1 h2 h3 h4=>hok a r v w' h1 h2 h3 (fun G2 hg=>h4.out.add G2 S.size S.bounds.1 S.bounds.2 hg))
theorem XFr.stop {β:Type} {Rep2:World->β->Value->Prop} {y:Res β} {K:Ending->World->Prop} (S:XFr pb sz w0 w L R l G) (q:Int) (hy:y=stopR sz l q) (hK:∀c w',Post pb sz Rep2 y w0 (.panicked c) w'->K (.panicked c) w'):
 Calls prog 55 #[.pointer (O pb),U q] w K:=S.fr.stop q hy hK
theorem XFr.wants {β:Type} {Rep2:World->β->Value->Prop} {y:Res β} {K:Ending->World->Prop} (S:XFr pb sz w0 w L R l G) (ws:List Bytes) {nb n cap:Nat} {cs:Array Value} {t:TypeId}
 (hs:w.heap[nb]?=some (.cells cs t (0,0))) (hcs:cs=(strVals ws).toArray) (ht:t≠114) (hn:n=ws.length) (hc:n<=cap) (hl:n<=1000000) (herr:∀p q,wantsR sz ws l=.err p q->y=.err p q) (hK:∀c w',Post pb sz Rep2 y w0 (.panicked c) w'->K (.panicked c) w')
 (hok:∀r w',wantsR sz ws l=.ok () r->Turn (·=pb) w w'->Hid (XFr pb sz w0 w' L R r G)->K (.returned (.tuple #[])) w'):Calls prog 124 #[.pointer (O pb),.slice (O nb) n cap] w K:=
 S.fr.wants ws hs hcs ht hn hc hl herr hK (fun r w' h1 h2 h3=>hok r w' h1 h2 (S.went h2 h3.out.psr))
theorem XFr.cellT {i j:Nat} {r:Row} {b:Nat} {cs:Array Value} {t:TypeId} {v:Value} (h:XFr pb sz w0 w L R l G) (hi:R[i]?=some r) (hj:L[j]?=some (b,cs,t)) (o:Nat) (hv:cs[o]?=some v)
 (p:TurnW (fun k=>k=pb\/r.v.ownBlock=some k) w):p.w.cell? ⟨b,o,none⟩=some v:=h.fr.cellT hi hj o hv p
theorem XFr.done {α:Type} {Rep:World->α->Value->Prop} {y:Res α} {a:α} {v:Value} (S:XFr pb sz w0 w L R l G) (hy:y=.ok a l) (hv:XFr pb sz w0 w L R l G->Rep w a v):Post pb sz Rep y w0 (.returned v) w:=S.fr.fr.done hy (hv S)
theorem XFr.since (h:XFr pb sz w0 w L R l G):G.P (w0.heap.size≤·) w:=G.move (fun _ _ hq=>⟨hq.1,rfl⟩) h.far
end
def chooseE (sz:Int) (d:Bool) (items:List Pk) (fr:List Bytes) (on:List Ex) (wh:Ex) (gr:List Ex) (so:List Srt) (l:List Tok):Res Sel:=(limitR sz l).map fun n=>⟨d,items,fr,on,wh,gr,so,n⟩
def chooseD (sz:Int) (d:Bool) (items:List Pk) (fr:List Bytes) (on:List Ex) (wh:Ex) (gr:List Ex) (l:List Tok):Res Sel:=(byR sz [111,114,100,101,114] (sortR sz) l).bind fun so l8=>chooseE sz d items fr on wh gr so l8
def chooseC (sz:Int) (d:Bool) (items:List Pk) (fr:List Bytes) (on:List Ex) (wh:Ex) (l:List Tok):Res Sel:=(byR sz [103,114,111,117,112] (refR sz) l).bind fun gr l7=>chooseD sz d items fr on wh gr l7
def chooseB (sz:Int) (d:Bool) (items:List Pk) (fr:List Bytes) (on:List Ex) (l:List Tok):Res Sel:=(whereR sz l).bind fun wh l6=>chooseC sz d items fr on wh l6
def chooseA (sz:Int) (d:Bool) (items:List Pk) (l:List Tok):Res Sel:=(wantsR sz [[102,114,111,109]] l).bind fun _ l3=>(nameR sz l3).bind fun nm l4=>(joinsR sz l4.length [nm] [] l4).bind fun fo l5=>chooseB sz d items fo.1 fo.2 l5
theorem chooseR_eq (sz:Int) (l:List Tok):chooseR sz l=(itemsR sz (optR [100,105,115,116,105,110,99,116] l).2).bind fun items l2=>chooseA sz (optR [100,105,115,116,105,110,99,116] l).1 items l2:=rfl
theorem Po (w:Bytes) (l:List Tok):(optR w l).2.length<=l.length:=by
 unfold optR
 cases h:tk w l with
 | none=>exact tu _
 | some r=>have:=A5 h;simp only;omega
theorem Tl (sz:Int) (l:List Tok):itemsR sz l=if(optR [42] l).1 then .ok [] (optR [42] l).2 else listR (itemR sz) (optR [42] l).2:=by
 unfold itemsR optR
 cases tk [42] l<;>rfl
theorem Vu {α:Type} (sz:Int) (w:Bytes) (read:List Tok->Res α) (l:List Tok):byR sz w read l=if(optR w l).1 then(wantsR sz [[98,121]] (optR w l).2).bind (fun _ l1=>listR read l1)else .ok [] (optR w l).2:=by
 unfold byR optR
 cases tk w l<;>rfl
theorem Vs {α β:Type} (sz:Int) (read:List Tok->Res α) (l:List Tok) (f:List α->List Tok->Res β):(if true=true then(wantsR sz [[98,121]] l).bind (fun _ l1=>listR read l1)else .ok [] l).bind f=(wantsR sz [[98,121]] l).bind fun _ l1=>(listR read l1).bind f:=by
 rw[if_pos rfl]
 cases wantsR sz [[98,121]] l<;>rfl
theorem Ef (sz:Int) (f:Nat) (fr:List Bytes) (on:List Ex) (l:List Tok):joinsR sz (f+1) fr on l=match tk [106,111,105,110] l with
 | none=>.ok (fr,on) l
 | some r=>(nameR sz r).bind fun nm l1=>(wantsR sz [[111,110]] l1).bind fun _ l2=>(anyR sz l2).bind fun e l3=>joinsR sz f (fr++[nm]) (on++[e]) l3:=rfl
theorem Jf {sz:Int}:∀(f g:Nat) (fr:List Bytes) (on:List Ex) (l:List Tok),l.length<=f->l.length<=g->joinsR sz f fr on l=joinsR sz g fr on l
 | 0,0,_,_,l,_,_=>rfl
 | 0,g+1,_,_,l,h,_=>by exact z99
 | f+1,0,_,_,l,_,h=>by exact z99
 | f+1,g+1,fr,on,l,hf,hg=>by
  rw[Ef,Ef]
  cases h:tk [106,111,105,110] l with
  | none=>rfl
  | some r=>
   have h1:=A5 h;simp only
   cases h2:nameR sz r with
   | err p q=>rfl
   | ok nm l1=>
    have k1:=Be h2;simp only[Res.bind]
    cases h3:wantsR sz [[111,110]] l1 with
    | err p q=>rfl
    | ok u l2=>
     have k2:=Aw h3;simp only
     cases h4:anyR sz l2 with
     | err p q=>rfl
     | ok e l3=>
      have k3:=E6 l2 e l3 h4;simp only;exact Jf f g _ _ l3 acw acw
theorem Tk {β:Type} {sz:Int} {fr:List Bytes} {on:List Ex} {l r:List Tok} (h:tk [106,111,105,110] l=some r) {f:List Bytes×List Ex->List Tok->Res β}:(joinsR sz l.length fr on l).bind f=(nameR sz r).bind fun nm l1=>(wantsR sz [[111,110]] l1).bind fun _ l2=>(anyR sz l2).bind fun e l3=>(joinsR sz l3.length (fr++[nm]) (on++[e]) l3).bind f:=by
 have h1:=A5 h;rw[h1,Ef,h];simp only
 cases h2:nameR sz r with
 | err p q=>rfl
 | ok nm l1=>
  have k:=Be h2;simp only[Res.bind]
  cases h3:wantsR sz [[111,110]] l1 with
  | err p q=>rfl
  | ok u l2=>
   have k:=Aw h3;simp only
   cases h4:anyR sz l2 with
   | err p q=>rfl
   | ok e l3=>
    have k:=E6 l2 e l3 h4;simp only;rw[Jf r.length l3.length _ _ l3 acw (tu _)]
def farSx (v:Value) (l:List Ex):Far:=⟨fun Q w=>ExSl Q w v l,fun hq h=>Bi hq h⟩
theorem K5 {Q:Nat->Prop} {w:World}:∀{l:List Bytes},LIn strE Q w l (strVals l)
 | []=>rfl
 | _::_=>⟨[_],_,rfl,rfl,K5⟩
def RSel (B:Nat) (w:World) (x:Sel) (v:Value):Prop:=∃ia ic fa fc oa oc wa wc ga gc sa sc,v=.agg #[.bool x.distinct,.slice ia x.items.length ic,.slice fa x.from_.length fc,.slice oa x.on.length oc,
 U x.where_.op,.string (Y x.where_.table),.string (Y x.where_.name),U x.where_.val.k,U x.where_.val.n,.string x.where_.val.s,.slice wa x.where_.args.length wc,
 .slice ga x.group.length gc,.slice sa x.sort.length sc,U x.limit]/\
 RSl pkE (B≤·) w (.slice ia x.items.length ic) x.items/\RSl strE (B≤·) w (.slice fa x.from_.length fc) x.from_/\RSl exE (B≤·) w (.slice oa x.on.length oc) x.on/\ExSl (B≤·) w (.slice wa x.where_.args.length wc) x.where_.args/\
 RSl exE (B≤·) w (.slice ga x.group.length gc) x.group/\RSl srtE (B≤·) w (.slice sa x.sort.length sc) x.sort
theorem Vf {B:Nat} {w:World} {d:Bool} {items:List Pk} {fr:List Bytes} {on:List Ex} {wop:Int} {wt wn:Bytes} {wv:V} {wargs:List Ex} {gr:List Ex} {so:List Srt} {n:Int} {ia fa oa wad ga sa:Option Addr} {ic fc oc wac gc sc:Nat} {acs:List Value}
 (h:((((((Far.top.and (farSl pkE acy (.slice ia items.length ic) items)).and (farL exE on acs)).and (farSx (.slice wad wargs.length wac) wargs)).and (farSl exE acy (.slice ga gr.length gc) gr)).and (farSl srtE acy (.slice sa so.length sc) so))).P (B≤·) w)
 (h1:SlIn (B≤·) w (.slice fa fr.length fc) fr.length (strVals fr)) (h2:SlIn (B≤·) w (.slice oa on.length oc) on.length acs):
 RSel B w ⟨d,items,fr,on,.mk wop wt wn wv wargs,gr,so,n⟩ (.agg #[.bool d,.slice ia items.length ic,.slice fa fr.length fc,.slice oa on.length oc,U wop,.string (Y wt),.string (Y wn),U wv.k,U wv.n,.string wv.s,.slice wad wargs.length wac,.slice ga gr.length gc,.slice sa so.length sc,U n]):=
 ⟨ia,ic,fa,fc,oa,oc,wad,wac,ga,gc,sa,sc,rfl,h.1.1.1.1.2,⟨_,h1,K5⟩,⟨_,h2,h.1.1.1.2⟩,h.1.1.2,h.1.2,h.2⟩
end Go.Proofs.YtimoefagohifaaaGreatDoor
