/- Part 8; the last part says what is proved. No condition. -/
import Derived.Deep.MidRow
import Derived.Test.YtjmmbebkbkgefaaGreatDoorB07
set_option linter.unusedVariables false
set_option linter.unusedSimpArgs false
set_option maxHeartbeats 8000000
set_option maxRecDepth 100000
namespace Go.Proofs.YtjmmbebkbkgefaaGreatDoor
open Go.RowKit Go.Sort Tryz
theorem Rz (pb:Nat) (sz:Int) (l:List Tok) (w:World) (h:Psr w pb sz l):Calls prog 127 #[.pointer (some ⟨pb,0,none⟩)] w (Post pb sz (RSel w.heap.size) (chooseR sz l) w):=by
 have S0:=Lib.hid (XFr.mk0 (RFr.snoc (RFr.snoc (RFr.mk0 (PFr.start h)) 9 1) 27 7));simp only[List.nil_append,List.cons_append]at S0;have HF:=Lib.hid h.few;clear h;refine Co (C:=fun y=>Calls prog 127 _ w (Post pb sz (RSel w.heap.size) y w)) _ ?_;intro y HM0;rw[chooseR_eq]at HM0;have HL0:=Lib.hid (Oe [100,105,115,116,105,110,99,116] l);go_enter func127,ntmps127;go_wp2_with fail;refine XFr.opt (XFr.laid (XFr.alloc (S0.out))) [100,105,115,116,105,110,99,116] (Ao (by simp)) (by decide) ?_;intro w1 ht1 S1;have HS1:Hid (w.heap.size<w1.heap.size):=S1.out.facts.1;clear S0 ht1;generalize (optR [100,105,115,116,105,110,99,116] l).1=d at *;generalize (optR [100,105,115,116,105,110,99,116] l).2=l1 at *;rw[Q7]at HM0;go_wp2_with fail;refine XFr.opt (XFr.laid (XFr.alloc (S1.out))) [42] (Ao (by simp)) (by decide) ?_;intro w2 ht2 S2;have HL2:=Lib.hid (Oe [42] l1);clear S1 ht2;obtain⟨all,hall⟩:∃b,(optR [42] l1).1=b:=⟨_,rfl⟩;rw[hall]at HM0 ⊢;clear hall;generalize (optR [42] l1).2=l2 at *;go_upto_if 11 with fail
 go_cut []from 4 (fun wc=>∃(items:List Pk) (r:List Tok) (ia:Option Addr) (ic:Nat),Hid (y=chooseA sz d items r)/\Hid (r.length<=l2.length)/\Hid (XFr pb sz w wc [(w1.heap.size,#[.bool d,.slice ia items.length ic,.slice none 0 0,.slice none 0 0,.int .i64 0,.string ⟨#[]⟩,.string ⟨#[]⟩,.int .i64 0,.int .i64 0,.string ⟨#[]⟩,.slice none 0 0,.slice none 0 0,.slice none 0 0,.int .i64 (-1)],44),(w.heap.size,#[.bool false,.slice none 0 0,.slice none 0 0,.slice none 0 0,.int .i64 0,.string ⟨#[]⟩,.string ⟨#[]⟩,.int .i64 0,.int .i64 0,.string ⟨#[]⟩,.slice none 0 0,.slice none 0 0,.slice none 0 0,.int .i64 0],44)] [⟨9,1,.slice none 0 0,0,[]⟩,⟨27,7,.slice none 0 0,0,[]⟩] r (Far.top.and (farSl pkE (by decide) (.slice ia items.length ic) items))))
 case first=>
  cases all with
  | true=>
   have HM3:Hid (y=chooseA sz d [] l2):=by show _=_;rw[HM0.out];rfl
   go_wp2_with fail;go_meet
   case rel=>exact⟨[],l2,none,0,HM3.out,Nat.le_refl _,S2.out.imp (fun Q w _=>⟨trivial,_,⟨none,0,rfl,Nat.le_refl _,fun h=>absurd h (by simp)⟩,rfl⟩)⟩
  | false=>
   have HM3:Hid (y=(listR (itemR sz) l2).bind fun items l2=>chooseA sz d items l2):=by show _=_;rw[HM0.out];rfl
   go_wp2_with fail;refine XFr.postG S2.out (Ve pb sz _ _ S2.out.psr) (fun p q h=>by rw[HM3.out,h];rfl) (fun _ _ h=>⟨rfl,h⟩) ?_;intro a3b r3b v3b w3b h3b hv3b ht3b S3b;have HL3b:=Lib.hid ((U7 L5 _ _ _ h3b));have HM3b:=HM3.out;rw[h3b]at HM3b;try(simp only[Res.bind,Res.map]at HM3b)
   replace HM3b:=Lib.hid HM3b;clear h3b HM3;obtain⟨ia,ic,rfl⟩:=Gm hv3b;have SG:=Lib.hid (S3b.out (farSl pkE (by decide) (.slice ia a3b.length ic) a3b) hv3b);clear S3b hv3b ht3b S2;have FG:=SG.out.facts;simp only[St.Facts,cellFacts,apartFacts,and_true]at FG;go_wp2_with(with_reducible (refine Dj ?_));go_meet
   case rel=>exact⟨a3b,r3b,ia,ic,HM3b.out,HL3b.out,(XFr.set 0 (SG.out) rfl)⟩
 case rest=>
  obtain⟨items,l3,ia,ic,HM3,HL3,S3⟩:=hcut;clear HM0 S2;unfold chooseA at HM3;have F3:=S3.out.facts;simp only[St.Facts,cellFacts,apartFacts,and_true]at F3;go_wp2_with fail;refine XFr.wants (XFr.laid (S3.out)) [[102,114,111,109]] (Ao (by simp)) rfl (by decide) rfl (by decide) (by decide) (fun p q h=>by rw[HM3.out,h];rfl) (fun _ _ h=>⟨rfl,h⟩) ?_;intro r4 w4 h4 ht4 S4;have HL4:=Lib.hid (Bg h4);have HM4:Hid (y=(nameR sz r4).bind fun nm l4=>(joinsR sz l4.length [nm] [] l4).bind fun fo l5=>chooseB sz d items fo.1 fo.2 l5):=by show _=_;rw[HM3.out,h4];rfl
  clear h4 ht4 HM3 S3 F3;go_wp2_with fail;have y0:∀p:TurnW (fun k=>k=pb\/(.slice none 0 0:Value).ownBlock=some k) w4,p.w.cell? ⟨w1.heap.size,2,none⟩=some (.slice none 0 0):=fun p=>S4.out.cellT (i:=0) rfl (j:=0) rfl 2 rfl p;refine Bf (fun k=>k=pb\/(.slice none 0 0:Value).ownBlock=some k) (fun c w'=>Post pb sz (RSel w.heap.size) y w (.panicked c) w') (fun _ _ _ hd h=>⟨hd,h⟩) 6 [(0,false),(1,false),(2,false),(3,true),(4,true),(5,true)] (by kernel_rfl) (by kernel_rfl) ?_;repeat(refine Bm rfl (fun K hK=>?_);go_simp;first|(refine hK _ ?_;clear hK K)|(apply Exists.intro;refine⟨fun _=>?_,hK _ ?_⟩;(fail);clear hK K))
  refine Bj rfl rfl ?_;intro w4a hba hta;have S4a:=Lib.hid (S4.out.kept hba);have HT4a:=Lib.hid hta;clear hba hta y0;go_wp2_with fail;refine XFr.post S4a.out (Cp pb sz _ _ S4a.out.psr) (fun p q h=>by rw[HM4.out,h];rfl) (fun _ _ h=>h) ?_;intro a4b r4b v4b w4b h4b hv4b ht4b S4b;have HL4b:=Lib.hid (C9 h4b);have HM4b:=HM4.out;rw[h4b]at HM4b;try(simp only[Res.bind,Res.map]at HM4b)
  replace HM4b:=Lib.hid HM4b;clear h4b HM4;obtain rfl:=hv4b;have HT4b:=Lib.hid (HT4a.out.trans ht4b (fun _ _ h=>.inl h));clear HT4a ht4b S4a S4;go_wp2_with fail;refine⟨HT4b.out,?_⟩;refine Bj rfl rfl ?_;intro w4c hbc htc;have S4c:=Lib.hid (S4b.out.kept hbc);have HT4c:=Lib.hid htc;clear hbc htc S4b HT4b;refine Gi rfl _ rfl rfl (Ti _ _) ?_;refine⟨HT4c.out.step ((Below.refl _ _).alloc (Nat.le_refl _) _),?_⟩;clear HT4c;refine Bj rfl rfl ?_;intro w4d hbd htd;have S4d:=Lib.hid ((XFr.alloc (cs:=#[.string ⟨a4b.toArray⟩]) (t:=9) S4c.out).kept hbd);have HT4d:=Lib.hid htd;clear hbd htd S4c;refine Ah rfl _ _ 39 rfl 9 (.string ⟨#[]⟩) 1 16 underlying39 al rfl (by decide) w.heap.size (.slice none 0 0) (0) ([]) rfl (S4d.out.own (i:=0) rfl) (.slice (some ⟨w4c.heap.size,0,none⟩) 1 1) 1 ([.string ⟨a4b.toArray⟩]) rfl (by decide) (Jn (S4d.out.fr.fr.blk 0 rfl)) rfl ?_ (by decide) (by decide) S4d.out.size ?_
  ·intro u hu;simp only[List.mem_cons,List.not_mem_nil,or_false]at hu;rcases hu with rfl<;>rfl
  intro v4e w4e hown hg hw hsl;obtain⟨g4,c4,rfl⟩:=hsl;have S4e:=Lib.hid ((S4d.out.grown (i:=0) (r':=⟨9,1,.slice (some ⟨g4,0,none⟩) (0+1) c4,0+1,[]++[.string ⟨a4b.toArray⟩]⟩) rfl hg hown hw).tail);have HT4e:=Lib.hid (HT4d.out.trans (Turn.of_grown hg) (fun _ _ h=>.inr h));clear hown hg hw HT4d S4d;refine⟨HT4e.out,C7 ?_⟩;intro w4f hbf _;have S4f:=Lib.hid (S4e.out.kept hbf);clear hbf HT4e S4e;simp only[List.set_cons_zero,List.set_cons_succ,List.nil_append]at S4f;simp only[List.drop_succ_cons,List.drop_zero];have F4f:=S4f.out.facts;simp only[St.Facts,cellFacts,apartFacts,and_true]at F4f;go_wp2_with(with_reducible (refine Dj ?_));have HMl:Hid (y=(joinsR sz r4b.length [a4b] [] r4b).bind fun fo l5=>chooseB sz d items fo.1 fo.2 l5):=HM4b;clear HM4b F4f
  refine Hf (fun W=>XFr pb sz w W [(w1.heap.size,#[.bool d,.slice ia items.length ic,.slice (some ⟨g4,0,none⟩) [a4b].length c4,.slice none ([]:List Ex).length 0,.int .i64 0,.string ⟨#[]⟩,.string ⟨#[]⟩,.int .i64 0,.int .i64 0,.string ⟨#[]⟩,.slice none 0 0,.slice none 0 0,.slice none 0 0,.int .i64 (-1)],44),(w.heap.size,#[.bool false,.slice none 0 0,.slice none 0 0,.slice none 0 0,.int .i64 0,.string ⟨#[]⟩,.string ⟨#[]⟩,.int .i64 0,.int .i64 0,.string ⟨#[]⟩,.slice none 0 0,.slice none 0 0,.slice none 0 0,.int .i64 0],44)] [⟨9,1,.slice (some ⟨g4,0,none⟩) [a4b].length c4,[a4b].length,strVals [a4b]⟩,⟨27,7,.slice none ([]:List Ex).length 0,([]:List Ex).length,[]⟩] r4b ((Far.top.and (farSl pkE (by decide) (.slice ia items.length ic) items)).and (farL exE [] []))) (XFr.imp ((XFr.set 0 (S4f.out) rfl)) (fun Q w h=>⟨h,rfl⟩)) ?_;clear S4f;intro wl SL';have SL:=Lib.hid SL';clear SL';have HLI:Hid (r4b.length+1<=l.length):=by show _<=_;have h1:=HL0.out;have h2:=HL2.out;have h3:=HL3.out;have h4:=HL4.out;have h5:=HL4b.out;simp at h4;omega
  clear HL0 HL2 HL3 HL4 HL4b;go_loopw [] (fun wr=>∃(fr:List Bytes) (on:List Ex) (lr:List Tok) (fa oa:Option Addr) (fc oc:Nat) (acs:List Value),Hid (y=(joinsR sz lr.length fr on lr).bind fun fo l5=>chooseB sz d items fo.1 fo.2 l5)/\Hid (fr.length+on.length+lr.length<=l.length+1)/\Hid (XFr pb sz w wr [(w1.heap.size,#[.bool d,.slice ia items.length ic,.slice fa fr.length fc,.slice oa on.length oc,.int .i64 0,.string ⟨#[]⟩,.string ⟨#[]⟩,.int .i64 0,.int .i64 0,.string ⟨#[]⟩,.slice none 0 0,.slice none 0 0,.slice none 0 0,.int .i64 (-1)],44),(w.heap.size,#[.bool false,.slice none 0 0,.slice none 0 0,.slice none 0 0,.int .i64 0,.string ⟨#[]⟩,.string ⟨#[]⟩,.int .i64 0,.int .i64 0,.string ⟨#[]⟩,.slice none 0 0,.slice none 0 0,.slice none 0 0,.int .i64 0],44)] [⟨9,1,.slice fa fr.length fc,fr.length,strVals fr⟩,⟨27,7,.slice oa on.length oc,on.length,acs⟩] lr ((Far.top.and (farSl pkE (by decide) (.slice ia items.length ic) items)).and (farL exE on acs)))) (fun wr=>psLeft pb wr)
  case atStart=>exact⟨[a4b],[],r4b,_,none,_,0,[],HMl.out,by show _<=_;have h1:=HLI.out;simp;omega,SL.out⟩
  case round=>
   clear HMl HLI SL;obtain⟨fr,on,lr,fa,oa,fc,oc,acs,HM5,HL,S5⟩:=hrel;have HMS:=Lib.hid (Bu S5.out.psr);go_wp2_with fail;refine XFr.takes (XFr.laid (S5.out)) [106,111,105,110] (Ao (by simp)) (by decide) ?_ ?_
   ·intro r6 w6 hn ht6 S6;have HLt:=Lib.hid (A2 hn);have HM6:Hid (y=(nameR sz r6).bind fun nm l1=>(wantsR sz [[111,110]] l1).bind fun _ l2=>(anyR sz l2).bind fun e l3=>(joinsR sz l3.length (fr++[nm]) (on++[e]) l3).bind fun fo l5=>chooseB sz d items fo.1 fo.2 l5):=by
     show _=_;rw[HM5.out];exact Q6 hn
    clear HM5 S5 hn ht6;go_wp2_with fail;have y0:∀p:TurnW (fun k=>k=pb\/(.slice fa fr.length fc:Value).ownBlock=some k) w6,p.w.cell? ⟨w1.heap.size,2,none⟩=some (.slice fa fr.length fc):=fun p=>S6.out.cellT (i:=0) rfl (j:=0) rfl 2 rfl p;refine Bf (fun k=>k=pb\/(.slice fa fr.length fc:Value).ownBlock=some k) (fun c w'=>Post pb sz (RSel w.heap.size) y w (.panicked c) w') (fun _ _ _ hd h=>⟨hd,h⟩) 6 [(0,false),(1,false),(2,false),(3,true),(4,true),(5,true)] (by kernel_rfl) (by kernel_rfl) ?_;repeat(refine Bm rfl (fun K hK=>?_);go_simp;first|(refine hK _ ?_;clear hK K)|(apply Exists.intro;refine⟨fun _=>?_,hK _ ?_⟩;(fail);clear hK K))
    refine Bj rfl rfl ?_;intro w6a hba hta;have S6a:=Lib.hid (S6.out.kept hba);have HT6a:=Lib.hid hta;clear hba hta y0;go_wp2_with fail;refine XFr.post S6a.out (Cp pb sz _ _ S6a.out.psr) (fun p q h=>by rw[HM6.out,h];rfl) (fun _ _ h=>h) ?_;intro a6b r6b v6b w6b h6b hv6b ht6b S6b;have HL6b:=Lib.hid (C9 h6b);have HM6b:=HM6.out;rw[h6b]at HM6b;try(simp only[Res.bind,Res.map]at HM6b)
    replace HM6b:=Lib.hid HM6b;clear h6b HM6;obtain rfl:=hv6b;have HT6b:=Lib.hid (HT6a.out.trans ht6b (fun _ _ h=>.inl h));clear HT6a ht6b S6a S6;go_wp2_with fail;refine⟨HT6b.out,?_⟩;refine Bj rfl rfl ?_;intro w6c hbc htc;have S6c:=Lib.hid (S6b.out.kept hbc);have HT6c:=Lib.hid htc;clear hbc htc S6b HT6b;refine Gi rfl _ rfl rfl (Ti _ _) ?_;refine⟨HT6c.out.step ((Below.refl _ _).alloc (Nat.le_refl _) _),?_⟩;clear HT6c;refine Bj rfl rfl ?_;intro w6d hbd htd;have S6d:=Lib.hid ((XFr.alloc (cs:=#[.string ⟨a6b.toArray⟩]) (t:=9) S6c.out).kept hbd);have HT6d:=Lib.hid htd;clear hbd htd S6c;refine Ah rfl _ _ 39 rfl 9 (.string ⟨#[]⟩) 1 16 underlying39 al rfl (by decide) w.heap.size (.slice fa fr.length fc) (fr.length) (strVals fr) rfl (S6d.out.own (i:=0) rfl) (.slice (some ⟨w6c.heap.size,0,none⟩) 1 1) 1 ([.string ⟨a6b.toArray⟩]) rfl (by decide) (Jn (S6d.out.fr.fr.blk 0 rfl)) rfl ?_ (by have h1:=HF.out;have h2:=HL.out;omega) (by have h1:=HF.out;have h2:=HL.out;simp[maxLen];omega) S6d.out.size ?_
    ·intro u hu;simp only[List.mem_cons,List.not_mem_nil,or_false]at hu;rcases hu with rfl<;>rfl
    intro v6e w6e hown hg hw hsl;obtain⟨g6,c6,rfl⟩:=hsl;have S6e:=Lib.hid ((S6d.out.grown (i:=0) (r':=⟨9,1,.slice (some ⟨g6,0,none⟩) (fr.length+1) c6,fr.length+1,strVals fr++[.string ⟨a6b.toArray⟩]⟩) rfl hg hown hw).tail);have HT6e:=Lib.hid (HT6d.out.trans (Turn.of_grown hg) (fun _ _ h=>.inr h));clear hown hg hw HT6d S6d;refine⟨HT6e.out,C7 ?_⟩;intro w6f hbf _;have S6f:=Lib.hid (S6e.out.kept hbf);clear hbf HT6e S6e;simp only[List.set_cons_zero,List.set_cons_succ,List.nil_append]at S6f;simp only[List.drop_succ_cons,List.drop_zero];have HM6c:Hid (y=(wantsR sz [[111,110]] r6b).bind fun _ l2=>(anyR sz l2).bind fun e l3=>(joinsR sz l3.length (fr++[a6b]) (on++[e]) l3).bind fun fo l5=>chooseB sz d items fo.1 fo.2 l5):=HM6b;clear HM6b;have F6f:=S6f.out.facts;simp only[St.Facts,cellFacts,apartFacts,and_true]at F6f;go_wp2_with(with_reducible (refine Dj ?_));refine XFr.wants (XFr.laid (XFr.set 0 (S6f.out) rfl)) [[111,110]] (Ao (by simp)) rfl (by decide) rfl (by decide) (by decide) (fun p q h=>by rw[HM6c.out,h];rfl) (fun _ _ h=>⟨rfl,h⟩) ?_;intro r7 w7 h7 ht7 S7;have HL7:=Lib.hid (Bg h7);have HM7:Hid (y=(anyR sz r7).bind fun e l3=>(joinsR sz l3.length (fr++[a6b]) (on++[e]) l3).bind fun fo l5=>chooseB sz d items fo.1 fo.2 l5):=by show _=_;rw[HM6c.out,h7];rfl
    simp only[List.set_cons_zero,List.set_cons_succ,List.setIfInBounds_toArray]at S7;clear h7 ht7 HM6c S6f F6f;go_wp2_with fail;have y0:∀p:TurnW (fun k=>k=pb\/(.slice oa on.length oc:Value).ownBlock=some k) w7,p.w.cell? ⟨w1.heap.size,3,none⟩=some (.slice oa on.length oc):=fun p=>S7.out.cellT (i:=1) rfl (j:=0) rfl 3 rfl p;refine Bf (fun k=>k=pb\/(.slice oa on.length oc:Value).ownBlock=some k) (fun c w'=>Post pb sz (RSel w.heap.size) y w (.panicked c) w') (fun _ _ _ hd h=>⟨hd,h⟩) 6 [(0,false),(1,false),(2,false),(3,true),(4,true),(5,true)] (by kernel_rfl) (by kernel_rfl) ?_;repeat(refine Bm rfl (fun K hK=>?_);go_simp;first|(refine hK _ ?_;clear hK K)|(apply Exists.intro;refine⟨fun _=>?_,hK _ ?_⟩;(fail);clear hK K))
    refine Bj rfl rfl ?_;intro w7a hba hta;have S7a:=Lib.hid (S7.out.kept hba);have HT7a:=Lib.hid hta;clear hba hta y0;go_wp2_with fail;refine XFr.postG S7a.out (I9 pb sz _ _ S7a.out.psr) (fun p q h=>by rw[HM7.out,h];rfl) (fun _ _ h=>h) ?_;intro a7b r7b v7b w7b h7b hv7b ht7b S7b;have HL7b:=Lib.hid (Fj _ _ _ h7b);have HM7b:=HM7.out;rw[h7b]at HM7b;try(simp only[Res.bind,Res.map]at HM7b)
    replace HM7b:=Lib.hid HM7b;clear h7b HM7;obtain⟨op7,t7,n7,v7,args7⟩:=a7b;obtain⟨ad7,ac7,rfl,hargs7⟩:=Bw hv7b;have SG:=Lib.hid (S7b.out (farEx (.mk op7 t7 n7 v7 args7) [.int .i64 op7,.string ⟨t7.toArray⟩,.string ⟨n7.toArray⟩,.int .i64 v7.k,.int .i64 v7.n,.string v7.s,.slice ad7 args7.length ac7]) (Bc hargs7));clear S7b hargs7 hv7b;have S7b:=SG;clear SG;have HT7b:=Lib.hid (HT7a.out.trans ht7b (fun _ _ h=>.inl h));clear HT7a ht7b S7a S7;go_wp2_with fail;refine⟨HT7b.out,?_⟩;refine Bj rfl rfl ?_;intro w7c hbc htc;have S7c:=Lib.hid (S7b.out.kept hbc);have HT7c:=Lib.hid htc;clear hbc htc S7b HT7b;refine Gi rfl _ rfl rfl (Sk _ _ _ _ _ _ _ _) ?_;refine⟨HT7c.out.step ((Below.refl _ _).alloc (Nat.le_refl _) _),?_⟩;clear HT7c;refine Bj rfl rfl ?_;intro w7d hbd htd;have S7d:=Lib.hid ((XFr.alloc (cs:=#[.int .i64 op7,.string ⟨t7.toArray⟩,.string ⟨n7.toArray⟩,.int .i64 v7.k,.int .i64 v7.n,.string v7.s,.slice ad7 args7.length ac7]) (t:=27) S7c.out).kept hbd);have HT7d:=Lib.hid htd;clear hbd htd S7c
    refine Ah rfl _ _ 25 rfl 27 (.agg #[.int .i64 0,.string ⟨#[]⟩,.string ⟨#[]⟩,.int .i64 0,.int .i64 0,.string ⟨#[]⟩,.slice none 0 0]) 7 96 underlying25 Kg rfl (by decide) w.heap.size (.slice oa on.length oc) (on.length) (acs) rfl (S7d.out.own (i:=1) rfl) (.slice (some ⟨w7c.heap.size,0,none⟩) 1 1) 1 ([.int .i64 op7,.string ⟨t7.toArray⟩,.string ⟨n7.toArray⟩,.int .i64 v7.k,.int .i64 v7.n,.string v7.s,.slice ad7 args7.length ac7]) rfl (by decide) (Jn (S7d.out.fr.fr.blk 0 rfl)) rfl ?_ (by have h1:=HF.out;have h2:=HL.out;omega) (by have h1:=HF.out;have h2:=HL.out;simp[maxLen];omega) S7d.out.size ?_
    ·intro u hu;simp only[List.mem_cons,List.not_mem_nil,or_false]at hu;rcases hu with rfl|rfl|rfl|rfl|rfl|rfl|rfl<;>rfl
    intro v7e w7e hown hg hw hsl;obtain⟨g7,c7,rfl⟩:=hsl;have S7e:=Lib.hid ((S7d.out.grown (i:=1) (r':=⟨27,7,.slice (some ⟨g7,0,none⟩) (on.length+1) c7,on.length+1,acs++[.int .i64 op7,.string ⟨t7.toArray⟩,.string ⟨n7.toArray⟩,.int .i64 v7.k,.int .i64 v7.n,.string v7.s,.slice ad7 args7.length ac7]⟩) rfl hg hown hw).tail);have HT7e:=Lib.hid (HT7d.out.trans (Turn.of_grown hg) (fun _ _ h=>.inr h));clear hown hg hw HT7d S7d;refine⟨HT7e.out,C7 ?_⟩;intro w7f hbf _;have S7f:=Lib.hid (S7e.out.kept hbf);clear hbf HT7e S7e;simp only[List.set_cons_zero,List.set_cons_succ,List.nil_append]at S7f;simp only[List.drop_succ_cons,List.drop_zero];have S7g:=Lib.hid (XFr.imp (G2:=(Far.top.and (farSl pkE (by decide) (.slice ia items.length ic) items)).and (farL exE (on++[.mk op7 t7 n7 v7 args7]) (acs++[.int .i64 op7,.string ⟨t7.toArray⟩,.string ⟨n7.toArray⟩,.int .i64 v7.k,.int .i64 v7.n,.string v7.s,.slice ad7 args7.length ac7]))) S7f.out (fun Q w h=>⟨h.1.1,LIn.append h.1.2 (LIn.one (E:=exE) (e:=.mk op7 t7 n7 v7 args7) (cs:=[.int .i64 op7,.string ⟨t7.toArray⟩,.string ⟨n7.toArray⟩,.int .i64 v7.k,.int .i64 v7.n,.string v7.s,.slice ad7 args7.length ac7]) h.2)⟩));have HM7c:Hid (y=(joinsR sz r7b.length (fr++[a6b]) (on++[.mk op7 t7 n7 v7 args7]) r7b).bind fun fo l5=>chooseB sz d items fo.1 fo.2 l5):=HM7b;clear S7f HM7b;have F7g:=S7g.out.facts;simp only[St.Facts,cellFacts,apartFacts,and_true]at F7g;go_wp2_with(with_reducible (refine Dj ?_));go_roundw;have e1:(fr++[a6b]).length=fr.length+1:=by simp
    have e2:strVals (fr++[a6b])=strVals fr++[.string ⟨a6b.toArray⟩]:=by simp[strVals,strV]
    have e3:(on++[Ex.mk op7 t7 n7 v7 args7]).length=on.length+1:=by simp
    case rel=>exact⟨fr++[a6b],on++[Ex.mk op7 t7 n7 v7 args7],r7b,some ⟨g6,0,none⟩,some ⟨g7,0,none⟩,c6,c7,acs++[.int .i64 op7,.string ⟨t7.toArray⟩,.string ⟨n7.toArray⟩,.int .i64 v7.k,.int .i64 v7.n,.string v7.s,.slice ad7 args7.length ac7],HM7c.out,by show _<=_;have h1:=HL.out;have h2:=HLt.out;have h3:=HL6b.out;have h4:=HL7.out;have h5:=HL7b.out;rw[e1,e3];simp at h4;omega,by show XFr _ _ _ _ _ _ _ _;rw[e1,e2,e3];exact(XFr.set 0 (S7g.out) rfl)⟩
    case measure=>
     have h1:=HMS.out;have h2:=HLt.out;have h3:=HL6b.out;have h4:=HL7.out;have h5:=HL7b.out;rw[Bu ((XFr.set 0 (S7g.out) rfl)).psr,h1];omega
   ·intro w6 hn ht6 S6;have HM6:Hid (y=chooseB sz d items fr on lr):=by
     show _=_;rw[HM5.out]
     cases hf:lr.length with
     | zero=>rfl
     | succ f=>rw[Ds,hn];rfl
    clear HM5 S5 hn ht6 HMS HL;unfold chooseB at HM6;have F6:=S6.out.facts;simp only[St.Facts,cellFacts,apartFacts,and_true]at F6;go_wp2_with fail;refine XFr.postG S6.out (Tp pb sz _ _ S6.out.psr) (fun p q h=>by rw[HM6.out,h];rfl) (fun _ _ h=>⟨rfl,h⟩) ?_;intro a7 r7 v7 w7 h7 hv7 ht7 S7;have HM7:=HM6.out;rw[h7]at HM7;try(simp only[Res.bind,Res.map]at HM7)
    replace HM7:=Lib.hid HM7;clear h7 HM6;obtain⟨wop,wt,wn,wv,wargs⟩:=a7;obtain⟨wad,wac,rfl,hargs⟩:=Bw hv7;have S8:=Lib.hid (S7.out (farSx (.slice wad wargs.length wac) wargs) hargs);have HM8:Hid (y=chooseC sz d items fr on (.mk wop wt wn wv wargs) r7):=HM7;clear hargs hv7 ht7 S7 HM7 S6 F6;unfold chooseC at HM8;have F8:=S8.out.facts;simp only[St.Facts,cellFacts,apartFacts,and_true]at F8;go_wp2_with(with_reducible (refine Dj ?_));refine XFr.opt (XFr.laid (XFr.set 0 (XFr.set 0 (XFr.set 0 (XFr.set 0 (XFr.set 0 (XFr.set 0 (XFr.set 0 (S8.out) rfl) rfl) rfl) rfl) rfl) rfl) rfl)) [103,114,111,117,112] (Ao (by simp)) (by decide) ?_;intro w9 ht9 S9;clear S8 F8 ht9;simp only[List.set_cons_zero,List.set_cons_succ,List.setIfInBounds_toArray]at S9;rw[byR_opt]at HM8;obtain⟨bg,hbg⟩:∃b,(optR [103,114,111,117,112] r7).1=b:=⟨_,rfl⟩;rw[hbg]at HM8 ⊢;clear hbg;generalize (optR [103,114,111,117,112] r7).2=l9 at *;go_upto_if 52 with fail
    go_cut []from 4 (fun wc=>∃(gr:List Ex) (r:List Tok) (ga:Option Addr) (gc:Nat),Hid (y=chooseD sz d items fr on (.mk wop wt wn wv wargs) gr r)/\Hid (XFr pb sz w wc [(w1.heap.size,#[.bool d,.slice ia items.length ic,.slice fa fr.length fc,.slice oa on.length oc,.int .i64 wop,.string ⟨wt.toArray⟩,.string ⟨wn.toArray⟩,.int .i64 wv.k,.int .i64 wv.n,.string wv.s,.slice wad wargs.length wac,.slice ga gr.length gc,.slice none 0 0,.int .i64 (-1)],44),(w.heap.size,#[.bool false,.slice none 0 0,.slice none 0 0,.slice none 0 0,.int .i64 0,.string ⟨#[]⟩,.string ⟨#[]⟩,.int .i64 0,.int .i64 0,.string ⟨#[]⟩,.slice none 0 0,.slice none 0 0,.slice none 0 0,.int .i64 0],44)] [⟨9,1,.slice fa fr.length fc,fr.length,strVals fr⟩,⟨27,7,.slice oa on.length oc,on.length,acs⟩] r ((((Far.top.and (farSl pkE (by decide) (.slice ia items.length ic) items)).and (farL exE on acs)).and (farSx (.slice wad wargs.length wac) wargs)).and (farSl exE (by decide) (.slice ga gr.length gc) gr))))
    case first=>
     cases bg with
     | false=>
      have HMa:Hid (y=chooseD sz d items fr on (.mk wop wt wn wv wargs) [] l9):=by show _=_;rw[HM8.out];rfl
      go_wp2_with fail;go_meet
      case rel=>exact⟨[],l9,none,0,HMa.out,S9.out.imp (fun Q w h=>⟨h,_,⟨none,0,rfl,Nat.le_refl _,fun h=>absurd h (by simp)⟩,rfl⟩)⟩
     | true=>
      have HMa:Hid (y=(wantsR sz [[98,121]] l9).bind fun _ l1=>(listR (refR sz) l1).bind fun gr l7=>chooseD sz d items fr on (.mk wop wt wn wv wargs) gr l7):=by show _=_;rw[HM8.out];exact Th _ _ _ _
      have F9:=S9.out.facts;simp only[St.Facts,cellFacts,apartFacts,and_true]at F9;go_wp2_with fail;refine XFr.wants (XFr.laid (S9.out)) [[98,121]] (Ao (by simp)) rfl (by decide) rfl (by decide) (by decide) (fun p q h=>by rw[HMa.out,h];rfl) (fun _ _ h=>⟨rfl,h⟩) ?_;intro ra wa ha hta Sa;have HMb:Hid (y=(listR (refR sz) ra).bind fun gr l7=>chooseD sz d items fr on (.mk wop wt wn wv wargs) gr l7):=by show _=_;rw[HMa.out,ha];rfl
      clear ha hta HMa S9;go_wp2_with fail;refine XFr.postG Sa.out (Xe pb sz _ _ Sa.out.psr) (fun p q h=>by rw[HMb.out,h];rfl) (fun _ _ h=>⟨rfl,h⟩) ?_;intro aZ rZ vZ wZ hZ hvZ htZ SZ;have HMZ:=HMb.out;rw[hZ]at HMZ;try(simp only[Res.bind,Res.map]at HMZ)
      replace HMZ:=Lib.hid HMZ;clear hZ HMb;obtain⟨za,zc,rfl⟩:=Gm hvZ;have SG:=Lib.hid (SZ.out (farSl exE (by decide) (.slice za aZ.length zc) aZ) hvZ);clear SZ hvZ htZ Sa;have FG:=SG.out.facts;simp only[St.Facts,cellFacts,apartFacts,and_true]at FG;go_wp2_with(with_reducible (refine Dj ?_));go_meet
      case rel=>exact⟨aZ,rZ,za,zc,HMZ.out,(XFr.set 0 (SG.out) rfl)⟩
    case rest=>
     obtain⟨gr,l10,ga,gc,HM10,S10⟩:=hcut;clear HM8 S9;unfold chooseD at HM10;have F10:=S10.out.facts;simp only[St.Facts,cellFacts,apartFacts,and_true]at F10;go_wp2_with fail;refine XFr.opt (XFr.laid (S10.out)) [111,114,100,101,114] (Ao (by simp)) (by decide) ?_;intro w11 ht11 S11;clear S10 F10 ht11;rw[byR_opt]at HM10;obtain⟨bo,hbo⟩:∃b,(optR [111,114,100,101,114] l10).1=b:=⟨_,rfl⟩;rw[hbo]at HM10 ⊢;clear hbo;generalize (optR [111,114,100,101,114] l10).2=l11 at *;go_upto_if 63 with fail
     go_cut []from 4 (fun wc=>∃(so:List Srt) (r:List Tok) (sa:Option Addr) (sc:Nat),Hid (y=chooseE sz d items fr on (.mk wop wt wn wv wargs) gr so r)/\Hid (XFr pb sz w wc [(w1.heap.size,#[.bool d,.slice ia items.length ic,.slice fa fr.length fc,.slice oa on.length oc,.int .i64 wop,.string ⟨wt.toArray⟩,.string ⟨wn.toArray⟩,.int .i64 wv.k,.int .i64 wv.n,.string wv.s,.slice wad wargs.length wac,.slice ga gr.length gc,.slice sa so.length sc,.int .i64 (-1)],44),(w.heap.size,#[.bool false,.slice none 0 0,.slice none 0 0,.slice none 0 0,.int .i64 0,.string ⟨#[]⟩,.string ⟨#[]⟩,.int .i64 0,.int .i64 0,.string ⟨#[]⟩,.slice none 0 0,.slice none 0 0,.slice none 0 0,.int .i64 0],44)] [⟨9,1,.slice fa fr.length fc,fr.length,strVals fr⟩,⟨27,7,.slice oa on.length oc,on.length,acs⟩] r (((((Far.top.and (farSl pkE (by decide) (.slice ia items.length ic) items)).and (farL exE on acs)).and (farSx (.slice wad wargs.length wac) wargs)).and (farSl exE (by decide) (.slice ga gr.length gc) gr)).and (farSl srtE (by decide) (.slice sa so.length sc) so))))
     case first=>
      cases bo with
      | false=>
       have HMa:Hid (y=chooseE sz d items fr on (.mk wop wt wn wv wargs) gr [] l11):=by show _=_;rw[HM10.out];rfl
       go_wp2_with fail;go_meet
       case rel=>exact⟨[],l11,none,0,HMa.out,S11.out.imp (fun Q w h=>⟨h,_,⟨none,0,rfl,Nat.le_refl _,fun h=>absurd h (by simp)⟩,rfl⟩)⟩
      | true=>
       have HMa:Hid (y=(wantsR sz [[98,121]] l11).bind fun _ l1=>(listR (sortR sz) l1).bind fun so l7=>chooseE sz d items fr on (.mk wop wt wn wv wargs) gr so l7):=by show _=_;rw[HM10.out];exact Th _ _ _ _
       have F11:=S11.out.facts;simp only[St.Facts,cellFacts,apartFacts,and_true]at F11;go_wp2_with fail;refine XFr.wants (XFr.laid (S11.out)) [[98,121]] (Ao (by simp)) rfl (by decide) rfl (by decide) (by decide) (fun p q h=>by rw[HMa.out,h];rfl) (fun _ _ h=>⟨rfl,h⟩) ?_;intro ra wa ha hta Sa;have HMb:Hid (y=(listR (sortR sz) ra).bind fun so l7=>chooseE sz d items fr on (.mk wop wt wn wv wargs) gr so l7):=by show _=_;rw[HMa.out,ha];rfl
       clear ha hta HMa S11;go_wp2_with fail;refine XFr.postG Sa.out (Ua pb sz _ _ Sa.out.psr) (fun p q h=>by rw[HMb.out,h];rfl) (fun _ _ h=>⟨rfl,h⟩) ?_;intro aZ rZ vZ wZ hZ hvZ htZ SZ;have HMZ:=HMb.out;rw[hZ]at HMZ;try(simp only[Res.bind,Res.map]at HMZ)
       replace HMZ:=Lib.hid HMZ;clear hZ HMb;obtain⟨za,zc,rfl⟩:=Gm hvZ;have SG:=Lib.hid (SZ.out (farSl srtE (by decide) (.slice za aZ.length zc) aZ) hvZ);clear SZ hvZ htZ Sa;have FG:=SG.out.facts;simp only[St.Facts,cellFacts,apartFacts,and_true]at FG;go_wp2_with(with_reducible (refine Dj ?_));go_meet
       case rel=>exact⟨aZ,rZ,za,zc,HMZ.out,(XFr.set 0 (SG.out) rfl)⟩
     case rest=>
      obtain⟨so,l12,sa,sc,HM12,S12⟩:=hcut;clear HM10 S11;unfold chooseE limitR at HM12;have F12:=S12.out.facts;simp only[St.Facts,cellFacts,apartFacts,and_true]at F12;go_wp2_with fail;refine XFr.takes (XFr.laid (S12.out)) [108,105,109,105,116] (Ao (by simp)) (by decide) ?_ ?_
      ·intro r13 w13 hn ht13 S13;have HM13:Hid (y=(numberR sz r13).map fun n=>(⟨d,items,fr,on,.mk wop wt wn wv wargs,gr,so,n⟩:Sel)):=by show _=_;rw[HM12.out];simp only[hn]
       clear HM12 hn ht13 S12 F12;go_wp2_with fail;refine XFr.post S13.out (Gn pb sz _ _ S13.out.psr) (fun p q h=>by rw[HM13.out,h];rfl) (fun _ _ h=>⟨rfl,h⟩) ?_;intro a14 r14 v14 w14 h14 hv14 ht14 S14;have HM14:=HM13.out;rw[h14]at HM14;try(simp only[Res.bind,Res.map]at HM14)
       replace HM14:=Lib.hid HM14;clear h14 HM13;obtain rfl:=hv14;clear ht14 S13;have F14:=S14.out.facts;simp only[St.Facts,cellFacts,apartFacts,and_true]at F14;go_wp2_with fail;refine bodyPost_ret (v:=.agg #[.bool d,.slice ia items.length ic,.slice fa fr.length fc,.slice oa on.length oc,.int .i64 wop,.string ⟨wt.toArray⟩,.string ⟨wn.toArray⟩,.int .i64 wv.k,.int .i64 wv.n,.string wv.s,.slice wad wargs.length wac,.slice ga gr.length gc,.slice sa so.length sc,.int .i64 a14]) (by simp[results,results127,go_sem,F14]) rfl ?_;exact XFr.done (XFr.set 1 (XFr.set 1 (XFr.set 1 (XFr.set 1 (XFr.set 1 (XFr.set 1 (XFr.set 1 (XFr.set 1 (XFr.set 1 (XFr.set 1 (XFr.set 1 (XFr.set 1 (XFr.set 1 (XFr.set 1 (XFr.set 0 (S14.out) rfl) rfl) rfl) rfl) rfl) rfl) rfl) rfl) rfl) rfl) rfl) rfl) rfl) rfl) rfl) HM14.out (fun SE=>Sp SE.since (SE.own (i:=0) rfl).slIn (SE.own (i:=1) rfl).slIn)
      ·intro w13 hn ht13 S13;have HM13:Hid (y=.ok (⟨d,items,fr,on,.mk wop wt wn wv wargs,gr,so,-1⟩:Sel) l12):=by show _=_;rw[HM12.out];simp only[hn];rfl
       clear HM12 hn ht13 S12 F12;have F13:=S13.out.facts;simp only[St.Facts,cellFacts,apartFacts,and_true]at F13;go_wp2_with fail;refine bodyPost_ret (v:=.agg #[.bool d,.slice ia items.length ic,.slice fa fr.length fc,.slice oa on.length oc,.int .i64 wop,.string ⟨wt.toArray⟩,.string ⟨wn.toArray⟩,.int .i64 wv.k,.int .i64 wv.n,.string wv.s,.slice wad wargs.length wac,.slice ga gr.length gc,.slice sa so.length sc,.int .i64 (-1)]) (by simp[results,results127,go_sem,F13]) rfl ?_;exact XFr.done (XFr.set 1 (XFr.set 1 (XFr.set 1 (XFr.set 1 (XFr.set 1 (XFr.set 1 (XFr.set 1 (XFr.set 1 (XFr.set 1 (XFr.set 1 (XFr.set 1 (XFr.set 1 (XFr.set 1 (XFr.set 1 (S13.out) rfl) rfl) rfl) rfl) rfl) rfl) rfl) rfl) rfl) rfl) rfl) rfl) rfl) rfl) HM13.out (fun SE=>Sp SE.since (SE.own (i:=0) rfl).slIn (SE.own (i:=1) rfl).slIn)
end Go.Proofs.YtjmmbebkbkgefaaGreatDoor
namespace Go.Proofs.YtjmmbebkbkgefaaGreatDoor
open Go.RowKit Go.Sort Tryz
variable {pb:Nat} {sz:Int} {w0 w w':World} {L:List Blk} {R:List Row} {l:List Tok} {G:Far}
theorem XFr.cellF {j:Nat} {b:Nat} {cs:Array Value} {t:TypeId} (h:XFr pb sz w0 w L R l G) (hj:L[j]?=some (b,cs,t)) (o:Nat) (v:Value) (hv:cs[o]?=some v):
 w.cell? ⟨b,o,none⟩=some v/\w.frozen? ⟨b,o,none⟩=false/\b<w.heap.size:=by
 have h1:=h.fr.fr.blk j hj
 exact⟨by simp only[World.cell?,h1];exact hv,by simp[World.frozen?,h1],(Array.getElem?_eq_some_iff.1 h1).1⟩
end Go.Proofs.YtjmmbebkbkgefaaGreatDoor
namespace Go.Proofs.YtjmmbebkbkgefaaGreatDoor
open Go.RowKit Go.Sort Tryz
abbrev SlP:=Option Addr×Nat×Nat
def sl (p:SlP):Value:=.slice p.1 p.2.1 p.2.2
def sl0:SlP:=(none,0,0)
structure SV where
 k:Int:=0
 tb:Bytes:=[]
 nm:Bytes:=[]
 s0:Bytes:=[]
 s1:SlP:=sl0
 s2:SlP:=sl0
 s3:SlP:=sl0
 c0:Bytes:=[]
 c1:Int:=0
 c2:Bool:=false
 ns:SlP:=sl0
 un:Bool:=false
 rs:SlP:=sl0
 es:SlP:=sl0
 wo:Int:=0
 wt:Bytes:=[]
 wn:Bytes:=[]
 wv:V:=V.null
 wa:SlP:=sl0
 xd:Bool:=false
 xi:SlP:=sl0
 xf:SlP:=sl0
 xo:SlP:=sl0
 yo:Int:=0
 yt:Bytes:=[]
 yn:Bytes:=[]
 yv:V:=V.null
 ya:SlP:=sl0
 xg:SlP:=sl0
 xs:SlP:=sl0
 xl:Int:=0
 md:Int:=0
def SV.sch (s:SV):Value:=.agg #[.string ⟨s.s0.toArray⟩,sl s.s1,sl s.s2,sl s.s3]
def SV.col (s:SV):Value:=.agg #[.string ⟨s.c0.toArray⟩,.int .i64 s.c1,.bool s.c2]
def SV.wh (s:SV):Value:=.agg #[.int .i64 s.wo,.string ⟨s.wt.toArray⟩,.string ⟨s.wn.toArray⟩,.int .i64 s.wv.k,.int .i64 s.wv.n,.string s.wv.s,sl s.wa]
def SV.sel (s:SV):Value:=.agg #[.bool s.xd,sl s.xi,sl s.xf,sl s.xo,.int .i64 s.yo,.string ⟨s.yt.toArray⟩,.string ⟨s.yn.toArray⟩,.int .i64 s.yv.k,.int .i64 s.yv.n,.string s.yv.s,sl s.ya,sl s.xg,sl s.xs,.int .i64 s.xl]
def SV.arr (s:SV):Array Value:=#[.int .i64 s.k,.string ⟨s.tb.toArray⟩,.string ⟨s.nm.toArray⟩,.string ⟨s.s0.toArray⟩,sl s.s1,sl s.s2,sl s.s3,.string ⟨s.c0.toArray⟩,.int .i64 s.c1,.bool s.c2,
 sl s.ns,.bool s.un,sl s.rs,sl s.es,.int .i64 s.wo,.string ⟨s.wt.toArray⟩,.string ⟨s.wn.toArray⟩,.int .i64 s.wv.k,.int .i64 s.wv.n,.string s.wv.s,sl s.wa,
 .bool s.xd,sl s.xi,sl s.xf,sl s.xo,.int .i64 s.yo,.string ⟨s.yt.toArray⟩,.string ⟨s.yn.toArray⟩,.int .i64 s.yv.k,.int .i64 s.yv.n,.string s.yv.s,sl s.ya,sl s.xg,sl s.xs,.int .i64 s.xl,.int .i64 s.md]
theorem Al (s:SV):(prog.info? 46).map (·.size)=some s.arr.size:=by
 have:(prog.info? 46).map (·.size)=some 36:=by kernel_rfl
 rw[this];rfl
theorem Bh (s:SV):s.arr.all (·.oneCell')=true:=by unfold SV.arr sl;simp[Value.oneCell']
theorem cy (s:SV) (k:Int):s.arr.setIfInBounds 0 (.int .i64 k)={s with k:=k}.arr:=rfl
theorem cq (s:SV) (x:Bytes):s.arr.setIfInBounds 1 (.string ⟨x.toArray⟩)={s with tb:=x}.arr:=rfl
theorem aj (s:SV) (x:Int):s.arr.setIfInBounds 35 (.int .i64 x)={s with md:=x}.arr:=rfl
def setArr (cs:Array Value):Nat->List Value->Array Value
 | _,[]=>cs
 | o,v::vs=>setArr (cs.setIfInBounds o v) (o+1) vs
section
set_option maxRecDepth 100000
theorem Z4:prog.built 46 []=some (SV.arr {}):=by kernel_rfl
theorem Yy (k:Int) (x:Bytes):prog.built 46 [(0,.int .i64 k),(1,.string ⟨x.toArray⟩)]=some (SV.arr {k:=k,tb:=x}):=by kernel_rfl
theorem Po (k:Int) (x:Bytes):prog.built 46 [(0,.int .i64 k),(2,.string ⟨x.toArray⟩)]=some (SV.arr {k:=k,nm:=x}):=by kernel_rfl
theorem Wj (k:Int) (d:Bool) (i f o:SlP) (op:Int) (t n:Bytes) (v:V) (a g q:SlP) (lim:Int):prog.built 46 [(0,.int .i64 k),(10,.agg #[.bool d,sl i,sl f,sl o,.int .i64 op,.string ⟨t.toArray⟩,.string ⟨n.toArray⟩,.int .i64 v.k,.int .i64 v.n,.string v.s,sl a,sl g,sl q,.int .i64 lim])]=
 some (SV.arr {k:=k,xd:=d,xi:=i,xf:=f,xo:=o,yo:=op,yt:=t,yn:=n,yv:=v,ya:=a,xg:=g,xs:=q,xl:=lim}):=by kernel_rfl
def selSV (x:Sel) (ia:Option Addr) (ic:Nat) (fa:Option Addr) (fc:Nat) (oa:Option Addr) (oc:Nat) (wa:Option Addr) (wc:Nat) (ga:Option Addr) (gc:Nat) (sa:Option Addr) (sc:Nat):SV:=
 {k:=9,xd:=x.distinct,xi:=(ia,x.items.length,ic),xf:=(fa,x.from_.length,fc),xo:=(oa,x.on.length,oc),yo:=x.where_.op,yt:=x.where_.table,yn:=x.where_.name,yv:=x.where_.val,ya:=(wa,x.where_.args.length,wc),xg:=(ga,x.group.length,gc),xs:=(sa,x.sort.length,sc),xl:=x.limit}
theorem R6 (x:Sel) (ia:Option Addr) (ic:Nat) (fa:Option Addr) (fc:Nat) (oa:Option Addr) (oc:Nat) (wa:Option Addr) (wc:Nat) (ga:Option Addr) (gc:Nat) (sa:Option Addr) (sc:Nat):
 prog.built 46 [(0,.int .i64 9),(10,.agg #[.bool x.distinct,.slice ia x.items.length ic,.slice fa x.from_.length fc,.slice oa x.on.length oc,
 .int .i64 x.where_.op,.string ⟨x.where_.table.toArray⟩,.string ⟨x.where_.name.toArray⟩,.int .i64 x.where_.val.k,.int .i64 x.where_.val.n,.string x.where_.val.s,.slice wa x.where_.args.length wc,
 .slice ga x.group.length gc,.slice sa x.sort.length sc,.int .i64 x.limit])]=some (selSV x ia ic fa fc oa oc wa wc ga gc sa sc).arr:=Wj 9 x.distinct (ia,x.items.length,ic) (fa,x.from_.length,fc) (oa,x.on.length,oc) x.where_.op x.where_.table x.where_.name x.where_.val (wa,x.where_.args.length,wc) (ga,x.group.length,gc) (sa,x.sort.length,sc) x.limit
end
variable {pb:Nat} {sz:Int} {w0 w w':World} {L:List Blk} {R:List Row} {l:List Tok} {G:Far}
theorem XFr.row (i:Nat) {b:Nat} {cs:Array Value} {t:TypeId} (vs:Array Value) (h:XFr pb sz w0 w L R l G) (hi:L[i]?=some (b,cs,t)):XFr pb sz w0 (w.setRow b vs) (L.set i (b,vs,t)) R l G:=by
 refine⟨⟨h.fr.fr.row i vs hi,h.fr.rows.turned (M:=(·=b)) ((Turn.refl _ w).setRow (.inl rfl)) (fun g hg e=>?_),fun x hx=>?_⟩,G.move (fun c hlt hq=>⟨⟨hq.1,fun x hx=>?_,hq.2.2⟩,?_⟩) h.far⟩
 ·have e':g=b:=e;subst e';exact h.fr.apart (g,cs,t) (List.mem_of_getElem? hi) hg
 ·rcases List.mem_or_eq_of_mem_set hx with hx|rfl
  ·exact h.fr.apart x hx
  ·exact h.fr.apart (b,cs,t) (List.mem_of_getElem? hi)
 ·rcases List.mem_or_eq_of_mem_set hx with hx|rfl
  ·exact hq.2.1 x hx
  ·exact hq.2.1 (b,cs,t) (List.mem_of_getElem? hi)
 ·have:=hq.2.1 (b,cs,t) (List.mem_of_getElem? hi);exact Ap (fun e=>this e.symm)
theorem XFr.setsL {i b:Nat} {t:TypeId}:∀(vs:List Value) (o:Nat) (cs:Array Value) (w:World) (L:List Blk),XFr pb sz w0 w L R l G->L[i]?=some (b,cs,t)->XFr pb sz w0 (w.setCells b o vs) (L.set i (b,setArr cs o vs,t)) R l G
 | [],o,cs,w,L,h,hi=>by
  have:L.set i (b,cs,t)=L:=by
   apply List.ext_getElem?;intro q;rw[List.getElem?_set];split
   ·rename_i e;subst e;split
    ·exact hi.symm
    ·rename_i hq;simp at hq;simp[List.getElem?_eq_none hq]
   ·rfl
  unfold setArr;rw[this];exact h
 | v::vs,o,cs,w,L,h,hi=>by
  have h1:=XFr.set i (o:=o) (v:=v) h hi;have hlt:=(List.getElem?_eq_some_iff.1 hi).1;have h2:=XFr.setsL (i:=i) (b:=b) (t:=t) vs (o+1) (cs.setIfInBounds o v) _ _ h1 (by rw[List.getElem?_set];simp[hlt]);rw[List.set_set]at h2;exact h2
def RTblQ (Q:Nat->Prop) (w:World) (t:Tbl) (v:Value):Prop:=∃ca cc ka kc,v=.agg #[.string ⟨t.name.toArray⟩,.slice ca t.cols.length cc,.slice none 0 0,.slice ka t.checks.length kc]/\t.indexes=[]/\RSl colE Q w (.slice ca t.cols.length cc) t.cols/\RSl chkE Q w (.slice ka t.checks.length kc) t.checks
def RSelQ (Q:Nat->Prop) (w:World) (x:Sel) (v:Value):Prop:=∃ia ic fa fc oa oc wa wc ga gc sa sc,v=.agg #[.bool x.distinct,.slice ia x.items.length ic,.slice fa x.from_.length fc,.slice oa x.on.length oc,
 .int .i64 x.where_.op,.string ⟨x.where_.table.toArray⟩,.string ⟨x.where_.name.toArray⟩,.int .i64 x.where_.val.k,.int .i64 x.where_.val.n,.string x.where_.val.s,.slice wa x.where_.args.length wc,
 .slice ga x.group.length gc,.slice sa x.sort.length sc,.int .i64 x.limit]/\
 RSl pkE Q w (.slice ia x.items.length ic) x.items/\RSl strE Q w (.slice fa x.from_.length fc) x.from_/\RSl exE Q w (.slice oa x.on.length oc) x.on/\ExSl Q w (.slice wa x.where_.args.length wc) x.where_.args/\
 RSl exE Q w (.slice ga x.group.length gc) x.group/\RSl srtE Q w (.slice sa x.sort.length sc) x.sort
def farSel (v:Value) (x:Sel):Far:=⟨fun Q w=>RSelQ Q w x v,fun hq h=>by
 obtain⟨ia,ic,fa,fc,oa,oc,wa,wc,ga,gc,sa,sc,h0,h1,h2,h3,h4,h5,h6⟩:=h;exact⟨ia,ic,fa,fc,oa,oc,wa,wc,ga,gc,sa,sc,h0,Ad (by decide) hq h1,Ad (by decide) hq h2,Ad (by decide) hq h3,A8 hq h4,Ad (by decide) hq h5,Ad (by decide) hq h6⟩⟩
structure StmIs (Q:Nat->Prop) (w:World) (s:SV) (x:Stm):Prop where
 k:s.k=x.kind
 tb:s.tb=x.table
 nm:s.nm=x.name
 sch:RTblQ Q w x.schema s.sch
 col:s.col=.agg #[.string ⟨x.column.name.toArray⟩,.int .i64 x.column.kind,.bool x.column.null]
 ns:RSl strE Q w (sl s.ns) x.names
 un:s.un=x.unique
 rs:RSl rowE Q w (sl s.rs) x.rows
 es:RSl exE Q w (sl s.es) x.exprs
 wh:s.wo=x.where_.op/\s.wt=x.where_.table/\s.wn=x.where_.name/\s.wv=x.where_.val/\ExSl Q w (sl s.wa) x.where_.args
 sel:RSelQ Q w x.select s.sel
 md:s.md=x.mode
def RStm (B:Nat) (w:World) (x:Stm) (v:Value):Prop:=∃s:SV,v=.agg s.arr/\StmIs (B≤·) w s x
theorem Aj {α:Type} {E:ElRep α} {Q:Nat->Prop} {w:World}:RSl E Q w (sl sl0) []:=⟨[],⟨none,0,rfl,Nat.le_refl _,fun h=>absurd h (by simp)⟩,rfl⟩
theorem Ak (Q:Nat->Prop) (w:World):StmIs Q w {} Stm.zero:=
 ⟨rfl,rfl,rfl,⟨none,0,none,0,rfl,rfl,Aj,Aj⟩,rfl,Aj,rfl,Aj,Aj,⟨rfl,rfl,rfl,rfl,ExSl.nil _ _⟩,⟨none,0,none,0,none,0,none,0,none,0,none,0,rfl,Aj,Aj,Aj,ExSl.nil _ _,Aj,Aj⟩,rfl⟩
end Go.Proofs.YtjmmbebkbkgefaaGreatDoor
namespace Go.Proofs.YtjmmbebkbkgefaaGreatDoor
open Go.RowKit Go.Sort Tryz
theorem XFr.genL {pb:Nat} {sz:Int} {w0 w:World} {L:List Blk} {R:List Row} {l:List Tok} {G:Far} {P:Program} {ops:Array Oper} {ol:List Oper} {Q:Exit->Act->World->Prop} {a:Act} (h:XFr pb sz w0 w L R l G) (k:∀W,Hid (XFr pb sz w0 W L R l G)->wpList P ops Q ol a W):wpList P ops Q ol a w:=k w h
end Go.Proofs.YtjmmbebkbkgefaaGreatDoor
