/- Part 17; the last part says what is proved. No condition. -/
import Derived.Lib.AppendIntMem
import Derived.Test.YtjmmbebkbkgefaaGreatDoorB10
set_option linter.unusedVariables false
set_option linter.unusedSimpArgs false
set_option maxHeartbeats 8000000
set_option maxRecDepth 100000
namespace Go.Proofs.YtjmmbebkbkgefaaGreatDoor
open Go.RowKit Go.Sort Tryz
def parseRes:Option V->Value
 | some v=>.tuple #[v.val,.bool true]
 | none=>.tuple #[V.null.val,.bool false]
theorem Te (s:ByteArray) (l:List UInt8):(s.toList==l)=decide (s.data.toList=l):=by
 rw[ByteArray.toList_eq,Bool.eq_iff_iff];simp
theorem Pr (s:ByteArray) (hs:s.size<=1000000) (h:∀v,Lib.atoiAll s.data.toList≠.ok v) (w:World) (he:Errs w):
 Calls prog 145 #[.string s] w fun e w'=>∃x N,e=.returned (.tuple #[.int .i64 x,.iface 274 (.pointer (some ⟨N,0,none⟩))])/\Below w.heap.size w w':=by
 obtain⟨t1,p1,t2,p2,h1,h2⟩:=he
 cases hc:Lib.atoiAll s.data.toList
 case ok v=>exact absurd hc (h v)
 case range=>exact(Any.strconv_Atoi_range Tryz.laysC172 s (by omega) hc _ w h2 (Or.inr ⟨t2,p2,rfl⟩)).mono (by rintro e w' ⟨N,rfl,_,_,hb⟩;exact⟨_,N,rfl,hb⟩)
 all_goals exact(Any.strconv_Atoi_syntax Tryz.laysC172 s (by omega) hc _ w h1 (Or.inr ⟨t1,p1,rfl⟩)).mono (by rintro e w' ⟨N,rfl,_,_,hb⟩;exact⟨_,N,rfl,hb⟩)
theorem Tj (s:ByteArray) (hs:s.size<=1000000) (v:Int) (h:Lib.atoiAll s.data.toList=.ok v) (w:World):
 Calls prog 145 #[.string s] w fun e w'=>e=.returned (.tuple #[.int .i64 v,.nilIface])/\Below w.heap.size w w':=
 (Tryz.strconv_Atoi_ok s (by omega) v h w).mono (by
  rintro e w' ⟨rfl,rfl|⟨t,rfl⟩⟩
  ·exact⟨rfl,Below.refl _ _⟩
  ·exact⟨rfl,Lib.bytesWorld_below _ _ _⟩)
theorem Rp {s:ByteArray} {l:List UInt8} (h:s.data.toList=l):(s.toList==l)=true:=by rw[Te,h];simp
theorem Ma {s:ByteArray} {l:List UInt8} (h:s.data.toList≠l):(s.toList==l)=false:=by rw[Te];simp[h]
theorem Qo (s:ByteArray) (w:World) (h:s.data.toList=bNull):Calls prog 148 #[.string s] w fun e w'=>e=.returned (parseRes (some V.null))/\Below w.heap.size w w':=by
 have e1:(s.toList==[110,117,108,108])=true:=Rp h;clear h;go_enter func148,ntmps148;go_wp2_with fail;refine bodyPost_ret (v:=.tuple #[V.null.val,.bool true]) (by simp[results,results148,go_sem,V.val,V.null]) rfl ⟨rfl,?_⟩;go_grown
theorem J2 (b:Bool) (s:ByteArray) (w:World) (h:s.data.toList=if b then bTrue else bFalse):Calls prog 148 #[.string s] w fun e w'=>e=.returned (parseRes (some (V.bool b)))/\Below w.heap.size w w':=by
 have e1:(s.toList==[110,117,108,108])=false:=Ma (by rw[h];cases b<;>decide);have e2:(s.toList==[116,114,117,101])=b:=by cases b;exact Ma (by rw[h];decide);exact Rp h
 have e3:(s.toList==[102,97,108,115,101])=!b:=by cases b;exact Rp h;exact Ma (by rw[h];decide)
 have B:Hid (∀w,Calls prog 203 #[.bool b] w fun e w'=>e=.returned (.agg #[.int .i64 3,.int .i64 (b2i b),.string ⟨#[]⟩])/\Below w.heap.size w w'):=fun w=>truth_any b w;clear h
 cases b;all_goals
  go_enter func148,ntmps148
  go_wp2_with fail
  refine Calls.mono (B.out _) ?_
  rintro e w1 ⟨rfl,hb1⟩
  refine St.call (St.alloc (St.alloc (St.start _))) hb1 ?_
  intro S1
  clear hb1
  try(simp only[List.set_cons_zero,List.set_cons_succ,List.setIfInBounds_toArray,World.size_alloc]at S1)
  have F1:=S1.out.facts
  simp only[St.Facts,cellFacts,apartFacts,and_true]at F1
  go_wp2_with fail
 ·refine bodyPost_ret (v:=.tuple #[.agg #[.int .i64 3,.int .i64 (b2i false),.string ⟨#[]⟩],.bool true]) (by simp[results,results148,go_sem,F1]) rfl ⟨rfl,?_⟩;exact(St.set 1 (St.set 1 (St.set 1 S1.out rfl) rfl) rfl).below
 ·refine bodyPost_ret (v:=.tuple #[.agg #[.int .i64 3,.int .i64 (b2i true),.string ⟨#[]⟩],.bool true]) (by simp[results,results148,go_sem,F1]) rfl ⟨rfl,?_⟩;exact(St.set 1 (St.set 1 (St.set 1 S1.out rfl) rfl) rfl).below
theorem Qn (s:ByteArray) (w:World) (hs:s.size<=1000000) (he:Errs w) (htab:Lib.TabIs prog w "internal/strconv.uint64pow10" .u64 Lib.pow10Tab)
 (h1:s.data.toList≠bNull) (h2:s.data.toList≠bTrue) (h3:s.data.toList≠bFalse):Calls prog 148 #[.string s] w fun e w'=>e=.returned (parseRes (parseP s.data.toList))/\Below w.heap.size w w':=by
 have e1:(s.toList==[110,117,108,108])=false:=Ma h1
 have e2:(s.toList==[116,114,117,101])=false:=Ma h2
 have e3:(s.toList==[102,97,108,115,101])=false:=Ma h3
 have Q:=Lib.hid (fun w h=>Qi s w hs h)
 have HE:=Lib.hid he
 have HT:=Lib.hid (Lib.tabBelow_of_tabIs htab)
 have HP:Hid (parseP s.data.toList=match quo s.data.toList with
  | some t=>ifRight ⟨2,0,⟨t.toArray⟩⟩
  | none=>match Lib.atoiAll s.data.toList with
   | .ok n=>if Lib.itoa n=s.data.toList then ifRight (V.num n)else none
   | _=>none):=by show _=_;unfold parseP;rw[if_neg h1,if_neg h2,if_neg h3];rfl
 clear h1 h2 h3 he htab
 cases hq:quo s.data.toList with
 | some t=>
  rw[hq]at Q HP;simp only[quoRes]at Q;have R:=Lib.hid (fun w=>Fp ⟨2,0,⟨t.toArray⟩⟩ ⟨by show(-9223372036854775808:Int)<=0;decide,by show(0:Int)<=9223372036854775807;decide⟩ w);clear hq
  cases hr:V.right ⟨2,0,⟨t.toArray⟩⟩;all_goals
   rw[hr]at R
   have HR:Hid (parseP s.data.toList=ifRight ⟨2,0,⟨t.toArray⟩⟩):=HP.out
   have HRR:=Lib.hid hr
   clear HP hr
   go_enter func148,ntmps148
   go_wp2_with fail
   refine Calls.mono (Q.out _ (HE.out.kept (St.alloc (St.alloc (St.start w))).below)) ?_
   rintro e w1 ⟨rfl,hb1⟩
   refine St.call (St.alloc (St.alloc (St.start _))) hb1 ?_
   intro S1
   clear hb1
   try(simp only[List.set_cons_zero,List.set_cons_succ,List.setIfInBounds_toArray,World.size_alloc]at S1)
   have F1:=S1.out.facts
   simp only[St.Facts,cellFacts,apartFacts,and_true]at F1
   go_wp2_with fail
   refine Calls.mono (R.out _) ?_
   rintro e w2 ⟨rfl,hb2⟩
   refine St.call (St.set 0 (St.set 0 (St.set 0 (S1.out) rfl) rfl) rfl) hb2 ?_
   intro S2
   clear hb2
   try(simp only[List.set_cons_zero,List.set_cons_succ,List.setIfInBounds_toArray,World.size_alloc]at S2)
   clear F1
   have F2:=S2.out.facts
   simp only[St.Facts,cellFacts,apartFacts,and_true]at F2
   go_wp2_with fail
  ·refine bodyPost_ret (v:=.tuple #[.agg #[.int .i64 0,.int .i64 0,.string ⟨#[]⟩],.bool false]) (by simp[results,results148,go_sem,F2]) rfl ⟨by rw[HR.out,ifRight,HRR.out];rfl,?_⟩;exact(St.set 1 (St.set 1 (St.set 1 S2.out rfl) rfl) rfl).below
  ·refine bodyPost_ret (v:=.tuple #[.agg #[.int .i64 2,.int .i64 0,.string ⟨t.toArray⟩],.bool true]) (by simp[results,results148,go_sem,F2]) rfl ⟨by rw[HR.out,ifRight,HRR.out];rfl,?_⟩;exact(St.set 1 (St.set 1 (St.set 1 S2.out rfl) rfl) rfl).below
 | none=>
  rw[hq]at Q HP;simp only[quoRes]at Q;clear hq;by_cases hok:∃n,Lib.atoiAll s.data.toList=.ok n
  ·obtain⟨n,hn⟩:=hok;have hb:=Lib.atoiAll_bounds hn;have A:=Lib.hid (fun w=>Tj s hs n hn w);have HP2:Hid (parseP s.data.toList=if Lib.itoa n=s.data.toList then ifRight (V.num n)else none):=by show _=_;rw[HP.out,hn]
   have I:Hid (∀w',Below w.heap.size w w'->Calls prog 146 #[.int .i64 n] w' fun e w''=>e=.returned (.string ⟨(Lib.itoa n).toArray⟩)/\Below w'.heap.size w' w''):=fun w' h=>
    (Tryz.strconv_Itoa n hb.1 hb.2 w' (HT.out w' h)).mono (by rintro e w'' ⟨rfl,k,os,rfl⟩;exact⟨rfl,Lib.below_grow _ _ (Nat.le_refl _) _ _⟩)
   have R:=Lib.hid (fun w=>Fp (V.num n) hb w);obtain⟨X,hX⟩:∃X,X=Lib.itoa n:=⟨_,rfl⟩;obtain⟨sb,hsb⟩:∃sb,sb=decide (Lib.itoa n=s.data.toList):=⟨_,rfl⟩;have f1:((⟨X.toArray⟩:ByteArray).toList==s.toList)=sb:=by rw[ByteArray.toList_eq,ByteArray.toList_eq,hX,hsb,Bool.eq_iff_iff];simp
   have f2:(X==s.toList)=sb:=by rw[ByteArray.toList_eq,hX,hsb,Bool.eq_iff_iff];simp
   rw[<- hX]at I;have HSB:=Lib.hid hsb;clear HP hn hb hX hsb
   cases sb
   ·have HR:Hid (parseP s.data.toList=none):=by show _=_;rw[HP2.out,if_neg (by have:=HSB.out;simpa using this.symm)]
    go_enter func148,ntmps148;go_wp2_with fail;refine Calls.mono (Q.out _ (HE.out.kept (St.alloc (St.alloc (St.start w))).below)) ?_;rintro e w1 ⟨rfl,hb1⟩;refine St.call (St.alloc (St.alloc (St.start _))) hb1 ?_;intro S1;clear hb1;try(simp only[List.set_cons_zero,List.set_cons_succ,List.setIfInBounds_toArray,World.size_alloc]at S1)
    have F1:=S1.out.facts;simp only[St.Facts,cellFacts,apartFacts,and_true]at F1;go_wp2_with fail;refine Calls.mono (A.out _) ?_;rintro e w2 ⟨rfl,hb2⟩;refine St.call (S1.out) hb2 ?_;intro S2;clear hb2;try(simp only[List.set_cons_zero,List.set_cons_succ,List.setIfInBounds_toArray,World.size_alloc]at S2)
    clear F1;have F2:=S2.out.facts;simp only[St.Facts,cellFacts,apartFacts,and_true]at F2;go_wp2_with fail;refine Calls.mono (I.out _ S2.out.below) ?_;rintro e w3 ⟨rfl,hb3⟩;refine St.call (S2.out) hb3 ?_;intro S3;clear hb3;try(simp only[List.set_cons_zero,List.set_cons_succ,List.setIfInBounds_toArray,World.size_alloc]at S3)
    clear F2;have F3:=S3.out.facts;simp only[St.Facts,cellFacts,apartFacts,and_true]at F3;go_wp2_with fail;refine bodyPost_ret (v:=.tuple #[.agg #[.int .i64 0,.int .i64 0,.string ⟨#[]⟩],.bool false]) (by simp[results,results148,go_sem,F3]) rfl ⟨by rw[HR.out];rfl,?_⟩;exact(St.set 1 (St.set 1 (St.set 1 S3.out rfl) rfl) rfl).below
   ·have HR:Hid (parseP s.data.toList=ifRight (V.num n)):=by show _=_;rw[HP2.out,if_pos (by have:=HSB.out;simpa using this.symm)]
    cases hr:V.right (V.num n);all_goals
     rw[hr]at R
     have HRR:=Lib.hid hr
     clear hr
     go_enter func148,ntmps148
     go_wp2_with fail
     refine Calls.mono (Q.out _ (HE.out.kept (St.alloc (St.alloc (St.start w))).below)) ?_
     rintro e w1 ⟨rfl,hb1⟩
     refine St.call (St.alloc (St.alloc (St.start _))) hb1 ?_
     intro S1
     clear hb1
     try(simp only[List.set_cons_zero,List.set_cons_succ,List.setIfInBounds_toArray,World.size_alloc]at S1)
     have F1:=S1.out.facts
     simp only[St.Facts,cellFacts,apartFacts,and_true]at F1
     go_wp2_with fail
     refine Calls.mono (A.out _) ?_
     rintro e w2 ⟨rfl,hb2⟩
     refine St.call (S1.out) hb2 ?_
     intro S2
     clear hb2
     try(simp only[List.set_cons_zero,List.set_cons_succ,List.setIfInBounds_toArray,World.size_alloc]at S2)
     clear F1
     have F2:=S2.out.facts
     simp only[St.Facts,cellFacts,apartFacts,and_true]at F2
     go_wp2_with fail
     refine Calls.mono (I.out _ S2.out.below) ?_
     rintro e w3 ⟨rfl,hb3⟩
     refine St.call (S2.out) hb3 ?_
     intro S3
     clear hb3
     try(simp only[List.set_cons_zero,List.set_cons_succ,List.setIfInBounds_toArray,World.size_alloc]at S3)
     clear F2
     have F3:=S3.out.facts
     simp only[St.Facts,cellFacts,apartFacts,and_true]at F3
     go_wp2_with fail
     refine Calls.mono (R.out _) ?_
     rintro e w4 ⟨rfl,hb4⟩
     refine St.call (St.set 0 (St.set 0 (St.set 0 (S3.out) rfl) rfl) rfl) hb4 ?_
     intro S4
     clear hb4
     try(simp only[List.set_cons_zero,List.set_cons_succ,List.setIfInBounds_toArray,World.size_alloc]at S4)
     clear F3
     have F4:=S4.out.facts
     simp only[St.Facts,cellFacts,apartFacts,and_true]at F4
     go_wp2_with fail
    ·refine bodyPost_ret (v:=.tuple #[.agg #[.int .i64 0,.int .i64 0,.string ⟨#[]⟩],.bool false]) (by simp[results,results148,go_sem,F4]) rfl ⟨by rw[HR.out,ifRight,HRR.out];rfl,?_⟩;exact(St.set 1 (St.set 1 (St.set 1 S4.out rfl) rfl) rfl).below
    ·refine bodyPost_ret (v:=.tuple #[.agg #[.int .i64 1,.int .i64 n,.string ⟨#[]⟩],.bool true]) (by simp[results,results148,go_sem,F4]) rfl ⟨by rw[HR.out,ifRight,HRR.out];rfl,?_⟩;exact(St.set 1 (St.set 1 (St.set 1 S4.out rfl) rfl) rfl).below
  ·have hno:∀v,Lib.atoiAll s.data.toList≠.ok v:=fun v h=>hok ⟨v,h⟩;have A:=Lib.hid (fun w h=>Pr s hs hno w h);have HR:Hid (parseP s.data.toList=none):=by
    show _=_;rw[HP.out]
    cases hc:Lib.atoiAll s.data.toList
    case ok n=>exact absurd hc (hno n)
    all_goals rfl
   clear HP hok hno;go_enter func148,ntmps148;go_wp2_with fail;refine Calls.mono (Q.out _ (HE.out.kept (St.alloc (St.alloc (St.start w))).below)) ?_;rintro e w1 ⟨rfl,hb1⟩;refine St.call (St.alloc (St.alloc (St.start _))) hb1 ?_;intro S1;clear hb1;try(simp only[List.set_cons_zero,List.set_cons_succ,List.setIfInBounds_toArray,World.size_alloc]at S1)
   have F1:=S1.out.facts;simp only[St.Facts,cellFacts,apartFacts,and_true]at F1;go_wp2_with fail;refine Calls.mono (A.out _ (HE.out.kept S1.out.below)) ?_;rintro e w2 ⟨x,N,rfl,hb2⟩;refine St.call (S1.out) hb2 ?_;intro S2;clear hb2;try(simp only[List.set_cons_zero,List.set_cons_succ,List.setIfInBounds_toArray,World.size_alloc]at S2)
   clear F1;have F2:=S2.out.facts;simp only[St.Facts,cellFacts,apartFacts,and_true]at F2;go_wp2_with fail;refine bodyPost_ret (v:=.tuple #[.agg #[.int .i64 0,.int .i64 0,.string ⟨#[]⟩],.bool false]) (by simp[results,results148,go_sem,F2]) rfl ⟨by rw[HR.out];rfl,?_⟩;exact(St.set 1 (St.set 1 (St.set 1 S2.out rfl) rfl) rfl).below
theorem Uy (s:ByteArray) (w:World) (hs:s.size<=1000000) (he:Errs w) (htab:Lib.TabIs prog w "internal/strconv.uint64pow10" .u64 Lib.pow10Tab):
 Calls prog 148 #[.string s] w fun e w'=>e=.returned (parseRes (parseP s.data.toList))/\Below w.heap.size w w':=by
 by_cases h1:s.data.toList=bNull
 ·rw[parseP,if_pos h1];exact Qo s w h1
 by_cases h2:s.data.toList=bTrue
 ·rw[parseP,if_neg h1,if_pos h2];exact J2 true s w h2
 by_cases h3:s.data.toList=bFalse
 ·rw[parseP,if_neg h1,if_neg h2,if_pos h3];exact J2 false s w h3
 exact Qn s w hs he htab h1 h2 h3
def tokVal (t:Tok):Value:=.agg #[.int .i64 t.kind,.int .i64 t.at_,.string ⟨t.s.toArray⟩,.int .i64 t.n]
def tokRes:Except Int (Tok×Nat)->Value
 | .ok (t,n)=>.tuple #[tokVal t,.int .i64 (n:Int),.int .i64 0]
 | .error e=>.tuple #[.agg #[.int .i64 0,.int .i64 0,.string ⟨#[]⟩,.int .i64 0],.int .i64 0,.int .i64 e]
theorem I4 (c:UInt8):lowN c.toNat=lowB c:=rfl
theorem Na (c:UInt8):digN c.toNat=digB' c:=rfl
theorem Cm (c:UInt8):wrap32 (c.toNat:Int)=c.toNat:=by
 have h:∀n:Fin 256,wrap32 (n.val:Int)=n.val:=by decide+kernel
 exact h ⟨c.toNat,c.toNat_lt⟩
theorem Py {B:Nat} (c:UInt8) (r:Bytes) (hs:(c::r).length<=1000000) (hc:lowB c=true) (w:World) (he:Env B w):
 Calls prog 71 #[.string ⟨(c::r).toArray⟩] w fun e w'=>e=.returned (tokRes (tokenR (c::r)))/\Below w.heap.size w w':=by
 obtain⟨m,hm⟩:=he.maxLen
 have hl:(c::r).takeWhile (fun c=>partN c.toNat)=(c::r).takeWhile accP:=by rw[<- Tm]
 have HE:=Lib.hid he
 have hidx:((⟨(c::r).toArray⟩:ByteArray)[0]'(by show 0<(c::r).toArray.size;simp))=c:=rfl
 have hw32:wrap32 (c.toNat:Int)=c.toNat:=Cm c
 have C1:=Lib.hid (fun W (h:Env B W)=>Cr c.toNat W h)
 rw[I4,hc]at C1
 obtain⟨wd,hwd⟩:∃wd,(c::r).takeWhile accP=wd:=⟨_,rfl⟩
 have C2:=Lib.hid (fun W (h:Env B W)=>Lw (c::r) hs W h)
 rw[hl,hwd]at C2
 have hsp:∀d∈wd,d≠32:=by rw[<- hwd];exact takeP_nosp _
 have hwl:wd.length<=1000000:=by rw[<- hwd];exact Nat.le_trans (List.takeWhile_prefix _).length_le hs
 have C3:=Lib.hid (fun W (h:W.cell? ⟨3,0,none⟩=some (.int .i64 m))=>Tryz.strings_Contains ⟨wordsText.toArray⟩ ⟨(32::(wd++[32])).toArray⟩ m W (by decide+kernel) h)
 simp only[List.toList_toArray]at C3
 rw[Gk wd hsp]at C3
 have C4:=Lib.hid (fun W=>Jr wd hwl W)
 have HM:Hid (tokenR (c::r)=if keywords.contains wd then .ok (⟨1,0,wd,0⟩,wd.length)else if isName wd then .ok (⟨2,0,wd,0⟩,wd.length)else .error 2):=by
  show _=_;unfold tokenR;simp only[hc,if_true,hwd]
 have S0:=Lib.hid (St.start w)
 clear he hl hwd hc hsp
 go_enter func71,ntmps71
 go_wp2_with fail
 refine Calls.mono (C1.out _ (HE.out.kept (St.alloc S0.out (cs:=#[.int .i64 0,.int .i64 0,.string ⟨#[]⟩,.int .i64 0]) (t:=136)).below)) ?_
 rintro e w1 ⟨rfl,rfl⟩
 have S1:=Lib.hid (St.alloc S0.out (cs:=#[.int .i64 0,.int .i64 0,.string ⟨#[]⟩,.int .i64 0]) (t:=136))
 clear S0
 go_wp2_with fail
 refine Calls.mono (C2.out _ (HE.out.kept S1.out.below)) ?_
 rintro e w2 ⟨rfl,hb2⟩
 refine St.call (S1.out) hb2 ?_
 intro S2
 clear hb2
 try(simp only[List.set_cons_zero,List.set_cons_succ,List.setIfInBounds_toArray,World.size_alloc]at S2)
 go_wp2_with fail
 refine Calls.mono (C3.out _ ((HE.out.kept S2.out.below).maxLen.elim fun m' h=>by have h1:=S2.out.below.cell_kept hm;exact h1)) ?_
 rintro e w3 ⟨rfl,rfl⟩
 cases hk:keywords.contains wd with
 | true=>
  have HR:Hid (tokenR (c::r)=.ok (⟨1,0,wd,0⟩,wd.length)):=by show _=_;rw[HM.out,if_pos hk]
  have F2:=S2.out.facts;simp only[St.Facts,cellFacts,apartFacts,and_true]at F2;go_wp2_with fail;refine bodyPost_ret (v:=.tuple #[.agg #[.int .i64 1,.int .i64 0,.string ⟨wd.toArray⟩,.int .i64 0],.int .i64 (wd.length:Int),.int .i64 0]) (by simp[results,results71,go_sem,F2]) rfl ⟨by rw[HR.out];rfl,?_⟩;exact(St.set 0 (St.set 0 (St.set 0 (St.set 0 S2.out rfl) rfl) rfl) rfl).below
 | false=>
  have HR:Hid (tokenR (c::r)=if isName wd then .ok (⟨2,0,wd,0⟩,wd.length)else .error 2):=by show _=_;rw[HM.out,hk];rfl
  go_wp2_with fail;refine Calls.mono (C4.out _) ?_;rintro e w4 ⟨rfl,hb4⟩;refine St.call (S2.out) hb4 ?_;intro S4;clear hb4;try(simp only[List.set_cons_zero,List.set_cons_succ,List.setIfInBounds_toArray,World.size_alloc]at S4)
  have F4:=S4.out.facts;simp only[St.Facts,cellFacts,apartFacts,and_true]at F4
  cases hn:isName wd with
  | true=>
   have HR2:Hid (tokenR (c::r)=.ok (⟨2,0,wd,0⟩,wd.length)):=by show _=_;rw[HR.out,if_pos hn]
   go_wp2_with fail;refine bodyPost_ret (v:=.tuple #[.agg #[.int .i64 2,.int .i64 0,.string ⟨wd.toArray⟩,.int .i64 0],.int .i64 (wd.length:Int),.int .i64 0]) (by simp[results,results71,go_sem,F4]) rfl ⟨by rw[HR2.out];rfl,?_⟩;exact(St.set 0 (St.set 0 (St.set 0 (St.set 0 S4.out rfl) rfl) rfl) rfl).below
  | false=>
   have HR2:Hid (tokenR (c::r)=.error 2):=by show _=_;rw[HR.out,hn];rfl
   go_wp2_with fail;refine bodyPost_ret (v:=.tuple #[.agg #[.int .i64 0,.int .i64 0,.string ⟨#[]⟩,.int .i64 0],.int .i64 0,.int .i64 2]) (by simp[results,results71,go_sem,F4]) rfl ⟨by rw[HR2.out];rfl,?_⟩;exact(St.set 0 (St.set 0 (St.set 0 (St.set 0 S4.out rfl) rfl) rfl) rfl).below
theorem Env.errs {B:Nat} {w:World} (h:Env B w):Errs w:=by
 obtain⟨t1,p1,h1⟩:=h.esyn;obtain⟨t2,p2,h2⟩:=h.eran;exact⟨t1,p1,t2,p2,h1,h2⟩
theorem Ml {B:Nat} (c:UInt8) (r:Bytes) (hs:(c::r).length<=1000000) (hc:lowB c=false) (hd:digB' c=true) (w:World) (he:Env B w):
 Calls prog 71 #[.string ⟨(c::r).toArray⟩] w fun e w'=>e=.returned (tokRes (tokenR (c::r)))/\Below w.heap.size w w':=by
 have hl:(c::r).takeWhile (fun c=>partN c.toNat)=(c::r).takeWhile accP:=by rw[<- Tm]
 have HE:=Lib.hid he
 have hidx:((⟨(c::r).toArray⟩:ByteArray)[0]'(by show 0<(c::r).toArray.size;simp))=c:=rfl
 have hw32:wrap32 (c.toNat:Int)=c.toNat:=Cm c
 have C1:=Lib.hid (fun W (h:Env B W)=>Cr c.toNat W h)
 rw[I4,hc]at C1
 have C0:=Lib.hid (fun W=>Dt c.toNat W)
 rw[Na,hd]at C0
 obtain⟨wd,hwd⟩:∃wd,(c::r).takeWhile accP=wd:=⟨_,rfl⟩
 have C2:=Lib.hid (fun W (h:Env B W)=>Lw (c::r) hs W h)
 rw[hl,hwd]at C2
 have hwl:wd.length<=1000000:=by rw[<- hwd];exact Nat.le_trans (List.takeWhile_prefix _).length_le hs
 have hsz:(⟨wd.toArray⟩:ByteArray).size<=1000000:=by show wd.toArray.size<=_;simpa using hwl
 have HM:Hid (tokenR (c::r)=match Lib.atoiAll wd with
   | .ok n=>if 549755813888<n\/Lib.itoa n≠wd then .error 381 else .ok (⟨3,0,[],n⟩,wd.length)
   | _=>.error 381):=by
  show _=_
  unfold tokenR
  simp only[hc,hd,if_true,Bool.false_eq_true,if_false,hwd]
  rfl
 have S0:=Lib.hid (St.start w)
 have hda:(⟨wd.toArray⟩:ByteArray).data.toList=wd:=by simp
 clear he hl hwd hc hd
 by_cases hok:∃n,Lib.atoiAll wd=.ok n
 ·obtain⟨n,hn⟩:=hok;have hb:=Lib.atoiAll_bounds hn;have A:=Lib.hid (fun W=>Tj ⟨wd.toArray⟩ hsz n (by rw[hda];exact hn) W);have I:Hid (∀W,Env B W->Calls prog 146 #[.int .i64 n] W fun e w''=>e=.returned (.string ⟨(Lib.itoa n).toArray⟩)/\Below W.heap.size W w''):=fun W h=>
   (Tryz.strconv_Itoa n hb.1 hb.2 W h.pow).mono (by rintro e w'' ⟨rfl,k,os,rfl⟩;exact⟨rfl,Lib.below_grow _ _ (Nat.le_refl _) _ _⟩)
  have HM2:Hid (tokenR (c::r)=if 549755813888<n\/Lib.itoa n≠wd then .error 381 else .ok (⟨3,0,[],n⟩,wd.length)):=by show _=_;rw[HM.out,hn]
  clear HM hn hda hsz;obtain⟨X,hX⟩:∃X,Lib.itoa n=X:=⟨_,rfl⟩;rw[hX]at I HM2;clear hX;go_enter func71,ntmps71;go_wp2_with fail;refine Calls.mono (C1.out _ (HE.out.kept (St.alloc S0.out (cs:=#[.int .i64 0,.int .i64 0,.string ⟨#[]⟩,.int .i64 0]) (t:=136)).below)) ?_;rintro e w1 ⟨rfl,rfl⟩;have S1:=Lib.hid (St.alloc S0.out (cs:=#[.int .i64 0,.int .i64 0,.string ⟨#[]⟩,.int .i64 0]) (t:=136));clear S0;go_wp2_with fail;refine Calls.mono (C0.out _) ?_;rintro e w1 ⟨rfl,rfl⟩;go_wp2_with fail;refine Calls.mono (C2.out _ (HE.out.kept S1.out.below)) ?_;rintro e w2 ⟨rfl,hb2⟩;refine St.call (S1.out) hb2 ?_;intro S2;clear hb2;try(simp only[List.set_cons_zero,List.set_cons_succ,List.setIfInBounds_toArray,World.size_alloc]at S2)
  go_wp2_with fail;refine Calls.mono (A.out _) ?_;rintro e w3 ⟨rfl,hb3⟩;refine St.call (S2.out) hb3 ?_;intro S3;clear hb3;try(simp only[List.set_cons_zero,List.set_cons_succ,List.setIfInBounds_toArray,World.size_alloc]at S3)
  have F3:=S3.out.facts;simp only[St.Facts,cellFacts,apartFacts,and_true]at F3;by_cases hbig:549755813888<n
  ·have HR:Hid (tokenR (c::r)=.error 381):=by show _=_;rw[HM2.out,if_pos (.inl hbig)]
   go_wp2_with fail;refine bodyPost_ret (v:=.tuple #[.agg #[.int .i64 0,.int .i64 0,.string ⟨#[]⟩,.int .i64 0],.int .i64 0,.int .i64 381]) (by simp[results,results71,go_sem,F3]) rfl ⟨by rw[HR.out];rfl,?_⟩;exact(St.set 0 (St.set 0 (St.set 0 (St.set 0 S3.out rfl) rfl) rfl) rfl).below
  ·by_cases hx:X=wd
   ·have HR:Hid (tokenR (c::r)=.ok (⟨3,0,[],n⟩,wd.length)):=by show _=_;rw[HM2.out,if_neg (by rintro(h|h);exact hbig h;exact h hx)]
    subst hx;go_wp2_with fail;refine Calls.mono (I.out _ (HE.out.kept S3.out.below)) ?_;rintro e w4 ⟨rfl,hb4⟩;refine St.call (S3.out) hb4 ?_;intro S4;clear hb4;try(simp only[List.set_cons_zero,List.set_cons_succ,List.setIfInBounds_toArray,World.size_alloc]at S4)
    clear F3;have F4:=S4.out.facts;simp only[St.Facts,cellFacts,apartFacts,and_true]at F4;go_wp2_with fail;refine bodyPost_ret (v:=.tuple #[.agg #[.int .i64 3,.int .i64 0,.string ⟨#[]⟩,.int .i64 n],.int .i64 (X.length:Int),.int .i64 0]) (by simp[results,results71,go_sem,F4]) rfl ⟨by rw[HR.out];rfl,?_⟩;exact(St.set 0 (St.set 0 (St.set 0 (St.set 0 S4.out rfl) rfl) rfl) rfl).below
   ·have HR:Hid (tokenR (c::r)=.error 381):=by show _=_;rw[HM2.out,if_pos (.inr hx)]
    have f1:(X==wd)=false:=by simpa using hx
    have f2:(X != wd)=true:=by simpa using hx
    go_wp2_with fail;refine Calls.mono (I.out _ (HE.out.kept S3.out.below)) ?_;rintro e w4 ⟨rfl,hb4⟩;refine St.call (S3.out) hb4 ?_;intro S4;clear hb4;try(simp only[List.set_cons_zero,List.set_cons_succ,List.setIfInBounds_toArray,World.size_alloc]at S4)
    clear F3;have F4:=S4.out.facts;simp only[St.Facts,cellFacts,apartFacts,and_true]at F4;go_wp2_with fail;refine bodyPost_ret (v:=.tuple #[.agg #[.int .i64 0,.int .i64 0,.string ⟨#[]⟩,.int .i64 0],.int .i64 0,.int .i64 381]) (by simp[results,results71,go_sem,F4]) rfl ⟨by rw[HR.out];rfl,?_⟩;exact(St.set 0 (St.set 0 (St.set 0 (St.set 0 S4.out rfl) rfl) rfl) rfl).below
 ·have hno:∀v,Lib.atoiAll wd≠.ok v:=fun v h=>hok ⟨v,h⟩;have A:=Lib.hid (fun W h=>Pr ⟨wd.toArray⟩ hsz (by rw[hda];exact hno) W h);have HR:Hid (tokenR (c::r)=.error 381):=by
   show _=_;rw[HM.out]
   cases hcc:Lib.atoiAll wd
   case ok n=>exact absurd hcc (hno n)
   all_goals rfl
  clear HM hok hno hda hsz;go_enter func71,ntmps71;go_wp2_with fail;refine Calls.mono (C1.out _ (HE.out.kept (St.alloc S0.out (cs:=#[.int .i64 0,.int .i64 0,.string ⟨#[]⟩,.int .i64 0]) (t:=136)).below)) ?_;rintro e w1 ⟨rfl,rfl⟩;have S1:=Lib.hid (St.alloc S0.out (cs:=#[.int .i64 0,.int .i64 0,.string ⟨#[]⟩,.int .i64 0]) (t:=136));clear S0;go_wp2_with fail;refine Calls.mono (C0.out _) ?_;rintro e w1 ⟨rfl,rfl⟩;go_wp2_with fail;refine Calls.mono (C2.out _ (HE.out.kept S1.out.below)) ?_;rintro e w2 ⟨rfl,hb2⟩;refine St.call (S1.out) hb2 ?_;intro S2;clear hb2;try(simp only[List.set_cons_zero,List.set_cons_succ,List.setIfInBounds_toArray,World.size_alloc]at S2)
  go_wp2_with fail;refine Calls.mono (A.out _ (HE.out.kept S2.out.below).errs) ?_;rintro e w3 ⟨x,N,rfl,hb3⟩;refine St.call (S2.out) hb3 ?_;intro S3;clear hb3;try(simp only[List.set_cons_zero,List.set_cons_succ,List.setIfInBounds_toArray,World.size_alloc]at S3)
  have F3:=S3.out.facts;simp only[St.Facts,cellFacts,apartFacts,and_true]at F3;go_wp2_with fail;refine bodyPost_ret (v:=.tuple #[.agg #[.int .i64 0,.int .i64 0,.string ⟨#[]⟩,.int .i64 0],.int .i64 0,.int .i64 381]) (by simp[results,results71,go_sem,F3]) rfl ⟨by rw[HR.out];rfl,?_⟩;exact(St.set 0 (St.set 0 (St.set 0 (St.set 0 S3.out rfl) rfl) rfl) rfl).below
theorem Gf:∀(r:Bytes),Lib.indexByte r 39=match toQuote r with
  | some t=>(t.length:Int)
  | none=>-1
 | []=>rfl
 | c::r=>by
  rw[Lib.indexByte,toQuote];by_cases h:c=39
  ·subst h;simp
  ·have h1:(c==39)=false:=by simpa using h
   rw[h1,if_neg h,Gf r]
   cases toQuote r with
   | none=>simp
   | some t=>
    have:(((t.length:Int))==-1)=false:=by rw[beq_eq_false_iff_ne];omega
    simp only[Bool.false_eq_true,if_false,Option.map_some,this];simp
theorem Ef:∀{r t:Bytes},toQuote r=some t->t.length<r.length/\r.take (t.length+1)=t++[39]
 | [],t,h=>by cases h
 | c::r,t,h=>by
  rw[toQuote]at h;by_cases hc:c=39
  ·rw[if_pos hc]at h;simp only[Option.some.injEq]at h;subst h hc;simp
  ·rw[if_neg hc]at h
   cases hq:toQuote r with
   | none=>rw[hq]at h;cases h
   | some u=>
    rw[hq]at h;simp only[Option.map_some,Option.some.injEq]at h;subst h;have:=Ef hq;simp only[List.length_cons,List.cons_append];refine⟨by omega,?_⟩;rw[List.take_succ_cons,this.2]
theorem Sv:lowB 39=false:=by decide
theorem Tf:digB' 39=false:=by decide
theorem Ns {B:Nat} (r:Bytes) (hs:(39::r).length<=1000000) (w:World) (he:Env B w):
 Calls prog 71 #[.string ⟨(39::r).toArray⟩] w fun e w'=>e=.returned (tokRes (tokenR (39::r)))/\Below w.heap.size w w':=by
 have HE:=Lib.hid he
 have hidx:((⟨(39::r:Bytes).toArray⟩:ByteArray)[0]'(by show 0<(39::r:Bytes).toArray.size;simp))=39:=rfl
 have hw32:wrap32 (((39:UInt8).toNat:Nat):Int)=39:=Cm 39
 have hw32':wrap32 39=39:=Cm 39
 have C1:=Lib.hid (fun W (h:Env B W)=>Cr (39:UInt8).toNat W h)
 rw[I4,Sv]at C1
 have C0:=Lib.hid (fun W=>Dt (39:UInt8).toNat W)
 rw[Na,Tf]at C0
 have hsz:(⟨(39::r:Bytes).toArray⟩:ByteArray).size=r.length+1:=by show(39::r:Bytes).toArray.size=_;simp
 have hex1:(⟨(39::r:Bytes).toArray⟩:ByteArray).extract 1 (r.length+1)=⟨r.toArray⟩:=by rw[Cz];simp
 have C2:=Lib.hid (fun W=>Tryz.strings_IndexByte ⟨r.toArray⟩ 39 W)
 rw[show(⟨r.toArray⟩:ByteArray).data.toList=r by simp,show(39:Int).toNat.toUInt8=39 by decide,Gf]at C2
 have HM:Hid (tokenR (39::r)=match toQuote r with
   | none=>.error 382
   | some t=>match parseP (39::(t++[39]))with
    | some v=>if v.k=2 then .ok (⟨4,0,v.s.data.toList,0⟩,t.length+2)else .error 382
    | none=>.error 382):=by
  show _=_
  unfold tokenR
  simp only[Sv,Tf,Bool.false_eq_true,if_false,if_true]
  rfl
 have S0:=Lib.hid (St.start w)
 clear he
 cases hq:toQuote r with
 | none=>
  rw[hq]at C2;have HR:Hid (tokenR (39::r)=.error 382):=by show _=_;rw[HM.out,hq]
  clear HM hq;go_enter func71,ntmps71;go_wp2_with fail;refine Calls.mono (C1.out _ (HE.out.kept (St.alloc S0.out (cs:=#[.int .i64 0,.int .i64 0,.string ⟨#[]⟩,.int .i64 0]) (t:=136)).below)) ?_;rintro e w1 ⟨rfl,rfl⟩;have S1:=Lib.hid (St.alloc S0.out (cs:=#[.int .i64 0,.int .i64 0,.string ⟨#[]⟩,.int .i64 0]) (t:=136));clear S0;go_wp2_with fail;refine Calls.mono (C0.out _) ?_;rintro e w1 ⟨rfl,rfl⟩;go_wp2_with fail;refine Calls.mono (C2.out _) ?_;rintro e w1 ⟨rfl,rfl⟩;have F1:=S1.out.facts;simp only[St.Facts,cellFacts,apartFacts,and_true]at F1;go_wp2_with fail;refine bodyPost_ret (v:=.tuple #[.agg #[.int .i64 0,.int .i64 0,.string ⟨#[]⟩,.int .i64 0],.int .i64 0,.int .i64 382]) (by simp[results,results71,go_sem,F1]) rfl ⟨by rw[HR.out];rfl,?_⟩;exact S1.out.below
 | some t=>
  rw[hq]at C2;obtain⟨q1,q2⟩:=Ef hq;have hex2:(⟨(39::r:Bytes).toArray⟩:ByteArray).extract 0 (t.length+2)=⟨(39::(t++[39])).toArray⟩:=by rw[Cz];simp[<- q2]
  have hqs:(39::(t++[39])).length<=1000000:=by simp at hs ⊢;omega
  have C3:=Lib.hid (fun W (h:Env B W)=>Uy ⟨(39::(t++[39])).toArray⟩ W (by show(39::(t++[39])).toArray.size<=_;simpa using hqs) h.errs h.pow);rw[show(⟨(39::(t++[39])).toArray⟩:ByteArray).data.toList=39::(t++[39]) by simp]at C3;have HM2:Hid (tokenR (39::r)=match parseP (39::(t++[39]))with
   | some v=>if v.k=2 then .ok (⟨4,0,v.s.data.toList,0⟩,t.length+2)else .error 382
   | none=>.error 382):=by show _=_;rw[HM.out,hq]
  clear HM hq q2;go_enter func71,ntmps71;go_wp2_with fail;refine Calls.mono (C1.out _ (HE.out.kept (St.alloc S0.out (cs:=#[.int .i64 0,.int .i64 0,.string ⟨#[]⟩,.int .i64 0]) (t:=136)).below)) ?_;rintro e w1 ⟨rfl,rfl⟩;have S1:=Lib.hid (St.alloc S0.out (cs:=#[.int .i64 0,.int .i64 0,.string ⟨#[]⟩,.int .i64 0]) (t:=136));clear S0;go_wp2_with fail;refine Calls.mono (C0.out _) ?_;rintro e w1 ⟨rfl,rfl⟩;go_wp2_with fail;refine Calls.mono (C2.out _) ?_;rintro e w1 ⟨rfl,rfl⟩;have hw64:wrap64 ((t.length:Int)+2)=(t.length:Int)+2:=IntWalk.wrap64_in _ ⟨by omega,by simp at hs;omega⟩;have hn2:((t.length:Int)+2).toNat=t.length+2:=by omega
  go_wp2_with fail;refine Calls.mono (C3.out _ (HE.out.kept S1.out.below)) ?_;rintro e w3 ⟨rfl,hb3⟩;refine St.call (S1.out) hb3 ?_;intro S3;clear hb3;try(simp only[List.set_cons_zero,List.set_cons_succ,List.setIfInBounds_toArray,World.size_alloc]at S3)
  cases hp:parseP (39::(t++[39]))with
  | none=>
   have HR:Hid (tokenR (39::r)=.error 382):=by show _=_;rw[HM2.out,hp]
   clear HM2 hp;simp only[parseRes,V.val,V.null];have F3:=S3.out.facts;simp only[St.Facts,cellFacts,apartFacts,and_true]at F3;go_wp2_with fail;refine bodyPost_ret (v:=.tuple #[.agg #[.int .i64 0,.int .i64 0,.string ⟨#[]⟩,.int .i64 0],.int .i64 0,.int .i64 382]) (by simp[results,results71,go_sem,F3]) rfl ⟨by rw[HR.out];rfl,?_⟩;exact(St.alloc (St.set 0 (St.set 0 (St.set 0 (St.set 0 S3.out rfl) rfl) rfl) rfl)).below
  | some v=>
   rw[hp]at HM2;obtain⟨vk,vn,vs⟩:=v;clear hp;simp only[parseRes,V.val];have F3:=S3.out.facts;simp only[St.Facts,cellFacts,apartFacts,and_true]at F3;by_cases h2:vk=2
   ·subst h2;have HR:Hid (tokenR (39::r)=.ok (⟨4,0,vs.data.toList,0⟩,t.length+2)):=by show _=_;rw[HM2.out];rfl
    have hvs:(⟨vs.data.toList.toArray⟩:ByteArray)=vs:=by simp
    go_wp2_with fail;refine bodyPost_ret (v:=.tuple #[.agg #[.int .i64 4,.int .i64 0,.string vs,.int .i64 0],.int .i64 ((t.length:Int)+2),.int .i64 0]) (by simp[results,results71,go_sem,F3]) rfl ⟨by rw[HR.out];simp only[tokRes,tokVal,hvs];rfl,?_⟩;exact(St.alloc (St.set 0 (St.set 0 (St.set 0 (St.set 0 S3.out rfl) rfl) rfl) rfl)).below
   ·have HR:Hid (tokenR (39::r)=.error 382):=by show _=_;rw[HM2.out];simp only[if_neg h2]
    have h2':(vk != 2)=true:=by simpa using h2
    go_wp2_with fail;refine bodyPost_ret (v:=.tuple #[.agg #[.int .i64 0,.int .i64 0,.string ⟨#[]⟩,.int .i64 0],.int .i64 0,.int .i64 382]) (by simp[results,results71,go_sem,F3]) rfl ⟨by rw[HR.out];rfl,?_⟩;exact(St.alloc (St.set 0 (St.set 0 (St.set 0 (St.set 0 S3.out rfl) rfl) rfl) rfl)).below
theorem Af {P:Program} {c:Code} {Q:Exit->Act->World->Prop} {a:Act} {w:World} (R:World->Prop) (h:R w) (k:∀W,R W->Code.wp P c Q a W):Code.wp P c Q a w:=k w h
theorem Lm:signs.length=13:=by decide
def signFrom (s:Bytes) (k:Nat):Option Bytes:=(signs.drop k).find? fun g=>g.isPrefixOf s
theorem Kz (s g:Bytes) (k:Nat) (h:signs[k]?=some g):signFrom s k=if g.isPrefixOf s then some g else signFrom s (k+1):=by
 unfold signFrom;obtain⟨h1,rfl⟩:=List.getElem?_eq_some_iff.1 h;rw[List.drop_eq_getElem_cons h1,List.find?_cons]
 cases hp:signs[k].isPrefixOf s<;>simp[hp]
def signCells:Array Value:=(signs.map fun g=>Value.string ⟨g.toArray⟩).toArray
theorem Mp (k:Nat) (g:Bytes) (h:signs[k]?=some g):signCells[k]?=some (.string ⟨g.toArray⟩):=by
 unfold signCells;simp[h]
theorem Pz {B:Nat} (c:UInt8) (r:Bytes) (hs:(c::r).length<=1000000) (hc:lowB c=false) (hd:digB' c=false) (hq:c≠39) (w:World) (he:Env B w):
 Calls prog 71 #[.string ⟨(c::r).toArray⟩] w fun e w'=>e=.returned (tokRes (tokenR (c::r)))/\Below w.heap.size w w':=by
 have HE:=Lib.hid he
 have hidx:((⟨(c::r).toArray⟩:ByteArray)[0]'(by show 0<(c::r).toArray.size;simp))=c:=rfl
 have hw32:wrap32 (c.toNat:Int)=c.toNat:=Cm c
 have C1:=Lib.hid (fun W (h:Env B W)=>Cr c.toNat W h)
 rw[I4,hc]at C1
 have C0:=Lib.hid (fun W=>Dt c.toNat W)
 rw[Na,hd]at C0
 have h39:((c.toNat:Int)==39)=false:=by
  rw[beq_eq_false_iff_ne];intro h;exact hq (by rw[<- UInt8.toNat_inj];show c.toNat=39;omega)
 have HM:Hid (tokenR (c::r)=match signFrom (c::r) 0 with
   | some g=>.ok (⟨5,0,g,0⟩,g.length)
   | none=>.error 380):=by
  show _=_
  unfold tokenR
  simp only[hc,hd,hq,Bool.false_eq_true,if_false]
  rfl
 have C2:=Lib.hid (fun(g:Bytes) W=>Tryz.strings_HasPrefix ⟨(c::r).toArray⟩ ⟨g.toArray⟩ W)
 simp only[List.toList_toArray,Lib.hasPrefix]at C2
 have S0:=Lib.hid (St.start w)
 clear he hc hd hq
 go_enter func71,ntmps71
 go_wp2_with fail
 refine Calls.mono (C1.out _ (HE.out.kept (St.alloc S0.out (cs:=#[.int .i64 0,.int .i64 0,.string ⟨#[]⟩,.int .i64 0]) (t:=136)).below)) ?_
 rintro e w1 ⟨rfl,rfl⟩
 have S1:=Lib.hid (St.alloc (St.alloc S0.out (cs:=#[.int .i64 0,.int .i64 0,.string ⟨#[]⟩,.int .i64 0]) (t:=136)) (cs:=signCells) (t:=9))
 clear S0
 go_wp2_with fail
 refine Calls.mono (C0.out _) ?_
 rintro e w1 ⟨rfl,rfl⟩
 go_wp2_with fail
 refine Af (fun W=>St w W [(w.heap.size+1,signCells,9),(w.heap.size,#[.int .i64 0,.int .i64 0,.string ⟨#[]⟩,.int .i64 0],136)]) (by have:=S1.out;rw[World.size_alloc]at this;exact this) ?_
 clear S1
 intro wl SL'
 have SL:=Lib.hid SL'
 clear SL'
 go_loopw [14,98] (fun _ i wr=>wr=wl/\∃k:Nat,k<=13/\i=.int .i64 k/\Hid (signFrom (c::r) 0=signFrom (c::r) k)) (fun _ i _=>13 - (intOf i).toNat)
 case atStart=>exact⟨rfl,0,by omega,rfl,rfl⟩
 case round=>
  obtain⟨rfl,k,hk,rfl,HS⟩:=hrel;have hb1:=SL.out.blk 0 rfl;by_cases hlt:k<13
  ·obtain⟨g,hg⟩:∃g,signs[k]?=some g:=⟨signs[k]'(by rw[Lm];exact hlt),by simp[Lm,hlt]⟩;have hcell:wr.cell? ⟨w.heap.size+1,k,none⟩=some (.string ⟨g.toArray⟩):=by
    simp only[World.cell?,hb1];exact Mp k g hg
   have hst:=Kz (c::r) g k hg;have C3:=Lib.hid (C2.out g);have HST:=Lib.hid hst;clear hst hb1
   cases hp:g.isPrefixOf (c::r)with
   | true=>
    rw[hp]at C3;have HR:Hid (tokenR (c::r)=.ok (⟨5,0,g,0⟩,g.length)):=by show _=_;rw[HM.out,HS.out,HST.out,hp];rfl
    clear hp;have FL:=SL.out.facts;simp only[St.Facts,cellFacts,apartFacts,and_true]at FL;go_wp2_with fail;refine Calls.mono (C3.out _) ?_;rintro e w3 ⟨rfl,rfl⟩;go_wp2_with fail;refine bodyPost_ret (v:=.tuple #[.agg #[.int .i64 5,.int .i64 0,.string ⟨g.toArray⟩,.int .i64 0],.int .i64 (g.length:Int),.int .i64 0]) (by simp[results,results71,go_sem,FL]) rfl ⟨by rw[HR.out];rfl,?_⟩;exact(St.set 1 (St.set 1 (St.set 1 (St.set 1 SL.out rfl) rfl) rfl) rfl).below
   | false=>
    rw[hp]at C3;have HS2:Hid (signFrom (c::r) 0=signFrom (c::r) (k+1)):=by show _=_;rw[HS.out,HST.out,hp];rfl
    clear hp;go_wp2_with fail;refine Calls.mono (C3.out _) ?_;rintro e w3 ⟨rfl,rfl⟩;go_wp2_with fail;go_roundw
    case rel=>exact⟨by first|rfl|trivial,k+1,by omega,by go_num,HS2.out⟩
    case measure=>simp[intOf];omega
  ·obtain rfl:k=13:=by omega
   have HR:Hid (tokenR (c::r)=.error 380):=by show _=_;rw[HM.out,HS.out];rfl
   clear hb1;have FL:=SL.out.facts;simp only[St.Facts,cellFacts,apartFacts,and_true]at FL;go_wp2_with fail;refine bodyPost_ret (v:=.tuple #[.agg #[.int .i64 0,.int .i64 0,.string ⟨#[]⟩,.int .i64 0],.int .i64 0,.int .i64 380]) (by simp[results,results71,go_sem,FL]) rfl ⟨by rw[HR.out];rfl,?_⟩;exact(St.set 1 (St.set 1 (St.set 1 (St.set 1 SL.out rfl) rfl) rfl) rfl).below
theorem Tv {B:Nat} (s:Bytes) (hs:s.length<=1000000) (hne:s≠[]) (w:World) (he:Env B w):
 Calls prog 71 #[.string ⟨s.toArray⟩] w fun e w'=>e=.returned (tokRes (tokenR s))/\Below w.heap.size w w':=by
 cases s with
 | nil=>exact absurd rfl hne
 | cons c r=>
  cases h1:lowB c with
  | true=>exact Py c r hs h1 w he
  | false=>
   cases h2:digB' c with
   | true=>exact Ml c r hs h1 h2 w he
   | false=>
    by_cases h3:c=39
    ·subst h3;exact Ns r hs w he
    ·exact Pz c r hs h1 h2 h3 w he
theorem Jo {s g:Bytes} (h:signOf s=some g):1<=g.length/\g.length<=s.length:=by
 unfold signOf at h;have h1:=List.mem_of_find?_eq_some h;have h2:=List.find?_some h;have h3:g <+:s:=by simpa using h2
 refine⟨?_,h3.length_le⟩;have:∀g∈signs,1<=g.length:=by decide
 exact this g h1
theorem Li {c:UInt8} {r:Bytes} (h:accP c=true):1<=((c::r).takeWhile accP).length/\((c::r).takeWhile accP).length<=(c::r).length:=by
 refine⟨?_,(List.takeWhile_prefix _).length_le⟩;rw[List.takeWhile_cons_of_pos h];simp
theorem Xw {c:UInt8} (h:lowB c=true):accP c=true:=by simp[accP,h]
theorem Pj {c:UInt8} (h:digB' c=true):accP c=true:=by simp[accP,h]
theorem Lg {s:Bytes} {t:Tok} {n:Nat} (h:tokenR s=.ok (t,n)):(1<=n/\n<=s.length)/\t.at_=0:=by
 cases s with
 | nil=>simp[tokenR]at h
 | cons c r=>
  unfold tokenR at h;simp only at h;split at h
  ·rename_i h1;have:=Li (r:=r) (Xw h1);split at h
   ·cases h;exact⟨this,rfl⟩
   ·split at h
    ·cases h;exact⟨this,rfl⟩
    ·cases h
  ·split at h
   ·rename_i h1;have:=Li (r:=r) (Pj h1);split at h
    ·split at h
     ·cases h
     ·cases h;exact⟨this,rfl⟩
    ·cases h
   ·split at h
    ·split at h
     ·cases h
     ·rename_i t' hq;have:=Ef hq;split at h
      ·split at h
       ·cases h;exact⟨⟨by omega,by simp;omega⟩,rfl⟩
       ·cases h
      ·cases h
    ·split at h
     ·rename_i g hg
      cases h;exact⟨Jo hg,rfl⟩
     ·cases h
theorem P0 {s:Bytes} {x:Int} (h:tokenR s=.error x):x=2\/x=380\/x=381\/x=382:=by
 cases s with
 | nil=>simp[tokenR]at h;omega
 | cons c r=>
  unfold tokenR at h;simp only at h;repeat' split at h
  all_goals first|(cases h;done)|(cases h;simp;done)
theorem bj:(prog.info? 136).map (fun i=>(i.zero,i.size,i.bytes))=some (some (.agg #[.int .i64 0,.int .i64 0,.string ⟨#[]⟩,.int .i64 0]),4,40):=by kernel_rfl
theorem Je (f at_:Nat) (acc:List Tok) (s:Bytes):toksF (f+1) at_ acc s=match s.drop (s.takeWhile accS).length with
 | []=>.ok acc
 | c::r=>match tokenR (c::r)with
  | .error e=>.error (((at_+(s.takeWhile accS).length:Nat):Int),e)
  | .ok (t,n)=>toksF f (at_+(s.takeWhile accS).length+n) (acc++[{t with at_:=((at_+(s.takeWhile accS).length:Nat):Int)}]) ((c::r).drop n):=rfl
theorem Hc (s:Bytes) (k:Nat):(⟨s.toArray⟩:ByteArray).extract k s.length=⟨(s.drop k).toArray⟩:=by
 rw[Cz];simp only[List.toList_toArray];rw[List.take_of_length_le (by simp)]
theorem Mm {p n L q:Nat} (h1:n<=q) (h2:q=L - p) (h3:p<L):p+n<=L:=by omega
theorem Zf {a p s n:Nat} (h1:a<=p) (h2:1<=n):a+1<=p+s+n:=by omega
theorem Ze {L p s n g:Nat} (h1:L - p<g+1) (h2:1<=n) (h3:p+s+n<=L):L - (p+s+n)<g:=by omega
theorem Zd (a b c:Nat):((a:Int)+(b:Int)+(c:Int)).toNat=a+b+c:=by omega
theorem Zc {L p s n:Nat} (h2:1<=n) (h3:p+s+n<=L):L - (p+s+n)<L - p:=by omega
theorem Zb (a b c:Nat):((a:Int)+(b:Int)+(c:Int))=((a+b+c:Nat):Int):=by omega
def ToksPost (B:Nat) (w:World) (x:Except (Int×Int) (List Tok)) (e:Ending) (w':World):Prop:=match x with
 | .ok l=>∃v,e=.returned (.tuple #[v,.agg #[.int .i64 0,.int .i64 0]])/\SlIn (B≤·) w' v l.length (tkVals l)/\Below w.heap.size w w'
 | .error (p,q)=>e=.returned (.tuple #[.slice none 0 0,.agg #[.int .i64 p,.int .i64 q]])/\q≠0/\Below w.heap.size w w'
theorem De {B:Nat} (s:Bytes) (hs:s.length<=1000000) (w:World) (he:Env B w):
 Calls prog 19 #[.string ⟨s.toArray⟩] w (ToksPost w.heap.size w (toksR s)):=by
 have HE:=Lib.hid he
 have S0:=Lib.hid (St.start w)
 clear he
 by_cases hbig:4000<s.length
 ·have hx:toksR s=.error (0,2):=by unfold toksR;rw[if_pos hbig]
  rw[hx];clear hx;go_enter func19,ntmps19;go_wp2_with fail;have S1:=Lib.hid (St.alloc S0.out (cs:=#[.int .i64 0,.int .i64 2]) (t:=72));have F1:=S1.out.facts;simp only[St.Facts,cellFacts,apartFacts,and_true]at F1;refine bodyPost_ret (v:=.tuple #[.slice none 0 0,.agg #[.int .i64 0,.int .i64 2]]) (by simp[results,results19,go_sem,F1]) rfl ⟨rfl,by decide,S1.out.below⟩
 ·have hx:toksR s=toksF (s.length+1) 0 [] s:=by unfold toksR;rw[if_neg hbig]
  obtain⟨y,hy⟩:∃y,toksR s=y:=⟨_,rfl⟩;rw[hy];have HM0:Hid (y=toksF (s.length+1) 0 [] (s.drop 0)):=by show _=_;rw[<- hy,hx];rfl
  clear hx hy;go_enter func19,ntmps19;go_wp2_with fail;have hsz:(⟨s.toArray⟩:ByteArray).size=s.length:=by show s.toArray.size=_;simp
  have SA:=Lib.hid (St.alloc S0.out (cs:=#[.int .i64 0,.int .i64 0]) (t:=72));have HOA:Hid ((w.alloc (.cells #[.int .i64 0,.int .i64 0] 72)).ownsRow (w.heap.size+1) 136 4 (.slice none 0 0) 0 []):=World.ownsRow_nil _ _ _ _;refine Af (fun W=>St w W [(w.heap.size,#[.int .i64 0,.int .i64 0],72)]/\W.ownsRow (w.heap.size+1) 136 4 (.slice none 0 0) 0 []) ⟨SA.out,HOA.out⟩ ?_;clear SA HOA S0;rintro wl ⟨SL',HOL'⟩;have SL:=Lib.hid SL';have HOL:=Lib.hid HOL';clear SL' HOL';go_loopw [4,5,6,7,8] (fun ov av _ _ _ wr=>∃(pos f:Nat) (acc:List Tok) (oa:Option Addr) (oc:Nat),ov=.slice oa acc.length oc/\av=.int .i64 pos/\pos<=s.length/\Hid (acc.length<=pos)/\Hid (s.length - pos<f)/\Hid (y=toksF f pos acc (s.drop pos))/\Hid (St w wr [(w.heap.size,#[.int .i64 0,.int .i64 0],72)])/\Hid (wr.ownsRow (w.heap.size+1) 136 4 (.slice oa acc.length oc) acc.length (tkVals acc))) (fun _ av _ _ _ _=>s.length - (intOf av).toNat)
  case atStart=>exact⟨0,s.length+1,[],none,0,rfl,rfl,by omega,Nat.zero_le _,by show _<_;omega,HM0.out,SL.out,HOL.out⟩
  case round=>
   clear HM0 SL HOL;obtain⟨pos,f,acc,oa,oc,rfl,rfl,hp,HAL,HF,HM,S,HO⟩:=hrel;obtain⟨g,rfl⟩:∃g,f=g+1:=⟨f - 1,by have:=HF.out;omega⟩;have hx1:(⟨s.toArray⟩:ByteArray).extract pos s.length=⟨(s.drop pos).toArray⟩:=Hc s pos;have hul:(s.drop pos).length=s.length - pos:=by simp
   have C1:=Lib.hid (fun W (h:Env B W)=>Qb (s.drop pos) (by omega) W h);have hacc:(s.drop pos).takeWhile (fun c=>spaceN c.toNat)=(s.drop pos).takeWhile accS:=by rw[<- ai]
   rw[hacc]at C1;have hsp:((s.drop pos).takeWhile accS).length<=(s.drop pos).length:=(List.takeWhile_prefix _).length_le;have HMs:=HM.out;rw[Je,List.drop_drop]at HMs;obtain⟨sp,hspe⟩:∃sp,(s.drop pos).takeWhile accS=sp:=⟨_,rfl⟩;rw[hspe]at C1 hsp HMs;have HM1:=Lib.hid HMs;clear HMs HM hacc hspe;have hw1:wrap64 ((pos:Int)+(sp.length:Int))=((pos+sp.length:Nat):Int):=by rw[IntWalk.wrap64_in _ ⟨by omega,by omega⟩];simp
   go_wp2_with fail;refine Calls.mono (C1.out _ (HE.out.kept S.out.below)) ?_;rintro e w2 ⟨rfl,hb2⟩;have HO2:=Lib.hid (HO.out.later hb2);refine St.call (S.out) hb2 ?_;intro S2;clear hb2;try(simp only[List.set_cons_zero,List.set_cons_succ,List.setIfInBounds_toArray,World.size_alloc]at S2)
   clear HO S hx1
   cases hu:s.drop (pos+sp.length)with
   | nil=>
    have hend:pos+sp.length=s.length:=by
     have:=congrArg List.length hu;simp at this;omega
    rw[hu]at HM1;have HR:Hid (y=.ok acc):=HM1.out;have e1:(((pos+sp.length:Nat):Int)==(s.length:Int))=true:=by rw[hend];simp
    have e2:(pos+sp.length==s.length)=true:=by rw[hend];simp
    have F2:=S2.out.facts;simp only[St.Facts,cellFacts,apartFacts,and_true]at F2;go_wp2_with fail;refine bodyPost_ret (v:=.tuple #[.slice oa acc.length oc,.agg #[.int .i64 0,.int .i64 0]]) (by simp[results,results19,go_sem,F2]) rfl ?_;rw[HR.out];refine⟨_,rfl,SlIn.mono (Q:=(w.heap.size+1≤·)) (World.ownsRow.slIn (HO2.out.same (fun k hk=>?_))) (fun b hb=>Nat.le_of_succ_le hb),(St.set 0 (St.set 0 S2.out rfl) rfl).below⟩;have:=(World.ownsRow.lt HO2.out k hk).1;rw[Below.heap_setCell _ _ _ _ (by show k≠w.heap.size;omega),Below.heap_setCell _ _ _ _ (by show k≠w.heap.size;omega)]
   | cons c r=>
    have hend:pos+sp.length<s.length:=by
     have:=congrArg List.length hu;simp at this;omega
    have hrl:(c::r).length=s.length - (pos+sp.length):=by rw[<- hu];simp
    have hx2:(⟨s.toArray⟩:ByteArray).extract (pos+sp.length) s.length=⟨(c::r).toArray⟩:=by rw[Hc,hu]
    rw[hu]at HM1;simp only at HM1;have e1:(((pos+sp.length:Nat):Int)==(s.length:Int))=false:=by rw[beq_eq_false_iff_ne];omega
    have e2:(pos+sp.length==s.length)=false:=by rw[beq_eq_false_iff_ne];omega
    have C2:=Lib.hid (fun W (h:Env B W)=>Tv (c::r) (by omega) (by simp) W h)
    cases htk:tokenR (c::r)with
    | error x=>
     rw[htk]at C2 HM1;have HR:Hid (y=.error (((pos+sp.length:Nat):Int),x)):=HM1.out;have hx0:x≠0:=by have:=P0 htk;omega
     have hxb:(x != 0)=true:=by simpa using hx0
     simp only[tokRes]at C2;go_wp2_with fail;refine Calls.mono (C2.out _ (HE.out.kept S2.out.below)) ?_;rintro e w3 ⟨rfl,hb3⟩;refine St.call (S2.out) hb3 ?_;intro S3;clear hb3;try(simp only[List.set_cons_zero,List.set_cons_succ,List.setIfInBounds_toArray,World.size_alloc]at S3)
     have F3:=S3.out.facts;simp only[St.Facts,cellFacts,apartFacts,and_true]at F3;go_wp2_with fail;refine bodyPost_ret (v:=.tuple #[.slice none 0 0,.agg #[.int .i64 ((pos:Int)+(sp.length:Int)),.int .i64 x]]) (by simp[results,results19,go_sem,F3]) rfl ?_;rw[HR.out];refine⟨by simp,hx0,?_⟩;exact(St.alloc (St.set 0 (St.set 0 S3.out rfl) rfl)).below
    | ok tn=>
     obtain⟨t,n⟩:=tn;rw[htk]at C2 HM1;obtain⟨⟨hn1,hn2⟩,hat⟩:=Lg htk;obtain⟨tk,ta,ts,tnn⟩:=t;simp only at hat;subst hat;simp only[tokRes,tokVal]at C2;have HR:Hid (y=toksF g (pos+sp.length+n) (acc++[⟨tk,((pos+sp.length:Nat):Int),ts,tnn⟩]) (s.drop (pos+sp.length+n))):=by
      show _=_;rw[HM1.out,<- List.drop_drop,hu]
     go_wp2_with fail;refine Calls.mono (C2.out _ (HE.out.kept S2.out.below)) ?_;rintro e w3 ⟨rfl,hb3⟩;have HO3:=Lib.hid (HO2.out.later hb3);refine St.call (S2.out) hb3 ?_;intro S3;clear hb3;try(simp only[List.set_cons_zero,List.set_cons_succ,List.setIfInBounds_toArray,World.size_alloc]at S3)
     clear HO2 S2;have F3:=S3.out.facts;simp only[St.Facts,cellFacts,apartFacts,and_true]at F3;go_wp2_with(at_builtin;go_must (refine Gj rfl _ _ 77 rfl 136 (.agg #[.int .i64 0,.int .i64 0,.string ⟨#[]⟩,.int .i64 0]) 4 40 underlying77 bj rfl (by decide) (w.heap.size+1) (.slice oa acc.length oc) acc.length (tkVals acc) rfl (HO3.out.later ((Below.refl _ _).alloc (Nat.le_refl _) _)) #[.int .i64 tk,.int .i64 ((pos+sp.length:Nat):Int),.string ⟨ts.toArray⟩,.int .i64 tnn] 1 (w3.heap.size+1) rfl rfl (by simp) (by simp[Value.oneCell']) (by have:=HAL.out;omega) (by have:=HAL.out;simp[maxLen];omega) (by simp;omega) ?_));intro v4 w4 hown4 hg4;have S4:=Lib.hid ((St.laid S3.out).turned (Turn.of_grown hg4) (fun i h=>by have:=(World.ownsRow.lt HO3.out i h).1;omega) (fun x hx h=>by
      simp only[List.mem_cons,List.not_mem_nil,or_false]at hx;subst hx;have:=(World.ownsRow.lt HO3.out _ h).1;omega))
     have hcast:((pos+sp.length:Nat):Int)=(pos:Int)+(sp.length:Int):=by simp
     have e3:tkVals (acc++[⟨tk,((pos+sp.length:Nat):Int),ts,tnn⟩])=tkVals acc++[.int .i64 tk,.int .i64 ((pos:Int)+(sp.length:Int)),.string ⟨ts.toArray⟩,.int .i64 tnn]:=by rw[hcast];simp[tkVals,Tok.cells]
     have e4:(acc++[(⟨tk,((pos+sp.length:Nat):Int),ts,tnn⟩:Tok)]).length=acc.length+1:=by simp
     obtain⟨a4,c4,rfl,_⟩:=hown4.slAt;have HO4:=Lib.hid hown4;have hw3:wrap64 ((pos:Int)+(sp.length:Int)+(n:Int))=(pos:Int)+(sp.length:Int)+(n:Int):=IntWalk.wrap64_in _ ⟨by omega,by omega⟩;have E3:=Lib.hid e3;have E4:=Lib.hid e4;have HRL:=Lib.hid hrl;have HEND:=Lib.hid hend;have HN2:=Lib.hid hn2;clear hown4 hg4 S3 HO3 F3 e3 e4 hcast hw1 e1 e2 hx2 htk hu C1 C2 hrl hend hn2;go_wp2_with fail;go_roundw
     case rel=>exact⟨pos+sp.length+n,g,acc++[(⟨tk,((pos+sp.length:Nat):Int),ts,tnn⟩:Tok)],a4,c4,congrArg (fun z=>Value.slice a4 z c4) E4.out.symm,congrArg (Value.int .i64) (hw3.trans (Zb _ _ _)),Mm HN2.out HRL.out HEND.out,(show _<=_ from E4.out▸Zf HAL.out hn1),Ze HF.out hn1 (Mm HN2.out HRL.out HEND.out),HR.out,S4.out,by show World.ownsRow _ _ _ _ _ _ _;rw[E3.out,E4.out];exact HO4.out⟩
     case measure=>
      rw[hw3];show s.length - ((pos:Int)+(sp.length:Int)+(n:Int)).toNat<s.length - ((pos:Int)).toNat;rw[Zd,Int.toNat_natCast];exact Zc hn1 (Mm HN2.out HRL.out HEND.out)
theorem Wy (s:Bytes):(s.takeWhile accP).length<=s.length:=(List.takeWhile_prefix _).length_le
theorem Ob {t:Bytes} {v:V} (h:parseP (39::(t++[39]))=some v) (hk:v.k=2):v.s.size<=40:=by
 have hr:v.right=true:=by
  unfold parseP at h;repeat' split at h
  all_goals first
   | (cases h;done)
   | (cases h;rfl)
   | (cases h;simp[V.null]at hk;done)
   | (cases h;simp[V.bool]at hk;done)
   | (unfold ifRight at h;split at h<;>first|(cases h;done)|(cases h;assumption))
 simp only[V.right,hk]at hr;simp at hr;omega
theorem Nt {s:Bytes} {t:Tok} {n:Nat} (h:tokenR s=.ok (t,n)) (hs:s.length<=4000):0<=t.n/\t.n<=549755813888/\t.s.length<=4000:=by
 cases s with
 | nil=>simp[tokenR]at h
 | cons c r=>
  have hp:=Wy (c::r);unfold tokenR at h;simp only at h;split at h
  ·split at h
   ·cases h;exact⟨(show(0:Int)<=0 by decide),(show(0:Int)<=549755813888 by decide),by simp only;omega⟩
   ·split at h
    ·cases h;exact⟨(show(0:Int)<=0 by decide),(show(0:Int)<=549755813888 by decide),by simp only;omega⟩
    ·cases h
  ·split at h
   ·rename_i h1 h2;split at h
    ·rename_i m hm;split at h
     ·cases h
     ·rename_i hno
      cases h;refine⟨?_,by simp only;omega,by simp⟩;simp only;by_cases hneg:m<0
      ·exfalso;have he:Lib.itoa m=(c::r).takeWhile accP:=by
        by_cases e:Lib.itoa m=(c::r).takeWhile accP
        ·exact e
        ·exact absurd (.inr e) hno
       rw[List.takeWhile_cons_of_pos (Pj h2)]at he;unfold Lib.itoa at he;rw[if_pos hneg]at he;have:=(List.cons.inj he).1;subst this;revert h2;decide
      ·omega
    ·cases h
   ·split at h
    ·split at h
     ·cases h
     ·split at h
      ·rename_i v hv;split at h
       ·rename_i hk
        cases h;have:=Ob hv hk;refine⟨(show(0:Int)<=0 by decide),(show(0:Int)<=549755813888 by decide),?_⟩;simp only;have h2:v.s.data.toList.length=v.s.size:=by simp
        omega
       ·cases h
      ·cases h
    ·split at h
     ·rename_i g hg
      cases h;have:=Jo hg;exact⟨(show(0:Int)<=0 by decide),(show(0:Int)<=549755813888 by decide),by simp only;omega⟩
     ·cases h
structure TokFine (L:Nat) (t:Tok):Prop where
 num:0<=t.n/\t.n<=549755813888/\t.s.length<=4000
 at_:0<=t.at_/\t.at_<=L
theorem Jf (L:Nat):∀(f pos:Nat) (acc:List Tok) (s:Bytes) (l:List Tok),toksF f pos acc s=.ok l->pos+s.length=L->s.length<=4000->(∀t∈acc,TokFine L t)->(∀t∈l,TokFine L t)/\l.length<=acc.length+s.length
 | 0,pos,acc,s,l,h,_,_,ha=>by
  simp only[toksF]at h
  cases h;exact⟨ha,by omega⟩
 | f+1,pos,acc,s,l,h,hL,hs,ha=>by
  rw[Je]at h;have hsp:(s.takeWhile accS).length<=s.length:=(List.takeWhile_prefix _).length_le
  cases hu:s.drop (s.takeWhile accS).length with
  | nil=>rw[hu]at h;cases h;exact⟨ha,by omega⟩
  | cons c r=>
   have hrl:(c::r).length=s.length - (s.takeWhile accS).length:=by rw[<- hu];simp
   rw[hu]at h;simp only at h
   cases htk:tokenR (c::r)with
   | error x=>rw[htk]at h;cases h
   | ok tn=>
    obtain⟨t,n⟩:=tn;rw[htk]at h;simp only at h;obtain⟨⟨hn1,hn2⟩,hat⟩:=Lg htk;have hfine:=Nt htk (by omega);have hdl:((c::r).drop n).length=(c::r).length - n:=by simp
    have:=Jf L f _ _ _ l h (by rw[hdl];omega) (by rw[hdl];omega) (fun u hu'=>by
     rcases List.mem_append.1 hu' with hu'|hu'
     ·exact ha u hu'
     ·simp only[List.mem_singleton]at hu';subst hu';exact⟨hfine,by simp only;omega⟩)
    refine⟨this.1,?_⟩;have h2:=this.2;rw[hdl]at h2;simp only[List.length_append,List.length_cons,List.length_nil]at h2 hrl hn2 ⊢;omega
theorem Px {s:Bytes} {l:List Tok} (h:toksR s=.ok l):(∀t∈l,TokFine s.length t)/\l.length<=s.length/\s.length<=4000:=by
 unfold toksR at h;split at h
 ·cases h
 ·rename_i hb;have:=Jf s.length _ _ _ _ l h (by simp) (by omega) (fun t ht=>by cases ht);exact⟨this.1,by have:=this.2;simpa using this,by omega⟩
end Go.Proofs.YtjmmbebkbkgefaaGreatDoor
