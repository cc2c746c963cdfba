/- Laws that the last part needs. No condition. -/
import Derived.Lib.AppendIntMem
import Derived.Test.YtimoefagohifaaaGreatDoorA15
set_option maxHeartbeats 8000000
set_option maxRecDepth 100000
namespace Go.Proofs.YtimoefagohifaaaGreatDoor
open Tryz
section
open Go.RowKit Go.Sort
def parseRes:Option V->Value
 | some v=>.tuple #[v.val,.bool true]
 | none=>.tuple #[V.null.val,.bool false]
theorem Vn (s:ByteArray) (l:List UInt8):(s.toList==l)=decide (s.data.toList=l):=by
 rw[ByteArray.toList_eq,yx];simp
theorem Rc (s:ByteArray) (hs:s.size<=1000000) (h:∀v,Lib.atoiAll s.data.toList≠.ok v) (w:World) (he:Errs w):Calls prog 77 #[.string s] w fun e w'=>∃x N,e=.returned (.tuple #[U x,.iface 257 (.pointer (O N))])/\Below w.heap.size w w':=by
 obtain⟨t,p,t2,p2,h1,h2⟩:=he
 cases hc:Lib.atoiAll s.data.toList
 case ok v=>exact absurd hc (h v)
 case range=>exact(Any.strconv_Atoi_range Tryz.laysC172 s acw hc _ w h2 (Or.inr ⟨t2,p2,rfl⟩)).mono (by rintro e w' ⟨N,rfl,_,_,hb⟩;exact⟨_,N,rfl,hb⟩)
 all_goals exact(Any.strconv_Atoi_syntax Tryz.laysC172 s acw hc _ w h1 (Or.inr ⟨t,p,rfl⟩)).mono (by rintro e w' ⟨N,rfl,_,_,hb⟩;exact⟨_,N,rfl,hb⟩)
theorem Vw (s:ByteArray) (hs:s.size<=1000000) (v:Int) (h:Lib.atoiAll s.data.toList=.ok v) (w:World):
 Calls prog 77 #[.string s] w fun e w'=>e=.returned (.tuple #[U v,.nilIface])/\Below w.heap.size w w':=
 (Tryz.strconv_Atoi_ok s acw v h w).mono (by
  rintro e w' ⟨rfl,rfl|⟨t,rfl⟩⟩
  ·exact⟨rfl,uj _ _⟩
  ·exact⟨rfl,Lib.bytesWorld_below _ _ _⟩)
theorem Ub {s:ByteArray} {l:List UInt8} (h:s.data.toList=l):(s.toList==l)=true:=by rw[Vn,h];simp
theorem M3 {s:ByteArray} {l:List UInt8} (h:s.data.toList≠l):(s.toList==l)=false:=by rw[Vn];simp[h]
theorem So (s:ByteArray) (w:World) (h:s.data.toList=bNull):Calls prog 80 #[.string s] w fun e w'=>e=.returned (parseRes (some V.null))/\Below w.heap.size w w':=by
 have e1:(s.toList==[110,117,108,108])=true:=Ub h;clear h;go_enter func80,ntmps80;go_wp2_with fail;refine ue (v:=.tuple #[V.null.val,.bool true]) (by simp[results,results80,go_sem,V.val,V.null]) rfl ⟨rfl,?_⟩;go_grown
theorem K2 (b:Bool) (s:ByteArray) (w:World) (h:s.data.toList=if b then bTrue else bFalse):Calls prog 80 #[.string s] w fun e w'=>e=.returned (parseRes (some (V.bool b)))/\Below w.heap.size w w':=by
 have e1:(s.toList==[110,117,108,108])=false:=M3 (by rw[h];cases b<;>decide);have e2:(s.toList==[116,114,117,101])=b:=by cases b;exact M3 (by rw[h];decide);exact Ub h
 have e3:(s.toList==[102,97,108,115,101])=!b:=by cases b;exact Ub h;exact M3 (by rw[h];decide)
 have B:Hid (∀w,Calls prog 154 #[.bool b] w fun e w'=>e=.returned (.agg #[U 3,U (b2i b),eS])/\Below w.heap.size w w'):=fun w=>truth_any b w;clear h
 cases b;all_goals
  go_enter func80,ntmps80
  go_wp2_with fail
  refine tp (B.out _) ?_
  rintro e w1 ⟨rfl,hb⟩
  refine St.call (St.alloc (St.alloc (St.start _))) hb ?_
  intro S1
  clear hb
  try(simp only[ug]at S1)
  have F1:=fx_ S1.out.facts
  go_wp2_with fail
 ·refine ue (v:=.tuple #[.agg #[U 3,U (b2i false),eS],.bool true]) (by simp[results,results80,go_sem,F1]) rfl ⟨rfl,?_⟩;exact(St.set 1 (St.set 1 (St.set 1 S1.out rfl) rfl) rfl).below
 ·refine ue (v:=.tuple #[.agg #[U 3,U (b2i true),eS],.bool true]) (by simp[results,results80,go_sem,F1]) rfl ⟨rfl,?_⟩;exact(St.set 1 (St.set 1 (St.set 1 S1.out rfl) rfl) rfl).below
theorem Sn (s:ByteArray) (w:World) (hs:s.size<=1000000) (he:Errs w) (htab:Lib.TabIs prog w "internal/strconv.uint64pow10" .u64 Lib.pow10Tab) (h1:s.data.toList≠bNull) (h2:s.data.toList≠bTrue) (h3:s.data.toList≠bFalse):Calls prog 80 #[.string s] w fun e w'=>e=.returned (parseRes (parseP s.data.toList))/\Below w.heap.size w w':=by
 have e1:(s.toList==[110,117,108,108])=false:=M3 h1;have e2:(s.toList==[116,114,117,101])=false:=M3 h2;have e3:(s.toList==[102,97,108,115,101])=false:=M3 h3;have Q:=tm (fun w h=>R9 s w hs h);have HE:=tm he;have HT:=tm (Lib.tabBelow_of_tabIs htab);have HP:Hid (parseP s.data.toList=match quo s.data.toList with
  | some t=>ifRight ⟨2,0,⟨t.toArray⟩⟩
  | none=>match Lib.atoiAll s.data.toList with
   | .ok n=>if Lib.itoa n=s.data.toList then ifRight (V.num n)else none
   | _=>none):=by show _=_;unfold parseP;rw[if_neg h1,if_neg h2,if_neg h3];rfl
 clear h1 h2 h3 he htab
 cases hq:quo s.data.toList with
 | some t=>
  rw[hq]at Q HP;simp only[quoRes]at Q;have R:=tm (fun w=>Iw ⟨2,0,⟨t.toArray⟩⟩ ⟨by show(-9223372036854775808:Int)<=0;decide,by show(0:Int)<=9223372036854775807;decide⟩ w);clear hq
  cases hr:V.right ⟨2,0,⟨t.toArray⟩⟩;all_goals
   rw[hr]at R
   have HR:Hid (parseP s.data.toList=ifRight ⟨2,0,⟨t.toArray⟩⟩):=HP.out
   have HRR:=tm hr
   clear HP hr
   go_enter func80,ntmps80
   go_wp2_with fail
   refine tp (Q.out _ (HE.out.kept (St.alloc (St.alloc (St.start w))).below)) ?_
   rintro e w1 ⟨rfl,hb1⟩
   refine St.call (St.alloc (St.alloc (St.start _))) hb1 ?_
   intro S
   clear hb1
   try(simp only[ug]at S)
   have F:=fx_ S.out.facts
   go_wp2_with fail
   refine tp (R.out _) ?_
   rintro e w2 ⟨rfl,hb2⟩
   refine St.call (St.set 0 (St.set 0 (St.set 0 (S.out) rfl) rfl) rfl) hb2 ?_
   intro S2
   clear hb2
   try(simp only[ub,ui,um]at S2)
   clear F
   have F2:=fx_ S2.out.facts
   go_wp2_with fail
  ·refine ue (v:=.tuple #[.agg #[U 0,U 0,eS],.bool false]) (by simp[results,results80,go_sem,F2]) rfl ⟨by rw[HR.out,ifRight,HRR.out];rfl,?_⟩;exact mp
  ·refine ue (v:=.tuple #[.agg #[U 2,U 0,.string (Y t)],.bool true]) (by simp[results,results80,go_sem,F2]) rfl ⟨by rw[HR.out,ifRight,HRR.out];rfl,?_⟩;exact mp
 | none=>
  rw[hq]at Q HP;simp only[quoRes]at Q;clear hq;by_cases hok:∃n,Lib.atoiAll s.data.toList=.ok n
  ·obtain⟨n,hn⟩:=hok;have hb:=Lib.atoiAll_bounds hn;have A:=tm (fun w=>Vw s hs n hn w);have HP2:Hid (parseP s.data.toList=if Lib.itoa n=s.data.toList then ifRight (V.num n)else none):=by show _=_;rw[HP.out,hn]
   have I:Hid (∀w',Below w.heap.size w w'->Calls prog 78 #[U n] w' fun e w''=>e=.returned (.string ⟨(Lib.itoa n).toArray⟩)/\Below w'.heap.size w' w''):=fun w' h=>
    (Tryz.strconv_Itoa n hb.1 hb.2 w' (HT.out w' h)).mono (by rintro e w'' ⟨rfl,k,os,rfl⟩;exact⟨rfl,Lib.below_grow _ _ (tu _) _ _⟩)
   have R:=tm (fun w=>Iw (V.num n) hb w);obtain⟨X,hX⟩:∃X,X=Lib.itoa n:=⟨_,rfl⟩;obtain⟨sb,hsb⟩:∃sb,sb=decide (Lib.itoa n=s.data.toList):=⟨_,rfl⟩;have f:((⟨X.toArray⟩:ByteArray).toList==s.toList)=sb:=by rw[ByteArray.toList_eq,ByteArray.toList_eq,hX,hsb,yx];simp
   have f:(X==s.toList)=sb:=by rw[ByteArray.toList_eq,hX,hsb,yx];simp
   rw[<- hX]at I;have HSB:=tm hsb;clear HP hn hb hX hsb
   cases sb
   ·have HR:Hid (parseP s.data.toList=none):=by show _=_;rw[HP2.out,if_neg (by have:=HSB.out;simpa using this.symm)]
    go_enter func80,ntmps80;go_wp2_with fail;refine tp (Q.out _ (HE.out.kept (St.alloc (St.alloc (St.start w))).below)) ?_;rintro e w1 ⟨rfl,hb1⟩;refine St.call (St.alloc (St.alloc (St.start _))) hb1 ?_;intro S;clear hb1;try(simp only[ug]at S)
    have F:=fx_ S.out.facts;go_wp2_with fail;refine tp (A.out _) ?_;rintro e w2 ⟨rfl,hb2⟩;refine St.call (S.out) hb2 ?_;intro S2;clear hb2;try(simp only[ub,ui,um,ug]at S2)
    clear F;have F2:=fx_ S2.out.facts;go_wp2_with fail;refine tp (I.out _ S2.out.below) ?_;rintro e w3 ⟨rfl,hb3⟩;refine St.call (S2.out) hb3 ?_;intro S;clear hb3;try(simp only[ub,ui,um,ug]at S)
    clear F2;have F:=fx_ S.out.facts;go_wp2_with fail;refine ue (v:=.tuple #[.agg #[U 0,U 0,eS],.bool false]) (by simp[results,results80,go_sem,F]) rfl ⟨by rw[HR.out];rfl,?_⟩;exact(St.set 1 (St.set 1 (St.set 1 S.out rfl) rfl) rfl).below
   ·have HR:Hid (parseP s.data.toList=ifRight (V.num n)):=by show _=_;rw[HP2.out,if_pos (by have:=HSB.out;simpa using this.symm)]
    cases hr:V.right (V.num n);all_goals
     rw[hr]at R
     have HRR:=tm hr
     clear hr
     go_enter func80,ntmps80
     go_wp2_with fail
     refine tp (Q.out _ (HE.out.kept (St.alloc (St.alloc (St.start w))).below)) ?_
     rintro e w1 ⟨rfl,hb1⟩
     refine St.call (St.alloc (St.alloc (St.start _))) hb1 ?_
     intro S
     clear hb1
     try(simp only[ug]at S)
     have F:=fx_ S.out.facts
     go_wp2_with fail
     refine tp (A.out _) ?_
     rintro e w2 ⟨rfl,hb2⟩
     refine St.call (S.out) hb2 ?_
     intro S2
     clear hb2
     try(simp only[ub,ui,um,ug]at S2)
     clear F
     have F2:=fx_ S2.out.facts
     go_wp2_with fail
     refine tp (I.out _ S2.out.below) ?_
     rintro e w3 ⟨rfl,hb3⟩
     refine St.call (S2.out) hb3 ?_
     intro S
     clear hb3
     try(simp only[ub,ui,um,ug]at S)
     clear F2
     have F:=fx_ S.out.facts
     go_wp2_with fail
     refine tp (R.out _) ?_
     rintro e w4 ⟨rfl,hb4⟩
     refine St.call (St.set 0 (St.set 0 (St.set 0 (S.out) rfl) rfl) rfl) hb4 ?_
     intro S4
     clear hb4
     try(simp only[ub,ui,um]at S4)
     clear F
     have F4:=fx_ S4.out.facts
     go_wp2_with fail
    ·refine ue (v:=.tuple #[.agg #[U 0,U 0,eS],.bool false]) (by simp[results,results80,go_sem,F4]) rfl ⟨by rw[HR.out,ifRight,HRR.out];rfl,?_⟩;exact(St.set 1 (St.set 1 (St.set 1 S4.out rfl) rfl) rfl).below
    ·refine ue (v:=.tuple #[.agg #[U 1,U n,eS],.bool true]) (by simp[results,results80,go_sem,F4]) rfl ⟨by rw[HR.out,ifRight,HRR.out];rfl,?_⟩;exact(St.set 1 (St.set 1 (St.set 1 S4.out rfl) rfl) rfl).below
  ·have hno:∀v,Lib.atoiAll s.data.toList≠.ok v:=fun v h=>hok ⟨v,h⟩;have A:=tm (fun w h=>Rc s hs hno w h);have HR:Hid (parseP s.data.toList=none):=by
    show _=_;rw[HP.out]
    cases hc:Lib.atoiAll s.data.toList
    case ok n=>exact absurd hc (hno n)
    all_goals rfl
   clear HP hok hno;go_enter func80,ntmps80;go_wp2_with fail;refine tp (Q.out _ (HE.out.kept (St.alloc (St.alloc (St.start w))).below)) ?_;rintro e w1 ⟨rfl,hb1⟩;refine St.call (St.alloc (St.alloc (St.start _))) hb1 ?_;intro S;clear hb1;try(simp only[ug]at S)
   have F:=fx_ S.out.facts;go_wp2_with fail;refine tp (A.out _ (HE.out.kept S.out.below)) ?_;rintro e w2 ⟨x,N,rfl,hb2⟩;refine St.call (S.out) hb2 ?_;intro S2;clear hb2;try(simp only[ub,ui,um,ug]at S2)
   clear F;have F2:=fx_ S2.out.facts;go_wp2_with fail;refine ue (v:=.tuple #[.agg #[U 0,U 0,eS],.bool false]) (by simp[results,results80,go_sem,F2]) rfl ⟨by rw[HR.out];rfl,?_⟩;exact mp
theorem Xc (s:ByteArray) (w:World) (hs:s.size<=1000000) (he:Errs w) (htab:Lib.TabIs prog w "internal/strconv.uint64pow10" .u64 Lib.pow10Tab):Calls prog 80 #[.string s] w fun e w'=>e=.returned (parseRes (parseP s.data.toList))/\Below w.heap.size w w':=by
 by_cases h:s.data.toList=bNull
 ·rw[parseP,if_pos h];exact So s w h
 by_cases h2:s.data.toList=bTrue
 ·rw[parseP,if_neg h,if_pos h2];exact K2 true s w h2
 by_cases h3:s.data.toList=bFalse
 ·rw[parseP,if_neg h,if_neg h2,if_pos h3];exact K2 false s w h3
 exact Sn s w hs he htab h h2 h3
def tokVal (t:Tok):Value:=.agg #[U t.kind,U t.at_,.string (Y t.s),U t.n]
def tokRes:Except Int (Tok×Nat)->Value
 | .ok (t,n)=>.tuple #[tokVal t,U (n:Int),U 0]
 | .error e=>.tuple #[.agg #[U 0,U 0,eS,U 0],U 0,U e]
theorem J4 (c:UInt8):lowN c.toNat=lowB c:=rfl
theorem N2 (c:UInt8):digN c.toNat=digB' c:=rfl
theorem Dj (c:UInt8):wrap32 (c.toNat:Int)=c.toNat:=by
 have h:∀n:Fin 256,wrap32 (n.val:Int)=n.val:=ac0;exact h ⟨c.toNat,c.toNat_lt⟩
theorem Rp {B:Nat} (c:UInt8) (r:Bytes) (hs:(c::r).length<=1000000) (hc:lowB c=true) (w:World) (he:Env B w):Calls prog 20 #[.string ⟨(c::r).toArray⟩] w fun e w'=>e=.returned (tokRes (tokenR (c::r)))/\Below w.heap.size w w':=by
 obtain⟨m,hm⟩:=he.maxLen;have hl:(c::r).takeWhile (fun c=>partN c.toNat)=(c::r).takeWhile accP:=by rw[<- Vx]
 have HE:=tm he;have hidx:((⟨(c::r).toArray⟩:ByteArray)[0]'(by show 0<(c::r).toArray.size;simp))=c:=rfl;have hw:wrap32 (c.toNat:Int)=c.toNat:=Dj c;have C:=tm (fun W (h:Env B W)=>Dk c.toNat W h);rw[J4,hc]at C;obtain⟨wd,hwd⟩:∃wd,(c::r).takeWhile accP=wd:=⟨_,rfl⟩;have C2:=tm (fun W (h:Env B W)=>Mi (c::r) hs W h);rw[hl,hwd]at C2;have hsp:∀d∈wd,d≠32:=by rw[<- hwd];exact takeP_nosp _
 have hwl:wd.length<=1000000:=by rw[<- hwd];exact vj (zg _).length_le hs
 have C3:=tm (fun W (h:W.cell? ⟨3,0,none⟩=some (U m))=>Tryz.strings_Contains ⟨wordsText.toArray⟩ ⟨(32::(wd++[32])).toArray⟩ m W ac0 h);simp only[]at C3;rw[Hj wd hsp]at C3;have C4:=tm (fun W=>Ks wd hwl W);have HM:Hid (tokenR (c::r)=if keywords.contains wd then .ok (⟨1,0,wd,0⟩,wd.length)else if isName wd then .ok (⟨2,0,wd,0⟩,wd.length)else .error 2):=by
  show _=_;unfold tokenR;simp only[hc,if_true,hwd]
 have S:=tm (St.start w);clear he hl hwd hc hsp;go_enter func20,ntmps20;go_wp2_with fail;refine tp (C.out _ (HE.out.kept (St.alloc S.out (cs:=#[U 0,U 0,eS,U 0]) (t:=63)).below)) ?_;rintro e w1 ⟨rfl,rfl⟩;replace S:=tm (St.alloc S.out (cs:=#[U 0,U 0,eS,U 0]) (t:=63));go_wp2_with fail;refine tp (C2.out _ (HE.out.kept S.out.below)) ?_;rintro e w2 ⟨rfl,hb⟩;refine St.call (S.out) hb ?_;intro S;clear hb;try(simp only[ub,ui,um,ug]at S)
 go_wp2_with fail;refine tp (C3.out _ ((HE.out.kept S.out.below).maxLen.elim fun m' h=>by have h1:=S.out.below.cell_kept hm;exact h1)) ?_;rintro e w3 ⟨rfl,rfl⟩
 cases hk:keywords.contains wd with
 | true=>
  have HR:Hid (tokenR (c::r)=.ok (⟨1,0,wd,0⟩,wd.length)):=by show _=_;rw[HM.out,if_pos hk]
  have F:=fx_ S.out.facts;go_wp2_with fail;refine ue (v:=.tuple #[.agg #[U 1,U 0,.string (Y wd),U 0],U (wd.length:Int),U 0]) (by simp[results,results20,go_sem,F]) rfl ⟨by rw[HR.out];rfl,?_⟩;exact ri
 | false=>
  have HR:Hid (tokenR (c::r)=if isName wd then .ok (⟨2,0,wd,0⟩,wd.length)else .error 2):=by show _=_;rw[HM.out,hk];rfl
  go_wp2_with fail;refine tp (C4.out _) ?_;rintro e w4 ⟨rfl,hb⟩;refine St.call (S.out) hb ?_;intro S;clear hb;try(simp only[ub,ui,um,ug]at S)
  have F:=fx_ S.out.facts
  cases hn:isName wd with
  | true=>
   have HR2:Hid (tokenR (c::r)=.ok (⟨2,0,wd,0⟩,wd.length)):=by show _=_;rw[HR.out,if_pos hn]
   go_wp2_with fail;refine ue (v:=.tuple #[.agg #[U 2,U 0,.string (Y wd),U 0],U (wd.length:Int),U 0]) (by simp[results,results20,go_sem,F]) rfl ⟨by rw[HR2.out];rfl,?_⟩;exact ri
  | false=>
   have HR2:Hid (tokenR (c::r)=.error 2):=by show _=_;rw[HR.out,hn];rfl
   go_wp2_with fail;refine ue (v:=.tuple #[.agg #[U 0,U 0,eS,U 0],U 0,U 2]) (by simp[results,results20,go_sem,F]) rfl ⟨by rw[HR2.out];rfl,?_⟩;exact ri
theorem Env.errs {B:Nat} {w:World} (h:Env B w):Errs w:=by
 obtain⟨t,p,h1⟩:=h.esyn;obtain⟨t2,p2,h2⟩:=h.eran;exact⟨t,p,t2,p2,h1,h2⟩
theorem M9 {B:Nat} (c:UInt8) (r:Bytes) (hs:(c::r).length<=1000000) (hc:lowB c=false) (hd:digB' c=true) (w:World) (he:Env B w):Calls prog 20 #[.string ⟨(c::r).toArray⟩] w fun e w'=>e=.returned (tokRes (tokenR (c::r)))/\Below w.heap.size w w':=by
 have hl:(c::r).takeWhile (fun c=>partN c.toNat)=(c::r).takeWhile accP:=by rw[<- Vx]
 have HE:=tm he;have hidx:((⟨(c::r).toArray⟩:ByteArray)[0]'(by show 0<(c::r).toArray.size;simp))=c:=rfl;have hw:wrap32 (c.toNat:Int)=c.toNat:=Dj c;have C:=tm (fun W (h:Env B W)=>Dk c.toNat W h);rw[J4,hc]at C;have C0:=tm (fun W=>Eg c.toNat W);rw[N2,hd]at C0;obtain⟨wd,hwd⟩:∃wd,(c::r).takeWhile accP=wd:=⟨_,rfl⟩;have C2:=tm (fun W (h:Env B W)=>Mi (c::r) hs W h);rw[hl,hwd]at C2;have hwl:wd.length<=1000000:=by rw[<- hwd];exact vj (zg _).length_le hs
 have hsz:(⟨wd.toArray⟩:ByteArray).size<=1000000:=by show wd.toArray.size<=_;simpa using hwl
 have HM:Hid (tokenR (c::r)=match Lib.atoiAll wd with
   | .ok n=>if 549755813888<n\/Lib.itoa n≠wd then .error 381 else .ok (⟨3,0,[],n⟩,wd.length)
   | _=>.error 381):=by
  show _=_
  unfold tokenR
  simp only[hc,hd,if_true,u9,wy,hwd]
  rfl
 have S:=tm (St.start w);have hda:(⟨wd.toArray⟩:ByteArray).data.toList=wd:=acx;clear he hl hwd hc hd;by_cases hok:∃n,Lib.atoiAll wd=.ok n
 ·obtain⟨n,hn⟩:=hok;have hb:=Lib.atoiAll_bounds hn;have A:=tm (fun W=>Vw ⟨wd.toArray⟩ hsz n (by rw[hda];exact hn) W);have I:Hid (∀W,Env B W->Calls prog 78 #[U n] W fun e w''=>e=.returned (.string ⟨(Lib.itoa n).toArray⟩)/\Below W.heap.size W w''):=fun W h=>
   (Tryz.strconv_Itoa n hb.1 hb.2 W h.pow).mono (by rintro e w'' ⟨rfl,k,os,rfl⟩;exact⟨rfl,Lib.below_grow _ _ (tu _) _ _⟩)
  have HM2:Hid (tokenR (c::r)=if 549755813888<n\/Lib.itoa n≠wd then .error 381 else .ok (⟨3,0,[],n⟩,wd.length)):=by show _=_;rw[HM.out,hn]
  clear HM hn hda hsz;obtain⟨X,hX⟩:∃X,Lib.itoa n=X:=⟨_,rfl⟩;rw[hX]at I HM2;clear hX;go_enter func20,ntmps20;go_wp2_with fail;refine tp (C.out _ (HE.out.kept (St.alloc S.out (cs:=#[U 0,U 0,eS,U 0]) (t:=63)).below)) ?_;rintro e w1 ⟨rfl,rfl⟩;replace S:=tm (St.alloc S.out (cs:=#[U 0,U 0,eS,U 0]) (t:=63));go_wp2_with fail;refine tp (C0.out _) ?_;rintro e w1 ⟨rfl,rfl⟩;go_wp2_with fail;refine tp (C2.out _ (HE.out.kept S.out.below)) ?_;rintro e w2 ⟨rfl,hb2⟩;refine St.call (S.out) hb2 ?_;intro S;clear hb2;try(simp only[ub,ui,um,ug]at S)
  go_wp2_with fail;refine tp (A.out _) ?_;rintro e w3 ⟨rfl,hb3⟩;refine St.call (S.out) hb3 ?_;intro S;clear hb3;try(simp only[ub,ui,um,ug]at S)
  have F:=fx_ S.out.facts;by_cases hbig:549755813888<n
  ·have HR:Hid (tokenR (c::r)=.error 381):=by show _=_;rw[HM2.out,if_pos (.inl hbig)]
   exact z71
  ·by_cases hx:X=wd
   ·have HR:Hid (tokenR (c::r)=.ok (⟨3,0,[],n⟩,wd.length)):=by show _=_;rw[HM2.out,if_neg (by rintro(h|h);exact hbig h;exact h hx)]
    subst hx;go_wp2_with fail;refine tp (I.out _ (HE.out.kept S.out.below)) ?_;rintro e w4 ⟨rfl,hb4⟩;refine St.call (S.out) hb4 ?_;intro S;clear hb4;try(simp only[ub,ui,um,ug]at S)
    clear F;have F:=fx_ S.out.facts;go_wp2_with fail;refine ue (v:=.tuple #[.agg #[U 3,U 0,eS,U n],U (X.length:Int),U 0]) (by simp[results,results20,go_sem,F]) rfl ⟨by rw[HR.out];rfl,?_⟩;exact ri
   ·have HR:Hid (tokenR (c::r)=.error 381):=by show _=_;rw[HM2.out,if_pos (.inr hx)]
    have f:(X==wd)=false:=by simpa using hx
    have f:(X != wd)=true:=by simpa using hx
    go_wp2_with fail;refine tp (I.out _ (HE.out.kept S.out.below)) ?_;rintro e w4 ⟨rfl,hb4⟩;refine St.call (S.out) hb4 ?_;intro S;clear hb4;try(simp only[ub,ui,um,ug]at S)
    clear F;exact ahu
 ·have hno:∀v,Lib.atoiAll wd≠.ok v:=fun v h=>hok ⟨v,h⟩;have A:=tm (fun W h=>Rc ⟨wd.toArray⟩ hsz (by rw[hda];exact hno) W h);have HR:Hid (tokenR (c::r)=.error 381):=by
   show _=_;rw[HM.out]
   cases hcc:Lib.atoiAll wd
   case ok n=>exact absurd hcc (hno n)
   all_goals rfl
  clear HM hok hno hda hsz;go_enter func20,ntmps20;go_wp2_with fail;refine tp (C.out _ (HE.out.kept (St.alloc S.out (cs:=#[U 0,U 0,eS,U 0]) (t:=63)).below)) ?_;rintro e w1 ⟨rfl,rfl⟩;replace S:=tm (St.alloc S.out (cs:=#[U 0,U 0,eS,U 0]) (t:=63));go_wp2_with fail;refine tp (C0.out _) ?_;rintro e w1 ⟨rfl,rfl⟩;go_wp2_with fail;refine tp (C2.out _ (HE.out.kept S.out.below)) ?_;rintro e w2 ⟨rfl,hb2⟩;refine St.call (S.out) hb2 ?_;intro S;clear hb2;try(simp only[ub,ui,um,ug]at S)
  go_wp2_with fail;refine tp (A.out _ (HE.out.kept S.out.below).errs) ?_;rintro e w3 ⟨x,N,rfl,hb3⟩;refine St.call (S.out) hb3 ?_;intro S;clear hb3;try(simp only[ub,ui,um,ug]at S)
  exact ahu
theorem Hf:∀(r:Bytes),Lib.indexByte r 39=match toQuote r with
  | some t=>(t.length:Int)
  | none=>-1
 | []=>rfl
 | c::r=>by
  rw[Lib.indexByte,toQuote];by_cases h:c=39
  ·subst h;simp
  ·have h1:(c==39)=false:=by simpa using h
   rw[h1,if_neg h,Hf r]
   cases toQuote r with
   | none=>simp
   | some t=>
    have:(((t.length:Int))==-1)=false:=by rw[us];omega
    simp only[u9,wy,ze,this];simp
theorem Fb:∀{r t:Bytes},toQuote r=some t->t.length<r.length/\r.take (t.length+1)=t++[39]
 | [],t,h=>by cases h
 | c::r,t,h=>by
  rw[toQuote]at h;by_cases hc:c=39
  ·rw[if_pos hc]at h;simp only[uz]at h;subst h hc;simp
  ·rw[if_neg hc]at h
   cases hq:toQuote r with
   | none=>rw[hq]at h;cases h
   | some u=>
    rw[hq]at h;simp only[ze,uz]at h;subst h;have:=Fb hq;simp only[tw,tz];refine⟨by omega,?_⟩;rw[zn,this.2]
theorem Vj:lowB 39=false:=acy
theorem Vo:digB' 39=false:=acy
theorem On {B:Nat} (r:Bytes) (hs:(39::r).length<=1000000) (w:World) (he:Env B w):Calls prog 20 #[.string ⟨(39::r).toArray⟩] w fun e w'=>e=.returned (tokRes (tokenR (39::r)))/\Below w.heap.size w w':=by
 have HE:=tm he;have hidx:((⟨(39::r:Bytes).toArray⟩:ByteArray)[0]'(by show 0<(39::r:Bytes).toArray.size;simp))=39:=rfl;have hw:wrap32 (((39:UInt8).toNat:Nat):Int)=39:=Dj 39;have hw:wrap32 39=39:=Dj 39;have C:=tm (fun W (h:Env B W)=>Dk (39:UInt8).toNat W h);rw[J4,Vj]at C;have C0:=tm (fun W=>Eg (39:UInt8).toNat W);rw[N2,Vo]at C0;have hsz:(⟨(39::r:Bytes).toArray⟩:ByteArray).size=r.length+1:=by show(39::r:Bytes).toArray.size=_;simp
 have hex:(⟨(39::r:Bytes).toArray⟩:ByteArray).extract 1 (r.length+1)=⟨r.toArray⟩:=by rw[Dr];simp
 have C2:=tm (fun W=>Tryz.strings_IndexByte ⟨r.toArray⟩ 39 W);rw[show(⟨r.toArray⟩:ByteArray).data.toList=r by simp,show(39:Int).toNat.toUInt8=39 by decide,Hf]at C2;have HM:Hid (tokenR (39::r)=match toQuote r with
   | none=>.error 382
   | some t=>match parseP (39::(t++[39]))with
    | some v=>if v.k=2 then .ok (⟨4,0,v.s.data.toList,0⟩,t.length+2)else .error 382
    | none=>.error 382):=by
  show _=_
  unfold tokenR
  simp only[Vj,Vo,u9,wy,if_true]
  rfl
 have S:=tm (St.start w);clear he
 cases hq:toQuote r with
 | none=>
  rw[hq]at C2;have HR:Hid (tokenR (39::r)=.error 382):=by show _=_;rw[HM.out,hq]
  clear HM hq;go_enter func20,ntmps20;go_wp2_with fail;refine tp (C.out _ (HE.out.kept (St.alloc S.out (cs:=#[U 0,U 0,eS,U 0]) (t:=63)).below)) ?_;rintro e w1 ⟨rfl,rfl⟩;replace S:=tm (St.alloc S.out (cs:=#[U 0,U 0,eS,U 0]) (t:=63));go_wp2_with fail;refine tp (C0.out _) ?_;rintro e w1 ⟨rfl,rfl⟩;go_wp2_with fail;refine tp (C2.out _) ?_;rintro e w1 ⟨rfl,rfl⟩;have F:=fx_ S.out.facts;go_wp2_with fail;refine ue (v:=.tuple #[.agg #[U 0,U 0,eS,U 0],U 0,U 382]) (by simp[results,results20,go_sem,F]) rfl ⟨by rw[HR.out];rfl,?_⟩;exact S.out.below
 | some t=>
  rw[hq]at C2;obtain⟨q,q2⟩:=Fb hq;have hex:(⟨(39::r:Bytes).toArray⟩:ByteArray).extract 0 (t.length+2)=⟨(39::(t++[39])).toArray⟩:=by rw[Dr];simp[<- q2]
  have hqs:(39::(t++[39])).length<=1000000:=by simp at hs ⊢;omega
  have C3:=tm (fun W (h:Env B W)=>Xc ⟨(39::(t++[39])).toArray⟩ W (by show(39::(t++[39])).toArray.size<=_;simpa using hqs) h.errs h.pow);rw[show(⟨(39::(t++[39])).toArray⟩:ByteArray).data.toList=39::(t++[39]) by simp]at C3;have HM2:Hid (tokenR (39::r)=match parseP (39::(t++[39]))with
   | some v=>if v.k=2 then .ok (⟨4,0,v.s.data.toList,0⟩,t.length+2)else .error 382
   | none=>.error 382):=by show _=_;rw[HM.out,hq]
  clear HM hq q2;go_enter func20,ntmps20;go_wp2_with fail;refine tp (C.out _ (HE.out.kept (St.alloc S.out (cs:=#[U 0,U 0,eS,U 0]) (t:=63)).below)) ?_;rintro e w1 ⟨rfl,rfl⟩;replace S:=tm (St.alloc S.out (cs:=#[U 0,U 0,eS,U 0]) (t:=63));go_wp2_with fail;refine tp (C0.out _) ?_;rintro e w1 ⟨rfl,rfl⟩;go_wp2_with fail;refine tp (C2.out _) ?_;rintro e w1 ⟨rfl,rfl⟩;have hw:wrap64 ((t.length:Int)+2)=(t.length:Int)+2:=IntWalk.wrap64_in _ ⟨by omega,by simp at hs;omega⟩;have hn:((t.length:Int)+2).toNat=t.length+2:=acw;go_wp2_with fail;refine tp (C3.out _ (HE.out.kept S.out.below)) ?_;rintro e w3 ⟨rfl,hb⟩;refine St.call (S.out) hb ?_;intro S;clear hb;try(simp only[ub,ui,um,ug]at S)
  cases hp:parseP (39::(t++[39]))with
  | none=>
   have HR:Hid (tokenR (39::r)=.error 382):=by show _=_;rw[HM2.out,hp]
   clear HM2 hp;simp only[parseRes,V.val,V.null];have F:=fx_ S.out.facts;exact V0
  | some v=>
   rw[hp]at HM2;obtain⟨vk,vn,vs⟩:=v;clear hp;simp only[parseRes,V.val];have F:=fx_ S.out.facts;by_cases h2:vk=2
   ·subst h2;have HR:Hid (tokenR (39::r)=.ok (⟨4,0,vs.data.toList,0⟩,t.length+2)):=by show _=_;rw[HM2.out];rfl
    have hvs:(⟨vs.data.toList.toArray⟩:ByteArray)=vs:=acx;go_wp2_with fail;refine ue (v:=.tuple #[.agg #[U 4,U 0,.string vs,U 0],U ((t.length:Int)+2),U 0]) (by simp[results,results20,go_sem,F]) rfl ⟨by rw[HR.out];simp only[tokRes,tokVal];rfl,?_⟩;exact ahs
   ·have HR:Hid (tokenR (39::r)=.error 382):=by show _=_;rw[HM2.out];simp only[if_neg h2]
    have h1:(vk != 2)=true:=by simpa using h2
    exact V0
theorem Lo {P:Program} {c:Code} {Q:Exit->Act->World->Prop} {a:Act} {w:World} (R:World->Prop) (h:R w) (k:∀W,R W->Code.wp P c Q a W):Code.wp P c Q a w:=k w h
theorem Me:signs.length=13:=acy
def signFrom (s:Bytes) (k:Nat):Option Bytes:=(signs.drop k).find? fun g=>g.isPrefixOf s
theorem Ls (s g:Bytes) (k:Nat) (h:signs[k]?=some g):signFrom s k=if g.isPrefixOf s then some g else signFrom s (k+1):=by
 unfold signFrom;obtain⟨h1,rfl⟩:=uu.1 h;rw[ww h1,List.find?_cons]
 cases hp:signs[k].isPrefixOf s<;>simp[]
def signCells:Array Value:=(signs.map fun g=>Value.string (Y g)).toArray
theorem Ng (k:Nat) (g:Bytes) (h:signs[k]?=some g):signCells[k]?=some (.string (Y g)):=by
 unfold signCells;simp[h]
theorem Rq {B:Nat} (c:UInt8) (r:Bytes) (_hs:(c::r).length<=1000000) (hc:lowB c=false) (hd:digB' c=false) (hq:c≠39) (w:World) (he:Env B w):Calls prog 20 #[.string ⟨(c::r).toArray⟩] w fun e w'=>e=.returned (tokRes (tokenR (c::r)))/\Below w.heap.size w w':=by
 have HE:=tm he;have hidx:((⟨(c::r).toArray⟩:ByteArray)[0]'(by show 0<(c::r).toArray.size;simp))=c:=rfl;have hw:wrap32 (c.toNat:Int)=c.toNat:=Dj c;have C:=tm (fun W (h:Env B W)=>Dk c.toNat W h);rw[J4,hc]at C;have C0:=tm (fun W=>Eg c.toNat W);rw[N2,hd]at C0;have h1:((c.toNat:Int)==39)=false:=by
  rw[us];intro h;exact hq (by rw[<- UInt8.toNat_inj];show c.toNat=39;omega)
 have HM:Hid (tokenR (c::r)=match signFrom (c::r) 0 with
   | some g=>.ok (⟨5,0,g,0⟩,g.length)
   | none=>.error 380):=by
  show _=_
  unfold tokenR
  simp only[hc,hd,hq,u9,wy]
  rfl
 have C2:=tm (fun(g:Bytes) W=>Tryz.strings_HasPrefix ⟨(c::r).toArray⟩ ⟨g.toArray⟩ W);simp only[Lib.hasPrefix]at C2;have S:=tm (St.start w);clear he hc hd hq;go_enter func20,ntmps20;go_wp2_with fail;refine tp (C.out _ (HE.out.kept (St.alloc S.out (cs:=#[U 0,U 0,eS,U 0]) (t:=63)).below)) ?_;rintro e w1 ⟨rfl,rfl⟩;replace S:=tm (St.alloc (St.alloc S.out (cs:=#[U 0,U 0,eS,U 0]) (t:=63)) (cs:=signCells) (t:=9));go_wp2_with fail;refine tp (C0.out _) ?_;rintro e w1 ⟨rfl,rfl⟩;go_wp2_with fail;refine Lo (fun W=>St w W [(w.heap.size+1,signCells,9),(w.heap.size,#[U 0,U 0,eS,U 0],63)]) (by have:=S.out;rw[ug]at this;exact this) ?_;clear S;intro wl SL';have SL:=tm SL';clear SL';go_loopw [14,98] (fun _ i wr=>wr=wl/\∃k:Nat,k<=13/\i=U k/\Hid (signFrom (c::r) 0=signFrom (c::r) k)) (fun _ i _=>13 - (intOf i).toNat)
 case atStart=>exact⟨rfl,0,by omega,rfl,rfl⟩
 case round=>
  obtain⟨rfl,k,hk,rfl,HS⟩:=hrel;have hb:=SL.out.blk 0 rfl;by_cases hlt:k<13
  ·obtain⟨g,hg⟩:∃g,signs[k]?=some g:=⟨signs[k]'(by rw[Me];exact hlt),by simp[Me,hlt]⟩;have hcell:wr.cell? ⟨w.heap.size+1,k,none⟩=some (.string (Y g)):=by
    simp only[World.cell?,hb];exact Ng k g hg
   have hst:=Ls (c::r) g k hg;have C:=tm (C2.out g);have HST:=tm hst;clear hst hb
   cases hp:g.isPrefixOf (c::r)with
   | true=>
    rw[hp]at C;have HR:Hid (tokenR (c::r)=.ok (⟨5,0,g,0⟩,g.length)):=by show _=_;rw[HM.out,HS.out,HST.out,hp];rfl
    clear hp;have FL:=fx_ SL.out.facts;go_wp2_with fail;refine tp (C.out _) ?_;rintro e w3 ⟨rfl,rfl⟩;go_wp2_with fail;refine ue (v:=.tuple #[.agg #[U 5,U 0,.string (Y g),U 0],U (g.length:Int),U 0]) (by simp[results,results20,go_sem,FL]) rfl ⟨by rw[HR.out];rfl,?_⟩;exact(St.set 1 (St.set 1 (St.set 1 (St.set 1 SL.out rfl) rfl) rfl) rfl).below
   | false=>
    rw[hp]at C;have HS2:Hid (signFrom (c::r) 0=signFrom (c::r) (k+1)):=by show _=_;rw[HS.out,HST.out,hp];rfl
    clear hp;go_wp2_with fail;refine tp (C.out _) ?_;rintro e w3 ⟨rfl,rfl⟩;go_wp2_with fail;go_roundw
    case rel=>exact⟨by first|rfl|trivial,k+1,by omega,by go_num,HS2.out⟩
    case measure=>simp[intOf];omega
  ·obtain rfl:k=13:=acw;have HR:Hid (tokenR (c::r)=.error 380):=by show _=_;rw[HM.out,HS.out];rfl
   clear hb;have FL:=fx_ SL.out.facts;go_wp2_with fail;refine ue (v:=.tuple #[.agg #[U 0,U 0,eS,U 0],U 0,U 380]) (by simp[results,results20,go_sem,FL]) rfl ⟨by rw[HR.out];rfl,?_⟩;exact(St.set 1 (St.set 1 (St.set 1 (St.set 1 SL.out rfl) rfl) rfl) rfl).below
theorem V4 {B:Nat} (s:Bytes) (hs:s.length<=1000000) (hne:s≠[]) (w:World) (he:Env B w):Calls prog 20 #[.string (Y s)] w fun e w'=>e=.returned (tokRes (tokenR s))/\Below w.heap.size w w':=by
 cases s with
 | nil=>exact absurd rfl hne
 | cons c r=>
  cases h1:lowB c with
  | true=>exact Rp c r hs h1 w he
  | false=>
   cases h2:digB' c with
   | true=>exact M9 c r hs h1 h2 w he
   | false=>
    by_cases h:c=39
    ·subst h;exact On r hs w he
    ·exact Rq c r hs h1 h2 h w he
theorem Kp {s g:Bytes} (h:signOf s=some g):1<=g.length/\g.length<=s.length:=by
 unfold signOf at h;have h1:=aa6 h;have h2:=List.find?_some h;have h3:g <+:s:=by simpa using h2
 refine⟨?_,h3.length_le⟩;have:∀g∈signs,1<=g.length:=acy;exact this g h1
theorem L9 {c:UInt8} {r:Bytes} (h:accP c=true):1<=((c::r).takeWhile accP).length/\((c::r).takeWhile accP).length<=(c::r).length:=by
 refine⟨?_,(zg _).length_le⟩;rw[zo h];simp
theorem ct {c:UInt8} (h:lowB c=true):accP c=true:=by simp[accP,h]
theorem Qz {c:UInt8} (h:digB' c=true):accP c=true:=by simp[accP,h]
theorem Iv {s:Bytes} {t:Tok} {n:Nat} (h:tokenR s=.ok (t,n)):(1<=n/\n<=s.length)/\t.at_=0:=by
 cases s with
 | nil=>simp[tokenR]at h
 | cons c r=>
  unfold tokenR at h;simp only at h;split at h
  ·rename_i h1;have:=L9 (r:=r) (ct h1);split at h
   ·cases h;exact⟨this,rfl⟩
   ·split at h
    ·cases h;exact⟨this,rfl⟩
    ·cases h
  ·split at h
   ·rename_i h1;have:=L9 (r:=r) (Qz h1);split at h
    ·split at h
     ·cases h
     ·cases h;exact⟨this,rfl⟩
    ·cases h
   ·split at h
    ·split at h
     ·cases h
     ·rename_i t' hq;have:=Fb hq;split at h
      ·split at h
       ·cases h;exact⟨⟨by omega,by simp;omega⟩,rfl⟩
       ·cases h
      ·cases h
    ·split at h
     ·rename_i g hg
      cases h;exact⟨Kp hg,rfl⟩
     ·cases h
theorem Ki {s:Bytes} {x:Int} (h:tokenR s=.error x):x=2\/x=380\/x=381\/x=382:=by
 cases s with
 | nil=>simp[tokenR]at h;omega
 | cons c r=>
  unfold tokenR at h;simp only at h;repeat' split at h
  all_goals first|(cases h;done)|(cases h;simp;done)
theorem ow:(prog.info? 63).map (fun i=>(i.zero,i.size,i.bytes))=some (some (.agg #[U 0,U 0,eS,U 0]),4,40):=acz
theorem E9 (f at_:Nat) (acc:List Tok) (s:Bytes):toksF (f+1) at_ acc s=match s.drop (s.takeWhile accS).length with
 | []=>.ok acc
 | c::r=>match tokenR (c::r)with
  | .error e=>.error (((at_+(s.takeWhile accS).length:Nat):Int),e)
  | .ok (t,n)=>toksF f (at_+(s.takeWhile accS).length+n) (acc++[{t with at_:=((at_+(s.takeWhile accS).length:Nat):Int)}]) ((c::r).drop n):=rfl
theorem Ij (s:Bytes) (k:Nat):(⟨s.toArray⟩:ByteArray).extract k s.length=⟨(s.drop k).toArray⟩:=by
 rw[Dr];simp only[];rw[wq acx]
theorem Nb {p n L q:Nat} (h1:n<=q) (h2:q=L - p) (h3:p<L):p+n<=L:=acw
theorem gw {a p s n:Nat} (h1:a<=p) (h2:1<=n):a+1<=p+s+n:=acw
theorem gu {L p s n g:Nat} (h1:L - p<g+1) (h2:1<=n) (h3:p+s+n<=L):L - (p+s+n)<g:=acw
theorem gq (a b c:Nat):((a:Int)+(b:Int)+(c:Int)).toNat=a+b+c:=acw
theorem gp {L p s n:Nat} (h2:1<=n) (h3:p+s+n<=L):L - (p+s+n)<L - p:=acw
theorem gn (a b c:Nat):((a:Int)+(b:Int)+(c:Int))=((a+b+c:Nat):Int):=acw
def ToksPost (B:Nat) (w:World) (x:Except (Int×Int) (List Tok)) (e:Ending) (w':World):Prop:=match x with
 | .ok l=>∃v,e=.returned (.tuple #[v,.agg #[U 0,U 0]])/\SlIn (B≤·) w' v l.length (tkVals l)/\Below w.heap.size w w'
 | .error (p,q)=>e=.returned (.tuple #[eL,.agg #[U p,U q]])/\q≠0/\Below w.heap.size w w'
theorem Fa {B:Nat} (s:Bytes) (hs:s.length<=1000000) (w:World) (he:Env B w):Calls prog 9 #[.string ⟨s.toArray⟩] w (ToksPost w.heap.size w (toksR s)):=by
 have HE:=tm he;have S0:=tm (St.start w);clear he;by_cases hbig:4000<s.length
 ·have hx:toksR s=.error (0,2):=by unfold toksR;rw[if_pos hbig]
  rw[hx];clear hx;go_enter func9,ntmps9;go_wp2_with fail;have S1:=tm (St.alloc S0.out (cs:=#[.int .i64 0,.int .i64 2]) (t:=26));have F:=fx_ S1.out.facts;refine ue (v:=.tuple #[.slice none 0 0,.agg #[.int .i64 0,.int .i64 2]]) (by simp[results,results9,go_sem,F]) rfl ⟨rfl,by decide,S1.out.below⟩
 ·have hx:toksR s=toksF (s.length+1) 0 [] s:=by unfold toksR;rw[if_neg hbig]
  obtain⟨y,hy⟩:∃y,toksR s=y:=⟨_,rfl⟩;rw[hy];have HM0:Hid (y=toksF (s.length+1) 0 [] (s.drop 0)):=by show _=_;rw[<- hy,hx];rfl
  clear hx hy;go_enter func9,ntmps9;go_wp2_with fail;have hsz:(⟨s.toArray⟩:ByteArray).size=s.length:=by show s.toArray.size=_;simp
  have SA:=tm (St.alloc S0.out (cs:=#[.int .i64 0,.int .i64 0]) (t:=26));have HOA:Hid ((w.alloc (.cells #[.int .i64 0,.int .i64 0] 26)).ownsRow (w.heap.size+1) 63 4 (.slice none 0 0) 0 []):=aah _ _ _ _;refine Lo (fun W=>St w W [(w.heap.size,#[.int .i64 0,.int .i64 0],26)]/\W.ownsRow (w.heap.size+1) 63 4 (.slice none 0 0) 0 []) ⟨SA.out,HOA.out⟩ ?_;clear SA HOA S0;rintro wl ⟨SL',HOL'⟩;have SL:=tm SL';have HOL:=tm HOL';clear SL' HOL';go_loopw [4,5,6,7,8] (fun ov av _ _ _ wr=>∃(pos f:Nat) (acc:List Tok) (oa:Option Addr) (oc:Nat),ov=.slice oa acc.length oc/\av=.int .i64 pos/\pos<=s.length/\Hid (acc.length<=pos)/\Hid (s.length - pos<f)/\Hid (y=toksF f pos acc (s.drop pos))/\Hid (St w wr [(w.heap.size,#[.int .i64 0,.int .i64 0],26)])/\Hid (wr.ownsRow (w.heap.size+1) 63 4 (.slice oa acc.length oc) acc.length (tkVals acc))) (fun _ av _ _ _ _=>s.length - (intOf av).toNat)
  case atStart=>exact⟨0,s.length+1,[],none,0,rfl,rfl,by omega,yu _,by show _<_;omega,HM0.out,SL.out,HOL.out⟩
  case round=>
   clear HM0 SL HOL;obtain⟨pos,f,acc,oa,oc,rfl,rfl,hp,HAL,HF,HM,S,HO⟩:=hrel;obtain⟨g,rfl⟩:∃g,f=g+1:=⟨f - 1,by have:=HF.out;omega⟩;have hx1:(⟨s.toArray⟩:ByteArray).extract pos s.length=⟨(s.drop pos).toArray⟩:=Ij s pos;have hul:(s.drop pos).length=s.length - pos:=acx;have C:=tm (fun W (h:Env B W)=>Rv (s.drop pos) acw W h);have hacc:(s.drop pos).takeWhile (fun c=>spaceN c.toNat)=(s.drop pos).takeWhile accS:=by rw[<- km]
   rw[hacc]at C;have hsp:((s.drop pos).takeWhile accS).length<=(s.drop pos).length:=(zg _).length_le;have HMs:=HM.out;rw[E9,List.drop_drop]at HMs;obtain⟨sp,hspe⟩:∃sp,(s.drop pos).takeWhile accS=sp:=⟨_,rfl⟩;rw[hspe]at C hsp HMs;have HM1:=tm HMs;clear HMs HM hacc hspe;have hw:wrap64 ((pos:Int)+(sp.length:Int))=((pos+sp.length:Nat):Int):=by rw[IntWalk.wrap64_in _ ⟨by omega,by omega⟩];simp
   go_wp2_with fail;refine tp (C.out _ (HE.out.kept S.out.below)) ?_;rintro e w2 ⟨rfl,hb2⟩;have HO2:=tm (HO.out.later hb2);refine St.call (S.out) hb2 ?_;intro S2;clear hb2;try(simp only[ub,ui,um,ug]at S2)
   clear HO S hx1
   cases hu:s.drop (pos+sp.length)with
   | nil=>
    have hend:pos+sp.length=s.length:=by
     have:=congrArg List.length hu;simp at this;omega
    rw[hu]at HM1;have HR:Hid (y=.ok acc):=HM1.out;have e1:(((pos+sp.length:Nat):Int)==(s.length:Int))=true:=by rw[hend];simp
    have e2:(pos+sp.length==s.length)=true:=by rw[hend];simp
    have F:=fx_ S2.out.facts;go_wp2_with fail;refine ue (v:=.tuple #[.slice oa acc.length oc,.agg #[.int .i64 0,.int .i64 0]]) (by simp[results,results9,go_sem,F]) rfl ?_;rw[HR.out];refine⟨_,rfl,SlIn.mono (Q:=(w.heap.size+1≤·)) (World.ownsRow.slIn (HO2.out.same (fun k hk=>?_))) (fun b hb=>Nat.le_of_succ_le hb),(St.set 0 (St.set 0 S2.out rfl) rfl).below⟩;have:=(vx HO2.out k hk).1;rw[xk _ _ _ _ (by show k≠w.heap.size;omega),xk _ _ _ _ (by show k≠w.heap.size;omega)]
   | cons c r=>
    have hend:pos+sp.length<s.length:=by
     have:=congrArg List.length hu;simp at this;omega
    have hrl:(c::r).length=s.length - (pos+sp.length):=by rw[<- hu];simp
    have hx2:(⟨s.toArray⟩:ByteArray).extract (pos+sp.length) s.length=⟨(c::r).toArray⟩:=by rw[Ij,hu]
    rw[hu]at HM1;simp only at HM1;have e1:(((pos+sp.length:Nat):Int)==(s.length:Int))=false:=by rw[us];omega
    have e2:(pos+sp.length==s.length)=false:=by rw[us];omega
    replace C:=tm (fun W (h:Env B W)=>V4 (c::r) acw acx W h)
    cases htk:tokenR (c::r)with
    | error x=>
     rw[htk]at C HM1;have HR:Hid (y=.error (((pos+sp.length:Nat):Int),x)):=HM1.out;have hx0:x≠0:=by have:=Ki htk;omega
     have hxb:(x != 0)=true:=by simpa using hx0
     simp only[tokRes]at C;go_wp2_with fail;refine tp (C.out _ (HE.out.kept S2.out.below)) ?_;rintro e w3 ⟨rfl,hb3⟩;refine St.call (S2.out) hb3 ?_;intro S3;clear hb3;try(simp only[ub,ui,um,ug]at S3)
     have F:=fx_ S3.out.facts;go_wp2_with fail;refine ue (v:=.tuple #[.slice none 0 0,.agg #[.int .i64 ((pos:Int)+(sp.length:Int)),.int .i64 x]]) (by simp[results,results9,go_sem,F]) rfl ?_;rw[HR.out];refine⟨by simp,hx0,?_⟩;exact(St.alloc (St.set 0 (St.set 0 S3.out rfl) rfl)).below
    | ok tn=>
     obtain⟨t,n⟩:=tn;rw[htk]at C HM1;obtain⟨⟨hn,hn2⟩,hat⟩:=Iv htk;obtain⟨tk,ta,ts,tnn⟩:=t;simp only at hat;subst hat;simp only[tokRes,tokVal]at C;have HR:Hid (y=toksF g (pos+sp.length+n) (acc++[⟨tk,((pos+sp.length:Nat):Int),ts,tnn⟩]) (s.drop (pos+sp.length+n))):=by
      show _=_;rw[HM1.out,<- List.drop_drop,hu]
     go_wp2_with fail;refine tp (C.out _ (HE.out.kept S2.out.below)) ?_;rintro e w3 ⟨rfl,hb3⟩;have HO3:=tm (HO2.out.later hb3);refine St.call (S2.out) hb3 ?_;intro S3;clear hb3;try(simp only[ub,ui,um,ug]at S3)
     clear HO2 S2;have F:=fx_ S3.out.facts;go_wp2_with(at_builtin;go_must (refine Hi rfl _ _ 23 rfl 63 (.agg #[.int .i64 0,.int .i64 0,.string ⟨#[]⟩,.int .i64 0]) 4 40 underlying23 ow rfl acy (w.heap.size+1) (.slice oa acc.length oc) acc.length (tkVals acc) rfl (HO3.out.later ((uj _ _).alloc (tu _) _)) #[.int .i64 tk,.int .i64 ((pos+sp.length:Nat):Int),.string ⟨ts.toArray⟩,.int .i64 tnn] 1 (w3.heap.size+1) rfl rfl acx (by simp[Value.oneCell']) (by have:=HAL.out;omega) (by have:=HAL.out;simp[maxLen];omega) (by simp;omega) ?_));intro v4 w4 hown hg;have S4:=tm ((St.laid S3.out).turned (Turn.of_grown hg) (fun i h=>by have:=(vx HO3.out i h).1;omega) (fun x hx h=>by
      simp only[uw,vl,xp]at hx;subst hx;have:=(vx HO3.out _ h).1;omega))
     have hcast:((pos+sp.length:Nat):Int)=(pos:Int)+(sp.length:Int):=acx;have e3:tkVals (acc++[⟨tk,((pos+sp.length:Nat):Int),ts,tnn⟩])=tkVals acc++[.int .i64 tk,.int .i64 ((pos:Int)+(sp.length:Int)),.string ⟨ts.toArray⟩,.int .i64 tnn]:=by rw[hcast];simp[tkVals,Tok.cells]
     have e4:(acc++[(⟨tk,((pos+sp.length:Nat):Int),ts,tnn⟩:Tok)]).length=acc.length+1:=acx;obtain⟨a,c4,rfl,_⟩:=hown.slAt;have HO4:=tm hown;have hw3:wrap64 ((pos:Int)+(sp.length:Int)+(n:Int))=(pos:Int)+(sp.length:Int)+(n:Int):=IntWalk.wrap64_in _ ⟨by omega,by omega⟩;have E:=tm e3;have E4:=tm e4;have HRL:=tm hrl;have HEND:=tm hend;have HN:=tm hn2;clear hown hg S3 HO3 F e3 e4 hcast hw e1 e2 hx2 htk hu C hrl hend hn2;go_wp2_with fail;go_roundw
     case rel=>exact⟨pos+sp.length+n,g,acc++[(⟨tk,((pos+sp.length:Nat):Int),ts,tnn⟩:Tok)],a,c4,congrArg (fun z=>Value.slice a z c4) E4.out.symm,congrArg (Value.int .i64) (hw3.trans (gn _ _ _)),Nb HN.out HRL.out HEND.out,(show _<=_ from E4.out▸gw HAL.out hn),gu HF.out hn (Nb HN.out HRL.out HEND.out),HR.out,S4.out,by show World.ownsRow _ _ _ _ _ _ _;rw[E.out,E4.out];exact HO4.out⟩
     case measure=>
      rw[hw3];show s.length - ((pos:Int)+(sp.length:Int)+(n:Int)).toNat<s.length - ((pos:Int)).toNat;rw[gq,Int.toNat_natCast];exact gp hn (Nb HN.out HRL.out HEND.out)
theorem Z5 (s:Bytes):(s.takeWhile accP).length<=s.length:=(zg _).length_le
theorem Pl {t:Bytes} {v:V} (h:parseP (39::(t++[39]))=some v) (hk:v.k=2):v.s.size<=40:=by
 have hr:v.right=true:=by
  unfold parseP at h;repeat' split at h
  all_goals first
   | (cases h;done)
   | (cases h;rfl)
   | (cases h;simp[V.null]at hk;done)
   | (cases h;simp[V.bool]at hk;done)
   | (unfold ifRight at h;split at h<;>first|(cases h;done)|(cases h;assumption))
 simp only[V.right,hk]at hr;simp at hr;omega
theorem Oo {s:Bytes} {t:Tok} {n:Nat} (h:tokenR s=.ok (t,n)) (hs:s.length<=4000):0<=t.n/\t.n<=549755813888/\t.s.length<=4000:=by
 cases s with
 | nil=>simp[tokenR]at h
 | cons c r=>
  have hp:=Z5 (c::r);unfold tokenR at h;simp only at h;split at h
  ·split at h
   ·cases h;exact my
   ·split at h
    ·cases h;exact my
    ·cases h
  ·split at h
   ·rename_i h1 h2;split at h
    ·rename_i m hm;split at h
     ·cases h
     ·rename_i hno
      cases h;refine⟨?_,by simp only;omega,by simp⟩;simp only;by_cases hneg:m<0
      ·exfalso;have he:Lib.itoa m=(c::r).takeWhile accP:=by
        by_cases e:Lib.itoa m=(c::r).takeWhile accP
        ·exact e
        ·exact absurd (.inr e) hno
       rw[zo (Qz h2)]at he;unfold Lib.itoa at he;rw[if_pos hneg]at he;have:=(acq he).1;subst this;revert h2;decide
      ·omega
    ·cases h
   ·split at h
    ·split at h
     ·cases h
     ·split at h
      ·rename_i v hv;split at h
       ·rename_i hk
        cases h;have:=Pl hv hk;refine⟨(show(0:Int)<=0 by decide),(show(0:Int)<=549755813888 by decide),?_⟩;simp only;have h2:v.s.data.toList.length=v.s.size:=acx;omega
       ·cases h
      ·cases h
    ·split at h
     ·rename_i g hg
      cases h;have:=Kp hg;exact my
     ·cases h
structure TokFine (L:Nat) (t:Tok):Prop where
 num:0<=t.n/\t.n<=549755813888/\t.s.length<=4000
 at_:0<=t.at_/\t.at_<=L
theorem Kh (L:Nat):∀(f pos:Nat) (acc:List Tok) (s:Bytes) (l:List Tok),toksF f pos acc s=.ok l->pos+s.length=L->s.length<=4000->(∀t∈acc,TokFine L t)->(∀t∈l,TokFine L t)/\l.length<=acc.length+s.length
 | 0,pos,acc,s,l,h,_,_,ha=>by
  simp only[toksF]at h
  cases h;exact⟨ha,by omega⟩
 | f+1,pos,acc,s,l,h,hL,hs,ha=>by
  rw[E9]at h;have hsp:(s.takeWhile accS).length<=s.length:=(zg _).length_le
  cases hu:s.drop (s.takeWhile accS).length with
  | nil=>rw[hu]at h;cases h;exact⟨ha,by omega⟩
  | cons c r=>
   have hrl:(c::r).length=s.length - (s.takeWhile accS).length:=by rw[<- hu];simp
   rw[hu]at h;simp only at h
   cases htk:tokenR (c::r)with
   | error x=>rw[htk]at h;cases h
   | ok tn=>
    obtain⟨t,n⟩:=tn;rw[htk]at h;simp only at h;obtain⟨⟨hn1,hn2⟩,hat⟩:=Iv htk;have hfine:=Oo htk acw;have hdl:((c::r).drop n).length=(c::r).length - n:=acx;have:=Kh L f _ _ _ l h (by rw[hdl];omega) (by rw[hdl];omega) (fun u hu'=>by
     rcases wi.1 hu' with hu'|hu'
     ·exact ha u hu'
     ·simp only[vh]at hu';subst hu';exact⟨hfine,by simp only;omega⟩)
    refine⟨this.1,?_⟩;have h2:=this.2;rw[hdl]at h2;simp only[ua,tw,tx]at h2 hrl hn2 ⊢;omega
theorem E8 {s:Bytes} {l:List Tok} (h:toksR s=.ok l):(∀t∈l,TokFine s.length t)/\l.length<=s.length/\s.length<=4000:=by
 unfold toksR at h;split at h
 ·cases h
 ·rename_i hb;have:=Kh s.length _ _ _ _ l h acx acw (fun t ht=>by cases ht);exact⟨this.1,by have:=this.2;simpa using this,by omega⟩
end
theorem nb {a c:UInt8} (h:¬c=a):(a==c)=false:=by rw[us];exact fun e=>h e.symm
end Go.Proofs.YtimoefagohifaaaGreatDoor
