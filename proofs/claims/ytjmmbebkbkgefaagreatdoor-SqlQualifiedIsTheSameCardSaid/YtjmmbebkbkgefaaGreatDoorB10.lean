/- Part 10; the last part says what is proved. No condition. -/
import Derived.Lib.OthersKept
import Derived.Deep.Cut
import Derived.Lib.ConvBytes
import Derived.Laws.IdiomStrings
import Derived.Lib.IndexMore
import Derived.Lib.AtoiErrMem
import Derived.Shelf.Strings.FieldsFuncAny
import Derived.Test.YtjmmbebkbkgefaaGreatDoorB04
set_option linter.unusedVariables false
set_option linter.unusedSimpArgs false
set_option maxHeartbeats 8000000
set_option maxRecDepth 100000
namespace Go.Proofs.YtjmmbebkbkgefaaGreatDoor
open Go.RowKit Go.Sort Tryz
def spaceN (r:Nat):Bool:=r==32||r==9||r==10
def lowN (r:Nat):Bool:=decide (97<=r)&&decide (r<=122)
def digN (r:Nat):Bool:=decide (48<=r)&&decide (r<=57)
def partN (r:Nat):Bool:=lowN r||digN r||r==95
theorem Hg (r n:Nat):((r:Int)==(n:Int))=(r==n):=by
 rw[Bool.eq_iff_iff];simp only[beq_iff_eq];omega
theorem Oy (r:Nat) (w:World):Calls prog 70 #[.int .i32 (r:Int)] w fun e w'=>e=.returned (.bool (spaceN r))/\w=w':=by
 obtain⟨b1,h1⟩:∃b,((r:Int)==32)=b:=⟨_,rfl⟩;obtain⟨b2,h2⟩:∃b,((r:Int)==9)=b:=⟨_,rfl⟩;obtain⟨b3,h3⟩:∃b,((r:Int)==10)=b:=⟨_,rfl⟩;have HR:Hid (spaceN r=(b1||b2||b3)):=by
  show _=_;unfold spaceN;rw[<- h1,<- h2,<- h3,<- Hg r 32,<- Hg r 9,<- Hg r 10];rfl
 cases b1<;>cases b2<;>cases b3;all_goals
  go_enter func70,ntmps70
  go_wp2
  go_returns
  exact⟨by rw[HR.out];rfl,rfl⟩
theorem U6:((List.range 128).all fun c=>Lib.isLowerL c==(decide (97<=c)&&decide (c<=122)))=true:=by decide+kernel
theorem Cr {B:Nat} (r:Nat) (w:World) (he:Env B w):Calls prog 141 #[.int .i32 (r:Int)] w fun e w'=>e=.returned (.bool (lowN r))/\w=w':=by
 by_cases hc:r<128
 ·have hL:Lib.isLowerL r=lowN r:=by
   have:=List.all_eq_true.1 U6 r (List.mem_range.2 hc);simpa[lowN]using this
  have C:=Lib.hid (Tryz.unicode_IsLower_laid r w (by omega) he.props);rw[hL]at C;have h1:(r:Int)<=127:=by omega
  clear he hL;generalize lowN r=b at *
  cases b;all_goals
   go_enter func141,ntmps141
   go_wp2_with fail
   refine Calls.mono C.out ?_
   rintro e w1 ⟨rfl,rfl⟩
   go_wp2_with fail
   go_returns
   exact⟨rfl,rfl⟩
 ·have h1:decide ((r:Int)<=127)=false:=by simp;omega
  have HR:Hid (lowN r=false):=by show _=_;unfold lowN;simp;omega
  clear he;go_enter func141,ntmps141;go_wp2_with fail;go_returns;exact⟨by rw[HR.out];rfl,rfl⟩
theorem Dt (r:Nat) (w:World):Calls prog 144 #[.int .i32 (r:Int)] w fun e w'=>e=.returned (.bool (digN r))/\w=w':=by
 have HR:Hid (digN r=(decide ((48:Int)<=(r:Int))&&decide ((r:Int)<=57))):=by
  show _=_;unfold digN;congr 1
  ·rw[decide_eq_decide];omega
  ·rw[decide_eq_decide];omega
 obtain⟨b1,h1⟩:∃b,decide ((48:Int)<=(r:Int))=b:=⟨_,rfl⟩;obtain⟨b2,h2⟩:∃b,decide ((r:Int)<=57)=b:=⟨_,rfl⟩;rw[h1,h2]at HR
 cases b1<;>cases b2;all_goals
  go_enter func144,ntmps144
  go_wp2
  go_returns
  exact⟨by rw[HR.out];rfl,rfl⟩
theorem Q9 {B:Nat} (r:Nat) (w:World) (he:Env B w):Calls prog 142 #[.int .i32 (r:Int)] w fun e w'=>e=.returned (.bool (partN r))/\w=w':=by
 have C1:=Lib.hid (Cr r w he);have C2:=Lib.hid (Dt r w);obtain⟨b3,h3⟩:∃b,((r:Int)==95)=b:=⟨_,rfl⟩;have HR:Hid (partN r=(lowN r||digN r||b3)):=by
  show _=_;unfold partN;rw[<- h3,<- Hg r 95];rfl
 clear he;generalize lowN r=b1 at *;generalize digN r=b2 at *
 cases b1<;>cases b2<;>cases b3;all_goals
  go_enter func142,ntmps142
  go_wp2_with fail
  refine Calls.mono C1.out ?_
  rintro e w1 ⟨rfl,rfl⟩
  go_wp2_with fail
  try
   refine Calls.mono C2.out ?_
   rintro e w1 ⟨rfl,rfl⟩
   go_wp2_with fail
  go_returns
  exact⟨by rw[HR.out];rfl,rfl⟩
theorem Rv (s:ByteArray) (pos:Nat) (h:pos<s.size) (hb:128<=(s[pos]'h).toNat):128<=(Utf8.decode s pos).1:=by
 have e:s.get! (pos+0)=s[pos]'h:=by
  rw[Nat.add_zero]
  cases s with
  | mk d=>
   show d[pos]! =d[pos];exact getElem!_pos d pos h
 unfold Utf8.decode;simp only[e];rw[if_neg (by omega)];have hr:128<=Utf8.runeError:=by decide
 split
 ·split
  ·assumption
  ·exact hr
 ·split
  ·split
   ·rename_i h1;simp only[ge_iff_le,Bool.and_eq_true,decide_eq_true_eq]at h1;omega
   ·exact hr
  ·split
   ·split
    ·rename_i h1;simp only[ge_iff_le,Bool.and_eq_true,decide_eq_true_eq]at h1;omega
    ·exact hr
   ·exact hr
theorem Cz (s:ByteArray) (a k:Nat):s.extract a k=⟨((s.data.toList.drop a).take (k - a)).toArray⟩:=Lib.extract_eq s a k
theorem Z9 (s:ByteArray) (k:Nat) (h:k<s.size):s.data.toList[k]?=some s[k]:=by
 rw[List.getElem?_eq_getElem (by simpa using h)];rfl
def iterPos (k:Nat) (w:World):Nat:=match w.heap[k]? with
 | some (.stringIter _ p)=>p
 | _=>0
theorem Kd {k:Nat} {w:World} {u:ByteArray} {p:Nat} (h:w.heap[k]?=some (.stringIter u p)):iterPos k w=p:=by unfold iterPos;rw[h]
theorem R8 {w wr:World} {u:ByteArray} {_pos:Nat} (HB:Below w.heap.size w wr) (pos':Nat):Below w.heap.size w (wr.iterAt w.heap.size u pos'):=by
 refine HB.trans ⟨rfl,rfl,rfl,by simp[World.iterAt],fun k hk=>?_⟩;simp only[World.iterAt];rw[Array.getElem?_setIfInBounds_ne (by omega)]
theorem E5 {acc:UInt8->Bool}:∀{l:Bytes},(∀d∈l,acc d=true)->l.takeWhile acc=l
 | [],_=>rfl
 | a::l,h=>by rw[List.takeWhile_cons_of_pos (h a (by simp)),E5 (fun d hd=>h d (by simp[hd]))]
theorem Jh {acc:UInt8->Bool} {l:Bytes} {k:Nat} {c:UInt8} (hk:l[k]?=some c) (h:∀d∈l.take k,acc d=true) (hc:acc c=false):l.takeWhile acc=l.take k:=by
 obtain⟨hlt,rfl⟩:=List.getElem?_eq_some_iff.1 hk;have e:l=l.take k++l.drop k:=(List.take_append_drop k l).symm;rw[List.drop_eq_getElem_cons hlt]at e
 conv=>lhs;rw[e]
 rw[List.takeWhile_append_of_pos h,List.takeWhile_cons_of_neg (by simp[hc])];simp
theorem J1 (u:Bytes) (hu:u.length<=1000000) (B:Nat) (g:Nat) (acc:Nat->Bool) (hacc:∀r,128<=r->acc r=false) (hfn:∀args w,(callFunc g args).run prog w=.ok (.enter g args) w)
 (hg:∀(r:Nat) (w:World),Env B w->Calls prog g #[.int .i32 (r:Int)] w fun e w'=>e=.returned (.bool (acc r))/\w=w') (w:World) (he:Env B w):
 Calls prog 69 #[.string ⟨u.toArray⟩,.func (.func g) #[] #[]] w fun e w'=>e=.returned (.string ⟨(u.takeWhile (fun c=>acc c.toNat)).toArray⟩)/\Below w.heap.size w w':=by
 have HG:=Lib.hid hg
 have HE:=Lib.hid he
 have hsz:(⟨u.toArray⟩:ByteArray).size=u.length:=by show u.toArray.size=_;simp
 have HSZ:=Lib.hid hsz
 clear hg he hsz
 go_enter func69,ntmps69
 go_wp2_with fail
 go_loopw [5,6] (fun _ _ wr=>∃pos:Nat,pos<=u.length/\Hid (∀d∈u.take pos,acc d.toNat=true)/\Hid (wr.heap[w.heap.size]?=some (.stringIter ⟨u.toArray⟩ pos))/\Hid (Below w.heap.size w wr)) (fun _ _ wr=>u.length - iterPos w.heap.size wr)
 case atStart=>exact⟨0,by omega,by simp[Lib.hid],World.iter_heap _ _ _,(Below.refl _ _).alloc (Nat.le_refl _) _⟩
 case round=>
  obtain⟨pos,hpos,HT,HI,HB⟩:=hrel;by_cases hlt:pos<u.length
  ·have hlt':pos<(⟨u.toArray⟩:ByteArray).size:=by rw[HSZ.out];exact hlt
   obtain⟨c,hc⟩:∃c,u[pos]?=some c:=⟨u[pos],by simp[hlt]⟩;have hcc:(⟨u.toArray⟩:ByteArray)[pos]'hlt'=c:=by
    have h2:=Z9 ⟨u.toArray⟩ pos hlt';simp only[]at h2;rw[hc]at h2;exact(Option.some.inj h2).symm
   obtain⟨r,q,hdec⟩:∃r q,Utf8.decode (⟨u.toArray⟩:ByteArray) pos=(r,q):=⟨_,_,rfl⟩;have hrq:Hid ((r=c.toNat/\q=1)\/(acc r=false/\acc c.toNat=false)):=by
    show _\/_;by_cases h128:c.toNat<128
    ·have:=decode_ascii (⟨u.toArray⟩:ByteArray) pos hlt' (by rw[hcc];exact h128);rw[hdec,hcc]at this;simp only[Prod.mk.injEq]at this;exact .inl this
    ·have:=Rv (⟨u.toArray⟩:ByteArray) pos hlt' (by rw[hcc];omega);rw[hdec]at this;exact .inr ⟨hacc _ this,hacc _ (by omega)⟩
   have hnx:=fun ty=>Lib.run_next_any_at (P:=prog) wr w.heap.size ⟨u.toArray⟩ pos ty HI.out hlt';rw[hdec]at hnx;have HI1:=Lib.hid (Lib.iterAt_heap _ _ _ _ (pos+q) HI.out);have HB1:=Lib.hid (R8 (u:=⟨u.toArray⟩) (_pos:=pos) HB.out (pos+q));have C:=Lib.hid (HG.out r (wr.iterAt w.heap.size ⟨u.toArray⟩ (pos+q)) (HE.out.kept HB1.out));have HCP:=Lib.hid hc;clear hc hcc hdec;obtain⟨b,hb⟩:∃b,acc r=b:=⟨_,rfl⟩;rw[hb]at C;have HAB:=Lib.hid hb;clear hb;go_wp2_with fail;refine Calls.mono C.out ?_;rintro e w1 ⟨rfl,rfl⟩;clear hnx C
   cases b with
   | true=>
    obtain⟨rfl,rfl⟩:r=c.toNat/\q=1:=by
     rcases hrq.out with h|⟨h,_⟩
     ·exact h
     ·rw[HAB.out]at h;cases h
    go_wp2_with fail;go_roundw
    case rel=>
     refine⟨pos+1,by omega,?_,HI1.out,HB1.out⟩;show ∀d∈u.take (pos+1),acc d.toNat=true;rw[List.take_add_one,HCP.out];intro d hd;rcases List.mem_append.1 hd with hd|hd
     ·exact HT.out d hd
     ·simp at hd;subst hd;exact HAB.out
    case measure=>rw[Kd HI1.out,Kd HI.out];omega
   | false=>
    have HAC:acc c.toNat=false:=by
     rcases hrq.out with⟨h,_⟩|⟨_,h⟩
     ·rw[<- h];exact HAB.out
     ·exact h
    have HW:Hid (u.takeWhile (fun c=>acc c.toNat)=u.take pos):=Jh (acc:=fun c=>acc c.toNat) HCP.out HT.out HAC;have hext:(⟨u.toArray⟩:ByteArray).extract 0 pos=⟨(u.takeWhile (fun c=>acc c.toNat)).toArray⟩:=by
     rw[Cz,HW.out];simp
    go_wp2_with fail;go_returns;exact⟨rfl,HB1.out⟩
  ·obtain rfl:pos=u.length:=by omega
   have HW:Hid (u.takeWhile (fun c=>acc c.toNat)=u):=by
    have:=HT.out;rw[List.take_length]at this;exact E5 this
   have hnx:=fun ty=>Lib.run_next_end_at (P:=prog) wr w.heap.size ⟨u.toArray⟩ u.length ty HI.out (by rw[HSZ.out];exact Nat.lt_irrefl _);go_wp2_with fail;go_returns;exact⟨by rw[HW.out];rfl,HB.out⟩
theorem Yr:En 70:=enters_of func70 (by kernel_rfl) rfl
theorem Yn:En 142:=enters_of func142 (by kernel_rfl) rfl
theorem Qb {B:Nat} (u:Bytes) (hu:u.length<=1000000) (w:World) (he:Env B w):
 Calls prog 69 #[.string ⟨u.toArray⟩,.func (.func 70) #[] #[]] w fun e w'=>e=.returned (.string ⟨(u.takeWhile (fun c=>spaceN c.toNat)).toArray⟩)/\Below w.heap.size w w':=
 J1 u hu B 70 spaceN (fun r h=>by unfold spaceN;simp;omega) Yr (fun r w _=>Oy r w) w he
theorem Lw {B:Nat} (u:Bytes) (hu:u.length<=1000000) (w:World) (he:Env B w):
 Calls prog 69 #[.string ⟨u.toArray⟩,.func (.func 142) #[] #[]] w fun e w'=>e=.returned (.string ⟨(u.takeWhile (fun c=>partN c.toNat)).toArray⟩)/\Below w.heap.size w w':=
 J1 u hu B 142 partN (fun r h=>by unfold partN lowN digN;simp;omega) Yn (fun r w he=>Q9 r w he) w he
theorem I8 (c d:UInt8):(c.toNat==d.toNat)=(c==d):=by
 rw[Bool.eq_iff_iff,beq_iff_eq,beq_iff_eq];exact UInt8.toNat_inj
theorem ai:(fun c:UInt8=>spaceN c.toNat)=accS:=by
 funext c;unfold spaceN accS;rw[<- I8 c 32,<- I8 c 9,<- I8 c 10];rfl
theorem Tm:(fun c:UInt8=>partN c.toNat)=accP:=by
 funext c;unfold partN accP;rw[<- I8 c 95];rfl
def kwA:List Bytes:=[[97,100,100],[97,110,100],[97,115],[97,115,99],[98,101,103,105,110],[98,111,111,108],[98,121],[99,104,101,99,107],[99,111,108,117,109,110],[99,111,109,109,105,116],[99,111,117,110,116],[99,114,101,97,116,101],[100,101,108,101,116,101],[100,101,115,99],[100,105,115,116,105,110,99,116],[100,114,111,112],[102,97,108,115,101],[102,114,111,109]]
def kwB:List Bytes:=[[103,114,111,117,112],[105,110,100,101,120],[105,110,115,101,114,116],[105,110,116],[105,110,116,111],[105,115],[106,111,105,110],[107,101,121],[108,105,109,105,116],[109,97,120],[109,105,110],[110,111,116],[110,117,108,108],[111,110],[111,110,108,121],[111,114],[111,114,100,101,114],[114,101,97,100],[114,101,108,101,97,115,101],[114,111,108,108,98,97,99,107]]
def kwC:List Bytes:=[[115,97,118,101,112,111,105,110,116],[115,101,108,101,99,116],[115,101,114,105,97,108,105,122,97,98,108,101],[115,101,116],[115,117,109],[116,97,98,108,101],[116,101,120,116],[116,111],[116,114,117,101],[117,110,105,113,117,101],[117,112,100,97,116,101],[118,97,108,117,101,115],[119,104,101,114,101]]
theorem Xz (s:Bytes):keywords.contains s=(kwA.contains s||(kwB.contains s||kwC.contains s)):=by
 have:keywords=kwA++(kwB++kwC):=rfl;rw[this];simp only[List.contains_eq_any_beq,List.any_append]
theorem Mu (s:Bytes) (w:World):Calls prog 72 #[.string ⟨s.toArray⟩] w fun e w'=>e=.returned (.bool (keywords.contains s))/\w=w':=by
 rw[Xz];go_enter func72,ntmps72;go_upto_if 4 with fail;go_cut [4]from 5 (fun v wc=>v=.bool (kwA.contains s)/\wc=w)
 case first=>
  go_wp2_with fail;all_goals go_meet
  all_goals first|(have hx:=eq_of_beq (by assumption:(s==_)=true);subst hx;exact⟨by decide+kernel,rfl⟩)|(refine⟨?_,rfl⟩;simp only[kwA,List.contains_cons,List.contains_nil,Bool.or_false];simp only[*,Bool.false_or,Bool.true_or])
 case rest=>
  obtain⟨rfl,rfl⟩:=hcut;by_cases hA:kwA.contains s=true
  ·rw[hA];go_wp2_with fail;go_returns;exact⟨by rw[hA];rfl,rfl⟩
  ·have hA':kwA.contains s=false:=by simpa using hA
   rw[hA'];clear hA;go_upto_if 23 with fail;go_cut [23]from 24 (fun v wx=>v=.bool (kwB.contains s)/\wx=wc)
   case first=>
    go_wp2_with fail;all_goals go_meet
    all_goals first|(have hx:=eq_of_beq (by assumption:(s==_)=true);subst hx;exact⟨by decide+kernel,rfl⟩)|(refine⟨?_,rfl⟩;simp only[kwB,List.contains_cons,List.contains_nil,Bool.or_false];simp only[*,Bool.false_or,Bool.true_or])
   case rest=>
    obtain⟨rfl,rfl⟩:=hcut;by_cases hB:kwB.contains s=true
    ·rw[hB];go_wp2_with fail;go_returns;exact⟨by rw[hA',hB];rfl,rfl⟩
    ·have hB':kwB.contains s=false:=by simpa using hB
     rw[hB'];clear hB;go_upto_if 44 with fail;go_cut [44]from 45 (fun v wx=>v=.bool (kwC.contains s)/\wx=wc)
     case first=>
      go_wp2_with fail;all_goals go_meet
      all_goals first|(have hx:=eq_of_beq (by assumption:(s==_)=true);subst hx;exact⟨by decide+kernel,rfl⟩)|(refine⟨?_,rfl⟩;simp only[kwC,List.contains_cons,List.contains_nil,Bool.or_false];simp only[*,Bool.false_or,Bool.true_or])
     case rest=>
      obtain⟨rfl,rfl⟩:=hcut;by_cases hC:kwC.contains s=true
      ·rw[hC];go_wp2_with fail;go_returns;exact⟨by rw[hA',hB',hC];rfl,rfl⟩
      ·have hC':kwC.contains s=false:=by simpa using hC
       rw[hC'];clear hC;go_wp2_with fail;go_returns;exact⟨by rw[hA',hB',hC'];rfl,rfl⟩
theorem Av (s:Bytes) (w:World):Calls prog 21 #[.string ⟨s.toArray⟩] w fun e w'=>e=.returned (.bool (isName s))/\Below w.heap.size w w':=by
 have C:=Lib.hid (Mu s)
 cases s with
 | nil=>
  go_enter func21,ntmps21;go_wp2_with fail;go_returns;exact⟨rfl,Below.refl _ _⟩
 | cons c r=>
  by_cases hl:16<r.length+1
  ·have hv:isName (c::r)=false:=by simp[isName];omega
   rw[hv];clear hv;go_enter func21,ntmps21;go_wp2_with fail;go_returns;exact⟨rfl,Below.refl _ _⟩
  ·by_cases hk:keywords.contains (c::r)=true
   ·have hv:isName (c::r)=false:=by simp only[isName,hk];simp
    rw[hk]at C;rw[hv];clear hv hk;go_enter func21,ntmps21;go_wp2_with fail;refine Calls.mono (C.out _) ?_;rintro e w1 ⟨rfl,rfl⟩;go_wp2_with fail;go_returns;exact⟨rfl,Below.refl _ _⟩
   ·have hk':keywords.contains (c::r)=false:=by simpa using hk
    have hv:isName (c::r)=(lowB c&&(c::r).all accP):=by simp only[isName,hk',show decide ((c::r).length<=16)=true by simp;omega,Bool.not_false,Bool.true_and]
    rw[hk']at C;rw[hv];clear hv hk hk';have hsz:(⟨(c::r).toArray⟩:ByteArray).size=r.length+1:=by show(c::r).toArray.size=_;simp
    have hcv:=Lib.run_convert_string_bytes (P:=prog) w 9 139 5 ⟨(c::r).toArray⟩ (u:=.string) underlying9 underlying139 underlying5;have hB:∀j,j<r.length+1->(Lib.bytesWorld w 5 ⟨(c::r).toArray⟩).cell? ⟨w.heap.size,j,none⟩=some (.int .u8 ((c::r).getD j 0).toNat):=fun j hj=>Lib.bytesWorld_cell w 5 ⟨(c::r).toArray⟩ j (by rw[hsz];exact hj);have hbel:=Lib.bytesWorld_below w 5 ⟨(c::r).toArray⟩;rw[hsz]at hcv;obtain⟨gc,hgc⟩:∃gc,gc=grownCap w (r.length+1) 0 5:=⟨_,rfl⟩;have hge:r.length+1<=gc:=by rw[hgc];exact grownCap_ge _ _ _ _
    rw[<- hgc]at hcv;obtain⟨W1,hW1⟩:∃W1,W1=Lib.bytesWorld w 5 ⟨(c::r).toArray⟩:=⟨_,rfl⟩;rw[<- hW1]at hcv hB hbel;have HBel:=Lib.hid hbel;have HB:=Lib.hid hB;have HGE:=Lib.hid hge;clear hbel hB hW1 hgc hsz hge;go_enter func21,ntmps21;go_wp2_with fail;refine Calls.mono (C.out _) ?_;rintro e w1 ⟨rfl,rfl⟩;go_wp2_with fail
    ·rename_i h1 h2;have hc:c.toNat<97:=by
      rcases h2 with h2|h2
      ·omega
      ·have h3:((c.toNat:Nat):Int)<97:=h2;omega
     go_returns;exact⟨by rw[show lowB c=false by simp[lowB];omega];rfl,Below.refl _ _⟩
    ·have hc:97<=c.toNat:=by
      have h3:=(by assumption:((r.length:Nat):Int)+1<=16/\(97:Int)<=((c.toNat:Nat):Int));omega
     obtain⟨A,hA0⟩:∃A,(c::r).all accP=A:=⟨_,rfl⟩;have HA0:=Lib.hid hA0;clear hA0;go_loopw [4,24] (fun _ i wr=>∃k:Nat,k<=r.length+1/\i=.int .i64 k/\Hid (A=((c::r).drop k).all accP)/\Hid (Below w.heap.size w wr)/\Hid (Below W1.heap.size W1 wr)) (fun _ i _=>r.length+1 - (intOf i).toNat)
     case atStart=>exact⟨0,by omega,rfl,HA0.out.symm,HBel.out,Below.refl _ _⟩
     case round=>
      obtain⟨k,hk,rfl,HA,HW,HV⟩:=hrel;by_cases hlt:k<r.length+1
      ·have hcell:=HV.out.cell_kept (HB.out k hlt);have hdrop:(c::r).drop k=(c::r)[k]'(by simpa using hlt)::(c::r).drop (k+1):=List.drop_eq_getElem_cons (by simpa using hlt);have hget:(c::r).getD k 0=(c::r)[k]'(by simpa using hlt):=by simp[List.getD,List.getElem?_eq_getElem (show k<(c::r).length by simpa using hlt)]
       have HA1:=HA.out;rw[hdrop,List.all_cons]at HA1;rw[hget]at hcell;generalize (c::r)[k]'(by simpa using hlt)=d at hcell HA1;have hge:=HGE.out;have hd:accP d=true↔(97<=d.toNat/\d.toNat<=122)\/(48<=d.toNat/\d.toNat<=57)\/d.toNat=95:=by
        simp only[accP,lowB,digB',Bool.or_eq_true,Bool.and_eq_true,decide_eq_true_eq,beq_iff_eq,or_assoc];rw[show(d=95↔d.toNat=95)from⟨fun h=>by rw[h];rfl,fun h=>by rw[<- UInt8.toNat_inj];exact h⟩]
       by_cases ha:accP d=true
       ·have hd2:=hd.1 ha;rw[ha,Bool.true_and]at HA1;have HA2:=Lib.hid HA1;clear hd ha HA1 HA hdrop hget hge;generalize d.toNat=n at hcell hd2;rcases hd2 with⟨k1,k2⟩|⟨k1,k2⟩|rfl
        all_goals
         go_wp2_with fail
         go_roundw
         case rel=>exact⟨k+1,by omega,by go_num,HA2.out,HW.out,HV.out⟩
         case measure=>simp[intOf];omega
       ·have hn:¬((97<=d.toNat/\d.toNat<=122)\/(48<=d.toNat/\d.toNat<=57)\/d.toNat=95):=fun h=>ha (hd.2 h);have ha':accP d=false:=by simpa using ha
        rw[ha',Bool.false_and]at HA1;have HA2:=Lib.hid HA1;clear hd ha ha' HA1 HA hdrop hget hge;generalize d.toNat=n at hcell hn;have h95:((n:Int) != 95)=true:=by simp;omega
        go_wp2_with fail;all_goals exact bodyPost_ret (v:=.bool false) (by simp[results,results21,go_sem]) rfl ⟨by first|rw[HA0.out,HA2.out,Bool.and_false]|rw[<- List.all_cons,HA0.out,HA2.out,Bool.and_false],HW.out⟩
      ·obtain rfl:k=r.length+1:=by omega
       have HA2:Hid ((c::r).all accP=true):=by show _=_;rw[HA0.out,HA.out,List.drop_of_length_le (by simp)];rfl
       clear HA;go_wp2_with fail;go_returns;exact⟨by rw[HA2.out,show lowB c=true by have:=HA2.out;simp only[List.all_cons,Bool.and_eq_true]at this;have h2:=this.1;simp only[accP,lowB,digB',Bool.or_eq_true,Bool.and_eq_true,decide_eq_true_eq,beq_iff_eq]at h2 ⊢;rcases h2 with(h2|h2)|h2;exact h2;omega;subst h2;simp at hc];rfl,HW.out⟩
theorem Jr (s:Bytes) (_:s.length<=1000000) (w:World):Calls prog 21 #[.string ⟨s.toArray⟩] w fun e w'=>e=.returned (.bool (isName s))/\Below w.heap.size w w':=Av s w
theorem Y7 (b j:Nat):(⟨b,0,none⟩:Addr).add j=⟨b,j,none⟩:=by unfold Addr.add;split<;>simp_all
theorem Sb (n:Int) (h1:-9223372036854775808<=n) (h2:n<=9223372036854775807):(bits .andNot .i64 n 1=0)↔(n=0\/n=1):=by
 constructor
 ·intro h;obtain⟨z,hz,hc⟩:∃z:Nat,z=((BitVec.ofInt 64 n)&&& ~~~(BitVec.ofInt 64 1)).toNat/\(if(true&&decide ((z:Int) % 2^64≥2^(64-1)))=true then(z:Int) % 2^64 - 2^64 else(z:Int) % 2^64)=0:=⟨_,rfl,h⟩;have hz64:z<2 ^ 64:=by rw[hz];exact BitVec.isLt _
  simp only[BitVec.toNat_and,BitVec.toNat_not,BitVec.toNat_ofInt]at hz;have e:((1:Int) % ↑(2 ^ 64:Nat)).toNat=1:=by decide
  rw[e]at hz;generalize hm:(n % ↑(2 ^ 64:Nat)).toNat=m at hz;have hm':m<2 ^ 64:=by omega
  have hy0:z=0:=by
   split at hc<;>omega
  rw[hy0]at hz;have h3:(m&&& (2 ^ 64 - 1 - 1))/2=m/2&&& (2 ^ 63 - 1):=by rw[Nat.and_div_two]
  rw[<- hz,Nat.and_two_pow_sub_one_eq_mod]at h3;omega
 ·rintro(rfl|rfl)<;>decide
theorem truth_any (b:Bool) (w:World):Calls prog 203 #[.bool b] w fun e w'=>e=.returned (V.bool b).val/\Below w.heap.size w w':=by
 cases b;all_goals
  go_enter func203,ntmps203
  go_wp2
  go_returns
  exact⟨rfl,by go_grown⟩
theorem Fp (v:V) (hv:v.Wf) (w:World):Calls prog 83 #[v.val] w fun e w'=>e=.returned (.bool v.right)/\Below w.heap.size w w':=by
 obtain⟨k,n,s⟩:=v;unfold V.val;by_cases h0:k=0
 ·subst h0;go_enter func83,ntmps83;go_wp2;all_goals go_returns
  all_goals refine⟨Dh ?_,by go_grown⟩
  all_goals(simp[V.right, *]<;>omega)
 by_cases h1:k=1
 ·subst h1;go_enter func83,ntmps83;go_wp2;all_goals go_returns
  all_goals refine⟨Dh ?_,by go_grown⟩
  all_goals(simp[V.right, *]<;>omega)
 by_cases h2:k=2
 ·subst h2;go_enter func83,ntmps83;go_wp2;all_goals go_returns
  all_goals refine⟨Dh ?_,by go_grown⟩
  all_goals(simp[V.right, *]<;>omega)
 by_cases h3:k=3
 ·subst h3;go_enter func83,ntmps83;go_wp2;all_goals go_returns
  all_goals refine⟨Dh ?_,by go_grown⟩
  all_goals(rename_i hbits;rw[Sb _ hv.1 hv.2]at hbits;simp[V.right,hbits])
 ·have e:V.right ⟨k,n,s⟩=false:=by simp[V.right,h0,h1,h2,h3]
  rw[e];clear e;go_enter func83,ntmps83;go_wp2;go_returns;exact⟨rfl,by go_grown⟩
theorem O3:(prog.info? 5).map (fun i=>(i.zero,i.size,i.bytes))=some (some (.int .u8 0),1,1):=by kernel_rfl
def bytesV (l:List UInt8):List Value:=l.map (fun c=>Value.int .u8 (c.toNat:Int))
def OwnsBytes (w:World) (base:Nat) (v:Value) (l:List UInt8):Prop:=w.ownsRow base 5 1 v l.length (bytesV l)
theorem OwnsBytes.of {w:World} {base:Nat} {v:Value} {n:Nat} {xs:List Value} {l:List UInt8} (h:w.ownsRow base 5 1 v n xs) (e:xs=bytesV l):OwnsBytes w base v l:=by
 have:=h.1;subst e;have hn:n=l.length:=by simpa[bytesV]using this.symm
 subst hn;exact h
theorem B5 (a b:List UInt8):bytesV (a++b)=bytesV a++bytesV b:=by simp[bytesV]
theorem OwnsBytes.kept {w w':World} {base:Nat} {v:Value} {l:List UInt8} (h:OwnsBytes w base v l) (hb:Below w.heap.size w w'):OwnsBytes w' base v l:=
 World.ownsRow.kept (row:=none) h ⟨hb.os,hb.tape,hb.output,hb.size,fun k hk _=>hb.block k hk⟩ (by cases v.ownBlock<;>simp)
theorem Tx (s:ByteArray) (k:Nat) (h:k<s.size):s.data.toList.take (k+1)=s.data.toList.take k++[s[k]]:=by
 rw[List.take_succ_eq_append_getElem (by simpa using h)];rfl
theorem OwnsBytes.string {w:World} {base:Nat} {v:Value} {l:List UInt8} (h:OwnsBytes w base v l) (hl:0<l.length):
 ∃g cap,v=.slice (some ⟨g,0,none⟩) l.length cap/\(convert 139 9 (.slice (some ⟨g,0,none⟩) l.length cap)).run prog w=.ok (.string ⟨l.toArray⟩) w:=by
 rcases h.2 with⟨_,h4⟩|⟨g,cap,cur,hv,hg,hblk,hn,hm,hs,ht⟩
 ·omega
 ·refine⟨g,cap,hv,run_convert_bytes_back w 139 9 5 ⟨g,0,none⟩ cap l underlying139 underlying5 underlying9 (fun j hj=>?_)⟩;rw[Y7];have e:cur.toList[j]?=some (.int .u8 (l[j].toNat:Int)):=by
   have:(cur.toList.take (l.length * 1))[j]?=some (.int .u8 (l[j].toNat:Int)):=by rw[ht];simp[bytesV,hj]
   rwa [List.getElem?_take_of_lt (by omega)]at this
  simp only[World.cell?,hblk];simpa using e
theorem Ho (c:Int) (w:World):Calls prog 188 #[.int .u8 c] w fun e w'=>e=.returned (.bool (plainB c))/\w=w':=by
 unfold plainB;go_enter func188,ntmps188;go_wp2_with fail;all_goals go_returns
 all_goals refine⟨Dh ?_,rfl⟩
 all_goals(simp[*]<;>grind)
end Go.Proofs.YtjmmbebkbkgefaaGreatDoor
namespace Go.Proofs.YtjmmbebkbkgefaaGreatDoor
open Tryz
theorem contains_nil (sub:Bytes):Lib.contains [] sub=sub.isEmpty:=by
 unfold Lib.contains Lib.index
 cases sub<;>rfl
theorem contains_cons (b:UInt8) (l sub:Bytes):Lib.contains (b::l) sub=(sub.isPrefixOf (b::l)||Lib.contains l sub):=by
 unfold Lib.contains;rw[Lib.index];have h1:=Lib.index_ge l sub;by_cases h:sub.isPrefixOf (b::l)=true
 ·rw[if_pos h,h];rfl
 ·have h':sub.isPrefixOf (b::l)=false:=Bool.eq_false_iff.2 h;rw[if_neg h,h',Bool.false_or];by_cases h2:(Lib.index l sub==-1)=true
  ·rw[if_pos h2];have:Lib.index l sub= -1:=by simpa using h2
   rw[this]
  ·rw[if_neg h2];have:Lib.index l sub≠-1:=by simpa using h2
   rw[Bool.eq_iff_iff,decide_eq_true_iff,decide_eq_true_iff];omega
theorem Gh (X T:Bytes):∀(k:Bytes),(∀c∈k,c≠32)->Lib.contains (k++32::T) (32::X)=Lib.contains (32::T) (32::X)
 | [],_=>rfl
 | c::k,h=>by
  have hc:(32==c)=false:=by
   have:=h c (by simp);rw[beq_eq_false_iff_ne];exact fun e=>this e.symm
  rw[List.cons_append,contains_cons,List.isPrefixOf,hc,Bool.false_and,Bool.false_or];exact Gh X T k (fun d hd=>h d (by simp[hd]))
theorem Hz (T:Bytes):∀(w k:Bytes),(∀c∈w,c≠32)->(∀c∈k,c≠32)->(w++[32]).isPrefixOf (k++32::T)=(w==k)
 | [],[],_,_=>by simp[List.isPrefixOf]
 | [],d::k,_,hk=>by
  have:d≠32:=hk d (by simp);have h2:((32:UInt8)==d)=false:=by rw[beq_eq_false_iff_ne];exact fun e=>this e.symm
  simp only[List.nil_append,List.cons_append,List.isPrefixOf,h2,Bool.false_and];rfl
 | c::w,[],hw,_=>by
  have:c≠32:=hw c (by simp);have h2:(c==(32:UInt8))=false:=by rw[beq_eq_false_iff_ne];exact this
  simp only[List.nil_append,List.cons_append,List.isPrefixOf,h2,Bool.false_and];rfl
 | c::w,d::k,hw,hk=>by
  simp only[List.cons_append,List.isPrefixOf];rw[Hz T w k (fun x hx=>hw x (by simp[hx])) (fun x hx=>hk x (by simp[hx]))];rfl
def joinW:List Bytes->Bytes
 | []=>[]
 | k::ks=>k++32::joinW ks
theorem Fi (w:Bytes) (hw:∀c∈w,c≠32):∀(ks:List Bytes),(∀k∈ks,∀c∈k,c≠32)->Lib.contains (32::joinW ks) (32::(w++[32]))=ks.contains w
 | [],_=>by
  have h:(w++[32]).isPrefixOf ([]:Bytes)=false:=by cases w<;>rfl
  rw[joinW,contains_cons,contains_nil,List.isPrefixOf,h];rfl
 | k::ks,hk=>by
  rw[joinW,contains_cons,Gh _ _ k (hk k (by simp)),Fi w hw ks (fun x hx=>hk x (by simp[hx]))];rw[List.isPrefixOf,Hz _ w k hw (hk k (by simp)),List.contains_cons];rfl
def wordsText:Bytes:=32::joinW keywords
theorem K8:∀k∈keywords,∀c∈k,c≠32:=by decide+kernel
theorem Gk (w:Bytes) (hw:∀c∈w,c≠32):Lib.contains wordsText (32::(w++[32]))=keywords.contains w:=Fi w hw keywords K8
theorem Wp {c:UInt8} (h:accP c=true):c≠32:=by rintro rfl;revert h;decide
theorem takeP_nosp (s:Bytes):∀c∈s.takeWhile accP,c≠32:=fun c hc=>Wp (by have:=List.all_takeWhile (p:=accP) (l:=s);exact List.all_eq_true.1 this c hc)
end Go.Proofs.YtjmmbebkbkgefaaGreatDoor
namespace Go.Proofs.YtjmmbebkbkgefaaGreatDoor
open Go.RowKit Go.Sort Tryz
theorem cr:((List.range 256).all fun c=>(decide (65<=c/\c<=90->c||| 32=c+32))&&(decide (97<=c/\c<=122->c||| 32=c))&&(decide (¬(65<=c/\c<=90)->¬(97<=c/\c<=122)->¬(97<=(c||| 32)/\(c||| 32)<=122)))&&decide ((c||| 32)<256))=true:=by decide+kernel
theorem cz (c:Nat) (h:c<256):((65<=c/\c<=90->c||| 32=c+32)/\(97<=c/\c<=122->c||| 32=c)/\(¬(65<=c/\c<=90)->¬(97<=c/\c<=122)->¬(97<=(c||| 32)/\(c||| 32)<=122)))/\(c||| 32)<256:=by
 have:=List.all_eq_true.1 cr c (by simpa using h);simp only[Bool.and_eq_true,decide_eq_true_eq]at this;exact⟨⟨this.1.1.1,this.1.1.2,this.1.2⟩,this.2⟩
theorem U5 (c:Nat) (h:c<256):bits .or .u8 (c:Int) 32=((c||| 32:Nat):Int):=by
 have:=u8_or_nat c 32 h (by decide);exact this
def hexRes:Option Nat->Value
 | some n=>.tuple #[.int .u64 n,.nilIface]
 | none=>.tuple #[.int .u64 0,.iface 271 (.int .i64 2)]
theorem H4 (t:ByteArray) (h2:t.size=2) (w:World):
 Calls prog 242 #[.string t,.int .i64 16,.int .i64 8] w fun e w'=>e=.returned (hexRes (hexs 0 t.data.toList))/\Below w.heap.size w w':=by
 have hemp:t.toList.isEmpty=false:=by
  rw[<- decide_eq_emptyBytes];exact decide_eq_false (fun h=>by rw[h]at h2;cases h2)
 have hcv:=Lib.run_convert_string_bytes (P:=prog) w 9 139 5 t (u:=.string) underlying9 underlying139 underlying5
 have hB:∀j,j<t.size->(Lib.bytesWorld w 5 t).cell? ⟨w.heap.size,j,none⟩=some (.int .u8 (t.data.toList.getD j 0).toNat):=fun j hj=>Lib.bytesWorld_cell w 5 t j hj
 have hbel:=Lib.bytesWorld_below w 5 t
 obtain⟨W1,hW1⟩:∃W1,W1=Lib.bytesWorld w 5 t:=⟨_,rfl⟩
 rw[<- hW1]at hcv hB hbel
 clear hW1
 have HBel:=Lib.hid hbel
 clear hbel
 obtain⟨bs,hL⟩:∃bs,bs=t.data.toList:=⟨_,rfl⟩
 have hLn:bs.length=t.size:=by rw[hL,Lib.size_eq]
 rw[<- hL]at hB ⊢
 clear hL
 have hmv:IntKind.u64.wrap (IntKind.u64.wrap 256 - 1)=255:=by
  rw[IntKind.wrap_u64,IntKind.wrap_u64];decide
 have HN:=Lib.hid hLn
 have HLow:=Lib.hid Tryz.internal_strconv_lower
 go_enter func242,ntmps242
 go_wp2_with fail
 go_loop [12,13,101] (fun vu vn vi=>∃(k acc:Nat) (a:Int),vu=.bool false/\vn=.int .u64 a/\vi=.int .i64 k/\k<=t.size/\Hid (a=(acc:Int)/\acc<16 ^ k/\hexs 0 bs=hexs acc (bs.drop k))) (fun _ _ vi=>t.size - (intOf vi).toNat)
 case atStart=>exact⟨0,0,0,rfl,rfl,rfl,by omega,rfl,by omega,rfl⟩
 case round=>
  obtain⟨k,acc,a,rfl,rfl,rfl,hk,hh⟩:=hrel;obtain⟨ha,hacc,hdec⟩:=hh.out;clear hh;by_cases hkn:k<t.size
  ·have hc:=hB k hkn;have hdrop:bs.drop k=bs[k]'(by omega)::bs.drop (k+1):=List.drop_eq_getElem_cons (by omega);have hget:bs.getD k 0=bs[k]'(by omega):=by simp[List.getD,List.getElem?_eq_getElem (show k<bs.length by omega)]
   rw[hdrop]at hdec;rw[hget]at hc;generalize bs[k]'(by omega)=c at hc hdec;have hc256:c.toNat<256:=c.toNat_lt;have hk2:k=0\/k=1:=by omega
   have hacc16:acc<16:=by rcases hk2 with rfl|rfl<;>simp at hacc<;>omega
   have a0:0<=a:=by omega
   have a1:a<16:=by omega
   have hlow:=U5 c.toNat hc256;have hor:=cz c.toNat hc256;obtain⟨y,hy⟩:∃y,y=c.toNat||| 32:=⟨_,rfl⟩
   rw[<- hy]at hlow hor;clear hB hdrop hget hLn hy;obtain⟨⟨o1,o2,o3⟩,o4⟩:=hor
   cases hv:hexVal c with
   | none=>
    have HR:Hid (hexs 0 bs=none):=by show _=_;rw[hdec];simp[hexs,hv]
    have hno:¬(48<=c.toNat/\c.toNat<=57)/\¬(97<=c.toNat/\c.toNat<=102)/\¬(65<=c.toNat/\c.toNat<=70):=by
     unfold hexVal at hv;repeat' split at hv
     all_goals first|(cases hv;done)|exact⟨by assumption,by assumption,by assumption⟩
    obtain⟨n1,n2,n3⟩:=hno;have hyy:¬(97<=y/\y<=122)\/(107<=y - 97+97+4/\103<=y/\y<=122):=by
     by_cases q1:65<=c.toNat/\c.toNat<=90
     ·have:=o1 q1;omega
     ·by_cases q2:97<=c.toNat/\c.toNat<=122
      ·have:=o2 q2;omega
      ·exact .inl (o3 q1 q2)
    have hcd:c.toNat<48\/57<c.toNat:=by omega
    have hyc:y<97\/122<y\/(103<=y/\y<=122):=by omega
    clear o1 o2 o3 hdec hv n1 n2 n3 hacc ha hyy hk2 hacc16
    cases h95:((c.toNat:Int)==95);all_goals
     rcases hcd with q|q<;>rcases hyc with r|r|⟨r1,r2⟩
     all_goals
      go_wp2_with(first|(go_at_call 254;refine(HLow.out _ _).mono ?_;rintro e w' ⟨rfl,rfl⟩))
      go_ret2
      exact⟨by rw[HR.out];rfl,HBel.out⟩
   | some d=>
    have HD:Hid (hexs 0 bs=hexs (acc * 16+d) (bs.drop (k+1))):=by show _=_;rw[hdec];simp[hexs,hv]
    have hcl:(48<=c.toNat/\c.toNat<=57/\d=c.toNat - 48)\/(¬(48<=c.toNat/\c.toNat<=57)/\97<=y/\y<=102/\d=y - 87):=by
     unfold hexVal at hv;repeat' split at hv
     ·rename_i q;cases hv;omega
     ·rename_i q;cases hv;have:=o2 (by omega);omega
     ·rename_i q;cases hv;have:=o1 (by omega);omega
     ·cases hv
    have hne95:c.toNat≠95:=fun e=>by simp[hexVal,e]at hv
    have hd16:d<16:=by omega
    have hpow:acc * 16+d<16 ^ (k+1):=by rcases hk2 with rfl|rfl<;>simp at hacc ⊢<;>omega
    clear o1 o2 o3 hdec hv hacc hk2;have h95:((c.toNat:Int)==95)=false:=by rw[beq_eq_false_iff_ne];omega
    clear hne95;rcases hcl with⟨q1,q2,q3⟩|⟨q0,q1,q2,q3⟩
    ·have HH:Hid (a * 16+((c.toNat:Int) - 48)=((acc * 16+d:Nat):Int)/\acc * 16+d<16 ^ (k+1)/\hexs 0 bs=hexs (acc * 16+d) (bs.drop (k+1))):=⟨by omega,hpow,HD.out⟩;have i1:(48:Int)<=(c.toNat:Int):=by omega
     have i2:(c.toNat:Int)<=57:=by omega
     clear ha hpow q3 hacc16 hd16 o4 hlow;go_wp2_with fail;go_round
     case rel=>exact⟨k+1,acc * 16+d,a * 16+((c.toNat:Int) - 48),rfl,(by first|rfl|(congr 1;omega)),(by first|rfl|go_num),by omega,HH⟩
     case measure=>simp[intOf];omega
    ·have HH:Hid (a * 16+((y:Int) - 97+10)=((acc * 16+d:Nat):Int)/\acc * 16+d<16 ^ (k+1)/\hexs 0 bs=hexs (acc * 16+d) (bs.drop (k+1))):=⟨by omega,hpow,HD.out⟩;have i1:(97:Int)<=(y:Int):=by omega
     have i2:(y:Int)<=102:=by omega
     have hcd:c.toNat<48\/57<c.toNat:=by omega
     clear ha hpow q3 hacc16 hd16 o4 q0;rcases hcd with q|q
     all_goals
      go_wp2_with(first|(go_at_call 254;refine(HLow.out _ _).mono ?_;rintro e w' ⟨rfl,rfl⟩))
      go_round
      case rel=>exact⟨k+1,acc * 16+d,a * 16+((y:Int) - 97+10),rfl,(by first|rfl|(congr 1;omega)),(by first|rfl|go_num),by omega,HH⟩
      case measure=>simp[intOf];omega
  ·have hkk:k=t.size:=by omega
   subst hkk;have HR:Hid (hexs 0 bs=some acc):=by show _=_;rw[hdec,List.drop_eq_nil_of_le (by omega)];rfl
   subst ha;clear hacc hdec hB;go_wp2_with fail;go_ret2;exact⟨by rw[HR.out];rfl,HBel.out⟩
theorem B9 {w:World} {k:Nat} {s:ByteArray} {p:Nat} (h:w.heap[k]?=some (.stringIter s p)):w.iterPos k=p:=by simp[World.iterPos,h]
def Errs (w:World):Prop:=∃t1 p1 t2 p2,w.cell? ⟨4,0,none⟩=some (.iface t1 p1)/\w.cell? ⟨5,0,none⟩=some (.iface t2 p2)
theorem Errs.kept {w w':World} (h:Errs w) (hb:Below w.heap.size w w'):Errs w':=by
 obtain⟨t1,p1,t2,p2,h1,h2⟩:=h;exact⟨t1,p1,t2,p2,hb.cell_kept h1,hb.cell_kept h2⟩
theorem Oc (t:ByteArray) (h2:t.size=2) (n:Nat) (h:hexs 0 t.data.toList=some n) (w:World):
 Calls prog 227 #[.string t,.int .i64 16,.int .i64 8] w fun e w'=>e=.returned (.tuple #[.int .u64 n,.nilIface])/\Below w.heap.size w w':=by
 have C:=Lib.hid (fun w=>H4 t h2 w)
 rw[h]at C
 clear h
 go_enter func227,ntmps227
 go_wp2_with fail
 refine(C.out _).mono ?_
 rintro e w1 ⟨rfl,hb1⟩
 have HB1:=Lib.hid hb1
 clear hb1
 unfold hexRes
 go_wp2_with fail
 go_ret2
 exact⟨rfl,HB1.out⟩
theorem Mw (t:ByteArray) (h2:t.size=2) (h:hexs 0 t.data.toList=none) (w:World) (he:Errs w):
 Calls prog 227 #[.string t,.int .i64 16,.int .i64 8] w fun e w'=>∃N,e=.returned (.tuple #[.int .u64 0,.iface 274 (.pointer (some ⟨N,0,none⟩))])/\Below w.heap.size w w':=by
 have C:=Lib.hid (fun w=>H4 t h2 w)
 rw[h]at C
 have HE:=Lib.hid he
 have T:=Lib.hid Tryz.strconv_toError_syntax
 clear h he
 go_enter func227,ntmps227
 go_wp2_with fail
 refine(C.out _).mono ?_
 rintro e w1 ⟨rfl,hb1⟩
 have HB1:=Lib.hid hb1
 obtain⟨t1,p1,_,_,hc1,_⟩:=HE.out.kept hb1
 clear hb1
 unfold hexRes
 have T1:=Lib.hid (T.out ⟨#[80,97,114,115,101,85,105,110,116]⟩ t 16 8 _ w1 (by omega) hc1 (Or.inr ⟨t1,p1,rfl⟩))
 clear hc1
 go_wp2_with fail
 refine T1.out.mono ?_
 rintro e w2 ⟨N,rfl,_,_,hb2⟩
 have HB2:=Lib.hid (HB1.out.step hb2)
 clear hb2
 go_wp2_with fail
 go_ret2
 exact⟨N,rfl,HB2.out⟩
theorem L4 {w wr:World} {u:ByteArray} {pos:Nat} {o:Value} {acc:List UInt8} (HO:OwnsBytes wr (w.heap.size+1) o acc) (HI:wr.heap[w.heap.size]?=some (.stringIter u pos)) (HB:Below w.heap.size w wr) (pos':Nat):
 OwnsBytes (wr.iterAt w.heap.size u pos') (w.heap.size+1) o acc/\(wr.iterAt w.heap.size u pos').heap[w.heap.size]?=some (.stringIter u pos')/\Below w.heap.size w (wr.iterAt w.heap.size u pos'):=by
 refine⟨own_iterAt HO HI pos',Lib.iterAt_heap _ _ _ _ _ HI,HB.trans ⟨rfl,rfl,rfl,by simp[World.iterAt],fun k hk=>?_⟩⟩
 simp only[World.iterAt]
 rw[Array.getElem?_setIfInBounds_ne (by omega)]
def quoRes:Option (List UInt8)->Value
 | some l=>.tuple #[.string ⟨l.toArray⟩,.bool true]
 | none=>.tuple #[.string ⟨#[]⟩,.bool false]
theorem On {acc:List UInt8} {c:UInt8} {o:Option (List UInt8)}:(o.map (c::·)).map (acc++·)=o.map ((acc++[c])++·):=by cases o<;>simp
theorem Ir {w:World} {base:Nat} {v:Value} {l:List UInt8} (h:OwnsBytes w base v l):(convert 139 9 v).run prog w=.ok (.string ⟨l.toArray⟩) w:=by
 cases l with
 | nil=>
  rcases h.2 with⟨hv,_⟩|⟨g,cap,cur,hv,_⟩
  ·subst hv;kernel_rfl
  ·have hv':v=.slice (some ⟨g,0,none⟩) ([]:List UInt8).length cap:=hv;rw[hv'];exact run_convert_bytes_back w 139 9 5 ⟨g,0,none⟩ cap [] underlying139 underlying5 underlying9 (fun j hj=>by simp at hj)
 | cons c l=>
  obtain⟨g,cap,hv,hc⟩:=h.string (by simp);rw[hv];exact hc
theorem Qh (s:ByteArray) (w:World) (hs:s.size<=1000000) (h:s.size<2\/s.data.toList.getD 0 0≠39\/s.data.toList.getD (s.size - 1) 0≠39):
 Calls prog 204 #[.string s] w fun e w'=>e=.returned (.tuple #[.string ⟨#[]⟩,.bool false])/\Below w.heap.size w w':=by
 by_cases h2:s.size<2
 ·clear h;go_enter func204,ntmps204;go_wp2_with fail;go_ret2;exact⟨rfl,Below.refl _ _⟩
 ·have hg:∀i (hi:i<s.size),s.data.toList.getD i 0=s[i]:=fun i hi=>by
   rw[List.getD_eq_getElem?_getD,List.getElem?_eq_getElem (by simpa using hi)];rfl
  rw[hg 0 (by omega),hg (s.size - 1) (by omega)]at h;have h0:0<s.size:=by omega
  have hl:s.size - 1<s.size:=by omega
  have e39:∀c:UInt8,((c.toNat:Int) != 39)=!decide (c=39):=fun c=>by
   rw[Bool.eq_iff_iff];simp[<- UInt8.toNat_inj];omega
  by_cases hq:s[0]=39
  ·have hq2:¬s[s.size - 1]=39:=by
    rcases h with h|h|h
    ·omega
    ·exact absurd hq h
    ·exact h
   have t1:((s[0].toNat:Int) != 39)=false:=by rw[e39];simp[hq]
   have t2:((s[s.size - 1].toNat:Int) != 39)=true:=by rw[e39];simp[hq2]
   have e1:(s.size:Int) - 1=((s.size - 1:Nat):Int):=by omega
   clear h hq hq2 hg e39;go_enter func204,ntmps204;go_wp2_with fail;go_ret2;exact⟨rfl,Below.refl _ _⟩
  ·have t1:((s[0].toNat:Int) != 39)=true:=by rw[e39];simp[hq]
   clear h hq hg e39;go_enter func204,ntmps204;go_wp2_with fail;go_ret2;exact⟨rfl,Below.refl _ _⟩
theorem Z3 (n:Nat) (h:n<256) (w:World):(convert 278 5 (.int .u64 (n:Int))).run prog w=.ok (.int .u8 (n:Int)) w:=by
 have h1:IntKind.u8.wrap (n:Int)=n:=by rw[IntKind.wrap_u8];omega
 go_simp
theorem X7 {a b:UInt8} {n:Nat} (h:hexs 0 [a,b]=some n):n<256/\a.toNat<128/\b.toNat<128:=by
 have hv:∀{c:UInt8} {d:Nat},hexVal c=some d->d<16/\c.toNat<128:=fun{c d} h=>by
  unfold hexVal at h;repeat' split at h
  all_goals first|(cases h;done)|(cases h;omega)
 simp only[hexs]at h
 cases ha:hexVal a with
 | none=>rw[ha]at h;cases h
 | some x=>
  rw[ha]at h;simp only at h
  cases hb:hexVal b with
  | none=>rw[hb]at h;cases h
  | some y=>
   rw[hb]at h;simp only[Option.some.injEq]at h;have h1:=hv ha;have h2:=hv hb;omega
theorem I5 {u:ByteArray} {i:Nat} (h:i<u.size):u.data.toList.drop i=u[i]::u.data.toList.drop (i+1):=by
 rw[List.drop_eq_getElem_cons (by simpa using h)];rfl
theorem Uk (s:ByteArray) (w:World) (hs:s.size<=1000000) (he:Errs w) (h2:2<=s.size) (hq0:s[0]=39) (hq1:s[s.size - 1]=39) (u:ByteArray) (hu:u=s.extract 1 (s.size - 1)):
 Calls prog 204 #[.string s] w fun e w'=>e=.returned (quoRes (unq u.data.toList))/\Below w.heap.size w w':=by
 have h0:0<s.size:=by omega
 have hl:s.size - 1<s.size:=by omega
 have t1:((s[0].toNat:Int) != 39)=false:=by rw[hq0];rfl
 have t2:((s[s.size - 1].toNat:Int) != 39)=false:=by rw[hq1];rfl
 have e1:(s.size:Int) - 1=((s.size - 1:Nat):Int):=by omega
 have hus:u.size<=1000000:=by rw[hu];simp;omega
 have HE:=Lib.hid he
 have hsl:s.extract 1 (s.size - 1)=u:=hu.symm
 clear hq0 hq1 he hu
 go_enter func204,ntmps204
 go_wp2_with fail
 clear t1 t2 e1 hsl
 go_loopw [4,5] (fun o sk wr=>∃(pos k:Nat) (acc:List UInt8),pos+k<=u.size/\k<=2/\acc.length<=pos+k/\sk=.int .i64 k/\Hid (∀j (hj:j<u.size),pos<=j->j<pos+k->(u[j]).toNat<128)/\Hid (OwnsBytes wr (w.heap.size+1) o acc)/\Hid (wr.heap[w.heap.size]?=some (.stringIter u pos))/\Hid (unq u.data.toList=(unq (u.data.toList.drop (pos+k))).map (acc++·))/\Hid (Below w.heap.size w wr)) (fun _ _ wr=>u.size - wr.iterPos w.heap.size)
 case atStart=>exact⟨0,0,[],by omega,by omega,by simp,rfl,fun j hj h1 h2=>by omega,World.ownsRow_nil _ _ _ _,World.iter_heap _ _ _,by show _=_;simp,(Below.refl _ _).alloc (Nat.le_refl _) _⟩
 case round=>
  obtain⟨pos,k,acc,hpk,hk2,hal,rfl,HA,HO,HI,HU,HB⟩:=hrel;by_cases hlt:pos<u.size
  ·by_cases hasc:u[pos].toNat<128
   ·have hnx:=fun ty=>Lib.run_next_ascii_at (P:=prog) wr w.heap.size u pos ty HI.out hlt hasc;obtain⟨hO1,hI1,hB1⟩:=L4 HO.out HI.out HB.out (pos+1);have HO1:=Lib.hid hO1;have HI1:=Lib.hid hI1;have HB1:=Lib.hid hB1;clear hO1 hI1 hB1;by_cases hk0:0<k
    ·go_wp2_with fail;go_roundw
     case rel=>exact⟨pos+1,k - 1,acc,by omega,by omega,by omega,by go_num,fun j hj h1 h2=>HA.out j hj (by omega) (by omega),HO1.out,HI1.out,by have:=HU.out;rwa [show pos+1+(k - 1)=pos+k by omega],HB1.out⟩
     case measure=>rw[B9 HI1.out,B9 HI.out];omega
    ·obtain rfl:k=0:=by omega
     have HU0:=Lib.hid HU.out;rw[Nat.add_zero,I5 hlt]at HU0;clear HU HA;have hc256:u[pos].toNat<256:=u[pos].toNat_lt;by_cases h92:u[pos]=92
     ·rw[h92]at HU0;have t92:((u[pos].toNat:Int)==92)=true:=by rw[h92];rfl
      clear h92;by_cases hin:pos+2<u.size
      ·have hp1:pos+1<u.size:=by omega
       have hdd:u.data.toList.drop (pos+1)=u[pos+1]::u[pos+2]::u.data.toList.drop (pos+3):=by rw[I5 hp1,I5 hin]
       rw[hdd]at HU0;obtain⟨t,ht⟩:∃t,t=u.extract (pos+1) (pos+3):=⟨_,rfl⟩;have htl:t.data.toList=[u[pos+1],u[pos+2]]:=by
        rw[ht,ByteArray.data_extract,Array.toList_extract,List.extract_eq_take_drop,hdd,show pos+3 - (pos+1)=2 by omega];rfl
       have ht2:t.size=2:=by have:t.data.toList.length=t.size:=Array.length_toList;rw[htl]at this;simpa using this.symm
       have hex:u.extract (pos+1) (pos+3)=t:=ht.symm;have HE1:=Lib.hid (HE.out.kept HB1.out);clear hdd ht;have HTL:=Lib.hid htl
       cases hx:hexs 0 [u[pos+1],u[pos+2]]with
       | none=>
        have HR:Hid (unq u.data.toList=none):=by show _=_;rw[HU0.out,Nq hx];rfl
        have C:=Lib.hid (fun w h=>Mw t ht2 (by rw[htl];exact hx) w h);clear htl hx HU0;go_wp2_with fail;refine(C.out _ HE1.out).mono ?_;rintro e w1 ⟨N,rfl,hb1⟩;have HB2:=Lib.hid (HB1.out.step hb1);clear hb1;go_wp2_with fail;refine Ab 23 [(0,false),(1,false),(2,false),(3,false),(4,false),(5,false),(6,false),(7,false),(8,false),(9,false),(10,false),(11,false),(12,false),(13,false),(14,false),(15,false),(16,false),(17,false),(18,false),(19,false),(20,false),(21,false),(22,false)] (by kernel_rfl) (by kernel_rfl) ?_;repeat(refine An rfl (fun K hK=>?_);go_simp;first|(refine hK _ ?_;clear hK K)|(apply Exists.intro;refine⟨fun _=>?_,hK _ ?_⟩;(fail);clear hK K))
        refine A3 ?_;intro w2 _ hb2;have HB3:=Lib.hid (HB2.out.step hb2);clear hb2;go_wp2_with fail;go_ret2;exact⟨by rw[HR.out];rfl,HB3.out⟩
       | some n=>
        obtain⟨hn256,ha128,hb128⟩:=X7 hx;have cv:=fun w=>Z3 n hn256 w;have C:=Lib.hid (fun w=>Oc t ht2 n (by rw[htl];exact hx) w);have P1:Hid (∀w,Calls prog 188 #[.int .u8 (n:Int)] w fun e w'=>e=.returned (.bool (plainB (n:Int)))/\Laid w w'):=fun w=>(Ho (n:Int) w).mono (by rintro e w' ⟨rfl,rfl⟩;exact⟨rfl,Below.refl _ _⟩);have T1:Hid (∀w,Calls prog 228 #[.string t] w fun e w'=>e=.returned (.string ⟨(Lib.toLowerA [u[pos+1],u[pos+2]]).toArray⟩)/\Laid w w'):=fun w=>by
         have:=Tryz.strings_ToLower_ascii t w (by omega) (fun j b hb=>by
          rw[htl]at hb
          match j,hb with
          | 0,hb=>simp at hb;subst hb;exact ha128
          | 1,hb=>simp at hb;subst hb;exact hb128
          | j+2,hb=>simp at hb)
         rw[htl]at this;exact this
        obtain⟨lb,hlb⟩:∃lb,lb=(Lib.toLowerA [u[pos+1],u[pos+2]] != [u[pos+1],u[pos+2]]):=⟨_,rfl⟩;obtain⟨X,hX⟩:∃X,X=Lib.toLowerA [u[pos+1],u[pos+2]]:=⟨_,rfl⟩;have f1:((⟨X.toArray⟩:ByteArray).toList==t.toList)=!lb:=by rw[ByteArray.toList_eq,ByteArray.toList_eq,htl,hlb,<- hX];simp[bne]
        have f2:(X==t.toList)=!lb:=by rw[ByteArray.toList_eq,htl,hlb,<- hX];simp[bne]
        rw[<- hX]at T1;have HLB:=Lib.hid hlb;clear htl hlb hX;go_wp2_with fail;refine(C.out _).mono ?_;rintro e w1 ⟨rfl,hb1⟩;have HB2:=Lib.hid (HB1.out.step hb1);have HO2:=Lib.hid (HO1.out.kept hb1);have HI2:=Lib.hid (hb1.blk_kept HI1.out);clear hb1;go_wp2_with fail
        cases hp:plainB (n:Int)
        ·rw[hp]at P1;have HPl:=Lib.hid hp;clear hp;have n1:((pos:Int)+1).toNat=pos+1:=by omega
         have n3:((pos:Int)+3).toNat=pos+3:=by omega
         have g1:(0:Int)<=(pos:Int)+1:=by omega
         have g3:(pos:Int)+1<=(pos:Int)+3:=by omega
         have g4:(pos:Int)+3<=(u.size:Int):=by omega
         have x1:IntKind.i64.wrap ((pos:Int)+1)=(pos:Int)+1:=IntWalk.i64_in _ (by omega);have x3:IntKind.i64.wrap ((pos:Int)+3)=(pos:Int)+3:=IntWalk.i64_in _ (by omega)
         cases lb;all_goals
          refine Ab 23 [(0,false),(1,false),(2,false),(3,false),(4,false),(5,false),(6,false),(7,false),(8,false),(9,false),(10,false),(11,false),(12,false),(13,false),(14,false),(15,false),(16,false),(17,false),(18,false),(19,false),(20,false),(21,false),(22,false)] (by kernel_rfl) (by kernel_rfl) ?_
          repeat(refine An rfl (fun K hK=>?_);go_simp;first|(refine hK _ ?_;clear hK K)|(apply Exists.intro;refine⟨fun _=>?_,hK _ ?_⟩;(first|with_reducible exact P1.out _|with_reducible exact T1.out _);clear hK K))
          refine A3 ?_
          intro w2 _ hb2
          have HB3:=Lib.hid (HB2.out.step hb2)
          have HO3:=Lib.hid (HO2.out.kept hb2)
          have HI3:=Lib.hid (hb2.blk_kept HI2.out)
          clear hb2 x1 x3 n1 n3 g1 g3 g4
         ·have HR:Hid (unq u.data.toList=(unq (u.data.toList.drop (pos+3))).map ((acc++[UInt8.ofNat n])++·)):=by show _=_;rw[HU0.out,Y9 hx HPl.out HLB.out.symm,On]
          have hof:((UInt8.ofNat n).toNat:Int)=n:=by simp;omega
          have HOF:=Lib.hid hof;clear hof hx;go_wp2_with(at_builtin;go_must (refine Bz rfl _ _ 139 rfl 5 (.int .u8 0) 1 underlying139 O3 rfl (w.heap.size+1) u4 _ _ rfl HO3.out #[.int .u8 (n:Int)] _ rfl rfl (by simp[Value.oneCell']) (by simp;omega) (by simp[maxLen];omega) (by have:=(Array.getElem?_eq_some_iff.1 HI3.out).1;omega) ?_));intro v3 w3 hown3 hg3;have HO4:=Lib.hid hown3;have HB4:Hid (Below w.heap.size w w3):=Below.grown HB3.out hg3 HB3.out.size (fun k hk=>by have:=(World.ownsRow.lt HO3.out k hk).1;omega);have HI4:Hid (w3.heap[w.heap.size]?=some (.stringIter u (pos+1))):=by
           show _=_;rw[hg3.block _ (Array.getElem?_eq_some_iff.1 HI3.out).1 (fun e=>by have:=(World.ownsRow.lt HO3.out _ e.symm).1;omega)];exact HI3.out
          clear hown3 hg3;go_wp2_with fail;go_roundw
          case rel=>exact⟨pos+1,2,acc++[UInt8.ofNat n],by omega,by omega,by simp;omega,rfl,fun j hj h1 h2=>by
           have hj':j=pos+1\/j=pos+2:=by omega
           rcases hj' with rfl|rfl
           ·exact ha128
           ·exact hb128,OwnsBytes.of HO4.out (by rw[B5];simp only[bytesV,List.map_cons,List.map_nil,HOF.out]),HI4.out,HR.out,HB4.out⟩
          case measure=>rw[B9 HI4.out,B9 HI.out];omega
         ·have HR:Hid (unq u.data.toList=none):=by show _=_;rw[HU0.out,Fz hx (Or.inr HLB.out.symm)];rfl
          go_wp2_with fail;go_ret2;exact⟨by rw[HR.out];rfl,HB3.out⟩
        ·rw[hp]at P1;have HR:Hid (unq u.data.toList=none):=by show _=_;rw[HU0.out,Fz hx (Or.inl hp)];rfl
         refine Ab 23 [(0,false),(1,false),(2,false),(3,false),(4,false),(5,false),(6,false),(7,false),(8,false),(9,false),(10,false),(11,false),(12,false),(13,false),(14,false),(15,false),(16,false),(17,false),(18,false),(19,false),(20,false),(21,false),(22,false)] (by kernel_rfl) (by kernel_rfl) ?_;repeat(refine An rfl (fun K hK=>?_);go_simp;first|(refine hK _ ?_;clear hK K)|(apply Exists.intro;refine⟨fun _=>?_,hK _ ?_⟩;(first|with_reducible exact P1.out _);clear hK K))
         refine A3 ?_;intro w2 _ hb2;have HB3:=Lib.hid (HB2.out.step hb2);clear hb2;go_wp2_with fail;go_ret2;exact⟨by rw[HR.out];rfl,HB3.out⟩
      ·have HR:Hid (unq u.data.toList=none):=by
        show _=_;rw[HU0.out,Tt (by rw[List.length_drop];have:u.data.toList.length=u.size:=Array.length_toList;omega)];rfl
       go_wp2_with fail;go_ret2;exact⟨by rw[HR.out];rfl,HB1.out⟩
     ·have t92:((u[pos].toNat:Int)==92)=false:=by
       rw[beq_eq_false_iff_ne];intro e;exact h92 (UInt8.toNat_inj.1 (by simp;omega))
      have HP:=Lib.hid (fun w=>Ho (u[pos].toNat:Int) w)
      cases hp:plainB (u[pos].toNat:Int)
      ·have HR:Hid (unq u.data.toList=none):=by show _=_;rw[HU0.out,Si h92 hp];rfl
       rw[hp]at HP;clear hp h92 HU0;by_cases h126:126<u[pos].toNat
       ·go_wp2_with fail;go_ret2;exact⟨by rw[HR.out];rfl,HB1.out⟩
       ·go_wp2_with fail;refine(HP.out _).mono ?_;rintro e w' ⟨rfl,rfl⟩;go_wp2_with fail;go_ret2;exact⟨by rw[HR.out];rfl,HB1.out⟩
      ·have HR:Hid (unq u.data.toList=(unq (u.data.toList.drop (pos+1))).map ((acc++[u[pos]])++·)):=by show _=_;rw[HU0.out,Tu h92 hp,On]
       have h126:u[pos].toNat<=126:=by unfold plainB at hp;simp at hp;omega
       rw[hp]at HP;clear hp h92 HU0;go_wp2_with fail;refine(HP.out _).mono ?_;rintro e w' ⟨rfl,rfl⟩;go_wp2_with(at_builtin;go_must (refine Bz rfl _ _ 139 rfl 5 (.int .u8 0) 1 underlying139 O3 rfl (w.heap.size+1) u4 _ _ rfl HO1.out #[.int .u8 (u[pos].toNat:Int)] _ rfl rfl (by simp[Value.oneCell']) (by simp;omega) (by simp[maxLen];omega) (by have:=(Array.getElem?_eq_some_iff.1 HI1.out).1;omega) ?_));intro v3 w3 hown3 hg3;have HO3:=Lib.hid hown3;have HB3:Hid (Below w.heap.size w w3):=Below.grown HB1.out hg3 HB1.out.size (fun k hk=>by have:=(World.ownsRow.lt HO1.out k hk).1;omega);have HI3:Hid (w3.heap[w.heap.size]?=some (.stringIter u (pos+1))):=by
        show _=_;rw[hg3.block _ (Array.getElem?_eq_some_iff.1 HI1.out).1 (fun e=>by have:=(World.ownsRow.lt HO1.out _ e.symm).1;omega)];exact HI1.out
       clear hown3 hg3;go_wp2_with fail;go_roundw
       case rel=>exact⟨pos+1,0,acc++[u[pos]],by omega,by omega,by simp;omega,rfl,fun j hj h1 h2=>by omega,OwnsBytes.of HO3.out (by rw[B5];rfl),HI3.out,HR.out,HB3.out⟩
       case measure=>rw[B9 HI3.out,B9 HI.out];omega
   ·have hk0:k=0:=by
     rcases Nat.eq_zero_or_pos k with h|h
     ·exact h
     ·exact absurd (HA.out pos hlt (Nat.le_refl _) (by omega)) hasc
    subst hk0;have hnx:=fun ty=>Lib.run_next_any_at (P:=prog) wr w.heap.size u pos ty HI.out hlt;have hd:=(decode_high u pos hlt (by omega)).1;obtain⟨_,_,hB1⟩:=L4 HO.out HI.out HB.out (pos+(Utf8.decode u pos).2);have HB1:=Lib.hid hB1;have HR:Hid (unq u.data.toList=none):=by
     show _=_;have:=HU.out;rw[Nat.add_zero,I5 hlt]at this;rw[this,Si (fun e=>by rw[e]at hasc;exact hasc (by decide)) (by unfold plainB;simp;omega)];rfl
    clear hB1 HU HA;have t92:(((Utf8.decode u pos).1:Int)==92)=false:=by rw[beq_eq_false_iff_ne];omega
    generalize (Utf8.decode u pos).1=r at *;generalize (Utf8.decode u pos).2=wd at *;have hd2:126<(r:Int):=by omega
    go_wp2_with fail;go_ret2;exact⟨by rw[HR.out];rfl,HB1.out⟩
  ·have hk0:k=0:=by omega
   subst hk0;have hpe:pos=u.size:=by omega
   subst hpe;have hnx:=fun ty=>Lib.run_next_end_at (P:=prog) wr w.heap.size u u.size ty HI.out (by omega);have HR:Hid (unq u.data.toList=some acc):=by
    show _=_;rw[HU.out,List.drop_of_length_le (by have:u.data.toList.length=u.size:=Array.length_toList;omega)];simp[unq]
   have hcv:=Ir HO.out;go_wp2_with fail;go_ret2;exact⟨by rw[HR.out];rfl,HB.out⟩
theorem Qi (s:ByteArray) (w:World) (hs:s.size<=1000000) (he:Errs w):
 Calls prog 204 #[.string s] w fun e w'=>e=.returned (quoRes (quo s.data.toList))/\Below w.heap.size w w':=by
 have hl:s.data.toList.length=s.size:=Array.length_toList
 unfold quo
 rw[hl]
 split
 ·rename_i h;exact Qh s w hs h
 ·rename_i h;have h':2<=s.size/\s.data.toList.getD 0 0=39/\s.data.toList.getD (s.size - 1) 0=39:=by
   simp only[not_or,Decidable.not_not]at h;exact⟨by omega,h.2.1,h.2.2⟩
  have hg:∀i (hi:i<s.size),s.data.toList.getD i 0=s[i]:=fun i hi=>by
   rw[List.getD_eq_getElem?_getD,List.getElem?_eq_getElem (by simpa using hi)];rfl
  obtain⟨h2,q0,q1⟩:=h';rw[hg 0 (by omega)]at q0;rw[hg (s.size - 1) (by omega)]at q1;have e:(s.extract 1 (s.size - 1)).data.toList=(s.data.toList.drop 1).take (s.size - 2):=by
   rw[ByteArray.data_extract,Array.toList_extract,List.extract_eq_take_drop];congr 1
  rw[<- e];exact Uk s w hs he h2 q0 q1 _ rfl
end Go.Proofs.YtjmmbebkbkgefaaGreatDoor
