/- Laws that the last part needs. No condition. -/
import Derived.Test.YtimoefagohifaaaGreatDoorA42
import Derived.Test.YtimoefagohifaaaGreatDoorA46
set_option maxHeartbeats 8000000
set_option maxRecDepth 100000
namespace Go.Proofs.YtimoefagohifaaaGreatDoor
open Go.Proofs.Tryz
theorem aep {x:Stm} (h:x.formed=true) (l:List (Bytes×Bytes)) (hl:l.map (·.2)=stmP x) (hsp:∀y∈l,∀c∈y.1,accS c=true) (hne:∀y∈l.tail,y.1≠[]) (hlen:(spaced l).length<=4000):parseS (spaced l)=.ok x:=by
 have hall:∀y∈l,(partTok y.2).isSome=true:=fun y hy=>gz h y.2 (by rw[<- hl];exact zd.2 ⟨y,hy,rfl⟩);have h1:=Om l [] ⟨hsp,hne,hall⟩ acx (by rw[vr];exact hlen);rw[vr]at h1;have h2:=Gk l 0 hall;rw[hl]at h2;unfold parseS;rw[h1];simp only[Wq h h2];rw[if_pos h]
section
open Go.RowKit Go.Sort
theorem ag9 (s:Bytes) (i:Nat) (h:i<s.length):∃c r,s.drop i=c::r/\∃hi:i<(⟨s.toArray⟩:ByteArray).size,(⟨s.toArray⟩:ByteArray)[i]'hi=c:=by
 refine⟨s[i],s.drop (i+1),ww h,by show i<s.toArray.size;simpa using h,?_⟩;show s.toArray[i]'_=_;simp
theorem ae3 (s:Bytes) (p k:Nat):(⟨s.toArray⟩:ByteArray).extract p (p+k)=⟨((s.drop p).take k).toArray⟩:=by
 rw[Dr];simp
end
def blankB (n:Nat):Bytes:=if n % 4=0 then[32]else if n % 4=1 then[10]else if n % 4=2 then[9,32]else[32,32,10]
theorem ac9 (n:Nat):blankB n≠[]/\∀c∈blankB n,accS c=true:=by
 unfold blankB;split
 ·exact⟨by simp,by decide⟩
 ·split
  ·exact⟨by simp,by decide⟩
  ·split
   ·exact⟨by simp,by decide⟩
   ·exact⟨by simp,by decide⟩
def respF (sp:Nat->Nat):Nat->Bool->Bytes->Bytes
 | _,_,[]=>[]
 | i,ins,c::r=>(if c=32/\(if c=39 then !ins else ins)=false then blankB (sp i)else[c])++respF sp (i+1) (if c=39 then !ins else ins) r
theorem afh {c:UInt8} (h:accP c=true):c≠39/\c≠32:=by
 refine⟨?_,?_⟩<;>rintro rfl<;>revert h<;>decide
theorem sign_plain:∀g∈signs,∀c∈g,c≠39/\c≠32:=acy
theorem afw {p:Bytes} (h:(partTok p).isSome=true):(∀c∈p,c≠39/\c≠32)\/∃t,p=39::(t++[39])/\∀c∈t,c≠39:=by
 obtain⟨x,hx⟩:=ye.1 h;obtain⟨c,q,rfl⟩:∃c q,p=c::q:=by
  cases p with
  | nil=>exact absurd rfl (Vi hx)
  | cons c q=>exact⟨c,q,rfl⟩
 unfold partTok at hx
 cases ht:tokenR (c::q)with
 | error e=>rw[ht]at hx;cases hx
 | ok y=>
  obtain⟨t,n⟩:=y;rw[ht]at hx;simp only at hx;split at hx
  ·rename_i hn;simp only[tokenR]at ht;have acc:((c::q).takeWhile accP).length=(c::q).length->(∀d∈c::q,d≠39/\d≠32):=fun hl d hd=>afh (El hl d hd);split at ht
   ·split at ht
    ·cases ht;exact .inl (acc hn)
    ·split at ht
     ·cases ht;exact .inl (acc hn)
     ·cases ht
   ·split at ht
    ·split at ht
     ·split at ht
      ·cases ht
      ·cases ht;exact .inl (acc hn)
     ·cases ht
    ·split at ht
     ·rename_i hc;subst hc;split at ht
      ·cases ht
      ·rename_i u hu;obtain⟨z,hz,hz1⟩:=Na hu;split at ht
       ·split at ht
        ·cases ht;refine .inr ⟨u,?_,hz1⟩;rw[hz]at hn;simp only[tw,ua]at hn;have:z=[]:=ut acw;rw[hz,this]
        ·cases ht
       ·cases ht
     ·split at ht
      ·rename_i g hg
       cases ht;obtain⟨hgs,hpre⟩:=I9 hg;have:=abx.1 hpre;have e:=this.eq_of_length hn;rw[<- e];exact .inl (sign_plain g hgs)
      ·cases ht
  ·cases hx
theorem ad4 (sp:Nat->Nat):∀(p:Bytes) (i:Nat) (r:Bytes),(∀c∈p,c≠39/\c≠32)->respF sp i false (p++r)=p++respF sp (i+p.length) false r
 | [],i,r,_=>by simp
 | c::p,i,r,h=>by
  have hc:=h c acx;simp only[tz,respF,hc.1,hc.2,wy,false_and,uc];rw[ad4 sp p (i+1) r (fun d hd=>h d (by simp[hd]))];congr 2;congr 1;exact Zm
theorem afj (sp:Nat->Nat):∀(t:Bytes) (i:Nat) (r:Bytes),(∀c∈t,c≠39)->respF sp i true (t++39::r)=t++39::respF sp (i+t.length+1) false r
 | [],i,r,_=>by simp[respF]
 | c::t,i,r,h=>by
  have hc:=h c acx;simp only[tz,respF,hc,wy,Bool.true_eq_false,and_false,uc];rw[afj sp t (i+1) r (fun d hd=>h d (by simp[hd]))];congr 4;exact Zm
theorem aee (sp:Nat->Nat) {p:Bytes} (h:(partTok p).isSome=true) (i:Nat) (r:Bytes):respF sp i false (p++r)=p++respF sp (i+p.length) false r:=by
 rcases afw h with h|⟨t,rfl,ht⟩
 ·exact ad4 sp p i r h
 ·simp only[tz,uv,uc,respF,if_true,Bool.not_false,Bool.true_eq_false,and_false,wy];rw[afj sp t (i+1) r ht];congr 4;simp only[tw,ua,tx];omega
theorem aef (sp:Nat->Nat):∀(l:List Bytes) (i:Nat) (pre:Bytes),l≠[]->AllTok l->pre≠[]->(∀c∈pre,accS c=true)->∃L:List (Bytes×Bytes),L.map (·.2)=l/\pre++respF sp i false (joinSp l)=spaced L/\(∀y∈L,∀c∈y.1,accS c=true)/\∀y∈L,y.1≠[]
 | [],_,_,h,_,_,_=>absurd rfl h
 | [p],i,pre,_,hp,hn,ha=>by
  have:=aee sp (hp p acx) i [];simp only[vr,respF]at this;exact⟨[(pre,p)],rfl,by simp[joinSp,spaced,this],by simpa using ha,by simpa using hn⟩
 | p::q::l,i,pre,_,hp,hn,ha=>by
  obtain⟨L,e1,e2,e3,e4⟩:=aef sp (q::l) (i+p.length+1) (blankB (sp (i+p.length))) acx (fun x hx=>hp x (by simp[uw.1 hx])) (ac9 _).1 (ac9 _).2;refine⟨(pre,p)::L,by simp[e1],?_,?_,?_⟩
  ·simp only[joinSp,spaced];rw[aee sp (hp p acx)];simp only[respF,if_neg (show(32:UInt8)≠39 by decide),and_self,if_true];rw[e2,uv]
  ·intro y hy;rcases uw.1 hy with rfl|hy
   ·exact ha
   ·exact e3 y hy
  ·intro y hy;rcases uw.1 hy with rfl|hy
   ·exact hn
   ·exact e4 y hy
theorem stmP_ne {x:Stm} (h:x.formed=true):stmP x≠[]:=by
 intro e;have:=Wq (sz:=0) h (lp:=[]) (by rw[e];exact Carries.nil);simp[stmtR,tk,wantsR,stopR,Res.bind]at this
theorem ad6 {x:Stm} (h:x.formed=true) (sp:Nat->Nat) (n:Nat) (hl:(blankB n++respF sp 0 false (joinSp (stmP x))).length<=4000):parseS (blankB n++respF sp 0 false (joinSp (stmP x)))=.ok x:=by
 obtain⟨L,e,e2,e3,e4⟩:=aef sp (stmP x) 0 (blankB n) (stmP_ne h) (gz h) (ac9 _).1 (ac9 _).2;rw[e2]at hl ⊢;exact aep h L e e3 (fun y hy=>e4 y (List.mem_of_mem_tail hy)) hl
section
open Go.RowKit Go.Sort
def u8E:ElRep UInt8 where
 k:=1
 In _ _ c cs:=cs=[.int .u8 (c.toNat:Int)]
 val cs:=cs.headD undef
 len h:=by subst h;rfl
 ones h u hu:=by subst h;simp only[vh]at hu;subst hu;rfl
 move _ h:=h
def blanksC:Array Value:=#[.string (Y [32]),.string (Y [10]),.string (Y [9,32]),.string (Y [32,32,10])]
theorem aem (n:Nat):(blankB n).length<=3:=by
 unfold blankB;split
 ·decide
 ·split
  ·decide
  ·split<;>decide
theorem ae5 (a b:Bytes):(⟨a.toArray⟩:ByteArray)++⟨b.toArray⟩=⟨(a++b).toArray⟩:=by
 apply ByteArray.ext;simp
theorem aha {t q:Bytes} {c:UInt8} {k:Nat} (pre:Bytes) (hu:t.drop k=c::q):(⟨pre.toArray⟩:ByteArray)++(⟨t.toArray⟩:ByteArray).extract k (k+1)=⟨(pre++[c]).toArray⟩:=by
 rw[ae3,hu,ae5];rfl
theorem agj {c:UInt8} (d:UInt8) (h:c≠d):((c.toNat:Int)==(d.toNat:Int))=false:=by
 rw[us];intro e;exact h (UInt8.toNat_inj.1 acw)
theorem resp_step (sp:Nat->Nat) {t q:Bytes} {c:UInt8} {k:Nat} (ins:Bool) (hu:t.drop k=c::q):respF sp k ins (t.drop k)=(if c=32/\(if c=39 then !ins else ins)=false then blankB (sp k)else[c])++respF sp (k+1) (if c=39 then !ins else ins) (t.drop (k+1)):=by
 have hq:t.drop (k+1)=q:=by
  have:=congrArg (List.drop 1) hu;simpa[List.drop_drop]using this
 rw[hu,hq];rfl
theorem resp_q {sp:Nat->Nat} {t q T pre:Bytes} {k:Nat} {ins:Bool} (hu:t.drop k=39::q) (h:pre++respF sp k ins (t.drop k)=T):(pre++[39])++respF sp (k+1) (!ins) (t.drop (k+1))=T:=by
 rw[<- h,resp_step sp ins hu,if_neg (fun e=>absurd e.1 acy),if_pos rfl,uv]
theorem ahm {sp:Nat->Nat} {t q T pre:Bytes} {k:Nat} (hu:t.drop k=32::q) (h:pre++respF sp k false (t.drop k)=T):(pre++blankB (sp k))++respF sp (k+1) false (t.drop (k+1))=T:=by
 rw[<- h,resp_step sp false hu,if_neg (show ¬(32:UInt8)=39 by decide),if_pos ⟨rfl,rfl⟩,uv]
theorem resp_c {sp:Nat->Nat} {t q T pre:Bytes} {k:Nat} {ins:Bool} {c:UInt8} (h39:c≠39) (h32:¬(c=32/\ins=false)) (hu:t.drop k=c::q) (h:pre++respF sp k ins (t.drop k)=T):(pre++[c])++respF sp (k+1) ins (t.drop (k+1))=T:=by
 rw[<- h,resp_step sp ins hu,if_neg h39,if_neg h32,uv]
theorem ae6 {w0 W:World} {L:List Blk} {i g:Nat} (S:St w0 W L) (hi:L[i]?=some (g,blanksC,9)) (n:Nat):W.cell? ⟨g,n % 4,none⟩=some (.string ⟨(blankB n).toArray⟩):=by
 have h4:n % 4=0\/n % 4=1\/n % 4=2\/n % 4=3:=acw;refine(Aa (o:=n % 4) (S.blk i hi) ?_).1;unfold blankB;rcases h4 with h|h|h|h<;>rw[h]<;>rfl
theorem ag6 (HS:SanityAt) (x:Stm) (s:SV) (v:Value) (bs:List UInt8) (w:World) (h:StmIn (·<w.heap.size) w s x) (hwf:x.Wf) (hl:x.lists<=4611686018427387904) (ht:x.txt<=4611686018427387904) (hv:RSl u8E (fun _=>True) w v bs) (_hbl:bs.length<=4611686018427387904) (he:Env w.heap.size w):Calls prog 6 #[.agg s.arr,v] w (fun e w'=>e=.returned (.bool true)/\Below w.heap.size w w'):=by
 have HE:=tm he;have C:=tm HS;have FW:=tm (fun W (h:StmIn (·<w.heap.size) W s x)=>aet _ x s W h hl);have PR:=tm (fun W (h:StmIn (·<w.heap.size) W s x) (he:Env W.heap.size W) (hs:w.heap.size<=W.heap.size)=>Ph x s W (h.mono (fun _ hb=>vw hb hs)) he hwf hl ht);obtain⟨va,vc,rfl⟩:=hv.slice;have HV:=tm hv;have S:Hid (St w (w.alloc (.cells s.arr 50)) [(w.heap.size,s.arr,50)]):=St.alloc (St.start w);have H:Hid (StmIn (·<w.heap.size) w s x):=h;clear h hwf hl ht he HS hv;go_enter func6,ntmps6;go_upto_region 1 with fail;refine St.gen S.out ?_;clear S;intro w1 S;go_wp2_with fail;refine tp (C.out w.heap.size w1 (HE.out.kept S.out.below)) ?_;rintro e w2 ⟨rfl,hb⟩;replace S:=tm (S.out.kept hb);clear hb;go_upto_region 2 with fail;go_wp2_with(refine ux rfl 50 (.tmp 2) rfl w.heap.size rfl 50 s.arr (0,0) _ (S.out.blk 0 rfl) underlying50 rfl (sv_size _) ?_);refine tp (FW.out w2 (H.out.kept S.out.below)) ?_;rintro e w3 ⟨b,rfl,hb⟩;replace S:=tm (S.out.kept hb);clear hb FW
 cases b with
 | false=>exact z1033
 | true=>
  by_cases hbz:bs=[]
  ·have hz:bs.length=0:=by rw[hbz];rfl
   rw[hz];exact z1033
  have hlz:0<bs.length:=aib.2 hbz;have hnz:((bs.length:Int)==0)=false:=by simpa using hbz
  go_upto_region 4 with fail;go_wp2_with(refine ux rfl 50 (.tmp 2) rfl w.heap.size rfl 50 s.arr (0,0) _ (S.out.blk 0 rfl) underlying50 rfl (sv_size _) ?_);refine tp (PR.out w3 (H.out.kept S.out.below) ((HE.out.kept S.out.below).up S.out.below.size (tu _)) S.out.below.size) ?_;rintro e w4 ⟨rfl,hb⟩;replace S:=tm (S.out.kept hb);clear hb PR;obtain⟨f,hf⟩:∃f,x.formed=f:=⟨_,rfl⟩
  cases f with
  | false=>
   have hpx:printS x=([],3):=by unfold printS;rw[hf];rfl
   rw[hpx];exact z1033
  | true=>
   have hpx:printS x=if 4000<(joinSp (stmP x)).length then([],2)else(joinSp (stmP x),0):=by unfold printS;rw[if_pos hf]
   by_cases hlim:4000<(joinSp (stmP x)).length
   ·rw[hpx,if_pos hlim];exact z1033
   have CS:=tm (fun(r:SV) W (h1:StmIn (·<w.heap.size) W s x) (h2:StmIn (·<W.heap.size) W r x)=>O5 _ _ x x s r W h1 h2 (Ji hf) (T5 hf) true acx);have HP:=tm (fun(sp:Nat->Nat) (n:Nat)=>ad6 hf sp n);rw[hpx,if_neg hlim];clear hpx;generalize joinSp (stmP x)=t at hlim HP ⊢;obtain⟨c0,hc0⟩:∃c,bs[0]?=some c:=⟨bs[0],by simp[hlz]⟩;obtain⟨vb,vo,rfl⟩:∃b o,va=some ⟨b,o,none⟩:=by
    obtain⟨b,o,cp,cs,hb,_⟩:=HV.out.at hc0;injection hb with e;exact⟨b,o,e⟩
   have HAT:Hid (∀(k:Nat) (c:UInt8) (W:World),bs[k]?=some c->Below w.heap.size w W->W.cell? ⟨vb,vo+k,none⟩=some (.int .u8 (c.toNat:Int))):=fun k c W hk hb=>by
    obtain⟨b,o,cp,cs,hb,hc,hat⟩:=(HV.out.kept acy hb).at hk;injection hb with e
    cases e;have hc':cs=[.int .u8 (c.toNat:Int)]:=hc;subst hc';have:=hat 0 _ rfl;simpa only[show u8E.k=1 from rfl,aac,u0]using this
   go_upto_region 8 with fail;refine St.gen (St.alloc S.out (cs:=blanksC) (t:=9)) ?_;clear S;intro w5 S;generalize w4.heap.size=g at S ⊢;have x0:=HAT.out 0 c0 w5 hc0 S.out.below;rw[u0]at x0;have y:=ae6 S.out (i:=0) rfl c0.toNat;have hsz:(⟨t.toArray⟩:ByteArray).size=t.length:=by show t.toArray.size=_;simp
   go_wp2_with fail;clear x0 y;go_loopw [9,10,11] (fun o b i wr=>∃(pre:Bytes) (ins:Bool) (k:Nat),k<=t.length/\o=.string (Y pre)/\b=.bool ins/\i=U (k:Int)/\wr=w5/\Hid (pre.length<=3+3 * k/\pre++respF (fun i=>((bs[i % bs.length]?).map (·.toNat)).getD 0) k ins (t.drop k)=blankB c0.toNat++respF (fun i=>((bs[i % bs.length]?).map (·.toNat)).getD 0) 0 false t)) (fun _ _ i _=>t.length - (intOf i).toNat)
   case atStart=>exact⟨_,false,0,yu _,rfl,rfl,rfl,rfl,aem _,rfl⟩
   case round=>
    obtain⟨pre,ins,k,hk,rfl,rfl,rfl,rfl,HR⟩:=hrel;by_cases hlt:k<t.length
    ·obtain⟨c,q,hu,hi,hidx⟩:=ag9 t k hlt;have hci:((k:Int)<(t.length:Int)):=acw;obtain⟨hn,hr⟩:=HR.out;clear HR;have hpl:¬9223372036854775807<pre.length+(min (k+1) t.length - k):=acw;by_cases h3:c=39
     ·subst h3;have HR2:=tm (And.intro (show(pre++[39]).length<=3+3 * (k+1) by simp;omega) (resp_q hu hr));exact z113
     ·have g1:((c.toNat:Int)==39)=false:=agj 39 h3;by_cases h4:c=32
      ·subst h4
       cases ins with
       | true=>
        have HR2:=tm (And.intro (show(pre++[32]).length<=3+3 * (k+1) by simp;omega) (resp_c h3 acx hu hr));exact z113
       | false=>
        obtain⟨c2,hc2⟩:∃c2,bs[k % bs.length]?=some c2:=⟨bs[k % bs.length]'(Nat.mod_lt _ hlz),by simp[Nat.mod_lt _ hlz]⟩;have hsp:((bs[k % bs.length]?).map (·.toNat)).getD 0=c2.toNat:=by rw[hc2];rfl
        have hrb:=ahm hu hr;simp only[hsp]at hrb;have hb3:=aem c2.toNat;have HR2:=tm (And.intro (show(pre++blankB c2.toNat).length<=3+3 * (k+1) by simp;omega) hrb);have hpl2:¬9223372036854775807<pre.length+(blankB c2.toNat).length:=acw;have x1:=HAT.out (k % bs.length) c2 wr hc2 S.out.below;have y:=ae6 S.out (i:=0) rfl c2.toNat;have hml:k % bs.length<bs.length:=Nat.mod_lt _ hlz;clear hn hr hrb hsp hb3;go_wp2_with fail;go_roundw
        case rel=>exact⟨_,_,k+1,by omega,by rw[ae5],rfl,by go_num,trivial,HR2.out⟩
        case measure=>simp[intOf];omega
      ·have g1:((c.toNat:Int)==32)=false:=agj 32 h4;have HR2:=tm (And.intro (show(pre++[c]).length<=3+3 * (k+1) by simp;omega) (resp_c h3 (fun h=>h4 h.1) hu hr));exact z113
    ·obtain rfl:k=t.length:=acw;have HPR:Hid (pre=blankB c0.toNat++respF (fun i=>((bs[i % bs.length]?).map (·.toNat)).getD 0) 0 false t):=by
      show pre=_;rw[<- HR.out.2,aaj];simp[respF]
     clear HR;have hps:(⟨pre.toArray⟩:ByteArray).size=pre.length:=by show pre.toArray.size=_;simp
     by_cases hlong:4000<pre.length
     ·exact z1033
     have CT:Hid (∀(B:Nat) (W:World),Env B W->Calls prog 15 #[.string ⟨pre.toArray⟩] W (ParsePost W (.ok x))):=by
      rw[<- show parseS pre=.ok x by rw[HPR.out];exact HP.out _ _ (by rw[<- HPR.out];omega)];exact Cs _ acw
     clear HPR;go_wp2_with fail;refine tp (CT.out w.heap.size wr (HE.out.kept S.out.below)) ?_;rintro e w6 ⟨sv,rfl,hs,hb⟩;replace S:=tm (S.out.kept hb);have H2:Hid (StmIs (wr.heap.size≤·) w6 sv x):=hs;clear hb hs CT;go_upto_region 21 with(first|(refine ur rfl 50 (.tmp 12) (.tmp 87) rfl w6.heap.size sv.arr rfl rfl 50 (SV.arr {}) ((De S.out).blk 1 rfl) (sv_size _) rfl (sv_one _) ?_)|(refine ur rfl 26 (.tmp 13) (.tmp 88) rfl (w6.heap.size+1) #[U 0,U 0] rfl rfl 26 #[U 0,U 0] ((Dd S.out sv.arr).blk 0 rfl) (Cc _ _) rfl (Gl _ _) ?_));refine Cf (Bl (St.start w6) sv.arr 0 0).below (Bl S.out sv.arr 0 0) ?_;clear S;intro w7 hb S;replace H2:=tm (H2.out.kept hb);clear hb;generalize w6.heap.size=b2 at S ⊢;obtain⟨q0,qf,ql⟩:=Aa (o:=0) (S.out.blk 0 rfl) rfl;obtain⟨q1,qf,ql⟩:=Aa (o:=1) (S.out.blk 0 rfl) rfl;go_wp2_with(first|(refine Ap rfl 50 (.tmp 2) rfl w.heap.size rfl 50 s.arr (0,0) _ (S.out.blk 3 rfl) underlying50 rfl (sv_size _) ?_)|(refine Ap rfl 50 (.tmp 12) rfl b2 rfl 50 sv.arr (0,0) _ (S.out.blk 1 rfl) underlying50 rfl (sv_size _) ?_));refine tp (CS.out sv w7 (H.out.kept S.out.below) H2.out.lt) ?_;rintro e w8 ⟨rfl,hb⟩;exact gh
theorem agm (x:Stm) (s:SV) (v:Value) (bs:List UInt8) (w:World) (h:StmIn (·<w.heap.size) w s x) (hwf:x.Wf) (hl:x.lists<=4611686018427387904) (ht:x.txt<=4611686018427387904) (hv:RSl u8E (fun _=>True) w v bs) (hbl:bs.length<=4611686018427387904) (he:Env w.heap.size w):
 Calls prog 6 #[.agg s.arr,v] w (fun e w'=>e=.returned (.bool true)/\Below w.heap.size w w'):=ag6 Ry x s v bs w h hwf hl ht hv hbl he
end
section
open Go.ChangeShapes Go.WideShapes Go.ChangeAt Go.RowKit
section
variable {H:Type} {enc:TypeId×Value->H} {W:World}
theorem af8 (N:Nat):Opens enc W u8E (fun _=>True) 5 N:=fun n cs y _ h hw=>by
 obtain⟨m,rfl,_,wf⟩:=DataW.trod_int underlying5 h;have:=bounds_u8 wf;exact⟨UInt8.ofNat m.toNat,trivial,by show _=_;congr 2;simp;omega⟩
theorem afd {b0:Nat} {v:Value} {d:DataW H} {p:List MemPlace} (hv:Value.okWide prog W .any b0 58 v) (h:DataW.Trod enc prog W 0 (fun _=>true) true 58 v d p) (hw:∀k∈d.weights prog 58,k<=reachBytes):∃l:List UInt8,RSl u8E (fun _=>True) W v l/\l.length<=4611686018427387904:=by
 obtain⟨a0,len,cap,rfl⟩:=okWide_slice underlying58 hv;obtain⟨fuel,hf⟩:=h;obtain⟨l,a,c,e,hl,_,hb⟩:=acu (E:=u8E) underlying58 acz acy 1 acz acy af8 hf hw;simp only[Value.cells,aa7,uo]at e;rw[e];exact⟨l,hl,vj hb acy⟩
end
end
section
open Go.ChangeShapes Go.WideShapes Go.ChangeAt Go.RowKit Go.Joins
namespace spacesDoNotMatter
noncomputable def start (os:Os):World:=startOf os allLaid
theorem laid_same:Rows.sqlSpacesDoNotMatterRow.laid=allLaid:=acz
theorem laid_met (os:Os):laidMet prog Rows.sqlSpacesDoNotMatterRow.laid ((start os).forCall (fun _ _=>0) ⟨#[],#[(.agg (SV.arr {})),eL],[]⟩).memory:=ags
theorem reads (os:Os) {H:Type} (enc:TypeId×Value->H):∃x,DataW.whole enc prog ((start os).forCall (fun _ _=>0) ⟨#[],#[(.agg (SV.arr {})),eL],[]⟩).memory Tryz.f6.params.toList Rows.sqlSpacesDoNotMatterSpec.vars false #[(.agg (SV.arr {})),eL].toList 8=some x/\True:=
 ⟨([.agg [.lit (.int .i64 0),.lit (.string []),.lit (.string []),.agg [.lit (.string []),.nil,.nil,.nil],.agg [.lit (.string []),.lit (.int .i64 0),.lit (.bool false)],.nil,.lit (.bool false),.nil,.nil,.agg [.lit (.int .i64 0),.lit (.string []),.lit (.string []),.agg [.lit (.int .i64 0),.lit (.int .i64 0),.lit (.string [])],.nil],.agg [.lit (.bool false),.nil,.nil,.nil,.agg [.lit (.int .i64 0),.lit (.string []),.lit (.string []),.agg [.lit (.int .i64 0),.lit (.int .i64 0),.lit (.string [])],.nil],.nil,.nil,.lit (.int .i64 0)],.lit (.int .i64 0)],.nil],[],[]),by kernel_rfl,trivial⟩
theorem closed:joinedFacts prog 6 Tryz.f6 (OpenSpec.ofChange Rows.sqlSpacesDoNotMatterSpec).bare Rows.sqlSpacesDoNotMatterRow=true:=by
 unfold joinedFacts
 simp only[tr]
 and_intros
 all_goals(as_aux_lemma=>kernel_rfl)
theorem plain (f:FuncId) (fn:Func) (hf:Tryz.pinned.checked.prog.funcNamed Rows.sqlSpacesDoNotMatterRow.func=some f) (hfn:Tryz.pinned.checked.prog.funcs[f]?=some fn):true=Tryz.pinned.checked.prog.looks []/\∀(j:Nat) t,fn.params[j]?=some t->Tryz.pinned.checked.prog.wantsStandIn t=false:=by
 obtain rfl:f=6:=xt ((show prog.funcNamed Rows.sqlSpacesDoNotMatterRow.func=some 6 by kernel_rfl).symm.trans hf) |>.symm
 obtain rfl:fn=Tryz.f6:=(xt (func6.symm.trans hfn)).symm;refine⟨by kernel_rfl,fun j t ht=>?_⟩;rw[Tryz.params6]at ht;exact Ht
end spacesDoNotMatter
namespace spacesDoNotMatter
theorem contract (H:Type) (enc:TypeId×Value->H) (W:World) (base:Nat) (args:Array Value) (ds gs:List (DataW H)) (before:List MemPlace) (hval:∀(j:Nat) t v,Tryz.f6.params[j]?=some t->args[j]?=some v->Value.okWide prog W .any base t v) (hW:DataW.Whole enc prog Tryz.f6.params.toList Rows.sqlSpacesDoNotMatterSpec.vars false W args.toList ds gs before) (hZ:(DataW.weightsEach prog (Tryz.f6.params.toList++(OpenSpec.ofChange Rows.sqlSpacesDoNotMatterSpec).bare.plain.varTypes prog) (ds++gs)).all (·≤reachBytes)=true) (hL:laidMetH prog Rows.sqlSpacesDoNotMatterRow.laid W) (hS:W.ShapedOpen prog):Calls prog 6 args W fun e W'=>∃v,e=.returned v/\Rows.sqlSpacesDoNotMatterSpec.post enc prog Tryz.f6 false true false false W args v W':=by
 have hE:Env W.heap.size W:=o9 hL hS acz acz acz acz acz;have hW':=hW;obtain⟨p,q,hA,hV,rfl,_,_⟩:=hW;rw[Tryz.params6]at hA hval;obtain⟨v0,vs,d,ds0,p0,q0,hargs,rfl,rfl,h0,r⟩:=trodAll_cons hA;obtain⟨v1,vs,d,ds1,p1,q1,rfl,rfl,rfl,h1,r1⟩:=trodAll_cons r;obtain⟨rfl,rfl,rfl⟩:=trodAll_nil r1;obtain rfl:args=#[v0,v1]:=by cases args;simp_all
 obtain⟨rfl,rfl⟩:=trodVars_none hV;obtain⟨sa,xa,rfl,hina,hwfa,hla,hta⟩:=adw (hval 0 50 v0 rfl rfl) h0 (fun k hk=>by simpa using vg.1 hZ k (DataW.weights_mem_each (j:=0) rfl rfl k hk));obtain⟨b,sb,zb⟩:=afd (hval 1 58 v1 rfl rfl) h1 (fun k hk=>by simpa using vg.1 hZ k (DataW.weights_mem_each (j:=1) rfl rfl k hk));refine(agm xa sa v1 b W (hina.move fun _ h _=>⟨h,rfl⟩) hwfa hla hta sb zb hE).mono fun e W' ⟨he,hb⟩=>⟨_,he,?_⟩;exact cw jj (fun t ht=>adv t (by rw[Tryz.params6]at ht;simp at ht;rcases ht with rfl|rfl<;>simp)) rfl acz underlying4 hW' hb rfl
theorem lifted (os:Os) (started:os.Started) (H:Type) (enc:TypeId×Value->H) (F:Stop.Interp):ReturnsInHanded {} Tryz.checked os 6 .any ((OpenSpec.ofChange Rows.sqlSpacesDoNotMatterSpec).preRow enc prog Tryz.f6 Rows.sqlSpacesDoNotMatterRow.domain false Rows.sqlSpacesDoNotMatterRow.laid) (((OpenSpec.ofChange Rows.sqlSpacesDoNotMatterSpec).at F).post enc prog Tryz.f6 false true false false):=by
 obtain⟨x,hx,_⟩:=reads os enc;refine returnsInHanded_of_row (C:=Tryz.checked) (s:=OpenSpec.ofChange Rows.sqlSpacesDoNotMatterSpec) own started acz func6
  (Hz (enc:=enc) (C:=Tryz.checked) false (start os) #[(.agg (SV.arr {})),eL] (Ru _ _) (kh os _) (Uu os _) acz
   (OpenSpec.preRow_of_cond 8 hx acz (fun k hk=>by cases hk) acz (laid_met os))) ?_
 exact rd
theorem said:Rows.SqlSpacesDoNotMatterSaid:=
 OpenClaim.holds_of_cond 6 Tryz.f6 rfl rfl rfl rfl rfl rfl rfl ⟨rfl,rfl,rfl,rfl,rfl⟩ rfl rfl rfl rfl rfl acz func6 closed
  (zw acz) (by unfold Func.isWrapper;first|(rw[if_pos ac0];kernel_rfl)|(rw[if_neg ac0];exact⟨rfl,rfl⟩))
  (fun os started H enc _ F=>by rw[OpenClaim.pre_eq_preRow];exact lifted os started H enc F)
theorem card:Rows.SqlSpacesDoNotMatterCardSaid:=
 Claim7.holds_tied_plain_at .later [] _ _ _ _ said (fun _ h=>by cases h) acz (fun _ h=>by cases h) sqlSpacesDoNotMatter_row_tie rfl ⟨rfl,rfl⟩ acz rfl plain acz
#print axioms card
end spacesDoNotMatter
end
end Go.Proofs.YtimoefagohifaaaGreatDoor
