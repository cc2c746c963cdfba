/- Laws that the last part needs. No condition. -/
import Derived.Test.YtimoefagohifaaaGreatDoorA17
namespace Go.Proofs.YtimoefagohifaaaGreatDoor
open Tryz
theorem Carries.app {a b:List Bytes} {la lb:List Tok} (h:Carries a la) (k:Carries b lb):Carries (a++b) (la++lb):=by
 induction h with
 | nil=>exact k
 | cons h _ ih=>exact Carries.cons h ih
theorem Ae:∀{a b:List Bytes} {l:List Tok},Carries (a++b) l->∃la lb,l=la++lb/\Carries a la/\Carries b lb
 | [],b,l,h=>⟨[],l,rfl,Carries.nil,h⟩
 | p::a,b,l,h=>by
  obtain⟨t,r,rfl,h1,h2⟩:=Ab h;obtain⟨la,lb,rfl,h3,h4⟩:=Ae h2;exact⟨t::la,lb,rfl,Carries.cons h1 h3,h4⟩
theorem Af {p:Bytes} {l:List Tok} (h:Carries [p] l):∃t,l=[t]/\IsTok p t:=by
 obtain⟨t,r,rfl,h1,h2⟩:=Ab h;rw[An h2];exact⟨t,rfl,h1⟩
theorem Ek {ps:List Bytes} {l:List Tok} (h:Carries ps l):ps.length=l.length:=by
 induction h with
 | nil=>rfl
 | cons _ _ ih=>simp[ih]
theorem Ax {w:Bytes} {t:Tok} {r:List Tok} (hw:Fixed w) (h:IsTok w t):tk w (t::r)=some r:=by
 obtain⟨h1,h2⟩:=Jg hw h;simp only[tk];rw[if_pos ⟨h1,h2⟩]
theorem Aq {sz:Int} {w:Bytes} {ws:List Bytes} {t:Tok} {r:List Tok} (hw:Fixed w) (h:IsTok w t):wantsR sz (w::ws) (t::r)=wantsR sz ws r:=by
 simp only[wantsR];rw[Ax hw h]
theorem Az {sz:Int} {l:List Tok}:wantsR sz [] l=.ok () l:=rfl
theorem Fc {w:Bytes} {t:Tok} {r:List Tok} (h1:t.kind≠1) (h5:t.kind≠5):tk w (t::r)=none:=by
 simp only[tk];rw[if_neg];rintro⟨h,_⟩;rcases h with h|h
 ·exact h1 h
 ·exact h5 h
theorem A0 {sz:Int} {s:Bytes} {t:Tok} {r:List Tok} (hs:isName s=true) (h:IsTok s t):nameR sz (t::r)=.ok s r:=by
 obtain⟨h1,h2,_⟩:=Bu (D6 hs) h;simp only[nameR,nextR];rw[if_pos h1];simp only[h2]
theorem Gg {sz:Int} {n:Int} {lp rest:List Tok} (h0:0<=n) (h1:n<=549755813887) (h:Carries (pNum n) lp):numberR sz (lp++rest)=.ok n rest:=by
 unfold pNum at h;rw[if_neg acw]at h;obtain⟨t,rfl,ht⟩:=Af h;obtain⟨k,_,k3⟩:=Bu (Fj h0 acw) ht;have hb:bigHead (t::rest)=false:=by simp[bigHead,k3];omega
 simp only[numberR,tz,uc,hb,u9,wy,nextR];rw[if_pos k];simp only[k3]
theorem Fi {sz:Int} {v:V} {lp rest:List Tok} (hv:v.right=true) (h:Carries (pVal v) lp):literalR sz (lp++rest)=.ok v rest:=by
 obtain⟨k,n,s⟩:=v;rcases Cm hv with h1|h1|h1|h1
 ·obtain⟨e1,e2,e3⟩:=h1;simp only at e1 e2 e3;subst e1 e2 e3;obtain⟨t,rfl,ht⟩:=Af (p:=[110,117,108,108]) h;have hk:=Bu (Bv (w:=[110,117,108,108]) ac0) ht;have hk1:t.kind=1:=hk.1;simp only[literalR,tz,uc,nextR];rw[if_neg acw];simp only[Aj (w:=[45]) ht acy,Ax (w:=[110,117,108,108]) (by unfold Fixed;decide+kernel) ht];rfl
 ·obtain⟨e1,e2,e3,e4⟩:=h1;simp only at e1 e2 e3 e4;subst e1 e2;have hp:pVal ⟨1,n,⟨#[]⟩⟩=pNum n:=rfl;rw[hp]at h;unfold pNum at h;split at h
  ·rename_i hneg;obtain⟨t,r,rfl,ht,hr⟩:=Ab h;obtain⟨u,rfl,hu⟩:=Af hr;obtain⟨k1,_,k3⟩:=Bu (Fj (n:=-n) acw acw) hu;have hk:=Bu (Bv (w:=[45]) ac0) ht;have hk1:t.kind=5:=hk.1;simp only[literalR,tz,uc,nextR];rw[if_neg acw];simp only[Ax (w:=[45]) (by unfold Fixed;decide+kernel) ht];rw[if_pos k1];simp only[k3,Int.neg_neg]
  ·rename_i hneg;have hn:=Gg (sz:=sz) (rest:=rest) (n:=n) acw e4 (by unfold pNum;rw[if_neg hneg];exact h);obtain⟨t,rfl,ht⟩:=Af h;obtain⟨k1,_,k3⟩:=Bu (Fj (n:=n) acw acw) ht;have hk1:t.kind≠1:=acw;have hk5:t.kind≠5:=acw;simp only[literalR];simp only[tz,uc]at hn ⊢;simp only[nextR];rw[if_neg acw];simp only[Fc hk1 hk5,hn];rfl
 ·obtain⟨e1,e2,e3⟩:=h1;simp only at e1 e2 e3;subst e1 e2;obtain⟨t,rfl,ht⟩:=Af (p:=V.print ⟨2,0,s⟩) h;obtain⟨k1,k2,_⟩:=Bu (text_tok rfl hv) ht;simp only[literalR,tz,uc,nextR];rw[if_pos k1];simp only[k2]
 ·obtain⟨e1,e2,e3⟩:=h1;simp only at e1 e2 e3;subst e1 e3;rcases e2 with rfl|rfl
  ·have hp:pVal ⟨3,0,⟨#[]⟩⟩=[[102,97,108,115,101]]:=ac0;rw[hp]at h;obtain⟨t,rfl,ht⟩:=Af h;have hk1:t.kind=1:=(Bu (Bv (w:=[102,97,108,115,101]) ac0) ht).1;simp only[literalR,tz,uc,nextR];rw[if_neg acw];simp only[Aj (w:=[45]) ht acy,Aj (w:=[110,117,108,108]) ht acy,Aj (w:=[116,114,117,101]) ht acy,Ax (w:=[102,97,108,115,101]) (by unfold Fixed;decide+kernel) ht]
  ·have hp:pVal ⟨3,1,⟨#[]⟩⟩=[[116,114,117,101]]:=ac0;rw[hp]at h;obtain⟨t,rfl,ht⟩:=Af h;have hk1:t.kind=1:=(Bu (Bv (w:=[116,114,117,101]) ac0) ht).1;simp only[literalR,tz,uc,nextR];rw[if_neg acw];simp only[Aj (w:=[45]) ht acy,Aj (w:=[110,117,108,108]) ht acy,Ax (w:=[116,114,117,101]) (by unfold Fixed;decide+kernel) ht]
theorem Jn {sz:Int} {lev:Nat} {e:Ex} {rest:List Tok} (h:Stop lev rest) (h6:lev<6):chainR sz lev e rest=.ok e rest:=by
 rw[I1 sz lev e rest h6];split
 ·rfl
 ·rename_i o lv ho;have:=h.op o lv ho;rw[if_pos acw]
theorem Wa {lev:Nat} {rest:List Tok} (h:Stop lev rest) (h3:lev<=3):(opPair (seesWord rest)).2≠3:=by
 unfold opPair
 cases ho:opOf (seesWord rest)with
 | none=>simp
 | some p=>
  obtain⟨o,lv⟩:=p;have:=h.op o lv ho;simp only[zy];omega
theorem descend {sz:Int} {e:Ex} {lp:List Tok} {m:Nat} (hm:m<=6) (hn:3<=m->∀rest,tk [110,111,116] (lp++rest)=none) (h:∀rest,Stop m rest->exprR sz m (lp++rest)=.ok e rest):
 ∀(d k:Nat),k+d=m->∀rest,Stop k rest->exprR sz k (lp++rest)=.ok e rest
 | 0,k,hk,rest,hs=>by
  have:k=m:=acw;subst this;exact h rest hs
 | d+1,k,hk,rest,hs=>by
  have ih:=descend hm hn h d (k+1) acw rest (hs.mono acw);by_cases h2:k=2
  ·subst h2;rw[exprR_not,hn acw];exact ih
  ·by_cases h3:k=3
   ·subst h3;rw[exprR_cmp,ih];simp only[Res.bind];rw[if_neg (Wa hs acw)];unfold isNullR;rw[hs.is acw]
   ·rw[exprR_chain sz k _ acw h2 h3,ih];exact Jn hs acw
theorem Kz {v:V} (hv:v.right=true):∃p l,pVal v=p::l/\p≠[110,111,116]/\p≠[40]:=by
 obtain⟨k,n,s⟩:=v;rcases Cm hv with h1|h1|h1|h1
 ·obtain⟨e1,e2,e3⟩:=h1;simp only at e1 e2 e3;subst e1 e2 e3;exact⟨[110,117,108,108],[],rfl,by decide,by decide⟩
 ·obtain⟨e1,e2,e3,e4⟩:=h1;simp only at e1 e2 e3 e4;subst e1 e2;show ∃p l,pNum n=_/\_;unfold pNum;split
  ·exact⟨_,_,rfl,by decide,by decide⟩
  ·rename_i hneg;refine⟨_,_,rfl,?_,?_⟩
   ·exact p5
   ·exact p5
 ·obtain⟨e1,e2,e3⟩:=h1;simp only at e1 e2 e3;subst e1 e2;exact⟨_,[],rfl,by show(39::_:Bytes)≠_;simp,by show(39::_:Bytes)≠_;simp⟩
 ·obtain⟨e1,e2,e3⟩:=h1;simp only at e1 e2 e3;subst e1 e3;rcases e2 with rfl|rfl
  ·exact⟨_,[],rfl,by decide+kernel,by decide+kernel⟩
  ·exact⟨_,[],rfl,by decide+kernel,by decide+kernel⟩
theorem dg:∀e:Ex,e.formed=true->∀lev:Int,3<=lev->∃p l,exPr e lev=p::l/\p≠[110,111,116]:=by
 refine Ex.ind fun op t n v args ih=>?_;intro hf lev hlev;by_cases hp:exLev op<lev
 ·rw[D8 (by simpa[Ex.op]using hp)];exact⟨_,_,rfl,by decide⟩
 ·rw[Da (by simp only[Ex.op];omega)];rcases formed_cases hf with⟨rfl,rfl,rfl,hn,ht⟩|⟨rfl,rfl,hv,rfl,rfl⟩|⟨a,ho,rfl,ha,rfl,rfl,rfl⟩|⟨a,b,h3,h13,rfl,ha,hb,rfl,rfl,rfl⟩
  ·rw[D9];by_cases htt:t=[]
   ·subst htt;exact⟨n,[],by simp[whenP],Ih hn (by unfold Fixed;decide+kernel)⟩
   ·exact⟨t,[[46],n],by simp[whenP,htt],Ih (ht.resolve_left htt) (by unfold Fixed;decide+kernel)⟩
  ·rw[E3];obtain⟨p,l,h,h2,_⟩:=Kz hv;exact⟨p,l,h,h2⟩
  ·rcases ho with rfl|rfl
   ·have:exLev 14=2:=acy;exact absurd (show exLev 14<lev by omega) hp
   ·obtain⟨p,l,h,h2⟩:=ih a acx ha 4 acy;exact⟨p,l++[[105,115],[110,117,108,108]],by rw[Dw,h];simp,h2⟩
  ·obtain⟨_,_,_,hl,hl,hl⟩:=Ct h3 h13;have hex:exLev op=levP op:=by unfold exLev;rw[if_neg acw,if_neg acw,if_neg acw]
   have hge:3<=(if levP op=3 then 4 else levP op):=by
    rw[hex]at hp;split<;>omega
   obtain⟨p,l,h,h2⟩:=ih a acx ha _ hge;exact ahr
theorem N1 {op:Int} (h1:1<=op) (h2:op<=15):0<=exLev op/\exLev op<=6:=by
 unfold exLev;split
 ·omega
 ·split
  ·omega
  ·split
   ·omega
   ·obtain⟨_,_,_,h,h',_⟩:=Ct (op:=op) acw acw;omega
def OwnRead (sz:Int) (e:Ex):Prop:=∀(m:Nat),(m:Int)=exLev e.op->∀lp,Carries (bare e) lp ->
 (∀rest,Stop m rest->exprR sz m (lp++rest)=.ok e rest)/\(m<6->m≠2->m≠3->∀rest,Stop (m+1) rest->exprR sz m (lp++rest)=chainR sz m e rest)
def Reads (sz:Int) (e:Ex):Prop:=∀(lev:Nat),lev<=6->∀lp,Carries (exPr e lev) lp ->
 (∀rest,Stop lev rest->exprR sz lev (lp++rest)=.ok e rest)/\(lev<6->lev≠2->lev≠3->∀rest,Stop (lev+1) rest->exprR sz lev (lp++rest)=chainR sz lev e rest)
theorem Dc {p w:Bytes} {l:List Bytes} {lp rest:List Tok} (h:Carries (p::l) lp) (hne:p≠w):tk w (lp++rest)=none:=by
 obtain⟨t,r,rfl,ht,_⟩:=Ab h;exact Aj ht hne
theorem reads_of_own {sz:Int} {e:Ex} (hf:e.formed=true) (h:OwnRead sz e):Reads sz e:=by
 have hop:1<=e.op/\e.op<=15:=by
  obtain⟨op,t,n,v,args⟩:=e;simp only[Ex.op];rcases formed_cases hf with⟨rfl,_⟩|⟨rfl,_⟩|⟨a,rfl|rfl,_⟩|⟨a,b,h3,h13,_⟩<;>omega
 obtain⟨hL,hL⟩:=N1 hop.1 hop.2;obtain⟨m,hm⟩:∃m:Nat,(m:Int)=exLev e.op:=⟨(exLev e.op).toNat,by omega⟩;have hm6:m<=6:=acw;have hlow:∀lp,Carries (bare e) lp->∀k,k<=m->∀rest,Stop k rest->exprR sz k (lp++rest)=.ok e rest:=by
  intro lp hlp k hk;refine descend hm6 (fun h3 rest=>?_) (h m hm lp hlp).1 (m - k) k acw;obtain⟨p,l,h1,h2⟩:=dg e hf m acw;rw[Da acw]at h1;rw[h1]at hlp;exact Dc hlp h2
 have hhigh:∀lp,Carries ([40]::(bare e++[[41]])) lp->∀k,k<=6->∀rest,Stop k rest->exprR sz k (lp++rest)=.ok e rest:=by
  intro lp hlp k hk;refine descend (tu 6) (fun _ rest=>Dc hlp acy) (fun rest _=>?_) (6 - k) k acw;obtain⟨t,r,rfl,ht,hr⟩:=Ab hlp;obtain⟨la,lb,rfl,ha,hb⟩:=Ae hr;obtain⟨u,rfl,hu⟩:=Af hb;rw[exprR_prim,tz,Ax (by unfold Fixed;decide+kernel) ht];simp only[uv,tz,uc];rw[hlow la ha 0 acw (u::rest) (D2 (by unfold Fixed;decide+kernel) hu (by
   have:opOf [41]=none:=ac0;rw[this];intro o lv h
   cases h) (fun _=>acy) acy)]
  simp only[Res.bind,Aq (w:=[41]) (by unfold Fixed;decide+kernel) hu,Az,Res.map]
 intro lev hlev lp hlp;by_cases hp:exLev e.op<lev
 ·rw[D8 hp]at hlp;refine⟨hhigh lp hlp lev hlev,fun h6 h2 h3 rest hs=>?_⟩;rw[exprR_chain sz lev _ h6 h2 h3,hhigh lp hlp (lev+1) acw rest hs];rfl
 ·rw[Da acw]at hlp;refine⟨hlow lp hlp lev acw,fun h6 h2 h3 rest hs=>?_⟩;by_cases hme:lev=m
  ·subst hme;exact(h lev hm lp hlp).2 h6 h2 h3 rest hs
  ·rw[exprR_chain sz lev _ h6 h2 h3,hlow lp hlp (lev+1) acw rest hs];rfl
theorem ip (sz:Int):∀e:Ex,e.formed=true->Reads sz e:=by
 refine Ex.ind fun op t n v args ih=>?_;intro hf;refine reads_of_own hf ?_;intro m hm lp hlp;simp only[Ex.op]at hm;rcases formed_cases hf with⟨rfl,rfl,rfl,hn,ht⟩|⟨rfl,rfl,hv,rfl,rfl⟩|⟨a,ho,rfl,ha,rfl,rfl,rfl⟩|⟨a,b,h3,h13,rfl,ha,hb,rfl,rfl,rfl⟩
 ·have e6:exLev 1=6:=acy;have hm6:m=6:=acw;subst hm6;refine⟨fun rest hs=>?_,fun h=>absurd h acw⟩;rw[D9]at hlp;by_cases htt:t=[]
  ·subst htt;simp only[ne_eq,aag,zt,whenP,u9,wy,uc]at hlp;obtain⟨u,rfl,hu⟩:=Af hlp;have hk:=(Bu (D6 hn) hu).1;rw[exprR_prim,tz,uc,Fc acw acw];simp only[headIs,hk,zj,if_true,refR,A0 hn hu,Res.bind];rw[hs.dot];rfl
  ·have hnt:=ht.resolve_left htt;simp only[ne_eq,htt,abg,zj,whenP,if_true,tz,uc]at hlp;obtain⟨u,r,rfl,hu,hr⟩:=Ab hlp;obtain⟨x,r,rfl,hx,hr⟩:=Ab hr;obtain⟨y,rfl,hy⟩:=Af hr;have hk:=(Bu (D6 hnt) hu).1;rw[exprR_prim,tz,Fc acw acw];simp only[headIs,hk,zj,if_true,refR,A0 hnt hu,Res.bind,tz,uc,Ax (w:=[46]) (by unfold Fixed;decide+kernel) hx,A0 hn hy,Res.map];rfl
 ·have e6:exLev 2=6:=acy;have hm6:m=6:=acw;subst hm6;refine⟨fun rest hs=>?_,fun h=>absurd h acw⟩;rw[E3]at hlp;have hl:=Fi (sz:=sz) (rest:=rest) hv hlp;obtain⟨p,l,hp,_,hpar⟩:=Kz hv;have hname:headIs 2 (lp++rest)=false:=by
   rw[hp]at hlp
   cases hh:headIs 2 (lp++rest)with
   | false=>rfl
   | true=>
    obtain⟨t,r,rfl,_,_⟩:=Ab hlp;simp only[tz,headIs,uk]at hh;simp only[tz,literalR,nextR]at hl;rw[if_neg acw]at hl;simp only[Fc (w:=[45]) (t:=t) (r:=r++rest) acw acw,Fc (w:=[110,117,108,108]) (t:=t) (r:=r++rest) acw acw,Fc (w:=[116,114,117,101]) (t:=t) (r:=r++rest) acw acw,Fc (w:=[102,97,108,115,101]) (t:=t) (r:=r++rest) acw acw]at hl;have hb:bigHead (t::(r++rest))=false:=by simp[bigHead,hh]
    simp only[numberR,hb,u9,wy,nextR]at hl;rw[if_neg acw]at hl;simp[stopR,Res.map]at hl
  rw[exprR_prim,Dc (by rw[<- hp];exact hlp) hpar];simp only[hname,u9,wy,hl,Res.map];rfl
 ·rcases ho with rfl|rfl
  ·have e2:exLev 14=2:=acy;have hm2:m=2:=acw;subst hm2;refine⟨fun rest hs=>?_,fun _ h=>absurd rfl h⟩;rw[E5]at hlp;obtain⟨t,r,rfl,ht,hr⟩:=Ab hlp;rw[exprR_not,tz,Ax (by unfold Fixed;decide+kernel) ht];simp only[((ih a acx ha) 2 acw r hr).1 rest hs,Res.map];rfl
  ·have e3:exLev 15=3:=acy;have hm3:m=3:=acw;subst hm3;refine⟨fun rest hs=>?_,fun _ _ h=>absurd rfl h⟩;rw[Dw]at hlp;obtain⟨la,lb,rfl,hla,hlb⟩:=Ae hlp;obtain⟨t,r,rfl,ht,hr⟩:=Ab hlb;obtain⟨u,rfl,hu⟩:=Af hr;have hfi:Fixed [105,115]:=by unfold Fixed;decide+kernel
   have hoi:opOf [105,115]=none:=ac0;rw[exprR_cmp,uv,tz,((ih a acx ha) 4 acw la hla).1 _ (D2 hfi ht (by rw[hoi];intro o lv h;cases h) (fun h=>absurd h acw) acy)];simp only[Res.bind,tz,uc,D4 hfi ht];rw[if_neg ac0];simp only[isNullR,Ax hfi ht,Aj (w:=[110,111,116]) hu acy,Aq (w:=[110,117,108,108]) (by unfold Fixed;decide+kernel) hu,Az,Res.map];rfl
 ·obtain⟨hsg,hfx,his,hl0,hl5,hl2⟩:=Ct h3 h13;have hdotS:signP op≠[46]:=by
   intro e;rw[e]at hsg;revert hsg;have:opOf [46]=none:=ac0;rw[this];intro h
   cases h
  have hex:exLev op=levP op:=by unfold exLev;rw[if_neg acw,if_neg acw,if_neg acw]
  rw[hex]at hm;rw[Gy h3 h13]at hlp;by_cases hl3:levP op=3
  ·have hm3:m=3:=acw;subst hm3;refine⟨fun rest hs=>?_,fun _ _ h=>absurd rfl h⟩;rw[if_pos hl3,hl3,show(3:Int)+1=4 by decide]at hlp;obtain⟨lx,lb,rfl,hlx,hlb⟩:=Ae hlp;obtain⟨la,ls,rfl,hla,hls⟩:=Ae hlx;obtain⟨t,rfl,ht⟩:=Af hls;have hst:Stop 4 (t::(lb++rest)):=D2 hfx ht (by rw[hsg];intro o lv h;cases h;omega) (fun h=>absurd h acw) hdotS;have e1:la++[t]++lb++rest=la++(t::(lb++rest)):=acx;rw[exprR_cmp,e1,((ih a acx ha) 4 acw la hla).1 _ hst];simp only[Res.bind,D4 hfx ht,opPair,hsg,zy,abt];rw[if_pos hl3,((ih b acx hb) 4 acw lb hlb).1 rest (hs.mono acw)];rfl
  ·rw[if_neg hl3]at hlp;obtain⟨lx,lb,rfl,hlx,hlb⟩:=Ae hlp;obtain⟨la,ls,rfl,hla,hls⟩:=Ae hlx;obtain⟨t,rfl,ht⟩:=Af hls;have hm6:m<6:=acw;have hm2:m≠2:=acw;have hm3:m≠3:=acw;rw[<- hm]at hla hlb hsg;have hgo:∀rest,Stop (m+1) rest->exprR sz m (la++[t]++lb++rest)=chainR sz m (.mk op [] [] V.null [a,b]) rest:=fun rest hs=>by
    have hst:Stop (m+1) (t::(lb++rest)):=D2 hfx ht (by rw[hsg];intro o lv h;cases h;omega) (fun _=>his) hdotS;have e1:la++[t]++lb++rest=la++(t::(lb++rest)):=acx;rw[e1,((ih a acx ha) m acw la hla).2 hm6 hm2 hm3 _ hst,I1 sz m a _ hm6,D4 hfx ht,hsg];simp only[ne_eq,aag,wy,abt];rw[((ih b acx hb) (m+1) acw lb (by rw[Int.natCast_add];exact hlb)).1 rest hs];rfl
   refine⟨fun rest hs=>?_,fun _ _ _ rest hs=>hgo rest hs⟩;rw[hgo rest (hs.mono acw)];exact Jn hs hm6
theorem Zz {v:V} (hv:v.right=true):∃p l,pVal v=p::l/\HeadOk p:=by
 obtain⟨k,n,s⟩:=v;rcases Cm hv with h1|h1|h1|h1
 ·obtain⟨e1,e2,e3⟩:=h1;simp only at e1 e2 e3;subst e1 e2 e3;exact⟨[110,117,108,108],[],rfl,.inr (.inl acx)⟩
 ·obtain⟨e1,e2,e3,e4⟩:=h1;simp only at e1 e2 e3 e4;subst e1 e2;show ∃p l,pNum n=_/\_;unfold pNum;split
  ·exact⟨_,_,rfl,.inr (.inl acx)⟩
  ·exact⟨_,_,rfl,.inr (.inr (.inl ⟨n,by omega,by omega,rfl⟩))⟩
 ·obtain⟨e1,e2,e3⟩:=h1;simp only at e1 e2 e3;subst e1 e2;exact⟨_,[],rfl,.inr (.inr (.inr ⟨_,rfl⟩))⟩
 ·obtain⟨e1,e2,e3⟩:=h1;simp only at e1 e2 e3;subst e1 e3;rcases e2 with rfl|rfl
  ·exact⟨[102,97,108,115,101],[],by decide+kernel,.inr (.inl acx)⟩
  ·exact⟨[116,114,117,101],[],by decide+kernel,.inr (.inl acx)⟩
theorem Vl:∀e:Ex,e.formed=true->∀lev:Int,∃p l,exPr e lev=p::l/\HeadOk p:=by
 refine Ex.ind fun op t n v args ih=>?_;intro hf lev;by_cases hp:exLev op<lev
 ·rw[D8 hp];exact⟨_,_,rfl,.inr (.inl acx)⟩
 ·rw[Da (by simp only[Ex.op];omega)];rcases formed_cases hf with⟨rfl,rfl,rfl,hn,ht⟩|⟨rfl,rfl,hv,rfl,rfl⟩|⟨a,ho,rfl,ha,rfl,rfl,rfl⟩|⟨a,b,h3,h13,rfl,ha,hb,rfl,rfl,rfl⟩
  ·rw[D9];by_cases htt:t=[]
   ·subst htt;exact⟨n,[],by simp[whenP],.inl hn⟩
   ·exact⟨t,[[46],n],by simp[whenP,htt],.inl (ht.resolve_left htt)⟩
  ·rw[E3];exact Zz hv
  ·rcases ho with rfl|rfl
   ·exact⟨[110,111,116],exPr a 2,E5 _ _ _ _,.inr (.inl acx)⟩
   ·obtain⟨p,l,h,h2⟩:=ih a acx ha 4;exact⟨p,l++[[105,115],[110,117,108,108]],by rw[Dw,h];simp,h2⟩
  ·obtain⟨p,l,h,h2⟩:=ih a acx ha (if levP op=3 then 4 else levP op);exact ahr
theorem Gi {sz:Int} {e:Ex} {lp rest:List Tok} (h:e.formed=true) (hlp:Carries (exPr e 0) lp) (hs:Soft endWords rest):anyR sz (lp++rest)=.ok e rest:=
 ((ip sz e h) 0 acw lp hlp).1 rest (hs.stop 0)
theorem Mg {α:Type} {f:α->List Bytes} {read:List Tok->Res α} {S:List Tok->Prop} {rest:List Tok} (hS:∀t r,IsTok [44] t->S (t::r)) (hrest:S rest) (hnc:tk [44] rest=none):
 ∀(xs:List α) (fuel:Nat) (acc:List α) (lp:List Tok),(∀x∈xs,∀lp rest,Carries (f x) lp->S rest->read (lp++rest)=.ok x rest)->Carries (xs.flatMap fun y=>[44]::f y) lp->xs.length<=fuel ->
 moreR read fuel acc (lp++rest)=.ok (acc++xs) rest
 | [],fuel,acc,lp,_,hlp,_=>by
  rw[An hlp,uc,vr]
  cases fuel with
  | zero=>rfl
  | succ f=>rw[moreR,hnc]
 | x::xs,fuel,acc,lp,hel,hlp,hf=>by
  obtain⟨f,rfl⟩:∃f',fuel=f'+1:=⟨fuel - 1,by simp at hf;omega⟩;rw[v8]at hlp;obtain⟨la,lb,rfl,ha,hb⟩:=Ae hlp;obtain⟨t,r,rfl,ht,hr⟩:=Ab ha;rw[moreR,tz,tz,Ax (fx ac0) ht];simp only[uv];have hs:S (lb++rest):=by
   cases xs with
   | nil=>rw[An hb];exact hrest
   | cons y ys=>exact kq
  rw[hel x acx r (lb++rest) hr hs];simp only[Res.bind];rw[Mg hS hrest hnc xs f (acc++[x]) lb (fun y hy=>hel y (by simp[hy])) hb (by simp at hf;omega)];simp
theorem Qm {α:Type} {f:α->List Bytes} (xs:List α):xs.length<=(xs.flatMap fun y=>[44]::f y).length:=by
 induction xs with
 | nil=>simp
 | cons x xs ih=>simp only[v8,ua,tw];omega
theorem Du {α:Type} {f:α->List Bytes} {read:List Tok->Res α} {S:List Tok->Prop} {xs:List α} {lp rest:List Tok} (hel:∀x∈xs,∀lp rest,Carries (f x) lp->S rest->read (lp++rest)=.ok x rest) (hS:∀t r,IsTok [44] t->S (t::r)) (hx:xs≠[]) (hlp:Carries (eachP f xs) lp) (hrest:S rest) (hnc:tk [44] rest=none):listR read (lp++rest)=.ok xs rest:=by
 cases xs with
 | nil=>exact absurd rfl hx
 | cons x xs=>
  simp only[eachP]at hlp;obtain⟨la,lb,rfl,ha,hb⟩:=Ae hlp;have hs:S (lb++rest):=by
   cases xs with
   | nil=>rw[An hb];exact hrest
   | cons y ys=>exact kq
  unfold listR;rw[uv,hel x acx la (lb++rest) ha hs];simp only[Res.bind];have hl:=Ek hb;rw[Mg hS hrest hnc xs _ [x] lb (fun y hy=>hel y (by simp[hy])) hb (by have:=Qm (f:=f) xs;simp only[ua];omega)];rfl
theorem read_inside {α:Type} {sz:Int} {read:List Tok->Res α} {a:α} {ps:List Bytes} {lp rest:List Tok} (h:∀lp t r,Carries ps lp->IsTok [41] t->read (lp++t::r)=.ok a (t::r)) (hlp:Carries ([40]::(ps++[[41]])) lp):insideR sz read (lp++rest)=.ok a rest:=by
 obtain⟨t,r,rfl,ht,hr⟩:=Ab hlp;obtain⟨la,lb,rfl,ha,hb⟩:=Ae hr;obtain⟨u,rfl,hu⟩:=Af hb;simp only[insideR,tz,uv,uc,Aq (fx (w:=[40]) ac0) ht,Az,Res.bind,h la u rest ha hu,Aq (fx (w:=[41]) ac0) hu,Res.map]
theorem Gh {sz:Int} {c:Col} {lp rest:List Tok} (h:c.kinded=true) (hlp:Carries (colP c) lp) (hn:tk [110,111,116] rest=none):columnR sz (lp++rest)=.ok c rest:=by
 obtain⟨nm,k,nl⟩:=c;simp only[Col.kinded,tr,uk]at h;obtain⟨⟨h1,h2⟩,h3⟩:=h;simp only[colP,tz,uc]at hlp;obtain⟨t,r,rfl,ht,hr⟩:=Ab hlp;obtain⟨u,r2,rfl,hu,hr2⟩:=Ab hr;have hk:k=1\/k=2\/k=3:=acw;have hfin:∀k:Int,(match tk [110,111,116] (r2++rest)with
   | some r=>(wantsR sz [[110,117,108,108]] r).map fun _=>(⟨nm,k,false⟩:Col)
   | none=>.ok ⟨nm,k,true⟩ (r2++rest))=.ok ⟨nm,k,nl⟩ rest:=fun k=>by
  cases nl with
  | true=>
   simp only[Bool.not_true,whenP,u9,wy]at hr2;rw[An hr2,uc,hn]
  | false=>
   simp only[Bool.not_false,whenP,if_true]at hr2;obtain⟨x,q,rfl,hx,hq⟩:=Ab hr2;obtain⟨y,rfl,hy⟩:=Af hq;simp only[tz,uc,Ax (fx (w:=[110,111,116]) ac0) hx,Aq (fx (w:=[110,117,108,108]) ac0) hy,Az,Res.map]
 unfold columnR;simp only[tz,A0 h1 ht,Res.bind];rcases hk with rfl|rfl|rfl
 ·simp only[kindP,if_true]at hu;simp only[Ax (fx (w:=[105,110,116]) ac0) hu];exact hfin 1
 ·simp only[kindP,if_true,if_neg (show(2:Int)≠1 by decide)]at hu;simp only[Aj (w:=[105,110,116]) hu acy,Ax (fx (w:=[116,101,120,116]) ac0) hu];exact hfin 2
 ·simp only[kindP,if_neg (show(3:Int)≠1 by decide),if_neg (show(3:Int)≠2 by decide)]at hu;simp only[Aj (w:=[105,110,116]) hu acy,Aj (w:=[116,101,120,116]) hu acy,Aq (fx (w:=[98,111,111,108]) ac0) hu,Az,Res.map];exact hfin 3
theorem R6 {sz:Int} {cols:List Col} {x:Chk} {lp rest:List Tok} (hc:cols.all Col.kinded=true) (h:x.okIn cols=true) (hlp:Carries ([[99,104,101,99,107],[40],(cols.map (·.name)).getD x.col.toNat [],signP x.op]++pVal x.val++[[41]]) lp):checkR sz cols (lp++rest)=.ok x rest:=by
 obtain⟨col,op,val⟩:=x;simp only[Chk.okIn,tr,uk]at h;obtain⟨⟨⟨⟨⟨h1,h2⟩,h3⟩,h4⟩,h5⟩,h6⟩:=h;simp only at hlp;generalize hnm:(cols.map (·.name)).getD col.toNat []=nm at *;have hname:isName nm=true:=by
  have hlt:col.toNat<cols.length:=acw;rw[zb,aai,vd hlt]at hnm;simp only[ze,zy]at hnm;have:=vg.1 hc cols[col.toNat] (ab6 hlt);simp only[Col.kinded,tr]at this;rw[<- hnm];exact this.1.1
 obtain⟨lx,lz,rfl,hx,hz⟩:=Ae hlp;obtain⟨la,lv,rfl,ha,hv⟩:=Ae hx;obtain⟨t,r,rfl,ht,ha⟩:=Ab ha;obtain⟨t,r,rfl,ht2,ha⟩:=Ab ha;obtain⟨t,r,rfl,ht3,ha⟩:=Ab ha;obtain⟨t,rfl,ht4⟩:=Af ha;obtain⟨t,rfl,ht5⟩:=Af hz;obtain⟨hsg,hfx,_,_,_,_⟩:=Ct (op:=op) acw acw;have hl:levP op=3:=by
  have hh:op=6\/op=7\/op=8\/op=9\/op=10\/op=11:=acw;rcases hh with rfl|rfl|rfl|rfl|rfl|rfl<;>decide+kernel
 obtain⟨k1,k2,_⟩:=Bu (D6 hname) ht3;obtain⟨k,hk,hkc⟩:∃k:Nat,colIdx nm cols=some k/\(k:Int)=col:=by
  cases hci:colIdx nm cols with
  | none=>rw[hci]at h6;cases h6
  | some k=>rw[hci]at h6;exact⟨k,rfl,by simpa using h6⟩
 unfold checkR;simp only[tz,uc,uv,Aq (fx (w:=[99,104,101,99,107]) ac0) ht,Aq (fx (w:=[40]) ac0) ht2,Az,Res.bind,checkColR,nextR];rw[if_pos k1];simp only[k2,hk,A0 hname ht3,D4 hfx ht4,opPair,hsg,zy,hl,ne_eq,aag,wy,abt,Fi h5 hv,Aq (fx (w:=[41]) ac0) ht5,Az,Res.map,hkc]
theorem Mh {sz:Int} {rest:List Tok} {S:Prop} (hn:tk [110,111,116] rest=none):∀(cs:List Col) (fuel:Nat) (acc:List Col) (lp:List Tok),cs.all Col.kinded=true->Carries (cs.flatMap fun c=>[44]::colP c) lp->cs.length<=fuel ->
 tableMore sz fuel acc [] (lp++rest)=tableMore sz (fuel - cs.length) (acc++cs) [] rest
 | [],fuel,acc,lp,_,hlp,_=>by rw[An hlp];simp
 | c::cs,fuel,acc,lp,hc,hlp,hf=>by
  obtain⟨f,rfl⟩:∃f',fuel=f'+1:=⟨fuel - 1,by simp at hf;omega⟩;simp only[zi,tr]at hc;rw[v8]at hlp;obtain⟨la,lb,rfl,ha,hb⟩:=Ae hlp;obtain⟨t,r,rfl,ht,hr⟩:=Ab ha;have hnm:isName c.name=true:=by
   have:=hc.1;simp only[Col.kinded,tr]at this;exact this.1.1
  have hnot:tk [110,111,116] (lb++rest)=none:=by
   cases cs with
   | nil=>rw[An hb];exact hn
   | cons d ds=>
    rw[v8]at hb;obtain⟨lc,ld,rfl,hcc,_⟩:=Ae hb;exact Dc (w:=[110,111,116]) (rest:=ld++rest) hcc acy▸by rw[uv]
  have hhead:tk [99,104,101,99,107] (r++(lb++rest))=none/\headIs 2 (r++(lb++rest))=true:=by
   simp only[colP,tz,uc]at hr;obtain⟨u,q,rfl,hu,_⟩:=Ab hr;refine⟨Aj hu (Ih hnm (fx ac0)),?_⟩;simp only[tz,headIs,(Bu (D6 hnm) hu).1,zj]
  rw[tableMore,tz,tz,Ax (fx ac0) ht];simp only[uv,hhead.1,abw,tx,abh,zt,Bool.or_self,u9,wy,hhead.2,if_true,Gh hc.1 hr hnot,Res.bind];rw[Mh (S:=S) hn cs f (acc++[c]) lb hc.2 hb (by simp at hf;omega)];simp only[uv,tz,uc,tw];rw[show f+1 - (cs.length+1)=f - cs.length by omega]
theorem Ja {sz:Int} {rest:List Tok} (cols:List Col) (hcols:cols.all Col.kinded=true) (hnc:tk [44] rest=none):∀(xs:List Chk) (fuel:Nat) (acc:List Chk) (lp:List Tok),(∀x∈xs,x.okIn cols=true)->Carries (xs.flatMap (chkP cols)) lp->xs.length<=fuel ->
 tableMore sz fuel cols acc (lp++rest)=.ok (cols,acc++xs) rest
 | [],fuel,acc,lp,_,hlp,_=>by
  rw[An hlp,uc,vr]
  cases fuel with
  | zero=>rfl
  | succ f=>rw[tableMore,hnc]
 | x::xs,fuel,acc,lp,hx,hlp,hf=>by
  obtain⟨f,rfl⟩:∃f',fuel=f'+1:=⟨fuel - 1,by simp at hf;omega⟩;rw[v8]at hlp;obtain⟨la,lb,rfl,ha,hb⟩:=Ae hlp;simp only[chkP,tz,uc]at ha;obtain⟨t,r,rfl,ht,hr⟩:=Ab ha;have hck:(tk [99,104,101,99,107] (r++(lb++rest))).isSome=true:=by
   obtain⟨u,q,rfl,hu,_⟩:=Ab hr;rw[tz,Ax (fx ac0) hu];rfl
  rw[tableMore,tz,tz,Ax (fx ac0) ht];simp only[uv,hck,aa9,if_true];rw[R6 hcols (hx x acx) (by simpa using hr)];simp only[Res.bind];rw[Ja cols hcols hnc xs f (acc++[x]) lb (fun y hy=>hx y (by simp[hy])) hb (by simp at hf;omega)];simp
theorem Vq (cols:List Col):∀xs:List Chk,xs.length<=(xs.flatMap (chkP cols)).length
 | []=>by simp
 | x::xs=>by
  have:=Vq cols xs;simp only[v8,ua,tw,chkP];omega
theorem R4 {sz:Int} {t:Tbl} {lp rest:List Tok} (h:t.tabled=true) (hlp:Carries (tblP t) lp):tableR sz (lp++rest)=.ok t rest:=by
 obtain⟨nm,cols,idx,checks⟩:=t;simp only[Tbl.tabled,allR,tr,uk]at h;obtain⟨⟨⟨h1,h2⟩,⟨⟨h3,h4⟩,h5⟩⟩,⟨⟨h6,h7⟩,h8⟩⟩:=h;have hidx:idx=[]:=ut h2;subst hidx;simp only[tblP,tz,uc]at hlp;obtain⟨u,r,rfl,hu,hr⟩:=Ab hlp;obtain⟨v,r,rfl,hv,hr⟩:=Ab hr;obtain⟨lx,lz,rfl,hx,hz⟩:=Ae hr;obtain⟨lc,lk,rfl,hc,hk⟩:=Ae hx;obtain⟨z,rfl,hz'⟩:=Af hz;clear hz;have hz:=hz';clear hz';obtain⟨c,cs,rfl⟩:∃c cs,cols=c::cs:=by
  cases cols with
  | nil=>simp at h3
  | cons c cs=>exact⟨c,cs,rfl⟩
 simp only[eachP]at hc;obtain⟨l,l2,rfl,hc1,hc2⟩:=Ae hc;have hall:=h5;simp only[zi,tr]at h5;have hnot:tk [110,111,116] (lk++z::rest)=none:=by
  cases checks with
  | nil=>rw[An hk];exact Aj hz acy
  | cons x xs=>
   rw[v8]at hk;obtain⟨la,lb,rfl,ha,_⟩:=Ae hk;simp only[chkP,tz,uc]at ha;obtain⟨y,q,rfl,hy,_⟩:=Ab ha;exact Aj hy acy
 have hnot2:tk [110,111,116] (l2++(lk++z::rest))=none:=by
  cases cs with
  | nil=>rw[An hc2];exact hnot
  | cons d ds=>
   rw[v8]at hc2;obtain⟨la,lb,rfl,ha,_⟩:=Ae hc2;obtain⟨y,q,rfl,hy,_⟩:=Ab ha;exact Aj hy acy
 unfold tableR;simp only[tz,uv,uc,A0 h1 hu,Res.bind,Aq (fx (w:=[40]) ac0) hv,Az,Gh h5.1 hc1 hnot2];have e:=Ek hc2;have e:=Ek hk;have e:=Qm (f:=colP) cs;have e:=Vq (c::cs) checks;rw[Mh (S:=True) hnot cs _ [c] l2 h5.2 hc2 (by simp only[ua];omega)];rw[show[c]++cs=c::cs from rfl,Ja (c::cs) hall (Aj hz acy) checks _ [] lk (fun x hx=>vg.1 h8 x hx) hk (by simp only[ua,tw];omega)];simp only[Aq (fx (w:=[41]) ac0) hz,Az,Res.map,uc]
theorem D5 {sz:Int} {e:Ex} {lp rest:List Tok} (h:e.formed=true) (hlp:Carries ([40]::(exPr e 0++[[41]])) lp):insideR sz (anyR sz) (lp++rest)=.ok e rest:=
 read_inside (fun lp t r hl ht=>Gi h hl (Soft.cons ht acy)) hlp
theorem Ws {sz:Int} {x:Pk} {lp rest:List Tok} (h:x.picked=true) (hlp:Carries (itemP x) lp) (hs:Soft endWords rest):itemR sz (lp++rest)=.ok x rest:=by
 obtain⟨fn,e⟩:=x;simp only[Pk.picked]at h;by_cases h1:fn=1
 ·subst h1;rw[if_pos rfl]at h;have he:=isZero_eq h;subst he;simp only[itemP,if_neg (show(1:Int)≠0 by decide),if_true]at hlp;obtain⟨t,r,rfl,ht,hr⟩:=Ab hlp;obtain⟨t,r,rfl,ht2,hr⟩:=Ab hr;obtain⟨t,r,rfl,ht3,hr⟩:=Ab hr;obtain⟨t,rfl,ht4⟩:=Af hr;simp only[itemR,tz,uc,Ax (fx (w:=[99,111,117,110,116]) ac0) ht,Aq (fx (w:=[40]) ac0) ht2,Aq (fx (w:=[42]) ac0) ht3,Aq (fx (w:=[41]) ac0) ht4,Az,Res.map]
 ·rw[if_neg h1]at h;simp only[tr,uk]at h;obtain⟨⟨h0,h4⟩,hg⟩:=h;have hf:=Ay hg;have hh:fn=0\/fn=2\/fn=3\/fn=4:=acw;rcases hh with rfl|rfl|rfl|rfl
  ·simp only[itemP,if_true]at hlp;obtain⟨p,l,hp,hok⟩:=Vl e hf 0;have hlp':=hlp;rw[hp]at hlp';simp only[itemR,Dc (w:=[99,111,117,110,116]) hlp' (hok.ne (fx ac0) acy),Dc (w:=[115,117,109]) hlp' (hok.ne (fx ac0) acy),Dc (w:=[109,105,110]) hlp' (hok.ne (fx ac0) acy),Dc (w:=[109,97,120]) hlp' (hok.ne (fx ac0) acy),Gi hf hlp hs,Res.map]
  ·simp only[itemP,if_neg (show(2:Int)≠0 by decide),if_neg (show(2:Int)≠1 by decide),if_true,tz,uc]at hlp;obtain⟨t,r,rfl,ht,hr⟩:=Ab hlp;simp only[itemR,tz,Aj (w:=[99,111,117,110,116]) ht acy,Ax (fx (w:=[115,117,109]) ac0) ht,D5 hf hr,Res.map]
  ·simp only[itemP,if_neg (show(3:Int)≠0 by decide),if_neg (show(3:Int)≠1 by decide),if_neg (show(3:Int)≠2 by decide),if_true,tz,uc]at hlp;obtain⟨t,r,rfl,ht,hr⟩:=Ab hlp;simp only[itemR,tz,Aj (w:=[99,111,117,110,116]) ht acy,Aj (w:=[115,117,109]) ht acy,Ax (fx (w:=[109,105,110]) ac0) ht,D5 hf hr,Res.map]
  ·simp only[itemP,if_neg (show(4:Int)≠0 by decide),if_neg (show(4:Int)≠1 by decide),if_neg (show(4:Int)≠2 by decide),if_neg (show(4:Int)≠3 by decide),tz,uc]at hlp;obtain⟨t,r,rfl,ht,hr⟩:=Ab hlp;simp only[itemR,tz,Aj (w:=[99,111,117,110,116]) ht acy,Aj (w:=[115,117,109]) ht acy,Aj (w:=[109,105,110]) ht acy,Ax (fx (w:=[109,97,120]) ac0) ht,D5 hf hr,Res.map]
theorem Mx {x:Pk} (h:x.picked=true):∃p l,itemP x=p::l/\p≠[42]/\p≠[100,105,115,116,105,110,99,116]:=by
 obtain⟨fn,e⟩:=x;simp only[Pk.picked]at h;by_cases h1:fn=1
 ·subst h1;exact⟨[99,111,117,110,116],_,rfl,by decide,by decide⟩
 ·rw[if_neg h1]at h;simp only[tr,uk]at h;obtain⟨⟨h0,h4⟩,hg⟩:=h;have hh:fn=0\/fn=2\/fn=3\/fn=4:=acw;rcases hh with rfl|rfl|rfl|rfl
  ·obtain⟨p,l,hp,hok⟩:=Vl e (Ay hg) 0;exact⟨p,l,by simpa[itemP]using hp,hok.ne (fx ac0) acy,hok.ne (fx ac0) acy⟩
  ·exact⟨[115,117,109],_,rfl,by decide,by decide⟩
  ·exact⟨[109,105,110],_,rfl,by decide,by decide⟩
  ·exact⟨[109,97,120],_,rfl,by decide,by decide⟩
def sortEnds:List Bytes:=[[44],[108,105,109,105,116]]
theorem Wr {sz:Int} {s:Srt} {lp rest:List Tok} (h:s.okS=true) (hlp:Carries (srtP s) lp) (hs:Soft sortEnds rest):sortR sz (lp++rest)=.ok s rest:=by
 obtain⟨pl,down⟩:=s;simp only[Srt.okS,tr,uk]at h;simp only[srtP]at hlp;obtain⟨la,lb,rfl,ha,hb⟩:=Ae hlp;simp only[sortR,uv,Gg (sz:=sz) (rest:=lb++rest) h.1 h.2 ha,Res.bind]
 cases down with
 | true=>
  simp only[whenP,if_true]at hb;obtain⟨t,rfl,ht⟩:=Af hb;simp only[tz,uc,Aj (w:=[97,115,99]) ht acy,Ax (fx (w:=[100,101,115,99]) ac0) ht]
 | false=>
  simp only[whenP,u9,wy]at hb;rw[An hb,uc,hs.tk acy,hs.tk acy]
def joinEnds:List Bytes:=[[119,104,101,114,101],[103,114,111,117,112],[111,114,100,101,114],[108,105,109,105,116]]
theorem Ky {sz:Int} {rest:List Tok} (hs:Soft joinEnds rest):∀(ns:List Bytes) (es:List Ex) (fuel:Nat) (fr:List Bytes) (on:List Ex) (lp:List Tok),ns.length=es.length->(∀n∈ns,isName n=true)->(∀e∈es,e.formed=true) ->
 Carries (joinsP ns es) lp->ns.length<=fuel->joinsR sz fuel fr on (lp++rest)=.ok (fr++ns,on++es) rest
 | [],es,fuel,fr,on,lp,hl,_,_,hlp,_=>by
  have:es=[]:=ut (by simp only[tx]at hl;omega);subst this;have h0:lp=[]:=An (by simpa[joinsP]using hlp);subst h0;rw[uc,vr,vr]
  cases fuel with
  | zero=>rfl
  | succ f=>rw[joinsR,hs.tk acy]
 | n::ns,[],fuel,fr,on,lp,hl,_,_,_,_=>by simp at hl
 | n::ns,e::es,fuel,fr,on,lp,hl,hn,he,hlp,hf=>by
  obtain⟨f,rfl⟩:∃f',fuel=f'+1:=⟨fuel - 1,by simp at hf;omega⟩;simp only[joinsP,tz,uc]at hlp;obtain⟨t1,r,rfl,ht1,hr⟩:=Ab hlp;obtain⟨t2,r,rfl,ht2,hr⟩:=Ab hr;obtain⟨t3,r,rfl,ht3,hr⟩:=Ab hr;obtain⟨la,lb,rfl,ha,hb⟩:=Ae hr;have hend:Soft endWords (lb++rest):=by
   cases ns with
   | nil=>
    have:es=[]:=ut (by simp only[tw,tx]at hl;omega);subst this;have h0:lb=[]:=An (by simpa[joinsP]using hb);subst h0;exact hs.mono acy
   | cons m ms=>
    cases es with
    | nil=>simp at hl
    | cons d ds=>
     simp only[joinsP,tz,uc]at hb;obtain⟨u,q,rfl,hu,_⟩:=Ab hb;exact Soft.cons hu acy
  rw[joinsR,tz,Ax (fx ac0) ht1];simp only[tz,A0 (hn n acx) ht2,Res.bind,Aq (fx (w:=[111,110]) ac0) ht3,Az,uv,Gi (he e acx) ha hend];rw[Ky hs ns es f (fr++[n]) (on++[e]) lb (by simpa using hl) (fun m hm=>hn m (by simp[hm])) (fun d hd=>he d (by simp[hd])) hb (by simp at hf;omega)];simp
theorem Hn {sz:Int} {e:Ex} {lp rest:List Tok} (h:condR e=true) (hlp:Carries (whereP e) lp) (hs:Soft endWords rest) (hw:tk [119,104,101,114,101] rest=none):whereR sz (lp++rest)=.ok e rest:=by
 unfold whereP at hlp;unfold whereR;split at hlp
 ·rename_i hz;rw[An hlp,uc,hw,isZero_eq hz]
 ·rename_i hz;simp only[condR,vy]at h;obtain⟨t,r,rfl,ht,hr⟩:=Ab hlp;rw[tz,Ax (fx ac0) ht];exact Gi (Ay (h.resolve_left hz)) hr hs
theorem Ve {α:Type} {sz:Int} {w:Bytes} (hw:Fixed w) {f:α->List Bytes} {read:List Tok->Res α} {S:List Tok->Prop} {xs:List α} {lp rest:List Tok} (hel:∀x∈xs,∀lp rest,Carries (f x) lp->S rest->read (lp++rest)=.ok x rest) (hS:∀t r,IsTok [44] t->S (t::r)) (hlp:Carries (whenP (decide (0<xs.length)) [w,[98,121]]++eachP f xs) lp) (hrest:S rest) (hnc:tk [44] rest=none) (hnw:tk w rest=none):byR sz w read (lp++rest)=.ok xs rest:=by
 unfold byR;by_cases hx:xs=[]
 ·subst hx;simp only[tx,abh,zt,whenP,u9,wy,uc,eachP]at hlp;rw[An hlp,uc,hnw]
 ·have hpos:0<xs.length:=aib.2 hx;simp only[hpos,zj,whenP,if_true,tz,uc]at hlp;obtain⟨t,r,rfl,ht,hr⟩:=Ab hlp;obtain⟨u,r,rfl,hu,hr⟩:=Ab hr;rw[tz,Ax hw ht];simp only[tz,Aq (fx (w:=[98,121]) ac0) hu,Az,Res.bind];exact Du hel hS hx hr hrest hnc
theorem T2 {sz:Int} {e:Ex} {lp rest:List Tok} (h:groupOk e=true) (hlp:Carries (exPr e 0) lp) (hs:tk [46] rest=none):refR sz (lp++rest)=.ok e rest:=by
 obtain⟨op,t,n,v,args⟩:=e;simp only[groupOk,tr,uk]at h;have h1:op=1:=h.1;subst h1;rcases formed_cases (Ay h.2)with⟨_,rfl,rfl,hn,ht⟩|⟨h,_⟩|⟨a,h|h,_⟩|⟨a,b,h,_⟩
 ·rw[Da (by simp only[Ex.op];decide),D9]at hlp;by_cases htt:t=[]
  ·subst htt;simp only[ne_eq,aag,zt,whenP,u9,wy,uc]at hlp;obtain⟨u,rfl,hu⟩:=Af hlp;simp only[refR,tz,uc,A0 hn hu,Res.bind,hs];rfl
  ·have hnt:=ht.resolve_left htt;simp only[ne_eq,htt,abg,zj,whenP,if_true,tz,uc]at hlp;obtain⟨u,r,rfl,hu,hr⟩:=Ab hlp;obtain⟨x,r,rfl,hx,hr⟩:=Ab hr;obtain⟨y,rfl,hy⟩:=Af hr;simp only[refR,tz,uc,A0 hnt hu,Res.bind,Ax (w:=[46]) (fx ac0) hx,A0 hn hy,Res.map];rfl
 ·exact absurd h acy
 ·exact absurd h acy
 ·exact absurd h acy
 ·exact absurd h acy
theorem Mc {α:Type} {f:α->List Bytes} {xs:List α} {w:Bytes} {ws:List Bytes} {more:List Bytes} {lp rest:List Tok} (hlp:Carries (whenP (decide (0<xs.length)) (w::more)++eachP f xs) lp) (hw:w∈ws) (hs:Soft ws rest):Soft ws (lp++rest):=by
 by_cases hx:xs=[]
 ·subst hx;simp only[tx,abh,zt,whenP,u9,wy,uc,eachP]at hlp;rw[An hlp];exact hs
 ·have hpos:0<xs.length:=aib.2 hx;simp only[hpos,zj,whenP,if_true,tz]at hlp;obtain⟨t,r,rfl,ht,_⟩:=Ab hlp;exact Soft.cons ht hw
theorem Mt:∀(fs:List Bytes) (on:List Ex),fs.length=on.length->fs.length<=(joinsP fs on).length
 | [],on,_=>by simp
 | f::fs,[],h=>by simp at h
 | f::fs,e::es,h=>by
  have:=Mt fs es (by simpa using h);simp only[joinsP,ua,tw];omega
theorem O9 {sz:Int} {x:Sel} {lp:List Tok} (h:x.chosen=true) (hlp:Carries (selP x) lp):∃t r,lp=t::r/\IsTok [115,101,108,101,99,116] t/\chooseR sz r=.ok x []:=by
 obtain⟨d,items,fr,on,wh,gr,so,lim⟩:=x;simp only[Sel.chosen,allR,tr,uk]at h;obtain⟨⟨⟨⟨⟨⟨⟨h1,h2⟩,h3⟩,h4⟩,h5⟩,h6⟩,h7⟩,h8⟩:=h;simp only[selP]at hlp;obtain⟨l9,llim,rfl,hlp,hlim⟩:=Ae hlp;obtain⟨l8,lso,rfl,hlp,hso2⟩:=Ae hlp;obtain⟨l7,lso1,rfl,hlp,hso1⟩:=Ae hlp;obtain⟨l6,lgr,rfl,hlp,hgr2⟩:=Ae hlp;obtain⟨l5,lgr1,rfl,hlp,hgr1⟩:=Ae hlp;obtain⟨l4,lwh,rfl,hlp,hwh⟩:=Ae hlp;obtain⟨l3,ljo,rfl,hlp,hjo⟩:=Ae hlp;obtain⟨l2,lfr,rfl,hlp,hfr⟩:=Ae hlp;obtain⟨l1,lit,rfl,hlp,hit⟩:=Ae hlp;obtain⟨l0,lst,rfl,hlp,hst⟩:=Ae hlp;obtain⟨lse,ldi,rfl,hse,hdi⟩:=Ae hlp;obtain⟨t,rfl,ht⟩:=Af hse;refine⟨t,ldi++(lst++(lit++(lfr++(ljo++(lwh++(lgr1++(lgr++(lso1++(lso++llim))))))))),by simp only[tz,uc,uv],ht,?_⟩;have hso:Carries (whenP (decide (0<so.length)) [[111,114,100,101,114],[98,121]]++eachP srtP so) (lso1++lso):=hso1.app hso2;have hgr:Carries (whenP (decide (0<gr.length)) [[103,114,111,117,112],[98,121]]++eachP (fun e=>exPr e 0) gr) (lgr1++lgr):=hgr1.app hgr2;have s9:Soft [[108,105,109,105,116]] llim:=by
  by_cases h0:0<=lim
  ·simp only[h0,zj,whenP,if_true]at hlim;obtain⟨u,r,rfl,hu,_⟩:=Ab hlim;exact Soft.cons hu acx
  ·simp only[h0,zt,whenP,u9,wy]at hlim;rw[An hlim];exact Soft.nil _
 have s8:Soft [[111,114,100,101,114],[108,105,109,105,116]] ((lso1++lso)++llim):=Mc hso acx (s9.mono acy);have s7:Soft [[103,114,111,117,112],[111,114,100,101,114],[108,105,109,105,116]] ((lgr1++lgr)++((lso1++lso)++llim)):=Mc hgr acx (s8.mono acy);have s6:Soft joinEnds (lwh++((lgr1++lgr)++((lso1++lso)++llim))):=by
  unfold whereP at hwh;split at hwh
  ·rw[An hwh,uc];exact s7.mono acy
  ·obtain⟨u,r,rfl,hu,_⟩:=Ab hwh;exact Soft.cons hu acy
 obtain⟨f0,fs,rfl⟩:∃f0 fs,fr=f0::fs:=by
  cases fr with
  | nil=>simp at h2
  | cons f0 fs=>exact⟨f0,fs,rfl⟩
 have hfn:=h2.2;simp only[zi,tr]at hfn;simp only[abp]at hfr;obtain⟨tf,r,rfl,htf,hr⟩:=Ab hfr;obtain⟨tn,rfl,htn⟩:=Af hr;simp only[vo,vz]at hjo;have hol:fs.length=on.length:=by have:=h3.1;simp only[tw]at this;omega
 have hone:∀e∈on,e.formed=true:=fun e he=>Ay (vg.1 h3.2 e he);have hitems:itemsR sz ((lst++lit)++(tf::tn::(ljo++(lwh++((lgr1++lgr)++((lso1++lso)++llim))))))=.ok items (tf::tn::(ljo++(lwh++((lgr1++lgr)++((lso1++lso)++llim))))):=by
  unfold itemsR;by_cases hi:items=[]
  ·subst hi;simp only[tx,zj,whenP,if_true]at hst;obtain⟨u,rfl,hu⟩:=Af hst;have h0:lit=[]:=An (by simpa[eachP]using hit);subst h0;simp only[tz,uc,vr];rw[Ax (fx ac0) hu]
  ·have hpos:¬items.length=0:=fun e=>hi (ut e);simp only[hpos,zt,whenP,u9,wy]at hst;rw[An hst,uc];have hhead:tk [42] (lit++(tf::tn::(ljo++(lwh++((lgr1++lgr)++((lso1++lso)++llim))))))=none:=by
    cases items with
    | nil=>exact absurd rfl hi
    | cons x xs=>
     simp only[eachP]at hit;obtain⟨la,lb,rfl,ha,_⟩:=Ae hit;have hx:=h1.2;simp only[zi,tr]at hx;obtain⟨p,l,hp,hn,_⟩:=Mx hx.1;rw[hp]at ha;rw[uv];exact Dc ha hn
   rw[hhead];exact Du (S:=Soft endWords) (fun x hx lp rest hl hs=>Ws (vg.1 h1.2 x hx) hl hs) (fun t r ht=>Soft.cons ht acy) hi hit (Soft.cons htf acy) (Aj htf acy)
 have hopt:optR [100,105,115,116,105,110,99,116] (ldi++((lst++lit)++(tf::tn::(ljo++(lwh++((lgr1++lgr)++((lso1++lso)++llim)))))))=(d,(lst++lit)++(tf::tn::(ljo++(lwh++((lgr1++lgr)++((lso1++lso)++llim)))))):=by
  unfold optR
  cases d with
  | true=>
   simp only[whenP,if_true]at hdi;obtain⟨u,rfl,hu⟩:=Af hdi;rw[tz,Ax (fx ac0) hu,uc]
  | false=>
   simp only[whenP,u9,wy]at hdi;rw[An hdi,uc];have:tk [100,105,115,116,105,110,99,116] ((lst++lit)++(tf::tn::(ljo++(lwh++((lgr1++lgr)++((lso1++lso)++llim))))))=none:=by
    by_cases hi:items=[]
    ·subst hi;simp only[tx,zj,whenP,if_true]at hst;obtain⟨u,rfl,hu⟩:=Af hst;exact Aj hu acy
    ·have hpos:¬items.length=0:=fun e=>hi (ut e);simp only[hpos,zt,whenP,u9,wy]at hst;rw[An hst,uc]
     cases items with
     | nil=>exact absurd rfl hi
     | cons x xs=>
      simp only[eachP]at hit;obtain⟨la,lb,rfl,ha,_⟩:=Ae hit;have hx:=h1.2;simp only[zi,tr]at hx;obtain⟨p,l,hp,_,hn⟩:=Mx hx.1;rw[hp]at ha;rw[uv];exact Dc ha hn
   rw[this]
 have e0:ldi++(lst++(lit++([tf,tn]++(ljo++(lwh++(lgr1++(lgr++(lso1++(lso++llim)))))))))=ldi++((lst++lit)++(tf::tn::(ljo++(lwh++((lgr1++lgr)++((lso1++lso)++llim)))))):=acx;have e1:=Ek hjo;have e2:=Mt fs on hol;have hjoin:=Ky (sz:=sz) s6 fs on ((ljo++(lwh++((lgr1++lgr)++((lso1++lso)++llim)))).length) [f0] [] ljo hol (fun n hn=>vg.1 hfn.2 n hn) hone hjo (by simp only[ua];omega);have hwhere:=Hn (sz:=sz) h4 hwh (s7.mono acy) (s7.tk acy);have hgroup:=Ve (sz:=sz) (w:=[103,114,111,117,112]) (fx ac0) (f:=fun e=>exPr e 0) (read:=refR sz) (S:=fun l=>tk [46] l=none) (fun e he lp rest hl hs=>T2 (vg.1 h5.2 e he) hl hs) (fun t r ht=>Aj ht acy) hgr (s8.tk acy) (s8.tk acy) (s8.tk acy);have hsort:=Ve (sz:=sz) (w:=[111,114,100,101,114]) (fx ac0) (f:=srtP) (read:=sortR sz) (S:=Soft sortEnds) (fun s hs' lp rest hl hs=>Wr (vg.1 h6.2 s hs') hl hs) (fun t r ht=>Soft.cons ht acy) hso (s9.mono acy) (s9.tk acy) (s9.tk acy);have hlimit:limitR sz llim=.ok lim []:=by
  unfold limitR;by_cases h0:0<=lim
  ·simp only[h0,zj,whenP,if_true]at hlim;obtain⟨u,r,rfl,hu,hr⟩:=Ab hlim;rw[Ax (fx ac0) hu];have:=Gg (sz:=sz) (rest:=[]) h0 h8 hr;rw[vr]at this;exact this
  ·simp only[h0,zt,whenP,u9,wy]at hlim;rw[An hlim];have:lim= -1:=acw;rw[this];rfl
 unfold chooseR;rw[e0,hopt];simp only[hitems,Res.bind,Aq (fx (w:=[102,114,111,109]) ac0) htf,Az,A0 hfn.1 htn,hjoin,hwhere,hgroup,hsort,hlimit,Res.map];rfl
end Go.Proofs.YtimoefagohifaaaGreatDoor
