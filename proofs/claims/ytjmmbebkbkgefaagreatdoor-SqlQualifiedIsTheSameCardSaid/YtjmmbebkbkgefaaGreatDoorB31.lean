/- Part 31; the last part says what is proved. No condition. -/
import Derived.Lib.ItoaLen
import Derived.Test.YtjmmbebkbkgefaaGreatDoorB15
set_option linter.unusedVariables false
set_option linter.unusedSimpArgs false
namespace Go.Proofs.YtjmmbebkbkgefaaGreatDoor
open Tryz
def Fixed (w:Bytes):Prop:=(keywords++signs).contains w=true
theorem Ox {w:Bytes} {t:Tok} (hw:Fixed w) (h:IsTok w t):(t.kind=1\/t.kind=5)/\t.s=w:=by
 have h1:=Vk hw;unfold IsTok at h;rw[h1]at h;simp only[Option.some.injEq,Prod.mk.injEq]at h;obtain⟨e1,e2,_⟩:=h;refine⟨?_,e2.symm⟩;rw[<- e1];split
 ·exact .inl rfl
 ·exact .inr rfl
theorem Q8 {p:Bytes} {t:Tok} (h:IsTok p t) (hk:t.kind=1\/t.kind=5):t.s=p:=by
 unfold IsTok partTok at h;split at h
 ·rename_i u n hu;split at h
  ·rename_i hl;simp only[Option.some.injEq,Prod.mk.injEq]at h;obtain⟨e1,e2,_⟩:=h;rw[<- e1]at hk;rw[<- e2]
   cases p with
   | nil=>simp[tokenR]at hu
   | cons c q=>
    simp only[tokenR]at hu;split at hu
    ·split at hu
     ·cases hu;simp only at hl ⊢;exact E6 (Gb hl)
     ·split at hu
      ·cases hu;simp at hk
      ·cases hu
    ·split at hu
     ·split at hu
      ·split at hu
       ·cases hu
       ·cases hu;simp at hk
      ·cases hu
     ·split at hu
      ·split at hu
       ·cases hu
       ·split at hu
        ·split at hu
         ·cases hu;simp at hk
         ·cases hu
        ·cases hu
      ·split at hu
       ·rename_i g hg
        cases hu;simp only at hl ⊢;obtain⟨_,hpre⟩:=Nx hg;exact(List.isPrefixOf_iff_prefix.1 hpre).eq_of_length hl
       ·cases hu
  ·cases h
 ·cases h
theorem Wv {p w:Bytes} {t:Tok} {r:List Tok} (h:IsTok p t) (hne:p≠w):tk w (t::r)=none:=by
 simp only[tk];rw[if_neg];rintro⟨h1,h2⟩;exact hne ((Q8 h h1).symm.trans h2)
theorem Qd {w:Bytes} {t:Tok} {r:List Tok} (hw:Fixed w) (h:IsTok w t):seesWord (t::r)=w:=by
 obtain⟨h1,h2⟩:=Ox hw h;simp only[seesWord];rw[if_pos h1,h2]
structure Stop (lev:Nat) (rest:List Tok):Prop where
 op:∀o lv,opOf (seesWord rest)=some (o,lv)->lv<(lev:Int)
 is:lev<=3->tk [105,115] rest=none
 dot:tk [46] rest=none
theorem Stop.mono {k m:Nat} {rest:List Tok} (h:Stop k rest) (hm:k<=m):Stop m rest:=⟨fun o lv ho=>by have:=h.op o lv ho;omega,fun h3=>h.is (by omega),h.dot⟩
theorem Oh:((List.range 16).all fun o=>decide (3<=o/\o<=13->opOf (signP o)=some ((o:Int),levP o)/\(keywords++signs).contains (signP o)=true/\signP o≠[105,115]/\0<=levP o/\levP o<=5/\levP o≠2))=true:=by decide+kernel
theorem Xq {op:Int} (h1:3<=op) (h2:op<=13):opOf (signP op)=some (op,levP op)/\Fixed (signP op)/\signP op≠[105,115]/\0<=levP op/\levP op<=5/\levP op≠2:=by
 obtain⟨n,rfl⟩:∃n:Nat,op=(n:Int):=⟨op.toNat,by omega⟩;have:=List.all_eq_true.1 Oh n (by simp;omega);simp only[decide_eq_true_eq]at this;exact this (by omega)
theorem M8 {op:Int} {t n:Bytes} {v:V} {args:List Ex} (h:(Ex.mk op t n v args).formed=true):
 (op=1/\args=[]/\v=V.null/\isName n=true/\(t=[]\/isName t=true))\/(op=2/\args=[]/\v.right=true/\t=[]/\n=[]) \/
 (∃a,(op=14\/op=15)/\args=[a]/\a.formed=true/\v=V.null/\t=[]/\n=[])\/(∃a b,3<=op/\op<=13/\args=[a,b]/\a.formed=true/\b.formed=true/\v=V.null/\t=[]/\n=[]):=by
 simp only[Ex.formed,nodeOk,Bool.and_eq_true,decide_eq_true_eq,Bool.or_eq_true]at h
 obtain⟨⟨⟨⟨⟨⟨h1,h2⟩,h3⟩,h4⟩,h5⟩,h6⟩,h7⟩:=h
 by_cases e1:op=1
 ·subst e1;simp only[true_or,if_true]at h3 h6;simp only[Bool.and_eq_true,Bool.or_eq_true,decide_eq_true_eq]at h6;have:args=[]:=List.eq_nil_of_length_eq_zero (by omega);exact .inl ⟨rfl,this,by rcases h5 with h5|h5;exact absurd h5 (by decide);exact h5,h6.1,h6.2⟩
 ·rw[if_neg e1]at h6;simp only[decide_eq_true_eq,List.append_eq_nil_iff]at h6;by_cases e2:op=2
  ·subst e2;simp only[or_true,if_true]at h3;have:args=[]:=List.eq_nil_of_length_eq_zero (by omega);exact .inr (.inl ⟨rfl,this,h4,h6.2,h6.1⟩)
  ·have hv:v=V.null:=by rcases h5 with h5|h5;exact absurd h5 e2;exact h5
   rw[if_neg (by omega)]at h3;by_cases e3:op=14\/op=15
   ·rw[if_pos e3]at h3;obtain⟨a,rfl⟩:∃a,args=[a]:=List.length_eq_one_iff.1 (by omega);simp only[formedL,Bool.and_true]at h7;exact .inr (.inr (.inl ⟨a,e3,rfl,h7,hv,h6.2,h6.1⟩))
   ·rw[if_neg e3]at h3;obtain⟨a,b,rfl⟩:∃a b,args=[a,b]:=by
     rcases args with _|⟨a,_|⟨b,_|⟨c,l⟩⟩⟩
     ·simp at h3
     ·simp at h3
     ·exact⟨a,b,rfl⟩
     ·simp at h3;omega
    simp only[formedL,Bool.and_true,Bool.and_eq_true]at h7;exact .inr (.inr (.inr ⟨a,b,by omega,by omega,rfl,h7.1,h7.2,hv,h6.2,h6.1⟩))
def bare:Ex->List Bytes
 | .mk op t n v args=>bodyP op t n v (exKids args)
theorem Y4 (t n:Bytes) (v:V):bare (.mk 1 t n v [])=whenP (decide (t≠[])) [t,[46]]++[n]:=by simp[bare,bodyP]
theorem Y2 (t n:Bytes) (v:V):bare (.mk 2 t n v [])=pVal v:=by simp[bare,bodyP]
theorem Pq (t n:Bytes) (v:V) (a:Ex):bare (.mk 14 t n v [a])=[110,111,116]::exPr a 2:=by simp[bare,bodyP,exKids]
theorem Wl (t n:Bytes) (v:V) (a:Ex):bare (.mk 15 t n v [a])=exPr a 4++[[105,115],[110,117,108,108]]:=by simp[bare,bodyP,exKids]
theorem Y3 {op:Int} (h3:3<=op) (h13:op<=13) (t n:Bytes) (v:V) (a b:Ex):bare (.mk op t n v [a,b])=exPr a (if levP op=3 then 4 else levP op)++[signP op]++exPr b (levP op+1):=by
 simp only[bare,bodyP,exKids];rw[if_neg (show op≠1 by omega),if_neg (show op≠2 by omega),if_neg (show op≠14 by omega),if_neg (show op≠15 by omega)]
theorem Qa {w:Bytes} {t:Tok} {r:List Tok} {lev:Nat} (hw:Fixed w) (h:IsTok w t) (ho:∀o lv,opOf w=some (o,lv)->lv<(lev:Int)) (hi:lev<=3->w≠[105,115]) (hd:w≠[46]):Stop lev (t::r):=
 ⟨by rw[Qd hw h];exact ho,fun h3=>Wv h (hi h3),Wv h hd⟩
theorem isZero_eq {e:Ex} (h:e.isZero=true):e=Ex.zero:=by
 obtain⟨op,t,n,v,args⟩:=e;simp only[Ex.isZero,Bool.and_eq_true,decide_eq_true_eq]at h;obtain⟨⟨⟨⟨rfl,rfl⟩,rfl⟩,rfl⟩,h⟩:=h;have:args=[]:=List.eq_nil_of_length_eq_zero h;subst this;rfl
def Soft (ws:List Bytes) (rest:List Tok):Prop:=rest=[]\/∃w t r,rest=t::r/\IsTok w t/\w∈ws
theorem Soft.nil (ws:List Bytes):Soft ws []:=.inl rfl
theorem Soft.cons {ws:List Bytes} {w:Bytes} {t:Tok} {r:List Tok} (h:IsTok w t) (hw:w∈ws):Soft ws (t::r):=.inr ⟨w,t,r,rfl,h,hw⟩
theorem Soft.tk {ws:List Bytes} {rest:List Tok} (h:Soft ws rest) {v:Bytes} (hv:ws.contains v=false):tk v rest=none:=by
 rcases h with rfl|⟨w,t,r,rfl,ht,hw⟩
 ·rfl
 ·refine Wv ht ?_;rintro rfl;rw[List.contains_eq_mem,decide_eq_false_iff_not]at hv;exact hv hw
theorem Soft.mono {ws vs:List Bytes} {rest:List Tok} (h:Soft ws rest) (hs:∀w∈ws,w∈vs):Soft vs rest:=by
 rcases h with h|⟨w,t,r,h1,h2,h3⟩
 ·exact .inl h
 ·exact .inr ⟨w,t,r,h1,h2,hs w h3⟩
def endWords:List Bytes:=[[41],[44],[102,114,111,109],[106,111,105,110],[119,104,101,114,101],[103,114,111,117,112],[111,114,100,101,114],[108,105,109,105,116]]
theorem Ko:(endWords.all fun w=>(keywords++signs).contains w&&decide (opOf w=none)&&decide (w≠[105,115])&&decide (w≠[46]))=true:=by decide+kernel
theorem Soft.stop {rest:List Tok} (h:Soft endWords rest) (lev:Nat):Stop lev rest:=by
 rcases h with rfl|⟨w,t,r,rfl,ht,hw⟩
 ·have h0:opOf (seesWord [])=none:=by decide+kernel
  refine⟨fun o lv h=>?_,fun _=>rfl,rfl⟩;rw[h0]at h
  cases h
 ·have:=List.all_eq_true.1 Ko w hw;simp only[Bool.and_eq_true,decide_eq_true_eq]at this;obtain⟨⟨⟨h1,h2⟩,h3⟩,h4⟩:=this;exact Qa h1 ht (by rw[h2];intro o lv h;cases h) (fun _=>h3) h4
def AllTok (ps:List Bytes):Prop:=∀p∈ps,(partTok p).isSome=true
theorem AllTok.nil:AllTok []:=fun p hp=>by cases hp
theorem AllTok.cons {p:Bytes} {ps:List Bytes} (h1:(partTok p).isSome=true) (h2:AllTok ps):AllTok (p::ps):=fun q hq=>by
 rcases List.mem_cons.1 hq with rfl|hq
 ·exact h1
 ·exact h2 q hq
theorem AllTok.append {a b:List Bytes} (h1:AllTok a) (h2:AllTok b):AllTok (a++b):=fun q hq=>(List.mem_append.1 hq).elim (h1 q) (h2 q)
def wt:List Bytes->Nat
 | []=>0
 | p::l=>p.length+1+wt l
def exStm:Stm:={Stm.zero with kind:=9,select:=⟨false,[⟨0,colEx [] [97]⟩,⟨2,colEx [] [98]⟩],[[116]],[],Ex.zero,[colEx [] [97]],[⟨2,true⟩],3⟩}
theorem Pb:parseS [115,101,108,101,99,116,32,97,32,44,32,115,117,109,32,40,32,98,32,41,32,102,114,111,109,32,116,32,103,114,111,117,112,32,98,121,32,97,32,111,114,100,101,114,32,98,121,32,50,32,100,101,115,99,32,108,105,109,105,116,32,51]=.ok exStm:=by kernel_rfl
theorem Yi:parseS [115,101,108,101,99,116,32,102,114,111,109,32,116]=.error (7,380):=by kernel_rfl
theorem Yh:printS exStm=([115,101,108,101,99,116,32,97,32,44,32,115,117,109,32,40,32,98,32,41,32,102,114,111,109,32,116,32,103,114,111,117,112,32,98,121,32,97,32,111,114,100,101,114,32,98,121,32,50,32,100,101,115,99,32,108,105,109,105,116,32,51],0):=by kernel_rfl
theorem Yg:toksR [100,114,111,112,32,116,97,98,108,101,32,65]=.error (11,380):=by kernel_rfl
theorem Zy:toksR [108,105,109,105,116,32,48,49]=.error (6,381):=by kernel_rfl
theorem Yf:parseS [100,114,111,112,32,116,97,98,108,101]=.error (10,380):=by kernel_rfl
theorem Td:parseS [100,101,108,101,116,101,32,102,114,111,109,32,116,32,119,104,101,114,101,32,97,32,61,32,39,120]=.error (24,382):=by kernel_rfl
theorem Pd:parseS [98,101,103,105,110,32,114,101,97,100,32,111,110,108,121]=.ok {Stm.zero with kind:=10,mode:=2}:=by kernel_rfl
def exStm2:Stm:={Stm.zero with kind:=9,select:=⟨false,[],[[116]],[],opEx 12 [opEx 14 [opEx 13 [opEx 6 [colEx [] [97],valEx ⟨1,1,⟨#[]⟩⟩],opEx 8 [colEx [] [98],valEx ⟨1,2,⟨#[]⟩⟩]]],opEx 14 [opEx 15 [colEx [] [99]]]],[],[],-1⟩}
theorem L8:parseS [115,101,108,101,99,116,32,42,32,102,114,111,109,32,116,32,119,104,101,114,101,32,110,111,116,40,97,61,49,32,111,114,32,98,60,50,41,32,97,110,100,32,99,32,105,115,32,110,111,116,32,110,117,108,108]=.ok exStm2:=by kernel_rfl
theorem Vq:printS exStm2=([115,101,108,101,99,116,32,42,32,102,114,111,109,32,116,32,119,104,101,114,101,32,110,111,116,32,40,32,97,32,61,32,49,32,111,114,32,98,32,60,32,50,32,41,32,97,110,100,32,110,111,116,32,99,32,105,115,32,110,117,108,108],0):=by kernel_rfl
end Go.Proofs.YtjmmbebkbkgefaaGreatDoor
