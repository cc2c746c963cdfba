/- Laws that the last part needs. No condition. -/
import Derived.Lib.ItoaLen
import Derived.Test.YtimoefagohifaaaGreatDoorA17
namespace Go.Proofs.YtimoefagohifaaaGreatDoor
open Tryz
theorem Dt:∀(ns:List Bytes) (es:List Ex),setsP ns es=(ns.zip es).map fun p=>[p.1,[61]]++exPr p.2 0
 | [],_=>by simp[setsP]
 | n::ns,[]=>by simp[setsP]
 | n::ns,e::es=>by simp[setsP,Dt ns es]
theorem d9 {α:Type} (f:α->List Bytes) (l:List α):eachP id (l.map f)=eachP f l:=by
 cases l with
 | nil=>rfl
 | cons x l=>simp[eachP,List.flatMap_map]
theorem Ai {α:Type} {l:List α} {a b:Int} {p:α->Bool} (h:allR l a b p=true):a<=(l.length:Int)/\(l.length:Int)<=b/\∀x∈l,p x=true:=by
 simp only[allR,tr,uk]at h;exact⟨h.1.1,h.1.2,fun x hx=>vg.1 h.2 x hx⟩
theorem Bz {x:Stm} (h:x.formed=true):1<=x.kind/\x.kind<=14:=by
 by_cases hk:1<=x.kind/\x.kind<=14
 ·exact hk
 ·unfold Stm.formed at h;rw[if_neg acw,if_neg acw,if_neg acw,if_neg acw,if_neg acw,if_neg acw,if_neg acw,if_neg acw,if_neg acw,if_neg acw,if_neg acw,if_neg acw,if_neg acw]at h
  cases h
def AllTok (ps:List Bytes):Prop:=∀p∈ps,(partTok p).isSome=true
theorem AllTok.nil:AllTok []:=fun p hp=>by cases hp
theorem AllTok.cons {p:Bytes} {ps:List Bytes} (h1:(partTok p).isSome=true) (h2:AllTok ps):AllTok (p::ps):=fun q hq=>by
 rcases uw.1 hq with rfl|hq
 ·exact h1
 ·exact h2 q hq
theorem AllTok.append {a b:List Bytes} (h1:AllTok a) (h2:AllTok b):AllTok (a++b):=fun q hq=>(wi.1 hq).elim (h1 q) (h2 q)
theorem AllTok.when {b:Bool} {l:List Bytes} (h:b=true->AllTok l):AllTok (whenP b l):=by
 cases b with
 | false=>exact AllTok.nil
 | true=>exact h rfl
theorem AllTok.each {α:Type} {f:α->List Bytes} {l:List α} (h:∀x∈l,AllTok (f x)):AllTok (eachP f l):=by
 cases l with
 | nil=>exact AllTok.nil
 | cons x l=>
  refine AllTok.append (h x acx) (fun q hq=>?_);obtain⟨y,hy,hq⟩:=wj.1 hq;rcases uw.1 hq with rfl|hq
  ·rw[Bv (w:=[44]) ac0];rfl
  ·exact h y (by simp[hy]) q hq
theorem ft {w:Bytes} (h:(keywords++signs).contains w=true):(partTok w).isSome=true:=by rw[Bv h];rfl
theorem nt {s:Bytes} (h:isName s=true):(partTok s).isSome=true:=by rw[D6 h];rfl
theorem Nq {n:Int} (h0:-549755813888<=n) (h1:n<=549755813888):AllTok (pNum n):=by
 unfold pNum;split
 ·exact AllTok.cons (ft ac0) (AllTok.cons (by rw[Fj acw acw];rfl) AllTok.nil)
 ·exact AllTok.cons (by rw[Fj acw acw];rfl) AllTok.nil
theorem M8 {v:V} (hv:v.right=true):AllTok (pVal v):=by
 have hv':=hv;obtain⟨k,n,s⟩:=v;rcases Cm hv with h1|h1|h1|h1
 ·obtain⟨e1,e2,e3⟩:=h1;simp only at e1 e2 e3;subst e1 e2 e3;exact AllTok.cons (ft (w:=[110,117,108,108]) ac0) AllTok.nil
 ·obtain⟨e1,e2,e3,e4⟩:=h1;simp only at e1 e2 e3 e4;subst e1 e2;exact Nq (n:=n) acw acw
 ·obtain⟨e1,e2,e3⟩:=h1;simp only at e1 e2 e3;subst e1 e2;refine AllTok.cons ?_ AllTok.nil;rw[text_tok rfl hv'];rfl
 ·obtain⟨e1,e2,e3⟩:=h1;simp only at e1 e2 e3;subst e1 e3;rcases e2 with rfl|rfl
  ·have:pVal ⟨3,0,⟨#[]⟩⟩=[[102,97,108,115,101]]:=ac0;rw[this];exact ahg
  ·have:pVal ⟨3,1,⟨#[]⟩⟩=[[116,114,117,101]]:=ac0;rw[this];exact ahg
theorem I0:∀e:Ex,e.formed=true->∀lev:Int,AllTok (exPr e lev):=by
 refine Ex.ind fun op t n v args ih=>?_;intro hf lev;have hb:AllTok (bare (.mk op t n v args)):=by
  rcases formed_cases hf with⟨rfl,rfl,rfl,hn,ht⟩|⟨rfl,rfl,hv,rfl,rfl⟩|⟨a,ho,rfl,ha,rfl,rfl,rfl⟩|⟨a,b,h3,h13,rfl,ha,hb,rfl,rfl,rfl⟩
  ·rw[D9];refine AllTok.append (AllTok.when fun h=>?_) (AllTok.cons (nt hn) AllTok.nil);have h':t≠[]:=by simpa using h
   exact AllTok.cons (nt (ht.resolve_left h')) (AllTok.cons (ft ac0) AllTok.nil)
  ·rw[E3];exact M8 hv
  ·rcases ho with rfl|rfl
   ·rw[E5];exact AllTok.cons (ft (w:=[110,111,116]) ac0) (ih a acx ha 2)
   ·rw[Dw];exact AllTok.append (ih a acx ha 4) (AllTok.cons (ft ac0) (AllTok.cons (ft ac0) AllTok.nil))
  ·obtain⟨_,hfx,_⟩:=Ct h3 h13;rw[Gy h3 h13];exact AllTok.append (AllTok.append (ih a acx ha _) (AllTok.cons (ft hfx) AllTok.nil)) (ih b acx hb _)
 by_cases hp:exLev op<lev
 ·rw[D8 hp];exact AllTok.cons (ft ac0) (AllTok.append hb (AllTok.cons (ft ac0) AllTok.nil))
 ·rw[Da (by simp only[Ex.op];omega)];exact hb
theorem It {e:Ex} (h:condR e=true):AllTok (whereP e):=by
 unfold whereP;split
 ·exact AllTok.nil
 ·rename_i hz;simp only[condR,vy]at h;exact AllTok.cons (ft ac0) (I0 e (Ay (h.resolve_left hz)) 0)
theorem Vp {c:Col} (h:c.kinded=true):AllTok (colP c):=by
 simp only[Col.kinded,tr]at h;refine AllTok.append (AllTok.cons (nt h.1.1) (AllTok.cons ?_ AllTok.nil)) (AllTok.when fun _=>AllTok.cons (ft ac0) (AllTok.cons (ft ac0) AllTok.nil));unfold kindP;split
 ·exact ft ac0
 ·split<;>exact ft ac0
theorem Q2 {cols:List Col} (hc:∀c∈cols,c.kinded=true) {i:Int} (h0:0<=i) (h1:i<(cols.length:Int)):isName ((cols.map (·.name)).getD i.toNat [])=true:=by
 have hlt:i.toNat<cols.length:=acw;rw[zb,aai,vd hlt];simp only[ze,zy];have:=hc cols[i.toNat] (ab6 hlt);simp only[Col.kinded,tr]at this;exact this.1.1
theorem gx {t:Tbl} (h:t.tabled=true):AllTok (tblP t):=by
 simp only[Tbl.tabled,tr]at h;obtain⟨⟨⟨h1,_⟩,h2⟩,h3⟩:=h;have hc:=(Ai h2).2.2;have hk:=(Ai h3).2.2;refine AllTok.append (AllTok.append (AllTok.append (AllTok.cons (nt h1) (AllTok.cons (ft ac0) AllTok.nil)) (AllTok.each fun c hcm=>Vp (hc c hcm))) (fun q hq=>?_)) (AllTok.cons (ft ac0) AllTok.nil);obtain⟨x,hx,hq⟩:=wj.1 hq;have hx':=hk x hx;simp only[Chk.okIn,tr,uk]at hx';obtain⟨⟨⟨⟨⟨a,a2⟩,a3⟩,a4⟩,a5⟩,_⟩:=hx';obtain⟨_,hfx,_⟩:=Ct (op:=x.op) acw acw;have:AllTok (chkP t.cols x):=AllTok.append (AllTok.append (AllTok.cons (ft ac0) (AllTok.cons (ft ac0) (AllTok.cons (ft ac0) (AllTok.cons (nt (Q2 hc a a2)) (AllTok.cons (ft hfx) AllTok.nil))))) (M8 a5)) (AllTok.cons (ft ac0) AllTok.nil);exact this q hq
theorem db {x:Pk} (h:x.picked=true):AllTok (itemP x):=by
 simp only[Pk.picked]at h;unfold itemP;split
 ·rename_i h0;rw[if_neg acw]at h;simp only[tr]at h;exact I0 _ (Ay h.2) 0
 ·split
  ·exact AllTok.cons (ft ac0) (AllTok.cons (ft ac0) (AllTok.cons (ft ac0) (AllTok.cons (ft ac0) AllTok.nil)))
  ·rename_i h1;rw[if_neg h1]at h;simp only[tr]at h;refine AllTok.append (AllTok.append (AllTok.cons ?_ (AllTok.cons (ft ac0) AllTok.nil)) (I0 _ (Ay h.2) 0)) (AllTok.cons (ft ac0) AllTok.nil);split
   ·exact ft ac0
   ·split<;>exact ft ac0
theorem Mu:∀(ns:List Bytes) (es:List Ex),(∀n∈ns,isName n=true)->(∀e∈es,e.formed=true)->AllTok (joinsP ns es)
 | [],es,_,_=>by simp[joinsP];exact AllTok.nil
 | n::ns,[],_,_=>by simp[joinsP];exact AllTok.nil
 | n::ns,e::es,h1,h2=>by
  simp only[joinsP];exact AllTok.append (AllTok.append (AllTok.cons (ft ac0) (AllTok.cons (nt (h1 n acx)) (AllTok.cons (ft ac0) AllTok.nil))) (I0 e (h2 e acx) 0)) (Mu ns es (fun m hm=>h1 m (by simp[hm])) (fun d hd=>h2 d (by simp[hd])))
theorem ie {x:Sel} (h:x.chosen=true):AllTok (selP x):=by
 simp only[Sel.chosen,tr,uk]at h;obtain⟨⟨⟨⟨⟨⟨⟨h1,h2⟩,h3⟩,h4⟩,h5⟩,h6⟩,h7⟩,h8⟩:=h;have a:=(Ai h1).2.2;have a2:=Ai h2;have a3:=(Ai h3).2.2;have a5:=(Ai h5).2.2;have a6:=(Ai h6).2.2;have hf:isName (x.from_.getD 0 [])=true:=by
  cases hx:x.from_ with
  | nil=>rw[hx]at a2;simp at a2
  | cons f fs=>exact a2.2.2 f (by rw[hx];simp)
 unfold selP;refine AllTok.append (AllTok.append (AllTok.append (AllTok.append (AllTok.append (AllTok.append (AllTok.append (AllTok.append (AllTok.append (AllTok.append (AllTok.append (AllTok.cons (ft ac0) AllTok.nil) (AllTok.when fun _=>AllTok.cons (ft ac0) AllTok.nil)) (AllTok.when fun _=>AllTok.cons (ft ac0) AllTok.nil)) (AllTok.each fun i hi=>db (a i hi))) (AllTok.cons (ft ac0) (AllTok.cons (nt hf) AllTok.nil))) (Mu _ _ (fun n hn=>a2.2.2 n (aic hn)) (fun e he=>Ay (a3 e he)))) (It h4)) (AllTok.when fun _=>AllTok.cons (ft ac0) (AllTok.cons (ft ac0) AllTok.nil))) (AllTok.each fun e he=>?_)) (AllTok.when fun _=>AllTok.cons (ft ac0) (AllTok.cons (ft ac0) AllTok.nil))) (AllTok.each fun s hs=>?_)) (AllTok.when fun hl=>AllTok.cons (ft ac0) ?_)
 ·have:=a5 e he;simp only[groupOk,tr]at this;exact I0 e (Ay this.2) 0
 ·have:=a6 s hs;simp only[Srt.okS,tr,uk]at this;exact AllTok.append (Nq acw acw) (AllTok.when fun _=>AllTok.cons (ft ac0) AllTok.nil)
 ·exact Nq acw acw
theorem im {r:List V} (h:rowOk r=true):AllTok (rowP r):=
 AllTok.append (AllTok.append (AllTok.cons (ft ac0) AllTok.nil) (AllTok.each fun v hv=>M8 ((Ai h).2.2 v hv))) (AllTok.cons (ft ac0) AllTok.nil)
theorem gz {x:Stm} (h:x.formed=true):AllTok (stmP x):=by
 have hk:=Bz h;unfold Stm.formed at h;unfold stmP;by_cases h1:x.kind=1
 ·rw[if_pos h1]at h ⊢;simp only[tr]at h;exact AllTok.append (AllTok.cons (ft ac0) (AllTok.cons (ft ac0) AllTok.nil)) (gx h.1)
 rw[if_neg h1]at h ⊢;by_cases h1:x.kind=2
 ·rw[if_pos h1]at h ⊢;simp only[tr]at h;exact AllTok.cons (ft ac0) (AllTok.cons (ft ac0) (AllTok.cons (nt h.1) AllTok.nil))
 rw[if_neg h1]at h ⊢;by_cases h1:x.kind=3
 ·rw[if_pos h1]at h ⊢;simp only[tr]at h;exact AllTok.append (AllTok.append (AllTok.cons (ft ac0) (AllTok.cons (ft ac0) AllTok.nil)) (Vp h.1.1)) (AllTok.cons (ft ac0) (AllTok.cons (nt h.1.2) AllTok.nil))
 rw[if_neg h1]at h ⊢;by_cases h1:x.kind=4
 ·rw[if_pos h1]at h ⊢;simp only[tr]at h;exact AllTok.append (AllTok.append (AllTok.append (AllTok.append (AllTok.cons (ft ac0) AllTok.nil) (AllTok.when fun _=>AllTok.cons (ft ac0) AllTok.nil))
   (AllTok.cons (ft ac0) (AllTok.cons (nt h.1.1.2) (AllTok.cons (ft ac0) (AllTok.cons (nt h.1.1.1) (AllTok.cons (ft ac0) AllTok.nil))))))
   (AllTok.each fun n hn=>AllTok.cons (nt ((Ai h.1.2).2.2 n hn)) AllTok.nil)) (AllTok.cons (ft ac0) AllTok.nil)
 rw[if_neg h1]at h ⊢;by_cases h1:x.kind=5
 ·rw[if_pos h1]at h ⊢;simp only[tr]at h;exact AllTok.cons (ft ac0) (AllTok.cons (ft ac0) (AllTok.cons (nt h.1.2) (AllTok.cons (ft ac0) (AllTok.cons (nt h.1.1) AllTok.nil))))
 rw[if_neg h1]at h ⊢;by_cases h1:x.kind=6
 ·rw[if_pos h1]at h ⊢;simp only[tr]at h;exact AllTok.append (AllTok.cons (ft ac0) (AllTok.cons (ft ac0) (AllTok.cons (nt h.1.2) (AllTok.cons (ft ac0) AllTok.nil)))) (AllTok.each fun r hr=>im ((Ai h.1.1).2.2 r hr))
 rw[if_neg h1]at h ⊢;by_cases h1:x.kind=7
 ·rw[if_pos h1]at h ⊢;simp only[tr]at h;obtain⟨⟨⟨⟨b,b2⟩,b3⟩,b4⟩,_⟩:=h;refine AllTok.append (AllTok.append (AllTok.cons (ft ac0) (AllTok.cons (nt b2) (AllTok.cons (ft ac0) AllTok.nil))) (AllTok.each fun l hl=>?_)) (It b4);rw[Dt]at hl;obtain⟨⟨n,e⟩,hp,rfl⟩:=zd.1 hl;exact AllTok.append (AllTok.cons (nt ((Ai b3).2.2 n (aap hp).1)) (AllTok.cons (ft ac0) AllTok.nil)) (I0 e (Ay ((Ai b).2.2 e (aap hp).2)) 0)
 rw[if_neg h1]at h ⊢;by_cases h1:x.kind=8
 ·rw[if_pos h1]at h ⊢;simp only[tr]at h;exact AllTok.append (AllTok.cons (ft ac0) (AllTok.cons (ft ac0) (AllTok.cons (nt h.1.1) AllTok.nil))) (It h.1.2)
 rw[if_neg h1]at h ⊢;by_cases h1:x.kind=9
 ·rw[if_pos h1]at h ⊢;simp only[tr]at h;exact ie h.1
 rw[if_neg h1]at h ⊢;by_cases h1:x.kind=10
 ·rw[if_pos h1];exact AllTok.append (AllTok.append (AllTok.cons (ft ac0) AllTok.nil) (AllTok.when fun _=>AllTok.cons (ft ac0) AllTok.nil)) (AllTok.when fun _=>AllTok.cons (ft ac0) (AllTok.cons (ft ac0) AllTok.nil))
 rw[if_neg h1]at h ⊢;by_cases h1:x.kind=11
 ·rw[if_pos h1];exact ahg
 rw[if_neg h1]at h ⊢;by_cases h1:x.kind=12
 ·rw[if_pos h1]at h ⊢;refine AllTok.append (AllTok.cons (ft ac0) AllTok.nil) (AllTok.when fun hn=>?_);have hn':x.name≠[]:=by simpa using hn
  rw[if_neg hn']at h;simp only[tr]at h;exact qc
 rw[if_neg h1]at h ⊢;rw[if_pos acw]at h;simp only[tr]at h;split
 ·exact qc
 ·exact qc
def wt:List Bytes->Nat
 | []=>0
 | p::l=>p.length+1+wt l
theorem Cg (a b:List Bytes):wt (a++b)=wt a+wt b:=by
 induction a with
 | nil=>simp[wt]
 | cons p a ih=>simp only[tz,wt,ih];omega
theorem B7 {b:Bool} {l:List Bytes} {n:Nat} (h:wt l<=n):wt (whenP b l)<=n:=by
 cases b
 ·exact yu _
 ·exact h
theorem M5 {α:Type} {f:α->List Bytes} {c:Nat}:∀l:List α,(∀x∈l,wt (f x)<=c)->wt (l.flatMap f)<=l.length * c
 | [],_=>by simp[wt]
 | a::l,h=>by
  rw[v8,Cg,tw,acf,abu];have:=h a acx;have:=M5 l (fun x hx=>h x (by simp[hx]));omega
theorem Ec {α:Type} {f:α->List Bytes} {c:Nat} (l:List α) (h:∀x∈l,wt (f x)<=c):wt (eachP f l)<=l.length * (c+2):=by
 cases l with
 | nil=>simp[eachP,wt]
 | cons a l=>
  have h1:=h a acx;have h2:=M5 (f:=fun y=>[44]::f y) (c:=c+2) l (fun x hx=>by
   have:=h x (by simp[hx]);simp only[wt,tw,tx];omega)
  simp only[eachP,Cg,tw,acf,abu];omega
theorem Zv (l:List Bytes):l.length<=wt l:=by
 induction l with
 | nil=>simp
 | cons p l ih=>simp only[wt,tw];omega
theorem U6:∀l:List Bytes,(joinSp l).length<=wt l
 | []=>by simp[joinSp]
 | [a]=>by simp[joinSp,wt]
 | a::b::l=>by
  have:=U6 (b::l);simp only[joinSp,ua,tw]at this ⊢;simp only[wt]at this ⊢;omega
theorem A3 {s:Bytes} (h:isName s=true):s.length<=16:=by
 unfold isName at h
 cases s with
 | nil=>simp
 | cons c r=>simp only[tr,uk]at h;exact h.1.1.1
theorem Jk {w:Bytes} (h:Fixed w):w.length<=12:=by
 have:((keywords++signs).all fun w=>decide (w.length<=12))=true:=ac0;have:=vg.1 this w (by simpa[Fixed]using h);simpa using this
theorem Rj {n:Int} (h0:-9223372036854775807<=n) (h1:n<=9223372036854775807):wt (pNum n)<=24:=by
 unfold pNum;split
 ·have:=Lib.itoa_length_le (-n) acw acw;exact Ob
 ·have:=Lib.itoa_length_le n acw acw;simp only[wt];omega
theorem Vm:∀l:List UInt8,(l.flatMap escB).length<=3 * l.length
 | []=>by simp
 | c::l=>by
  have:=Vm l;have:(escB c).length<=3:=by unfold escB;split<;>simp
  rw[v8,ua,tw];omega
theorem Ri {v:V} (hv:v.right=true):wt (pVal v)<=124:=by
 obtain⟨k,n,s⟩:=v;rcases Cm hv with h1|h1|h1|h1
 ·obtain⟨e1,e2,e3⟩:=h1;simp only at e1 e2 e3;subst e1 e2 e3;have:pVal ⟨0,0,⟨#[]⟩⟩=[[110,117,108,108]]:=ac0;rw[this];decide
 ·obtain⟨e1,e2,e3,e4⟩:=h1;simp only at e1 e2 e3 e4;subst e1 e2;have:wt (pNum n)<=24:=Rj acw acw;show wt (pNum n)<=124;omega
 ·obtain⟨e1,e2,e3⟩:=h1;simp only at e1 e2 e3;subst e1 e2;have h:=Vm s.data.toList;have h:s.data.toList.length<=40:=by simpa using e3
  show wt [printText s]<=124;simp only[wt,printText,tw,ua,tx];omega
 ·obtain⟨e1,e2,e3⟩:=h1;simp only at e1 e2 e3;subst e1 e3;rcases e2 with rfl|rfl
  ·have:pVal ⟨3,0,⟨#[]⟩⟩=[[102,97,108,115,101]]:=ac0;rw[this];decide
  ·have:pVal ⟨3,1,⟨#[]⟩⟩=[[116,114,117,101]]:=ac0;rw[this];decide
mutual
def nodesE:Ex->Nat
 | .mk _ _ _ _ args=>1+nodesL args
def nodesL:List Ex->Nat
 | []=>0
 | a::l=>nodesE a+nodesL l
end
theorem Ko (most:Int):∀(l:List Ex) (n:Int),n<=sizeL l most n
 | [],n=>Int.le_refl _
 | a::l,n=>by
  unfold sizeL;split
  ·exact Int.le_refl _
  ·have h1:=Ko most l (n+sizeE a (most - n));have h2:=(O0 a (most - n) acw).1;omega
theorem Oz (e:Ex):∀most:Int,0<=most->sizeE e most<=most->(nodesE e:Int)=sizeE e most:=by
 refine Ex.ind (P:=fun e=>∀most:Int,0<=most->sizeE e most<=most->(nodesE e:Int)=sizeE e most) ?_ e;intro op t n v args ih most hm h;unfold sizeE at h ⊢;unfold nodesE;have key:∀(l:List Ex) (n:Int),(∀a∈l,a∈args)->sizeL l most n<=most->n+(nodesL l:Int)=sizeL l most n:=by
  intro l
  induction l with
  | nil=>intro n _ _;simp[nodesL,sizeL]
  | cons a l ihl=>
   intro n hl h;have h0:=Ko most (a::l) n;unfold sizeL at h ⊢;split at h
   ·omega
   ·rename_i hn;rw[if_neg hn];have h1:=Ko most l (n+sizeE a (most - n));have h2:=ih a (hl a acx) (most - n) acw acw;have h3:=ihl _ (fun b hb=>hl b (by simp[hb])) h;unfold nodesL;omega
 have:=key args 1 (fun a h=>h) h;omega
theorem T3 {e:Ex} (h:e.good=true):nodesE e<=200:=by
 simp only[Ex.good,tr,uk]at h;have:=Oz e 200 acy h.1;omega
theorem rv:∀e:Ex,e.formed=true->∀lev:Int,wt (exPr e lev)<=150 * nodesE e:=by
 refine Ex.ind fun op t n v args ih=>?_;intro hf lev;have hb:wt (bare (.mk op t n v args))+4<=150 * nodesE (.mk op t n v args):=by
  rcases formed_cases hf with⟨rfl,rfl,rfl,hn,ht⟩|⟨rfl,rfl,hv,rfl,rfl⟩|⟨a,ho,rfl,ha,rfl,rfl,rfl⟩|⟨a,b,h3,h13,rfl,ha,hb,rfl,rfl,rfl⟩
  ·have h:=A3 hn;have h2:t.length<=16:=by rcases ht with rfl|ht;simp;exact A3 ht
   have h3:wt (whenP (decide (t≠[])) [t,[46]])<=20:=B7 (by simp only[wt,tw,tx];omega);rw[D9,Cg];simp only[nodesE,nodesL,wt];omega
  ·have:=Ri hv;rw[E3];simp only[nodesE,nodesL];omega
  ·have h:=ih a acx ha;rcases ho with rfl|rfl
   ·have:=h 2;rw[E5];simp only[nodesE,nodesL,wt,tw,tx]at this ⊢;omega
   ·have:=h 4;rw[Dw,Cg];simp only[nodesE,nodesL,wt,tw,tx]at this ⊢;omega
  ·obtain⟨_,hfx,_⟩:=Ct h3 h13;have h:=ih a acx ha (if levP op=3 then 4 else levP op);have h2:=ih b acx hb (levP op+1);have h:=Jk hfx;rw[Gy h3 h13,Cg,Cg];simp only[nodesE,nodesL,wt];omega
 by_cases hp:exLev op<lev
 ·rw[D8 hp];simp only[wt,Cg,tw,tx];omega
 ·rw[Da (by simp only[Ex.op];omega)];omega
theorem G0 {e:Ex} (h:e.good=true) (lev:Int):wt (exPr e lev)<=30000:=by
 have:=rv e (Ay h) lev;have:=T3 h;omega
theorem Kd {e:Ex} (h:condR e=true):wt (whereP e)<=30010:=by
 unfold whereP;split
 ·simp[wt]
 ·rename_i hz;simp only[condR,vy]at h;have:=G0 (h.resolve_left hz) 0;exact Ob
theorem Zw {c:Col} (h:c.kinded=true):wt (colP c)<=40:=by
 simp only[Col.kinded,tr]at h;have h1:=A3 h.1.1;have h2:wt (whenP (!c.null) [[110,111,116],[110,117,108,108]])<=10:=B7 acy;have h3:(kindP c.kind).length<=4:=by unfold kindP;split;decide;split<;>decide
 unfold colP;rw[Cg];simp only[wt];omega
theorem nh {t:Tbl} (h:t.tabled=true):wt (tblP t)<=2000:=by
 simp only[Tbl.tabled,tr]at h;obtain⟨⟨⟨h1,_⟩,h2⟩,h3⟩:=h;have hc:=Ai h2;have hk:=Ai h3;have a:=A3 h1;have a:=Ec (f:=colP) (c:=40) t.cols (fun c hcm=>Zw (hc.2.2 c hcm));have a:=M5 (f:=chkP t.cols) (c:=200) t.checks (fun x hx=>by
  have hx':=hk.2.2 x hx;simp only[Chk.okIn,tr,uk]at hx';obtain⟨⟨⟨⟨⟨a,a2⟩,a3⟩,a4⟩,a5⟩,_⟩:=hx';obtain⟨_,hfx,_⟩:=Ct (op:=x.op) acw acw;have b:=A3 (Q2 hc.2.2 a a2);have b:=Jk hfx;have b:=Ri a5;unfold chkP;simp only[Cg,wt,tw,tx];omega)
 have c1:t.cols.length * (40+2)<=8 * 42:=xz _ acw;have c2:t.checks.length * 200<=4 * 200:=xz _ acw;unfold tblP;exact Oc
theorem gj {x:Pk} (h:x.picked=true):wt (itemP x)<=30020:=by
 simp only[Pk.picked]at h;unfold itemP;split
 ·rename_i h0;rw[if_neg acw]at h;simp only[tr]at h;have:=G0 h.2 0;omega
 ·split
  ·decide
  ·rename_i h1;rw[if_neg h1]at h;simp only[tr]at h;have a:=G0 h.2 0;have a:wt [if x.fn=2 then[115,117,109]else if x.fn=3 then[109,105,110]else[109,97,120],[40]]<=6:=by split;decide;split<;>decide
   rw[Cg,Cg];simp only[wt,tw,tx]at a ⊢;omega
theorem Og:∀(ns:List Bytes) (es:List Ex),(∀n∈ns,isName n=true)->(∀e∈es,e.good=true)->wt (joinsP ns es)<=30030 * es.length
 | [],es,_,_=>by simp[joinsP,wt]
 | n::ns,[],_,_=>by simp[joinsP,wt]
 | n::ns,e::es,h1,h2=>by
  have a1:=Og ns es (fun m hm=>h1 m (by simp[hm])) (fun d hd=>h2 d (by simp[hd]));have a2:=A3 (h1 n acx);have a3:=G0 (h2 e acx) 0;simp only[joinsP,Cg,wt,tw,tx];omega
theorem nj {x:Sel} (h:x.chosen=true):wt (selP x)<=2000000:=by
 simp only[Sel.chosen,tr,uk]at h;obtain⟨⟨⟨⟨⟨⟨⟨h1,h2⟩,h3⟩,h4⟩,h5⟩,h6⟩,h7⟩,h8⟩:=h;have a:=Ai h1;have a2:=Ai h2;have a3:=Ai h3;have a5:=Ai h5;have a6:=Ai h6;have hf:isName (x.from_.getD 0 [])=true:=by
  cases hx:x.from_ with
  | nil=>rw[hx]at a2;simp at a2
  | cons f fs=>exact a2.2.2 f (by rw[hx];simp)
 have b:=A3 hf;have b:wt (whenP x.distinct [[100,105,115,116,105,110,99,116]])<=10:=B7 acy;have b:wt (whenP (decide (x.items.length=0)) [[42]])<=10:=B7 acy;have b:=Ec (f:=itemP) x.items (fun i hi=>gj (a.2.2 i hi));have b:=Og (x.from_.drop 1) x.on (fun n hn=>a2.2.2 n (aic hn)) (fun e he=>a3.2.2 e he);have b:=Kd h4;have b:wt (whenP (decide (0<x.group.length)) [[103,114,111,117,112],[98,121]])<=10:=B7 acy;have b:=Ec (f:=fun e=>exPr e 0) (c:=30000) x.group (fun e he=>by
  have:=a5.2.2 e he;simp only[groupOk,tr]at this;exact G0 this.2 0)
 have b:wt (whenP (decide (0<x.sort.length)) [[111,114,100,101,114],[98,121]])<=10:=B7 acy;have b:=Ec (f:=srtP) (c:=40) x.sort (fun s hs=>by
  have:=a6.2.2 s hs;simp only[Srt.okS,tr,uk]at this;have c1:=Rj (n:=s.place) acw acw;have c2:wt (whenP s.down [[100,101,115,99]])<=10:=B7 acy;unfold srtP;rw[Cg];omega)
 have b:wt (whenP (decide (0<=x.limit)) ([108,105,109,105,116]::pNum x.limit))<=40:=B7 (by
  have c1:=Rj (n:=x.limit) acw acw;simp only[wt,tw,tx];omega)
 have d:x.items.length * (30020+2)<=16 * 30022:=xz _ acw;have d:30030 * x.on.length<=30030 * 4:=Nat.mul_le_mul_left _ acw;have d:x.group.length * (30000+2)<=16 * 30002:=xz _ acw;have d:x.sort.length * (40+2)<=16 * 42:=xz _ acw;unfold selP;exact Oc
theorem nk {r:List V} (h:rowOk r=true):wt (rowP r)<=1100:=by
 have a:=Ai h;have b:=Ec (f:=pVal) r (fun v hv=>Ri (a.2.2 v hv));have d:r.length * (124+2)<=8 * 126:=xz _ acw;unfold rowP;exact Oc
theorem ni {x:Stm} (h:x.formed=true):wt (stmP x)<=2000000:=by
 have hk:=Bz h;unfold Stm.formed at h;unfold stmP;by_cases h1:x.kind=1
 ·rw[if_pos h1]at h ⊢;simp only[tr]at h;have:=nh h.1;exact Oc
 rw[if_neg h1]at h ⊢;by_cases h1:x.kind=2
 ·rw[if_pos h1]at h ⊢;simp only[tr]at h;have:=A3 h.1;exact Ob
 rw[if_neg h1]at h ⊢;by_cases h1:x.kind=3
 ·rw[if_pos h1]at h ⊢;simp only[tr]at h;have:=A3 h.1.2;have:=Zw h.1.1;exact Oc
 rw[if_neg h1]at h ⊢;by_cases h1:x.kind=4
 ·rw[if_pos h1]at h ⊢;simp only[tr]at h;have a:=Ai h.1.2;have a1:=A3 h.1.1.1;have a2:=A3 h.1.1.2;have a3:wt (whenP x.unique [[117,110,105,113,117,101]])<=10:=B7 acy;have a4:=Ec (f:=fun s=>[s]) (c:=20) x.names (fun s hs=>by
   have:=A3 (a.2.2 s hs);simp only[wt];omega)
  have d:x.names.length * (20+2)<=8 * 22:=xz _ acw;exact Oc
 rw[if_neg h1]at h ⊢;by_cases h1:x.kind=5
 ·rw[if_pos h1]at h ⊢;simp only[tr]at h;have:=A3 h.1.1;have:=A3 h.1.2;exact Ob
 rw[if_neg h1]at h ⊢;by_cases h1:x.kind=6
 ·rw[if_pos h1]at h ⊢;simp only[tr]at h;have a:=Ai h.1.1;have:=A3 h.1.2;have a4:=Ec (f:=rowP) x.rows (fun r hr=>nk (a.2.2 r hr));have d:x.rows.length * (1100+2)<=20 * 1102:=xz _ acw;exact Oc
 rw[if_neg h1]at h ⊢;by_cases h1:x.kind=7
 ·rw[if_pos h1]at h ⊢;simp only[tr]at h;obtain⟨⟨⟨⟨b,b2⟩,b3⟩,b4⟩,_⟩:=h;have a:=Ai b;have a3:=Ai b3;have a2:=A3 b2;have a4:=Kd b4;have a5:=Ec (f:=id) (c:=30030) (setsP x.names x.exprs) (fun l hl=>by
   rw[Dt]at hl;obtain⟨⟨n,e⟩,hp,rfl⟩:=zd.1 hl;have c1:=A3 (a3.2.2 n (aap hp).1);have c2:=G0 (a.2.2 e (aap hp).2) 0;simp only[id,Cg,wt,tw,tx];omega)
  have d:(setsP x.names x.exprs).length<=8:=by rw[Dt,zr,acb];omega
  have d1:(setsP x.names x.exprs).length * (30030+2)<=8 * 30032:=xz _ d;exact Oc
 rw[if_neg h1]at h ⊢;by_cases h1:x.kind=8
 ·rw[if_pos h1]at h ⊢;simp only[tr]at h;have:=A3 h.1.1;have:=Kd h.1.2;exact Oc
 rw[if_neg h1]at h ⊢;by_cases h1:x.kind=9
 ·rw[if_pos h1]at h ⊢;simp only[tr]at h;exact nj h.1
 rw[if_neg h1]at h ⊢;by_cases h1:x.kind=10
 ·rw[if_pos h1];have a:wt (whenP (decide (x.mode=1)) [[115,101,114,105,97,108,105,122,97,98,108,101]])<=20:=B7 acy;have a:wt (whenP (decide (x.mode=2)) [[114,101,97,100],[111,110,108,121]])<=20:=B7 acy;exact Oc
 rw[if_neg h1]at h ⊢;by_cases h1:x.kind=11
 ·rw[if_pos h1];decide
 rw[if_neg h1]at h ⊢;by_cases h1:x.kind=12
 ·rw[if_pos h1]at h ⊢;by_cases hn:x.name=[]
  ·have a:wt (whenP (decide (x.name≠[])) [[116,111],x.name])<=20:=B7 (by rw[hn];decide);exact Oc
  ·rw[if_neg hn]at h;simp only[tr]at h;have:=A3 h.1;have a:wt (whenP (decide (x.name≠[])) [[116,111],x.name])<=30:=B7 (by simp only[wt,tw,tx];omega);exact Oc
 rw[if_neg h1]at h ⊢;rw[if_pos acw]at h;simp only[tr]at h;have:=A3 h.1;split
 ·exact Ob
 ·exact Ob
theorem We {x:Stm} (h:x.formed=true):(stmP x).length+10<=1000000000/\(joinSp (stmP x)).length<=140737488355328:=by
 have h1:=ni h;have h2:=Zv (stmP x);have h3:=U6 (stmP x);omega
def exStm:Stm:={Stm.zero with kind:=9,select:=⟨false,[⟨0,colEx [] [97]⟩,⟨2,colEx [] [98]⟩],[[116]],[],Ex.zero,[colEx [] [97]],[⟨2,true⟩],3⟩}
theorem Qr:parseS [115,101,108,101,99,116,32,97,32,44,32,115,117,109,32,40,32,98,32,41,32,102,114,111,109,32,116,32,103,114,111,117,112,32,98,121,32,97,32,111,114,100,101,114,32,98,121,32,50,32,100,101,115,99,32,108,105,109,105,116,32,51]=.ok exStm:=acz
theorem o8:parseS [115,101,108,101,99,116,32,102,114,111,109,32,116]=.error (7,380):=acz
theorem dp:printS exStm=([115,101,108,101,99,116,32,97,32,44,32,115,117,109,32,40,32,98,32,41,32,102,114,111,109,32,116,32,103,114,111,117,112,32,98,121,32,97,32,111,114,100,101,114,32,98,121,32,50,32,100,101,115,99,32,108,105,109,105,116,32,51],0):=acz
theorem dm:toksR [100,114,111,112,32,116,97,98,108,101,32,65]=.error (11,380):=acz
theorem jy:toksR [108,105,109,105,116,32,48,49]=.error (6,381):=acz
theorem o7:parseS [100,114,111,112,32,116,97,98,108,101]=.error (10,380):=acz
theorem jz:parseS [100,101,108,101,116,101,32,102,114,111,109,32,116,32,119,104,101,114,101,32,97,32,61,32,39,120]=.error (24,382):=acz
theorem dq:parseS [98,101,103,105,110,32,114,101,97,100,32,111,110,108,121]=.ok {Stm.zero with kind:=10,mode:=2}:=acz
def exStm2:Stm:={Stm.zero with kind:=9,select:=⟨false,[],[[116]],[],opEx 12 [opEx 14 [opEx 13 [opEx 6 [colEx [] [97],valEx ⟨1,1,⟨#[]⟩⟩],opEx 8 [colEx [] [98],valEx ⟨1,2,⟨#[]⟩⟩]]],opEx 14 [opEx 15 [colEx [] [99]]]],[],[],-1⟩}
theorem M2:parseS [115,101,108,101,99,116,32,42,32,102,114,111,109,32,116,32,119,104,101,114,101,32,110,111,116,40,97,61,49,32,111,114,32,98,60,50,41,32,97,110,100,32,99,32,105,115,32,110,111,116,32,110,117,108,108]=.ok exStm2:=acz
theorem X6:printS exStm2=([115,101,108,101,99,116,32,42,32,102,114,111,109,32,116,32,119,104,101,114,101,32,110,111,116,32,40,32,97,32,61,32,49,32,111,114,32,98,32,60,32,50,32,41,32,97,110,100,32,110,111,116,32,99,32,105,115,32,110,117,108,108],0):=acz
def Fair {α:Type} (sz:Int) (l:List Tok):Res α->Prop
 | .ok _ r=>r<:+ l
 | .err p x=>(p=sz\/∃t∈l,p=t.at_)/\x≠0
section
variable {α β:Type} {sz:Int} {l m r:List Tok}
theorem Fair.suf {x:Res α} (h:Fair sz l x) (hs:l<:+ m):Fair sz m x:=by
 cases x with
 | ok a r=>exact List.IsSuffix.trans h hs
 | err p x=>exact⟨h.1.imp id (fun⟨t,ht,e⟩=>⟨t,hs.subset ht,e⟩),h.2⟩
theorem Fair.bind {x:Res α} {f:α->List Tok->Res β} (h:Fair sz l x) (k:∀a r,Fair sz r (f a r)):Fair sz l (x.bind f):=by
 cases x with
 | ok a r=>exact(k a r).suf h
 | err p x=>exact h
theorem Fair.map {x:Res α} {f:α->β} (h:Fair sz l x):Fair sz l (x.map f):=by cases x<;>exact h
theorem Fair.tk {w:Bytes} {x:Res α} (h:tk w l=some r) (k:Fair sz r x):Fair sz l x:=k.suf (A4 h).1
theorem Fair.next {i:Int} {t:Tok} {x:Res α} (h:nextR i l=some (t,r)) (k:Fair sz r x):Fair sz l x:=k.suf (Ca h).1
theorem Fair.tail {x:Res α} (k:Fair sz l.tail x):Fair sz l x:=k.suf (Fz l)
end
section
variable {α:Type} {sz:Int} {read:List Tok->Res α}
end
def Cost (l r:List Tok) (n:Nat):Prop:=TokOk l->TokOk r/\n+r.length<=l.length
theorem Cost.refl (l:List Tok):Cost l l 0:=fun h=>⟨h,by omega⟩
theorem Cost.then {l r s:List Tok} {n m k:Nat} (h1:Cost l r n) (h2:Cost r s m) (hk:k<=n+m):Cost l s k:=fun h=>by
 obtain⟨a,b⟩:=h1 h;obtain⟨c,d⟩:=h2 a;exact⟨c,by omega⟩
def depth:Nat->List Bytes->Option Nat
 | d,[]=>some d
 | d,p::l=>if p=[40]then depth (d+1) l else if p=[41]then(match d with
  | 0=>none
  | k+1=>depth k l)else depth d l
theorem ac8 (d:Nat) (p:Bytes) (l:List Bytes):depth d (p::l)=if p=[40]then depth (d+1) l else if p=[41]then(match d with
 | 0=>none
 | k+1=>depth k l)else depth d l:=by cases d<;>rfl
theorem ac5:∀(a b:List Bytes) (d:Nat),depth d (a++b)=(depth d a).bind fun k=>depth k b
 | [],b,d=>rfl
 | p::a,b,d=>by
  simp only[tz,ac8];split
  ·exact ac5 a b _
  ·split
   ·cases d with
    | zero=>rfl
    | succ k=>exact ac5 a b _
   ·exact ac5 a b _
def Bal (ps:List Bytes):Prop:=∀d,depth d ps=some d
def NP (p:Bytes):Prop:=p≠[40]/\p≠[41]
theorem Bal.nil:Bal []:=fun _=>rfl
theorem Bal.cons {p:Bytes} {ps:List Bytes} (h1:NP p) (h2:Bal ps):Bal (p::ps):=fun d=>by
 rw[ac8,if_neg h1.1,if_neg h1.2];exact h2 d
theorem Bal.append {a b:List Bytes} (h1:Bal a) (h2:Bal b):Bal (a++b):=fun d=>by
 rw[ac5,h1 d];exact h2 d
theorem Bal.when {b:Bool} {l:List Bytes} (h:b=true->Bal l):Bal (whenP b l):=by
 cases b with
 | false=>exact Bal.nil
 | true=>exact h rfl
theorem Bal.flat {α:Type} {f:α->List Bytes}:∀{l:List α},(∀x∈l,Bal (f x))->Bal (l.flatMap f)
 | [],_=>Bal.nil
 | x::l,h=>by
  rw[v8];exact Bal.append (h x acx) (Bal.flat fun y hy=>h y (by simp[hy]))
theorem Bal.each {α:Type} {f:α->List Bytes} {l:List α} (h:∀x∈l,Bal (f x)):Bal (eachP f l):=by
 cases l with
 | nil=>exact Bal.nil
 | cons x l=>exact Bal.append (h x acx) (Bal.flat fun y hy=>Bal.cons (by unfold NP;decide) (h y (by simp[hy])))
end Go.Proofs.YtimoefagohifaaaGreatDoor
