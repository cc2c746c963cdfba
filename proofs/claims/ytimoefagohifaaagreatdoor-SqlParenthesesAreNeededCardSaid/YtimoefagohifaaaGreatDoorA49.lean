/- Laws that the last part needs. No condition. -/
import Derived.Test.YtimoefagohifaaaGreatDoorA36
import Derived.Test.YtimoefagohifaaaGreatDoorA45
namespace Go.Proofs.YtimoefagohifaaaGreatDoor
open Tryz
theorem aeu:Ex.zero.isZero=true:=ac0
theorem Cost.le {l r:List Tok} {n k:Nat} (h1:Cost l r n) (hk:k<=n):Cost l r k:=fun h=>⟨(h1 h).1,by have:=(h1 h).2;omega⟩
theorem Cost.of_suf {l r:List Tok} {n:Nat} (hs:r<:+ l) (hn:n+r.length<=l.length):Cost l r n:=fun h=>⟨h.suf hs,hn⟩
theorem ack {w:Bytes} {l r:List Tok} (h:tk w l=some r):Cost l r 1:=Cost.of_suf (A4 h).1 (by have:=(A4 h).2;omega)
theorem aea {k:Int} {l r:List Tok} {t:Tok} (h:nextR k l=some (t,r)):Cost l r 1:=Cost.of_suf (Ca h).1 (by have:=(Ca h).2.2;omega)
theorem acj {sz:Int} {ws:List Bytes} {l r:List Tok} {u:Unit} (h:wantsR sz ws l=.ok u r):Cost l r ws.length:=Cost.of_suf (Ao h) (by have:=Aw h;omega)
theorem acl {sz:Int} {l r:List Tok} {s:Bytes} (h:nameR sz l=.ok s r):Cost l r 1:=Cost.of_suf (Bh h) (by have:=Be h;omega)
theorem age {n:Int} (h:0<=n):(pNum n).length=1:=by unfold pNum;rw[if_neg acw];rfl
theorem ag4 (n:Int):(pNum n).length<=2:=by unfold pNum;split<;>simp
theorem ac3 {sz:Int} {l r:List Tok} {n:Int} (h:numberR sz l=.ok n r):Cost l r (pNum n).length:=fun hl=>by
 have h1:=Gm h hl;have h2:=Gn h;exact⟨hl.suf h1.1,by rw[age h1.2.1];omega⟩
theorem ada {sz:Int} {l r:List Tok} {v:V} (h:literalR sz l=.ok v r):Cost l r (pVal v).length:=by
 simp only[literalR]at h;split at h
 ·rename_i t r1 h1
  cases h;exact aea h1
 ·split at h
  ·rename_i r1 h1;split at h
   ·rename_i t r2 h2
    cases h;exact(ack h1).then (aea h2) (ag4 _)
   ·exact Zk
  ·split at h
   ·rename_i r1 h1
    cases h;exact ack h1
   ·split at h
    ·rename_i r1 h1
     cases h;exact ack h1
    ·split at h
     ·rename_i r1 h1
      cases h;exact ack h1
     ·obtain⟨n,h1,rfl⟩:=A6 h;exact ac3 h1
theorem aen (b:Bool) (l:List Bytes):(whenP b l).length<=l.length:=by cases b<;>simp[whenP]
theorem ad1 (e:Ex) {r s:Int} (h:r<=s):(exPr e r).length<=(exPr e s).length/\(exPr e s).length<=(exPr e r).length+2:=by
 by_cases h1:exLev e.op<r
 ·rw[D8 h1,D8 acw];omega
 ·rw[Da (e:=e) (lev:=r) acw];by_cases h2:exLev e.op<s
  ·rw[D8 h2];simp only[tw,ua,tx];omega
  ·rw[Da (e:=e) (lev:=s) acw];omega
theorem afn (t n:Bytes) (r:Int) (h:r<=6):(exPr (colEx t n) r).length=(if t=[]then 1 else 3):=by
 rw[Da (by show r<=exLev 1;rw[show exLev 1=6 by decide];omega)];show(bare (.mk 1 t n V.null [])).length=_;rw[D9];by_cases ht:t=[]
 ·simp[ht,whenP]
 ·simp[ht,whenP]
theorem aeg {sz:Int} {l r:List Tok} {e:Ex} (h:refR sz l=.ok e r) {lev:Int} (hl:lev<=6):Cost l r (exPr e lev).length:=by
 obtain⟨a,l1,h1,h2⟩:=Am h;split at h2
 ·rename_i l2 h3;obtain⟨b,h4,rfl⟩:=A6 h2;rw[afn _ _ _ hl];exact((acl h1).then (ack h3) (tu _)).then (acl h4) (by split<;>omega)
 ·cases h2;rw[afn _ _ _ hl];exact acl h1
theorem agw (v:V) (r:Int) (h:r<=6):(exPr (valEx v) r).length=(pVal v).length:=by
 rw[Da (by show r<=exLev 2;rw[show exLev 2=6 by decide];omega)];show(bare (.mk 2 [] [] v [])).length=_;rw[E3]
def atLev (lev:Nat):Int:=if lev=3 then 2 else lev
theorem afl (a:Ex):(exPr (opEx 14 [a]) 2).length=(exPr a 2).length+1:=by
 rw[Da (by show(2:Int)<=exLev 14;decide)];show(bare (.mk 14 [] [] V.null [a])).length=_;rw[E5];rfl
theorem ae0 (a:Ex):(exPr (opEx 15 [a]) 2).length=(exPr a 4).length+2:=by
 rw[Da (by show(2:Int)<=exLev 15;decide)];show(bare (.mk 15 [] [] V.null [a])).length=_;rw[Dw];simp
theorem afz:(opTab.all fun x=>decide (3<=x.2.1/\x.2.1<=13/\levP x.2.1=x.2.2/\exLev x.2.1=x.2.2))=true:=ac0
theorem ad8 {w:Bytes} {op lv:Int} (h:opOf w=some (op,lv)):3<=op/\op<=13/\levP op=lv/\exLev op=lv:=by
 simp only[opOf,aaa]at h;obtain⟨y,hy,e⟩:=h;have:=vg.1 afz y (aa6 hy);simp only[uk]at this;have e1:y.2.1=op:=by rw[e]
 have e2:y.2.2=lv:=by rw[e]
 rw[e1,e2]at this;exact this
theorem afi {op:Int} (h3:3<=op) (h13:op<=13) (a b:Ex) {r:Int} (hr:r<=exLev op):(exPr (opEx op [a,b]) r).length=(exPr a (if levP op=3 then 4 else levP op)).length+1+(exPr b (levP op+1)).length:=by
 rw[Da (by show r<=exLev op;exact hr)];show(bare (.mk op [] [] V.null [a,b])).length=_;rw[Gy h3 h13];simp only[ua,tw,tx];try omega
theorem aeh {w:Bytes} (h:(opPair w).2=3):opOf w=some ((opPair w).1,3):=by
 unfold opPair at h ⊢
 cases ho:opOf w with
 | none=>rw[ho]at h;cases h
 | some p=>rw[ho]at h;obtain⟨a,b⟩:=p;simp only[zy]at h;subst h;first|rfl|skip
theorem ady {l:List Tok} {op lv:Int} (h:opOf (seesWord l)=some (op,lv)):Cost l l.tail 1:=by
 cases l with
 | nil=>simp[seesWord,opOf,opTab]at h
 | cons t l=>exact Cost.of_suf (Fz _) (by simp;omega)
theorem aes {sz:Int} {e e':Ex} {l r:List Tok} (h:isNullR sz e l=.ok e' r):∃n,Cost l r n/\(exPr e' 2).length<=n+(exPr e 4).length:=by
 simp only[isNullR]at h;split at h
 ·cases h;exact⟨0,Cost.refl _,by have:=ad1 e (r:=2) (s:=4) acy;omega⟩
 ·rename_i l1 h1;split at h
  ·rename_i l2 h2;obtain⟨u,h3,rfl⟩:=A6 h;refine⟨3,((ack h1).then (ack h2) (tu _)).then (acj h3) acx,?_⟩;rw[afl,ae0];omega
  ·obtain⟨u,h3,rfl⟩:=A6 h;refine⟨2,(ack h1).then (acj h3) acx,?_⟩;rw[ae0];omega
theorem ael (sz:Int):∀f:Nat,(∀lev l e r,lev<=6->exprF sz f lev l=some (.ok e r)->Cost l r (exPr e (atLev lev)).length)/\
 (∀lev e l e' r,lev<=6->lev≠2->lev≠3->lev≠6->chainF sz f lev e l=some (.ok e' r)->∃n,Cost l r n/\(exPr e' lev).length<=n+(exPr e lev).length)
 | 0=>⟨fun lev l e r _ h=>by simp[exprF]at h,fun lev e l e' r _ _ _ _ h=>by simp[chainF]at h⟩
 | f+1=>by
  obtain⟨ih1,ih2⟩:=ael sz f;refine⟨fun lev l e r h6 h=>?_,fun lev e l e' r h6 hn2 hn3 hn6 h=>?_⟩
  ·rw[exprF]at h;split at h
   ·rename_i h2;subst h2;split at h
    ·rename_i rr hr
     cases hx:exprF sz f 2 rr with
     | none=>rw[hx]at h;cases h
     | some y=>
      rw[hx]at h;simp only[ze,uz]at h;obtain⟨a,rfl,rfl⟩:=A6 h;have h1:=ih1 _ _ _ _ acw hx;exact(ack hr).then h1 (by show(exPr _ 2).length<=1+(exPr a 2).length;rw[afl];omega)
    ·exact ih1 3 _ _ _ acw h
   ·split at h
    ·rename_i h3;subst h3;split at h
     ·cases h
     ·cases h
     ·rename_i e1 l1 hx;have hl1:=ih1 4 _ _ _ acw hx;split at h
      ·rename_i hop;have ho:=aeh hop;obtain⟨k1,k2,k3,k4⟩:=ad8 ho
       cases hy:exprF sz f 4 l1.tail with
       | none=>rw[hy]at h;cases h
       | some y=>
        rw[hy]at h;simp only[ze,uz]at h;obtain⟨a,rfl,rfl⟩:=A6 h;have h2:=ih1 4 _ _ _ acw hy;refine(hl1.then (ady ho) (tu _)).then h2 ?_
        show(exPr _ 2).length<=(exPr e1 4).length+1+(exPr a 4).length;rw[afi k1 k2 _ _ (by rw[k4];decide),k3,if_pos rfl];exact tu _
      ·simp only[uz]at h;obtain⟨n,hc,hn⟩:=aes h;exact hl1.then hc (by show(exPr e 2).length<=(exPr e1 4).length+n;omega)
    ·split at h
     ·rename_i h3 h6;subst h6;split at h
      ·rename_i rr hr;split at h
       ·cases h
       ·cases h
       ·rename_i e1 l1 hx;simp only[uz]at h;obtain⟨u,h3,rfl⟩:=A6 h;have h4:=ih1 0 _ _ _ acw hx;refine((ack hr).then h4 (tu _)).then (acj h3) ?_
        have:=(ad1 e (r:=0) (s:=6) acy).2;show(exPr e 6).length<=1+(exPr e 0).length+1;omega
      ·simp only[uz]at h;split at h
       ·exact aeg h acy
       ·obtain⟨v,h3,rfl⟩:=A6 h;exact(ada h3).le (by rw[agw _ _ acy];exact tu _)
     ·rename_i hn2 hn3 hn6;split at h
      ·cases h
      ·cases h
      ·rename_i e1 l1 hx;have h1:=ih1 (lev+1) _ _ _ acw hx;obtain⟨n,hc,hn⟩:=ih2 lev _ _ _ _ acw hn2 hn3 hn6 h;refine h1.then hc ?_
       have:(exPr e1 lev).length<=(exPr e1 (atLev (lev+1))).length:=by
        refine(ad1 e1 ?_).1;unfold atLev;split<;>omega
       have e2:atLev lev=lev:=by unfold atLev;rw[if_neg hn3]
       rw[e2];omega
  ·rw[chainF]at h;split at h
   ·cases h;exact⟨0,Cost.refl _,by omega⟩
   ·rename_i op lv ho;split at h
    ·cases h;exact⟨0,Cost.refl _,by omega⟩
    ·rename_i hlv;simp only[ne_eq,Decidable.not_not]at hlv;obtain⟨k1,k2,k3,k4⟩:=ad8 ho;split at h
     ·cases h
     ·cases h
     ·rename_i e2 l2 hx;have h1:=ih1 (lev+1) _ _ _ acw hx;obtain⟨n,hc,hn⟩:=ih2 lev _ _ _ _ h6 hn2 hn3 hn6 h;refine⟨1+(exPr e2 (atLev (lev+1))).length+n,((ady ho).then h1 (tu _)).then hc (tu _),?_⟩;rw[afi k1 k2 _ _ (by rw[k4];omega),k3,if_neg acw,hlv]at hn;have:atLev (lev+1)=(lev:Int)+1:=by unfold atLev;rw[if_neg acw];omega
      rw[this];omega
theorem adk {sz:Int} {l r:List Tok} {e:Ex} (h:anyR sz l=.ok e r):Cost l r (exPr e 0).length:=
 (ael sz _).1 0 _ _ _ acw (by rw[Fp sz 0 l acw];exact congrArg some h)
def Costs {α:Type} (read:List Tok->Res α) (f:α->List Bytes):Prop:=∀l a r,read l=.ok a r->Cost l r (f a).length
theorem ae2 {α:Type} (f:α->List Bytes) (a:α) (l:List α):((a::l).flatMap fun y=>[44]::f y).length=1+(f a).length+(l.flatMap fun y=>[44]::f y).length:=by
 simp only[v8,ua,tw];omega
theorem aei {α:Type} {read:List Tok->Res α} {f:α->List Bytes} (hr:Costs read f):∀(n:Nat) (acc:List α) (l:List Tok) (a:List α) (r:List Tok),moreR read n acc l=.ok a r->∃ys,a=acc++ys/\Cost l r (ys.flatMap fun y=>[44]::f y).length
 | 0,acc,l,a,r,h=>by cases h;exact⟨[],by simp,Cost.refl _⟩
 | n+1,acc,l,a,r,h=>by
  simp only[moreR]at h;split at h
  ·rename_i r1 h1;obtain⟨x,l1,h2,h3⟩:=Am h;obtain⟨ys,rfl,hc⟩:=aei hr n _ _ _ _ h3;refine⟨x::ys,by simp,((ack h1).then (hr _ _ _ h2) (tu _)).then hc ?_⟩;rw[ae2];omega
  ·cases h;exact⟨[],by simp,Cost.refl _⟩
theorem ac4 {α:Type} {read:List Tok->Res α} {f:α->List Bytes} (hr:Costs read f) {l:List Tok} {a:List α} {r:List Tok} (h:listR read l=.ok a r):a≠[]/\Cost l r (eachP f a).length:=by
 obtain⟨x,l1,h2,h3⟩:=Am h;obtain⟨ys,rfl,hc⟩:=aei hr _ _ _ _ _ h3;refine⟨by simp,(hr _ _ _ h2).then hc ?_⟩;simp only[List.singleton_append,eachP,ua];omega
theorem adh {α:Type} {sz:Int} {read:List Tok->Res α} {f:α->List Bytes} (hr:Costs read f) {l:List Tok} {a:α} {r:List Tok} (h:insideR sz read l=.ok a r):Cost l r ((f a).length+2):=by
 obtain⟨u,l1,h1,h2⟩:=Am h;obtain⟨x,l2,h3,h4⟩:=Am h2;obtain⟨u2,h5,rfl⟩:=A6 h4;exact((acj h1).then (hr _ _ _ h3) (tu _)).then (acj h5) (by simp;omega)
theorem adn {sz:Int} {l r:List Tok} {e:Ex} (h:whereR sz l=.ok e r):Cost l r (whereP e).length:=by
 simp only[whereR]at h;split at h
 ·rename_i r1 h1;refine(ack h1).then (adk h) ?_
  unfold whereP;split
  ·simp
  ·exact Zm
 ·cases h;unfold whereP;rw[if_pos aeu];exact Cost.refl _
theorem adj {sz:Int} {l r:List Tok} {c:Col} (h:columnR sz l=.ok c r):Cost l r (colP c).length:=by
 obtain⟨nm,l1,h1,h2⟩:=Am h;obtain⟨k,l2,h3,h4⟩:=Am h2;have hk:Cost l1 l2 1:=by
  split at h3
  ·rename_i r1 h5
   cases h3;exact ack h5
  ·split at h3
   ·rename_i r1 h5
    cases h3;exact ack h5
   ·obtain⟨u,h5,_⟩:=A6 h3;exact(acj h5).le acx
 split at h4
 ·rename_i r1 h5;obtain⟨u,h6,rfl⟩:=A6 h4;exact(((acl h1).then hk (tu _)).then (ack h5) (tu _)).then (acj h6) (by simp[colP,whenP])
 ·cases h4;exact(acl h1).then hk (by simp[colP,whenP])
theorem af3 (cols:List Col) (x:Chk):(chkP cols x).length=6+(pVal x.val).length:=by simp only[chkP,ua,tw,tx];omega
theorem afg {sz:Int} {cols:List Col} {l r:List Tok} {x:Chk} (h:checkR sz cols l=.ok x r):Cost l r (5+(pVal x.val).length):=by
 obtain⟨u,l1,h1,h2⟩:=Am h;obtain⟨k,l2,h3,h4⟩:=Am h2;obtain⟨nm,l3,h5,h6⟩:=Am h4;have e:l2=l1:=by
  simp only[checkColR]at h3;split at h3
  ·split at h3
   ·cases h3;rfl
   ·simp[stopR]at h3
  ·cases h3;rfl
 subst e;split at h6
 ·simp[stopR]at h6
 ·rename_i hop;simp only[ne_eq,Decidable.not_not]at hop;have ho:=aeh hop;obtain⟨v,l4,h7,h8⟩:=Am h6;obtain⟨u2,h9,rfl⟩:=A6 h8;exact((((acj h1).then (acl h5) (tu _)).then (ady ho) (tu _)).then (ada h7) (tu _)).then (acj h9) (by simp;omega)
theorem ac6 (sz:Int):∀(n:Nat) (cols:List Col) (checks:List Chk) (l:List Tok) (a:List Col×List Chk) (r:List Tok),tableMore sz n cols checks l=.ok a r ->
 ∃cs ks,a.1=cols++cs/\a.2=checks++ks/\∀X:List Col,Cost l r ((cs.flatMap fun c=>[44]::colP c).length+(ks.flatMap (chkP X)).length)
 | 0,cols,checks,l,a,r,h=>by cases h;exact⟨[],[],by simp,by simp,fun _=>Cost.refl _⟩
 | n+1,cols,checks,l,a,r,h=>by
  simp only[tableMore]at h;split at h
  ·cases h;exact⟨[],[],by simp,by simp,fun _=>Cost.refl _⟩
  ·rename_i r1 h1;split at h
   ·obtain⟨x,l1,h2,h3⟩:=Am h;obtain⟨cs,ks,e1,e2,hc⟩:=ac6 sz n _ _ _ _ _ h3;refine⟨cs,x::ks,e1,by rw[e2];simp,fun X=>((ack h1).then (afg h2) (tu _)).then (hc X) ?_⟩;rw[v8,ua,af3];omega
   ·split at h
    ·obtain⟨x,l1,h2,h3⟩:=Am h;obtain⟨cs,ks,e1,e2,hc⟩:=ac6 sz n _ _ _ _ _ h3;refine⟨x::cs,ks,by rw[e1];simp,e2,fun X=>((ack h1).then (adj h2) (tu _)).then (hc X) ?_⟩;rw[ae2];omega
    ·exact Zk
theorem ae9 {sz:Int} {l r:List Tok} {t:Tbl} (h:tableR sz l=.ok t r):Cost l r (tblP t).length:=by
 obtain⟨nm,l1,h1,h2⟩:=Am h;obtain⟨u,l2,h3,h4⟩:=Am h2;obtain⟨c,l3,h5,h6⟩:=Am h4;obtain⟨cc,l4,h7,h8⟩:=Am h6;obtain⟨u2,h9,rfl⟩:=A6 h8;obtain⟨cs,ks,e,e2,hc⟩:=ac6 sz _ _ _ _ _ _ h7;refine((((acl h1).then (acj h3) (tu _)).then (adj h5) (tu _)).then (hc cc.1) (tu _)).then (acj h9) ?_
 simp only[tblP,e,e2,List.singleton_append,uc,eachP,ua,tw,tx];omega
theorem af0 (sz:Int):Costs (itemR sz) itemP:=fun l a r h=>by
 have hin:∀{m:List Tok} {e:Ex},insideR sz (anyR sz) m=.ok e r->Cost m r ((exPr e 0).length+2):=fun h=>adh (f:=fun e=>exPr e 0) (fun _ _ _ h=>adk h) h;simp only[itemR]at h;split at h
 ·rename_i r1 h1;obtain⟨u,h2,rfl⟩:=A6 h;exact(ack h1).then (acj h2) (by simp[itemP])
 ·split at h
  ·exact U3
  ·split at h
   ·exact U3
   ·split at h
    ·exact U3
    ·obtain⟨e,h2,rfl⟩:=A6 h;exact(adk h2).le (by simp[itemP])
theorem afu (sz:Int):Costs (sortR sz) srtP:=fun l a r h=>by
 obtain⟨n,l1,h1,h2⟩:=Am h;split at h2
 ·exact ahy
 ·split at h2
  ·exact ahy
  ·cases h2;exact(ac3 h1).le (by simp[srtP,whenP])
theorem aeb (sz:Int):∀(n:Nat) (fr:List Bytes) (on:List Ex) (l:List Tok) (a:List Bytes×List Ex) (r:List Tok),joinsR sz n fr on l=.ok a r->∃ns es,a.1=fr++ns/\a.2=on++es/\Cost l r (joinsP ns es).length
 | 0,fr,on,l,a,r,h=>by cases h;exact⟨[],[],by simp,by simp,Cost.refl _⟩
 | n+1,fr,on,l,a,r,h=>by
  simp only[joinsR]at h;split at h
  ·cases h;exact⟨[],[],by simp,by simp,Cost.refl _⟩
  ·rename_i r1 h1;obtain⟨nm,l1,h2,h3⟩:=Am h;obtain⟨u,l2,h4,h5⟩:=Am h3;obtain⟨e,l3,h6,h7⟩:=Am h5;obtain⟨ns,es,e1,e2,hc⟩:=aeb sz n _ _ _ _ _ h7;refine⟨nm::ns,e::es,by rw[e1];simp,by rw[e2];simp,((((ack h1).then (acl h2) (tu _)).then (acj h4) (tu _)).then (adk h6) (tu _)).then hc ?_⟩;simp only[joinsP,ua,tw,tx];omega
theorem afp {α:Type} {sz:Int} {w:Bytes} {read:List Tok->Res α} {f:α->List Bytes} (hr:Costs read f) {l:List Tok} {a:List α} {r:List Tok} (h:byR sz w read l=.ok a r):Cost l r ((whenP (decide (0<a.length)) [w,[98,121]]).length+(eachP f a).length):=by
 simp only[byR]at h;split at h
 ·rename_i r1 h1;obtain⟨u,l1,h2,h3⟩:=Am h;obtain⟨_,hc⟩:=ac4 hr h3;refine((ack h1).then (acj h2) (tu _)).then hc ?_
  have:=aen (decide (0<a.length)) [w,[98,121]];simp only[tw,tx]at this ⊢;omega
 ·cases h;exact(Cost.refl _).le (by simp[whenP,eachP])
theorem aex (w:Bytes) (l:List Tok):Cost l (optR w l).2 (whenP (optR w l).1 [w]).length:=by
 unfold optR;split
 ·rename_i r h;exact(ack h).le (by simp[whenP])
 ·exact(Cost.refl _).le (by simp[whenP])
theorem ae4 {sz:Int} {l r:List Tok} {x:Sel} (h:chooseR sz l=.ok x r):Cost l r ((selP x).length - 1):=by
 obtain⟨items,l2,h1,h⟩:=Am h;obtain⟨u,l3,h2,h⟩:=Am h;obtain⟨nm,l4,h3,h⟩:=Am h;obtain⟨fo,l5,h4,h⟩:=Am h;obtain⟨wh,l6,h5,h⟩:=Am h;obtain⟨gr,l7,h6,h⟩:=Am h;obtain⟨so,l8,h7,h⟩:=Am h;obtain⟨n,h8,rfl⟩:=A6 h;obtain⟨ns,es,e1,e2,hj⟩:=aeb sz _ _ _ _ _ _ h4;have c:Cost (optR [100,105,115,116,105,110,99,116] l).2 l2 ((whenP (decide (items.length=0)) [[42]]).length+(eachP itemP items).length):=by
  simp only[itemsR]at h1;split at h1
  ·rename_i r1 hr
   cases h1;exact(ack hr).le (by simp[whenP,eachP])
  ·obtain⟨hne,hc⟩:=ac4 (af0 sz) h1;refine hc.le ?_;have:items.length≠0:=fun e=>hne (ut e);simp[whenP,this]
 have c8:Cost l8 r (whenP (decide (0<=n)) ([108,105,109,105,116]::pNum n)).length:=by
  simp only[limitR]at h8;split at h8
  ·rename_i r1 hr;refine(ack hr).then (ac3 h8) ?_
   have:=aen (decide (0<=n)) ([108,105,109,105,116]::pNum n);simp only[tw]at this;omega
  ·cases h8;exact(Cost.refl _).le (by simp[whenP])
 have d:=(aex [100,105,115,116,105,110,99,116] l).then c (tu _)
 have d2:=d.then (acj h2) (tu _)
 have d:=d2.then (acl h3) (tu _)
 have d4:=d.then hj (tu _)
 have d:=d4.then (adn h5) (tu _)
 have d6:=d.then (afp (f:=fun e=>exPr e 0) (fun _ _ _ h=>aeg h acy) h6) (tu _)
 have d:=d6.then (afp (afu sz) h7) (tu _)
 refine d.then c8 ?_
 simp only[selP,e1,e2,List.singleton_append,uc,vo,vz,ua,tw,tx];omega
theorem agb (sz:Int):Costs (rowR sz) rowP:=fun l a r h=>by
 refine(adh (f:=fun a=>eachP pVal a) (fun _ _ _ h=>(ac4 (fun _ _ _ h=>ada h) h).2) h).le ?_;simp only[rowP,ua,tw,tx];omega
theorem af9 (sz:Int):Costs (setR sz) (fun x=>[x.1,[61]]++exPr x.2 0):=fun l a r h=>by
 obtain⟨nm,l1,h1,h2⟩:=Am h;obtain⟨u,l2,h3,h4⟩:=Am h2;obtain⟨e,h5,rfl⟩:=A6 h4;exact((acl h1).then (acj h3) (tu _)).then (adk h5) (by simp;omega)
theorem aew:∀l:List (Bytes×Ex),setsP (l.map (·.1)) (l.map (·.2))=l.map fun x=>[x.1,[61]]++exPr x.2 0
 | []=>rfl
 | x::l=>by simp only[yp,setsP,aew l]
theorem afs {sz:Int} {l r:List Tok} {x:Stm} (h:stmtR sz l=.ok x r):Cost l r (stmP x).length:=by
 unfold stmtR at h;split at h
 ·rename_i r0 h0;simp only[createR]at h;split at h
  ·rename_i r1 h1;obtain⟨t,h2,rfl⟩:=A6 h;exact((ack h0).then (ack h1) (tu _)).then (ae9 h2) (by simp[stmP];omega)
  ·obtain⟨u,l1,h1,h⟩:=Am h;obtain⟨nm,l2,h2,h⟩:=Am h;obtain⟨u2,l3,h3,h⟩:=Am h;obtain⟨tb,l4,h4,h⟩:=Am h;obtain⟨ns,h5,rfl⟩:=A6 h;have d:=adh (f:=fun ns=>eachP (fun s=>[s]) ns) (fun _ _ _ h=>(ac4 (f:=fun s=>[s]) (fun _ _ _ h=>acl h) h).2) h5;refine((((((ack h0).then (aex [117,110,105,113,117,101] r0) (tu _)).then (acj h1) (tu _)).then (acl h2) (tu _)).then (acj h3) (tu _)).then (acl h4) (tu _)).then d ?_
   simp[stmP];omega
 split at h
 ·rename_i r0 h0;simp only[dropR]at h;split at h
  ·rename_i r1 h1;obtain⟨t,h2,rfl⟩:=A6 h;exact((ack h0).then (ack h1) (tu _)).then (acl h2) (by simp[stmP])
  ·obtain⟨u,l1,h1,h⟩:=Am h;obtain⟨nm,l2,h2,h⟩:=Am h;obtain⟨u2,l3,h3,h⟩:=Am h;obtain⟨tb,h4,rfl⟩:=A6 h;exact((((ack h0).then (acj h1) (tu _)).then (acl h2) (tu _)).then (acj h3) (tu _)).then (acl h4) (by simp[stmP])
 split at h
 ·rename_i r0 h0;obtain⟨u,l1,h1,h⟩:=Am h;obtain⟨c,l2,h2,h⟩:=Am h;obtain⟨u2,l3,h3,h⟩:=Am h;obtain⟨tb,h4,rfl⟩:=A6 h;exact((((ack h0).then (acj h1) (tu _)).then (adj h2) (tu _)).then (acj h3) (tu _)).then (acl h4) (by simp[stmP];omega)
 split at h
 ·rename_i r0 h0;obtain⟨u,l1,h1,h⟩:=Am h;obtain⟨tb,l2,h2,h⟩:=Am h;obtain⟨u2,l3,h3,h⟩:=Am h;obtain⟨rs,h4,rfl⟩:=A6 h;exact((((ack h0).then (acj h1) (tu _)).then (acl h2) (tu _)).then (acj h3) (tu _)).then (ac4 (agb sz) h4).2 (by simp[stmP];omega)
 split at h
 ·rename_i r0 h0;obtain⟨tb,l1,h1,h⟩:=Am h;obtain⟨u,l2,h2,h⟩:=Am h;obtain⟨ss,l3,h3,h⟩:=Am h;obtain⟨wh,h4,rfl⟩:=A6 h;refine((((ack h0).then (acl h1) (tu _)).then (acj h2) (tu _)).then (ac4 (af9 sz) h3).2 (tu _)).then (adn h4) ?_
  simp[stmP,aew,d9];omega
 split at h
 ·rename_i r0 h0;obtain⟨u,l1,h1,h⟩:=Am h;obtain⟨tb,l2,h2,h⟩:=Am h;obtain⟨wh,h4,rfl⟩:=A6 h;exact(((ack h0).then (acj h1) (tu _)).then (acl h2) (tu _)).then (adn h4) (by simp[stmP];omega)
 split at h
 ·rename_i r0 h0;obtain⟨y,h1,rfl⟩:=A6 h;exact(ack h0).then (ae4 h1) (by simp[stmP];omega)
 split at h
 ·rename_i r0 h0;simp only[beginR]at h;split at h
  ·rename_i r1 h1
   cases h;exact(ack h0).then (ack h1) (by simp[stmP,whenP])
  ·split at h
   ·rename_i r1 h1;obtain⟨u,h2,rfl⟩:=A6 h;exact((ack h0).then (ack h1) (tu _)).then (acj h2) (by simp[stmP,whenP])
   ·cases h;exact(ack h0).le (by simp[stmP,whenP,Stm.zero])
 split at h
 ·rename_i r0 h0
  cases h;exact(ack h0).le (by simp[stmP])
 split at h
 ·rename_i r0 h0;simp only[rollbackR]at h;split at h
  ·rename_i r1 h1;obtain⟨nm,h2,rfl⟩:=A6 h;refine((ack h0).then (ack h1) (tu _)).then (acl h2) ?_
   have:=aen (decide (nm≠[])) [[116,111],nm];simp[stmP]at this ⊢;omega
  ·cases h;exact(ack h0).le (by simp[stmP,whenP,Stm.zero])
 split at h
 ·rename_i r0 h0;obtain⟨nm,h1,rfl⟩:=A6 h;exact(ack h0).then (acl h1) (by simp[stmP])
 ·obtain⟨u,l1,h1,h⟩:=Am h;obtain⟨nm,h2,rfl⟩:=A6 h;exact(acj h1).then (acl h2) (by simp[stmP])
theorem NP.of_kind {p:Bytes} {k:Int} {s:Bytes} {n:Int} (h:partTok p=some (k,s,n)) (hk:k≠5):NP p:=by
 refine⟨?_,?_⟩<;>rintro rfl
 ·have:partTok [40]=some (5,[40],0):=ac0;rw[this]at h
  cases h;exact hk rfl
 ·have:partTok [41]=some (5,[41],0):=ac0;rw[this]at h
  cases h;exact hk rfl
theorem Bal.paren {a:List Bytes} (h:Bal a):Bal ([40]::(a++[[41]])):=fun d=>by
 rw[ac8,if_pos rfl,ac5,h (d+1)];rfl
theorem acn {s:Bytes} (h:isName s=true):NP s:=NP.of_kind (D6 h) acy
theorem aer {n:Int} (h0:-549755813888<=n) (h1:n<=549755813888):Bal (pNum n):=by
 unfold pNum;split
 ·exact Bal.cons (by unfold NP;decide) (Bal.cons (NP.of_kind (Fj acw acw) acy) Bal.nil)
 ·exact Bal.cons (NP.of_kind (Fj acw acw) acy) Bal.nil
theorem aeo {v:V} (hv:v.right=true):Bal (pVal v):=by
 have hv':=hv;obtain⟨k,n,s⟩:=v;rcases Cm hv with h1|h1|h1|h1
 ·obtain⟨e1,e2,e3⟩:=h1;simp only at e1 e2 e3;subst e1 e2 e3;exact Bal.cons (p:=[110,117,108,108]) (by unfold NP;decide) Bal.nil
 ·obtain⟨e1,e2,e3,e4⟩:=h1;simp only at e1 e2 e3 e4;subst e1 e2;exact aer (n:=n) acw acw
 ·obtain⟨e1,e2,e3⟩:=h1;simp only at e1 e2 e3;subst e1 e2;exact Bal.cons (NP.of_kind (text_tok rfl hv') acy) Bal.nil
 ·obtain⟨e1,e2,e3⟩:=h1;simp only at e1 e2 e3;subst e1 e3;rcases e2 with rfl|rfl
  ·have:pVal ⟨3,0,⟨#[]⟩⟩=[[102,97,108,115,101]]:=ac0;rw[this];exact Bal.cons (by unfold NP;decide) Bal.nil
  ·have:pVal ⟨3,1,⟨#[]⟩⟩=[[116,114,117,101]]:=ac0;rw[this];exact Bal.cons (by unfold NP;decide) Bal.nil
theorem afa:((List.range 16).all fun o=>decide (signP o≠[40]/\signP o≠[41]))=true:=ac0
theorem afk {op:Int} (h3:3<=op) (h13:op<=13):NP (signP op):=by
 have:=vg.1 afa op.toNat (by simp;omega);have e:((op.toNat:Nat):Int)=op:=acw;rw[e]at this;unfold NP;exact zw this
theorem adz:∀e:Ex,e.formed=true->∀lev:Int,Bal (exPr e lev):=by
 refine Ex.ind fun op t n v args ih=>?_;intro hf lev;have hb:Bal (bare (.mk op t n v args)):=by
  rcases formed_cases hf with⟨rfl,rfl,rfl,hn,ht⟩|⟨rfl,rfl,hv,rfl,rfl⟩|⟨a,ho,rfl,ha,rfl,rfl,rfl⟩|⟨a,b,h3,h13,rfl,ha,hb,rfl,rfl,rfl⟩
  ·rw[D9];refine Bal.append (Bal.when fun h=>?_) (Bal.cons (acn hn) Bal.nil);have h':t≠[]:=by simpa using h
   exact Bal.cons (acn (ht.resolve_left h')) (Bal.cons (by unfold NP;decide) Bal.nil)
  ·rw[E3];exact aeo hv
  ·rcases ho with rfl|rfl
   ·rw[E5];exact Bal.cons (p:=[110,111,116]) (by unfold NP;decide) (ih a acx ha 2)
   ·rw[Dw];exact Bal.append (ih a acx ha 4) (Bal.cons (by unfold NP;decide) (Bal.cons (by unfold NP;decide) Bal.nil))
  ·rw[Gy h3 h13];exact Bal.append (Bal.append (ih a acx ha _) (Bal.cons (afk h3 h13) Bal.nil)) (ih b acx hb _)
 by_cases hp:exLev op<lev
 ·rw[D8 hp];exact Bal.paren hb
 ·rw[Da (by simp only[Ex.op];omega)];exact hb
theorem adu {e:Ex} (h:condR e=true):Bal (whereP e):=by
 unfold whereP;split
 ·exact Bal.nil
 ·rename_i hz;simp only[condR,vy]at h;exact Bal.cons (by unfold NP;decide) (adz e (Ay (h.resolve_left hz)) 0)
theorem afo {c:Col} (h:c.kinded=true):Bal (colP c):=by
 simp only[Col.kinded,tr]at h;refine Bal.append (Bal.cons (acn h.1.1) (Bal.cons ?_ Bal.nil)) (Bal.when fun _=>Bal.cons (by unfold NP;decide) (Bal.cons (by unfold NP;decide) Bal.nil));unfold kindP;split
 ·unfold NP;decide
 ·split<;>(unfold NP;decide)
theorem agy {t:Tbl} (h:t.tabled=true):Bal (tblP t):=by
 simp only[Tbl.tabled,tr]at h;obtain⟨⟨⟨h1,_⟩,h2⟩,h3⟩:=h;have hc:=(Ai h2).2.2;have hk:=(Ai h3).2.2;have e:tblP t=t.name::([40]::((eachP colP t.cols++t.checks.flatMap (chkP t.cols))++[[41]])):=by simp[tblP]
 rw[e];refine Bal.cons (acn h1) (Bal.paren (Bal.append (Bal.each fun c hcm=>afo (hc c hcm)) (Bal.flat fun x hx=>?_)));have hx':=hk x hx;simp only[Chk.okIn,tr,uk]at hx';obtain⟨⟨⟨⟨⟨a,a2⟩,a3⟩,a4⟩,a5⟩,_⟩:=hx';have e:chkP t.cols x=[44]::[99,104,101,99,107]::([40]::((((t.cols.map (·.name)).getD x.col.toNat [])::signP x.op::pVal x.val)++[[41]])):=by simp[chkP]
 rw[e];exact Bal.cons (by unfold NP;decide) (Bal.cons (by unfold NP;decide) (Bal.paren (Bal.cons (acn (Q2 hc a a2)) (Bal.cons (afk acw acw) (aeo a5)))))
theorem ago {x:Pk} (h:x.picked=true):Bal (itemP x):=by
 simp only[Pk.picked]at h;unfold itemP;split
 ·rename_i h0;rw[if_neg acw]at h;simp only[tr]at h;exact adz _ (Ay h.2) 0
 ·split
  ·exact Bal.cons (by unfold NP;decide) (Bal.paren (a:=[[42]]) (Bal.cons (by unfold NP;decide) Bal.nil))
  ·rename_i h1;rw[if_neg h1]at h;simp only[tr]at h;refine Bal.cons ?_ (Bal.paren (adz _ (Ay h.2) 0));split
   ·unfold NP;decide
   ·split<;>(unfold NP;decide)
theorem aej:∀(ns:List Bytes) (es:List Ex),(∀n∈ns,isName n=true)->(∀e∈es,e.formed=true)->Bal (joinsP ns es)
 | [],es,_,_=>by simp[joinsP];exact Bal.nil
 | n::ns,[],_,_=>by simp[joinsP];exact Bal.nil
 | n::ns,e::es,h1,h2=>by
  simp only[joinsP];exact Bal.append (Bal.append (Bal.cons (by unfold NP;decide) (Bal.cons (acn (h1 n acx)) (Bal.cons (by unfold NP;decide) Bal.nil))) (adz e (h2 e acx) 0)) (aej ns es (fun m hm=>h1 m (by simp[hm])) (fun d hd=>h2 d (by simp[hd])))
theorem ag1 {x:Sel} (h:x.chosen=true):Bal (selP x):=by
 simp only[Sel.chosen,tr,uk]at h;obtain⟨⟨⟨⟨⟨⟨⟨h1,h2⟩,h3⟩,h4⟩,h5⟩,h6⟩,h7⟩,h8⟩:=h;have a:=(Ai h1).2.2;have a2:=Ai h2;have a3:=(Ai h3).2.2;have a5:=(Ai h5).2.2;have a6:=(Ai h6).2.2;have hf:isName (x.from_.getD 0 [])=true:=by
  cases hx:x.from_ with
  | nil=>rw[hx]at a2;simp at a2
  | cons f fs=>exact a2.2.2 f (by rw[hx];simp)
 have kw:∀{p:Bytes},NP p->Bal [p]:=fun h=>Bal.cons h Bal.nil;unfold selP;refine Bal.append (Bal.append (Bal.append (Bal.append (Bal.append (Bal.append (Bal.append (Bal.append (Bal.append (Bal.append (Bal.append (kw (by unfold NP;decide)) (Bal.when fun _=>kw (by unfold NP;decide))) (Bal.when fun _=>kw (by unfold NP;decide))) (Bal.each fun i hi=>ago (a i hi))) (Bal.cons (by unfold NP;decide) (kw (acn hf)))) (aej _ _ (fun n hn=>a2.2.2 n (aic hn)) (fun e he=>Ay (a3 e he)))) (adu h4)) (Bal.when fun _=>Bal.cons (by unfold NP;decide) (kw (by unfold NP;decide)))) (Bal.each fun e he=>?_)) (Bal.when fun _=>Bal.cons (by unfold NP;decide) (kw (by unfold NP;decide)))) (Bal.each fun s hs=>?_)) (Bal.when fun hl=>Bal.cons (by unfold NP;decide) ?_)
 ·have:=a5 e he;simp only[groupOk,tr]at this;exact adz e (Ay this.2) 0
 ·have:=a6 s hs;simp only[Srt.okS,tr,uk]at this;exact Bal.append (aer acw acw) (Bal.when fun _=>kw (by unfold NP;decide))
 ·exact aer acw acw
theorem ag3 {r:List V} (h:rowOk r=true):Bal (rowP r):=
 Bal.paren (Bal.each fun v hv=>aeo ((Ai h).2.2 v hv))
theorem agz {x:Stm} (h:x.formed=true):Bal (stmP x):=by
 have hk:=Bz h;have kw:∀{p:Bytes},NP p->Bal [p]:=fun h=>Bal.cons h Bal.nil;unfold Stm.formed at h;unfold stmP;by_cases h1:x.kind=1
 ·rw[if_pos h1]at h ⊢;simp only[tr]at h;exact Bal.append (Bal.cons (by unfold NP;decide) (kw (by unfold NP;decide))) (agy h.1)
 rw[if_neg h1]at h ⊢;by_cases h1:x.kind=2
 ·rw[if_pos h1]at h ⊢;simp only[tr]at h;exact Bal.cons (by unfold NP;decide) (Bal.cons (by unfold NP;decide) (kw (acn h.1)))
 rw[if_neg h1]at h ⊢;by_cases h1:x.kind=3
 ·rw[if_pos h1]at h ⊢;simp only[tr]at h;exact Bal.append (Bal.append (Bal.cons (by unfold NP;decide) (kw (by unfold NP;decide))) (afo h.1.1)) (Bal.cons (by unfold NP;decide) (kw (acn h.1.2)))
 rw[if_neg h1]at h ⊢;by_cases h1:x.kind=4
 ·rw[if_pos h1]at h ⊢;simp only[tr]at h;have e:[[99,114,101,97,116,101]]++whenP x.unique [[117,110,105,113,117,101]]++[[105,110,100,101,120],x.name,[111,110],x.table,[40]]++eachP (fun s=>[s]) x.names++[[41]]=([[99,114,101,97,116,101]]++whenP x.unique [[117,110,105,113,117,101]]++[[105,110,100,101,120],x.name,[111,110],x.table])++([40]::(eachP (fun s=>[s]) x.names++[[41]])):=acx;rw[e];exact Bal.append (Bal.append (Bal.append (kw (by unfold NP;decide)) (Bal.when fun _=>kw (by unfold NP;decide))) (Bal.cons (by unfold NP;decide) (Bal.cons (acn h.1.1.2) (Bal.cons (by unfold NP;decide) (kw (acn h.1.1.1)))))) (Bal.paren (Bal.each fun s hs=>kw (acn ((Ai h.1.2).2.2 s hs))))
 rw[if_neg h1]at h ⊢;by_cases h1:x.kind=5
 ·rw[if_pos h1]at h ⊢;simp only[tr]at h;exact Bal.cons (by unfold NP;decide) (Bal.cons (by unfold NP;decide) (Bal.cons (acn h.1.2) (Bal.cons (by unfold NP;decide) (kw (acn h.1.1)))))
 rw[if_neg h1]at h ⊢;by_cases h1:x.kind=6
 ·rw[if_pos h1]at h ⊢;simp only[tr]at h;exact Bal.append (Bal.cons (by unfold NP;decide) (Bal.cons (by unfold NP;decide) (Bal.cons (acn h.1.2) (kw (by unfold NP;decide))))) (Bal.each fun r hr=>ag3 ((Ai h.1.1).2.2 r hr))
 rw[if_neg h1]at h ⊢;by_cases h1:x.kind=7
 ·rw[if_pos h1]at h ⊢;simp only[tr]at h;obtain⟨⟨⟨⟨a,a2⟩,a3⟩,a4⟩,a5⟩:=h;refine Bal.append (Bal.append (Bal.cons (by unfold NP;decide) (Bal.cons (acn a2) (kw (by unfold NP;decide)))) ?_) (adu a4);rw[Dt,d9];exact Bal.each fun p hp=>Bal.append (Bal.cons (acn ((Ai a3).2.2 _ (aap hp).1)) (kw (by unfold NP;decide))) (adz _ (Ay ((Ai a).2.2 _ (aap hp).2)) 0)
 rw[if_neg h1]at h ⊢;by_cases h1:x.kind=8
 ·rw[if_pos h1]at h ⊢;simp only[tr]at h;exact Bal.append (Bal.cons (by unfold NP;decide) (Bal.cons (by unfold NP;decide) (kw (acn h.1.1)))) (adu h.1.2)
 rw[if_neg h1]at h ⊢;by_cases h1:x.kind=9
 ·rw[if_pos h1]at h ⊢;simp only[tr]at h;exact ag1 h.1
 rw[if_neg h1]at h ⊢;by_cases h1:x.kind=10
 ·rw[if_pos h1];exact Bal.append (Bal.append (kw (by unfold NP;decide)) (Bal.when fun _=>kw (by unfold NP;decide))) (Bal.when fun _=>Bal.cons (by unfold NP;decide) (kw (by unfold NP;decide)))
 rw[if_neg h1]at h ⊢;by_cases h1:x.kind=11
 ·rw[if_pos h1];exact kw (by unfold NP;decide)
 rw[if_neg h1]at h ⊢;by_cases h1:x.kind=12
 ·rw[if_pos h1]at h ⊢;refine Bal.append (kw (by unfold NP;decide)) (Bal.when fun hn=>?_);have hn':x.name≠[]:=by simpa using hn
  rw[if_neg hn']at h;simp only[tr]at h;exact Zd
 rw[if_neg h1]at h ⊢;rw[if_pos acw]at h;simp only[tr]at h;split
 ·exact Zd
 ·exact Zd
def isOpen (t:Tok):Bool:=decide (t.kind=5)&&decide (t.s=[40])
def isClose (t:Tok):Bool:=decide (t.kind=5)&&decide (t.s=[41])
def deeper (t:Tok) (d:Int):Int:=d+b2i (isOpen t) - b2i (isClose t)
def seek (fi0:Nat):List Tok->Nat->Int->Nat
 | [],_,_=>fi0
 | t::r,i,d=>if deeper t d=0/\i≠fi0 then i else seek fi0 r (i+1) (deeper t d)
theorem adt {p:Bytes} {t:Tok} (h:IsTok p t):isOpen t=decide (p=[40])/\isClose t=decide (p=[41]):=by
 have key:∀w:Bytes,partTok w=some (5,w,0)->Fixed w->(decide (t.kind=5)&&decide (t.s=w))=decide (p=w):=fun w hw hf=>by
  by_cases hp:p=w
  ·subst hp;obtain⟨e,e2,_⟩:=Bu hw h;simp[e,e2]
  ·rw[vm hp,Bool.and_eq_false_iff,aal,aal];by_cases hk:t.kind=5
   ·exact .inr (by rw[Tm h (.inr hk)];exact hp)
   ·exact .inl hk
 exact⟨key _ ac0 (fx ac0),key _ ac0 (fx ac0)⟩
theorem ade (fi0:Nat) {e':Nat}:∀(ps:List Bytes) (l:List Tok) (i d e:Nat),Carries ps l->depth (d+1+e) ps=some e'->e'<=e->fi0<i->∃k t,l[k]?=some t/\isClose t=true/\seek fi0 l i ((d:Int)+1)=i+k
 | [],l,i,d,e,hc,hd,he,hi=>by simp only[depth,uz]at hd;omega
 | p::ps,l,i,d,e,hc,hd,he,hi=>by
  obtain⟨t,r,rfl,ht,hc⟩:=Ab hc;obtain⟨o1,o2⟩:=adt ht;rw[ac8]at hd;by_cases h1:p=[40]
  ·rw[if_pos h1]at hd;have hd':depth (d+1+1+e) ps=some e':=by rw[<- hd];congr 1;omega
   obtain⟨k,u,hk,hu,hs⟩:=ade fi0 ps r (i+1) (d+1) e hc hd' he acw;refine⟨k+1,u,hk,hu,?_⟩;have e1:deeper t ((d:Int)+1)=((d+1:Nat):Int)+1:=by
    unfold deeper;rw[o1,o2,h1];simp[b2i]
   rw[seek,e1,if_neg acw,hs];omega
  ·rw[if_neg h1]at hd;by_cases h:p=[41]
   ·rw[if_pos h]at hd;have e1:deeper t ((d:Int)+1)=(d:Int):=by
     unfold deeper;rw[o1,o2,h];simp[b2i]<;>omega
    cases d with
    | zero=>
     refine⟨0,t,rfl,by rw[o2,h];rfl,?_⟩;rw[seek,e1,if_pos ⟨rfl,by omega⟩];rfl
    | succ d=>
     have hd':depth (d+1+e) ps=some e':=by
      rw[show d+1+1+e=(d+1+e)+1 by omega]at hd;exact hd
     obtain⟨k,u,hk,hu,hs⟩:=ade fi0 ps r (i+1) d e hc hd' he acw;refine⟨k+1,u,hk,hu,?_⟩;rw[seek,e1,if_neg acw];rw[show((d+1:Nat):Int)=(d:Int)+1 by omega,hs];omega
   ·rw[if_neg h]at hd;obtain⟨k,u,hk,hu,hs⟩:=ade fi0 ps r (i+1) d e hc hd he acw;refine⟨k+1,u,hk,hu,?_⟩;have e1:deeper t ((d:Int)+1)=(d:Int)+1:=by
     unfold deeper;rw[o1,o2,vm h1,vm h];simp[b2i]
    rw[seek,e1,if_neg acw,hs];omega
theorem adf:∀(n:Nat) {ps:List Bytes} {l:List Tok},Carries ps l->Carries (ps.drop n) (l.drop n)
 | 0,_,_,h=>h
 | n+1,[],l,h=>by rw[An h];exact Carries.nil
 | n+1,p::ps,l,h=>by
  obtain⟨t,r,rfl,_,h⟩:=Ab h;exact adf n h
theorem aga {x:Stm} (h:x.formed=true) {l:List Tok} (hc:Carries (stmP x) l) {fi0:Nat} {t:Tok} (ht:l[fi0]?=some t) (ho:isOpen t=true):∃j u,fi0<j/\l[j]?=some u/\isClose u=true/\seek fi0 (l.drop fi0) fi0 0=j:=by
 have hlt:=(uu.1 ht).1;have e:l.drop fi0=t::l.drop (fi0+1):=by
  rw[ww hlt];congr 1;exact(uu.1 ht).2
 have hd:=adf fi0 hc;rw[e]at hd;have hb:=agz h 0;have hsplit:=aae fi0 (stmP x);rw[<- hsplit,ac5]at hb
 cases hx:depth 0 ((stmP x).take fi0)with
 | none=>rw[hx]at hb;cases hb
 | some d=>
  rw[hx]at hb;have hb:depth d ((stmP x).drop fi0)=some 0:=hb
  cases hp:(stmP x).drop fi0 with
  | nil=>rw[hp]at hd;have:=An hd;cases this
  | cons p ps=>
   rw[hp]at hd hb;obtain⟨t',r',e',ht',hc'⟩:=Ab hd;injection e' with e1 e2;subst e1 e2;obtain⟨o,o2⟩:=adt ht';have hpo:p=[40]:=by rw[o]at ho;simpa using ho
   rw[ac8,if_pos hpo]at hb;obtain⟨k,u,hk,hu,hs⟩:=ade fi0 ps _ (fi0+1) 0 d hc' (e':=0) (by rw[<- hb];congr 1;omega) acw acw;refine⟨fi0+1+k,u,by omega,by rw[abb]at hk;exact hk,hu,?_⟩;rw[e,seek];have e1:deeper t 0=((0:Nat):Int)+1:=by
    unfold deeper;rw[o,o2,hpo];simp[b2i]
   rw[e1,if_neg acw,hs]
theorem adm {α:Type} (a b:List α) (n:Nat) (v:α):(a++b).set (a.length+n) v=a++b.set n v:=by
 rw[List.set_append,if_neg acw];congr 2;omega
theorem adb:∀(l:List (Bytes×Bytes)) (at_ i:Nat) (sp p:Bytes) (t:Tok),l[i]?=some (sp,p)->(placed at_ l)[i]?=some t->p.length=1->(partTok p).isSome=true ->
 ∃n:Nat,t.at_=(at_+n:Nat)/\n<(spaced l).length/\(spaced l).set n 32=spaced (l.set i (sp,[32]))
 | [],at_,i,sp,p,t,h,_,_,_=>by simp at h
 | (s0,p0)::l,at_,0,sp,p,t,h,hp,h1,hs=>by
  simp only[xx,uz,aaf]at h;obtain⟨rfl,rfl⟩:=h;obtain⟨⟨k,s,n⟩,hx⟩:=ye.1 hs;simp only[placed,hx,xx,uz]at hp;subst hp;obtain⟨c,rfl⟩:∃c,p0=[c]:=by
   match p0,h1 with
   | [c],_=>exact⟨c,rfl⟩
  refine⟨s0.length,rfl,by simp only[spaced,ua,tw];omega,?_⟩;simp only[spaced,ub,uv];have:=adm s0 ([c]++spaced l) 0 (32:UInt8);rw[u0]at this;rw[this];rfl
 | (s0,p0)::l,at_,i+1,sp,p,t,h,hp,h1,hs=>by
  simp only[xq]at h;have hp':(placed (at_+s0.length+p0.length) l)[i]?=some t:=by simpa[placed]using hp
  obtain⟨n,e,e2,e3⟩:=adb l _ i sp p t h hp' h1 hs;refine⟨s0.length+p0.length+n,by rw[e];congr 1;omega,by simp only[spaced,ua];omega,?_⟩;simp only[spaced,ui];rw[<- e3,<- adm,ua]
def merge:Bytes->List (Bytes×Bytes)->List (Bytes×Bytes)×Bytes
 | c,[]=>([],c)
 | c,(sp,p)::l=>if p=[32]then merge (c++sp++p) l else((c++sp,p)::(merge [] l).1,(merge [] l).2)
theorem adp:∀(l:List (Bytes×Bytes)) (c:Bytes),spaced (merge c l).1++(merge c l).2=c++spaced l
 | [],c=>by simp[merge,spaced]
 | (sp,p)::l,c=>by
  simp only[merge];split
  ·rw[adp l];simp[spaced]
  ·simp only[spaced];have:=adp l [];rw[uv,this];simp
theorem adg:∀(l:List (Bytes×Bytes)) (c:Bytes),(merge c l).1.length+(l.filter fun x=>decide (x.2=[32])).length=l.length
 | [],c=>rfl
 | (sp,p)::l,c=>by
  simp only[merge];by_cases h:p=[32]
  ·rw[if_pos h,List.filter_cons_of_pos (by simpa using h)];have:=adg l (c++sp++p);exact Zm
  ·rw[if_neg h,List.filter_cons_of_neg (by simpa using h)];have:=adg l [];exact Zm
theorem adc:∀(l:List (Bytes×Bytes)) (c:Bytes),(∀d∈c,accS d=true)->(∀x∈l,∀d∈x.1,accS d=true)->(∀x∈l,x.2≠[32]->(partTok x.2).isSome=true)->(∀x∈l,x.1≠[]) ->
 (∀x∈(merge c l).1,(∀d∈x.1,accS d=true)/\x.1≠[]/\(partTok x.2).isSome=true)/\∀d∈(merge c l).2,accS d=true
 | [],c,hc,_,_,_=>⟨by simp[merge],by simpa[merge]using hc⟩
 | (sp,p)::l,c,hc,h1,h2,h3=>by
  have g1:=h1 (sp,p) acx;have g3:=h3 (sp,p) acx;simp only[merge];split
  ·rename_i hp;refine adc l _ (fun d hd=>?_) (fun x hx=>h1 x (by simp[hx])) (fun x hx=>h2 x (by simp[hx])) (fun x hx=>h3 x (by simp[hx]));subst hp;simp only[wi,vh]at hd;rcases hd with(hd|hd)|rfl
   ·exact hc d hd
   ·exact g1 d hd
   ·rfl
  ·rename_i hp;obtain⟨i1,i2⟩:=adc l [] acx (fun x hx=>h1 x (by simp[hx])) (fun x hx=>h2 x (by simp[hx])) (fun x hx=>h3 x (by simp[hx]));refine⟨fun x hx=>?_,i2⟩;rcases uw.1 hx with rfl|hx
   ·refine⟨fun d hd=>?_,by simp only[ne_eq,aab,not_and];intro _;exact g3,h2 (sp,p) acx hp⟩;rcases wi.1 hd with hd|hd
    ·exact hc d hd
    ·exact g1 d hd
   ·exact i1 x hx
theorem ado:∀(l:List (Bytes×Bytes)) (a:Nat),(placed a l).length=l.length
 | [],_=>rfl
 | (sp,p)::l,a=>by simp only[placed,tw,ado l]
theorem aff {α:Type} {p:α->Bool} {l:List α} {i j:Nat} (hij:i<j) {a b:α} (hi:l[i]?=some a) (hj:l[j]?=some b) (ha:p a=true) (hb:p b=true):2<=(l.filter p).length:=by
 have e:l=l.take i++a::l.drop (i+1):=by
  obtain⟨h,h2⟩:=uu.1 hi;rw[<- h2,<- ww h,aae]
 have e2:(l.drop (i+1))[j - (i+1)]?=some b:=by rw[abb,<- hj];congr 1;omega
 have hm:b∈(l.drop (i+1)).filter p:=List.mem_filter.2 ⟨uq e2,hb⟩;rw[e,List.filter_append,List.filter_cons_of_pos ha,ua,tw];have:=List.length_pos_of_mem hm;omega
theorem ad5:∀(l:List (Bytes×Bytes)) (a i j:Nat) (sp p q:Bytes),i≠j->l[i]?=some (sp,p)->p.length=q.length->(placed a (l.set i (sp,q)))[j]?=(placed a l)[j]?
 | [],a,i,j,sp,p,q,_,h,_=>by simp at h
 | (s0,p0)::l,a,0,0,sp,p,q,hij,h,hl=>absurd rfl hij
 | (s0,p0)::l,a,0,j+1,sp,p,q,hij,h,hl=>by
  simp only[xx,uz,aaf]at h;obtain⟨rfl,rfl⟩:=h;simp only[ub,placed,xq,hl]
 | (s0,p0)::l,a,i+1,0,sp,p,q,hij,h,hl=>by simp only[ui,placed,xx]
 | (s0,p0)::l,a,i+1,j+1,sp,p,q,hij,h,hl=>by
  simp only[xq]at h;simp only[ui,placed,xq];exact ad5 l _ i j sp p q acw h hl
theorem agd {s:Bytes} {x:Stm} {l:List Tok} (ht:toksR s=.ok l) (h:parseS s=.ok x):stmtR s.length l=.ok x []:=by
 unfold parseS at h;rw[ht]at h;simp only at h
 cases hs:stmtR s.length l with
 | err p e=>rw[hs]at h;cases h
 | ok y r=>
  rw[hs]at h;simp only at h
  cases r with
  | cons t r=>cases h
  | nil=>
   simp only at h;split at h
   ·cases h;rfl
   ·cases h
theorem aec (htok:∀s l,toksR s=.ok l->TokOk l) {x:Stm} (h:x.formed=true) (hl:(joinSp (stmP x)).length<=4000) {l:List Tok} (hto:toksR (joinSp (stmP x))=.ok l) {i j:Nat} {ti tj:Tok} (hij:i<j) (hi:l[i]?=some ti) (hj:l[j]?=some tj) (oi:isOpen ti=true) (cj:isClose tj=true):∃ni nj:Nat,ti.at_=ni/\tj.at_=nj/\ni<(joinSp (stmP x)).length/\nj<(joinSp (stmP x)).length/\parseS (((joinSp (stmP x)).set ni 32).set nj 32)≠.ok x:=by
 have hall:=gz h;obtain⟨h1,h2⟩:=V3 (stmP x) hall hl;rw[hto]at h1;injection h1 with h1;subst h1;have hsp:=Ie hall;have hlen:=ado (oneSp (stmP x)) 0;have getp:∀(k:Nat) (t:Tok),(placed 0 (oneSp (stmP x)))[k]?=some t->∃sp p,(oneSp (stmP x))[k]?=some (sp,p)/\IsTok p t:=fun k t hk=>by
  have hlt:=(uu.1 hk).1;rw[hlen]at hlt;refine⟨_,_,vd hlt,?_⟩;have hcd:=adf k h2;have e:(placed 0 (oneSp (stmP x))).drop k=t::(placed 0 (oneSp (stmP x))).drop (k+1):=by
   obtain⟨q,q2⟩:=uu.1 hk;rw[ww q,q2]
  have hpl:k<(stmP x).length:=by rw[<- Ps (stmP x),zr];exact hlt
  rw[e,ww hpl]at hcd;obtain⟨t',r',e',ht',_⟩:=Ab hcd;injection e' with e _;subst e;have:(oneSp (stmP x))[k].2=(stmP x)[k]:=by
   have:=congrArg (fun z=>z[k]?) (Ps (stmP x));simp only[aai,vd hlt,vd hpl,ze,uz]at this;exact this
  show IsTok ((oneSp (stmP x))[k]).2 t;rw[this];exact ht'
 obtain⟨si,pi,gi,ki⟩:=getp i ti hi;obtain⟨sj,pj,gj,kj⟩:=getp j tj hj;have ei:pi=[40]:=by have:=(adt ki).1;rw[oi]at this;simpa using this.symm
 have ej:pj=[41]:=by have:=(adt kj).2;rw[cj]at this;simpa using this.symm
 subst ei ej;obtain⟨ni,a1,a2,a3⟩:=adb _ 0 i _ _ _ gi hi rfl (ft ac0);obtain⟨nj,b1,b2,b3⟩:=adb _ 0 j _ _ _ gj hj rfl (ft ac0);have gj':((oneSp (stmP x)).set i (si,[32]))[j]?=some (sj,[41]):=by rw[List.getElem?_set_ne acw];exact gj
 have hj':(placed 0 ((oneSp (stmP x)).set i (si,[32])))[j]?=some tj:=by rw[ad5 _ 0 i j si _ [32] acw gi rfl];exact hj
 obtain⟨nk,c,c2,c3⟩:=adb _ 0 j _ _ _ gj' hj' rfl (ft ac0);have enk:nk=nj:=by rw[b1]at c;omega
 subst enk;rw[xr]at a1 b1;rw[F8]at a2 a3 b2 b3;refine⟨ni,nk,a1,b1,a2,b2,fun hp=>?_⟩;rw[a3,c3]at hp;have hlen2:(spaced (((oneSp (stmP x)).set i (si,[32])).set j (sj,[32]))).length<=4000:=by
  rw[<- c3,List.length_set,<- a3,List.length_set];exact hl
 have hilt:=(uu.1 gi).1;have hjlt:=(uu.1 gj).1;have f:2<=((((oneSp (stmP x)).set i (si,[32])).set j (sj,[32])).filter fun x=>decide (x.2=[32])).length:=
  aff hij (a:=(si,[32])) (b:=(sj,[32])) (by rw[List.getElem?_set_ne acw,List.getElem?_set_self hilt]) (by rw[List.getElem?_set_self (by simpa using hjlt)]) acx acx
 have hll:(((oneSp (stmP x)).set i (si,[32])).set j (sj,[32])).length=(stmP x).length:=by
  rw[List.length_set,List.length_set,<- Ps (stmP x),zr,Ps]
 have hel:∀y∈((oneSp (stmP x)).set i (si,[32])).set j (sj,[32]),(∀d∈y.1,accS d=true)/\(y.2≠[32]->(partTok y.2).isSome=true):=fun y hy=>by
  rcases wu hy with hy|rfl
  ·rcases wu hy with hy|rfl
   ·exact⟨hsp.sp y hy,fun _=>hsp.part y hy⟩
   ·exact⟨hsp.sp (si,[40]) (uq gi),fun hh=>absurd rfl hh⟩
  ·exact⟨hsp.sp (sj,[41]) (uq gj),fun hh=>absurd rfl hh⟩
 have hne:∀y∈(((oneSp (stmP x)).set i (si,[32])).set j (sj,[32])).tail,y.1≠[]:=fun y hy=>by
  obtain⟨k,hk⟩:=yi.1 hy;rw[List.getElem?_tail]at hk;have key:∀z,(oneSp (stmP x))[k+1]?=some z->z.1≠[]:=fun z hz=>hsp.ne z (by rw[<- List.getElem?_tail]at hz;exact uq hz);by_cases e:j=k+1
  ·rw[<- e,List.getElem?_set_self (by simpa using hjlt)]at hk
   cases hk;rw[e]at gj;exact key (sj,[41]) gj
  ·rw[List.getElem?_set_ne e]at hk;by_cases e:i=k+1
   ·rw[<- e,List.getElem?_set_self hilt]at hk
    cases hk;rw[e]at gi;exact key (si,[40]) gi
   ·rw[List.getElem?_set_ne e]at hk;exact key _ hk
 generalize ((oneSp (stmP x)).set i (si,[32])).set j (sj,[32])=L2 at *;have hmt:=adp L2 [];have hmc:=adg L2 [];have hgood:Spaced (merge [] L2).1/\∀d∈(merge [] L2).2,accS d=true:=by
  cases L2 with
  | nil=>exact⟨⟨by simp[merge],by simp[merge],by simp[merge]⟩,by simp[merge]⟩
  | cons y L2=>
   obtain⟨sp,p⟩:=y;simp only[abt]at hne;simp only[merge];split
   ·rename_i hp1;obtain⟨m,m2⟩:=adc L2 ([]++sp++p) (fun d hd=>by
     subst hp1;simp only[uc,wi,vh]at hd;rcases hd with hd|rfl
     ·exact(hel (sp,[32]) acx).1 d hd
     ·rfl) (fun y hy=>(hel y (by simp[hy])).1) (fun y hy=>(hel y (by simp[hy])).2) hne
    exact⟨⟨fun y hy=>(m y hy).1,fun y hy=>(m y (List.mem_of_mem_tail hy)).2.1,fun y hy=>(m y hy).2.2⟩,m2⟩
   ·rename_i hp1;obtain⟨m,m2⟩:=adc L2 [] acx (fun y hy=>(hel y (by simp[hy])).1) (fun y hy=>(hel y (by simp[hy])).2) hne;refine⟨⟨fun y hy=>?_,fun y hy=>(m y hy).2.1,fun y hy=>?_⟩,m2⟩
    ·rcases uw.1 hy with rfl|hy
     ·exact(hel (sp,p) acx).1
     ·exact(m y hy).1
    ·rcases uw.1 hy with rfl|hy
     ·exact(hel (sp,p) acx).2 hp1
     ·exact(m y hy).2.2
 rw[uc]at hmt;have ht:=Om _ _ hgood.1 hgood.2 (by rw[hmt];exact hlen2);rw[hmt]at ht;have hst:=agd ht hp;have:=(afs hst (htok _ _ ht)).2;rw[ado]at this;simp only[tx]at this;omega
end Go.Proofs.YtimoefagohifaaaGreatDoor
