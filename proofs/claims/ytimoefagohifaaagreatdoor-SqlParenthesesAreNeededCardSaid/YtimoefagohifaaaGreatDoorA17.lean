/- Laws that the last part needs. No condition. -/
import Derived.Test.YtimoefagohifaaaGreatDoorA03
namespace Go.Proofs.YtimoefagohifaaaGreatDoor
open Tryz
def TokOk (l:List Tok):Prop:=∀t∈l,0<=t.n/\t.n<=549755813888/\t.s.length<=4000
theorem TokOk.suf {l r:List Tok} (h:TokOk l) (hs:r<:+ l):TokOk r:=fun t ht=>h t (hs.subset ht)
theorem A4 {w:Bytes} {l r:List Tok} (h:tk w l=some r):r<:+ l/\r.length+1<=l.length:=by
 cases l with
 | nil=>simp[tk]at h
 | cons t l=>
  simp only[tk]at h;split at h
  ·cases h;exact⟨ab5 _ _,by simp⟩
  ·cases h
theorem Ca {k:Int} {l r:List Tok} {t:Tok} (h:nextR k l=some (t,r)):r<:+ l/\t∈l/\r.length+1<=l.length:=by
 obtain⟨rfl,_⟩:=Ez h;exact⟨ab5 _ _,by simp,by simp⟩
theorem Fz (l:List Tok):l.tail<:+ l:=by cases l with
 | nil=>exact xh
 | cons t l=>exact ab5 _ _
theorem Ao {sz:Int}:∀{ws:List Bytes} {l r:List Tok} {u:Unit},wantsR sz ws l=.ok u r->r<:+ l
 | [],l,r,u,h=>by simp only[wantsR]at h;cases h;exact xh
 | w::ws,l,r,u,h=>by
  simp only[wantsR]at h;split at h
  ·rename_i r1 h1;exact(Ao h).trans (A4 h1).1
  ·exact Zk
theorem Bh {sz:Int} {l r:List Tok} {s:Bytes} (h:nameR sz l=.ok s r):r<:+ l:=by
 simp only[nameR]at h;split at h
 ·rename_i t r1 h1
  cases h;exact(Ca h1).1
 ·exact Zk
theorem A8 {sz:Int} {l r:List Tok} {s:Bytes} (h:nameR sz l=.ok s r) (hl:TokOk l):s.length<=4000:=by
 simp only[nameR]at h;split at h
 ·rename_i t r1 h1
  cases h;exact(hl t (Ca h1).2.1).2.2
 ·exact Zk
theorem Gm {sz:Int} {l r:List Tok} {n:Int} (h:numberR sz l=.ok n r) (hl:TokOk l):r<:+ l/\0<=n/\n<=549755813888:=by
 simp only[numberR]at h;split at h
 ·exact Zk
 ·split at h
  ·rename_i t r1 h1
   cases h;exact⟨(Ca h1).1,(hl t (Ca h1).2.1).1,(hl t (Ca h1).2.1).2.1⟩
  ·exact Zk
theorem V.wf_of {k n:Int} {s:ByteArray} (h1:-9223372036854775808<=n) (h2:n<=9223372036854775807):V.Wf ⟨k,n,s⟩:=⟨h1,h2⟩
theorem V.null_wf:V.null.Wf:=V.wf_of acy acy
theorem Dq {sz:Int} {l r:List Tok} {v:V} (h:literalR sz l=.ok v r) (hl:TokOk l):r<:+ l/\v.Wf:=by
 simp only[literalR]at h;split at h
 ·rename_i t r1 h1
  cases h;exact⟨(Ca h1).1,V.wf_of acy acy⟩
 ·split at h
  ·rename_i r1 h1;split at h
   ·rename_i t r2 h2
    cases h;have ht:=(hl.suf (A4 h1).1) t (Ca h2).2.1;exact⟨(Ca h2).1.trans (A4 h1).1,V.wf_of acw acw⟩
   ·exact Zk
  ·split at h
   ·rename_i r1 h1
    cases h;exact⟨(A4 h1).1,V.null_wf⟩
   ·split at h
    ·rename_i r1 h1
     cases h;exact⟨(A4 h1).1,V.wf_of acy acy⟩
    ·split at h
     ·rename_i r1 h1
      cases h;exact⟨(A4 h1).1,V.wf_of acy acy⟩
     ·obtain⟨n,h1,rfl⟩:=A6 h;have:=Gm h1 hl;exact⟨this.1,V.wf_of acw acw⟩
theorem Q4 {t n:Bytes} (ht:t.length<=4000) (hn:n.length<=4000):(colEx t n).Wf:=⟨⟨by omega,by omega⟩,V.null_wf,trivial⟩
theorem E1:Ex.zero.Wf:=⟨⟨by simp,by simp⟩,V.null_wf,trivial⟩
theorem G8 {op:Int} {l:List Ex} (h:∀a∈l,a.Wf):(opEx op l).Wf:=⟨⟨by simp,by simp⟩,V.null_wf,exsWf_of h⟩
theorem Kw {sz:Int} {l r:List Tok} {e:Ex} (h:refR sz l=.ok e r) (hl:TokOk l):r<:+ l/\e.Wf:=by
 obtain⟨a,l1,h1,h2⟩:=Am h;have k:=Bh h1;have n:=A8 h1 hl;split at h2
 ·rename_i l2 h3;obtain⟨b,h4,rfl⟩:=A6 h2;exact⟨((Bh h4).trans (A4 h3).1).trans k,Q4 n (A8 h4 (hl.suf ((A4 h3).1.trans k)))⟩
 ·cases h2;exact⟨k,Q4 acx n⟩
theorem Qg {sz:Int} {e e':Ex} {l r:List Tok} (h:isNullR sz e l=.ok e' r) (he:e.Wf):r<:+ l/\e'.Wf:=by
 simp only[isNullR]at h;split at h
 ·cases h;exact⟨xh,he⟩
 ·rename_i l1 h1;have k:=(A4 h1).1;split at h
  ·rename_i l2 h2;obtain⟨u,h3,rfl⟩:=A6 h;exact⟨((Ao h3).trans (A4 h2).1).trans k,G8 (by simp;exact G8 (by simpa using he))⟩
  ·obtain⟨u,h3,rfl⟩:=A6 h;exact⟨(Ao h3).trans k,G8 (by simpa using he)⟩
theorem Qq (sz:Int):∀f:Nat,(∀lev l e r,exprF sz f lev l=some (.ok e r)->TokOk l->r<:+ l/\e.Wf)/\(∀lev e l e' r,chainF sz f lev e l=some (.ok e' r)->TokOk l->e.Wf->r<:+ l/\e'.Wf)
 | 0=>⟨fun lev l e r h=>by simp[exprF]at h,fun lev e l e' r h=>by simp[chainF]at h⟩
 | f+1=>by
  obtain⟨ih1,ih2⟩:=Qq sz f;refine⟨fun lev l e r h hl=>?_,fun lev e l e' r h hl he=>?_⟩
  ·rw[exprF]at h;split at h
   ·split at h
    ·rename_i rr hr
     cases hx:exprF sz f 2 rr with
     | none=>rw[hx]at h;cases h
     | some y=>
      rw[hx]at h;simp only[ze,uz]at h;obtain⟨a,rfl,rfl⟩:=A6 h;have k1:=(A4 hr).1;have k2:=ih1 _ _ _ _ hx (hl.suf k1);exact⟨k2.1.trans k1,G8 (by simpa using k2.2)⟩
    ·exact ih1 _ _ _ _ h hl
   ·split at h
    ·split at h
     ·cases h
     ·cases h
     ·rename_i e1 l1 hx;have k1:=ih1 _ _ _ _ hx hl;split at h
      ·cases hy:exprF sz f 4 l1.tail with
       | none=>rw[hy]at h;cases h
       | some y=>
        rw[hy]at h;simp only[ze,uz]at h;obtain⟨a,rfl,rfl⟩:=A6 h;have k3:=(Fz l1).trans k1.1;have k2:=ih1 _ _ _ _ hy (hl.suf k3);exact⟨k2.1.trans k3,G8 (by simp;exact⟨k1.2,k2.2⟩)⟩
      ·simp only[uz]at h;have k2:=Qg h k1.2;exact⟨k2.1.trans k1.1,k2.2⟩
    ·split at h
     ·split at h
      ·rename_i rr hr;have k0:=(A4 hr).1;split at h
       ·cases h
       ·cases h
       ·rename_i e1 l1 hx;simp only[uz]at h;obtain⟨u,h3,rfl⟩:=A6 h;have k1:=ih1 _ _ _ _ hx (hl.suf k0);exact⟨((Ao h3).trans k1.1).trans k0,k1.2⟩
      ·simp only[uz]at h;split at h
       ·exact Kw h hl
       ·obtain⟨v,h3,rfl⟩:=A6 h;have k1:=Dq h3 hl;exact⟨k1.1,⟨by simp,by simp⟩,k1.2,trivial⟩
     ·split at h
      ·cases h
      ·cases h
      ·rename_i e1 l1 hx;have k1:=ih1 _ _ _ _ hx hl;have k2:=ih2 _ _ _ _ _ h (hl.suf k1.1) k1.2;exact⟨k2.1.trans k1.1,k2.2⟩
  ·rw[chainF]at h;split at h
   ·cases h;exact⟨xh,he⟩
   ·split at h
    ·cases h;exact⟨xh,he⟩
    ·split at h
     ·cases h
     ·cases h
     ·rename_i e2 l2 hx;have k0:=Fz l;have k1:=ih1 _ _ _ _ hx (hl.suf k0);have k2:=ih2 _ _ _ _ _ h ((hl.suf k0).suf k1.1) (G8 (by simp;exact⟨he,k1.2⟩));exact⟨(k2.1.trans k1.1).trans k0,k2.2⟩
def Fine {α:Type} (P:α->Prop) (read:List Tok->Res α):Prop:=∀l a r,read l=.ok a r->TokOk l->r<:+ l/\r.length+1<=l.length/\P a
theorem Ea (sz:Int):Fine Ex.Wf (anyR sz):=fun l a r h hl=>by
 have h1:=Fp sz 0 l acw;have h2:exprR sz 0 l=.ok a r:=h;rw[h2]at h1;have k:=(Qq sz _).1 _ _ _ _ h1 hl;exact⟨k.1,Cn acw h2,k.2⟩
theorem Mm (sz:Int):Fine (fun _=>True) (nameR sz):=fun l a r h _=>⟨Bh h,by have:=Be h;omega,trivial⟩
theorem Fk (sz:Int):Fine V.Wf (literalR sz):=fun _l _a _r h hl=>⟨(Dq h hl).1,Cu h,(Dq h hl).2⟩
theorem a7 (sz:Int):Fine Ex.Wf (refR sz):=fun _l _a _r h hl=>⟨(Kw h hl).1,Kx h,(Kw h hl).2⟩
theorem Mn {α:Type} {P:α->Prop} {read:List Tok->Res α} (hr:Fine P read):∀(f:Nat) (acc:List α) (l:List Tok) (a:List α) (r:List Tok),moreR read f acc l=.ok a r->TokOk l->(∀x∈acc,P x) ->
 r<:+ l/\a.length+r.length<=acc.length+l.length/\∀x∈a,P x
 | 0,acc,l,a,r,h,hl,ha=>by
  simp only[moreR,Res.ok.injEq]at h;obtain⟨rfl,rfl⟩:=h;exact⟨xh,tu _,ha⟩
 | f+1,acc,l,a,r,h,hl,ha=>by
  simp only[moreR]at h;split at h
  ·rename_i r1 h1;obtain⟨b,l1,h2,h3⟩:=Am h;have k0:=A4 h1;have k1:=hr _ _ _ h2 (hl.suf k0.1);have k2:=Mn hr f _ _ _ _ h3 ((hl.suf k0.1).suf k1.1) (fun x hx=>by
    rcases wi.1 hx with hx|hx
    ·exact ha x hx
    ·simp only[vh]at hx;subst hx;exact k1.2.2)
   exact ahk
  ·simp only[Res.ok.injEq]at h;obtain⟨rfl,rfl⟩:=h;exact⟨xh,tu _,ha⟩
theorem Cb {α:Type} {P:α->Prop} {read:List Tok->Res α} (hr:Fine P read) {l:List Tok} {a:List α} {r:List Tok} (h:listR read l=.ok a r) (hl:TokOk l):r<:+ l/\a.length+r.length<=l.length/\∀x∈a,P x:=by
 obtain⟨b,l1,h2,h3⟩:=Am h;have k:=hr _ _ _ h2 hl;have k2:=Mn hr _ _ _ _ _ h3 (hl.suf k.1) (by simpa using k.2.2);refine⟨k2.1.trans k.1,?_,k2.2.2⟩;have:=k2.2.1;simp only[tw,tx]at this;omega
theorem Gu {α:Type} {sz:Int} {P:α->Prop} {read:List Tok->Res α} (hr:∀l a r,read l=.ok a r->TokOk l->r<:+ l/\P a):∀l a r,insideR sz read l=.ok a r->TokOk l->r<:+ l/\P a/\∃m q,read m=.ok a q/\m.length+1<=l.length/\TokOk m/\r.length+1<=q.length:=fun l a r h hl=>by
 obtain⟨u,l1,h1,h2⟩:=Am h;obtain⟨b,l2,h3,h4⟩:=Am h2;obtain⟨v,h5,rfl⟩:=A6 h4;have k1:=Ao h1;have k2:=hr _ _ _ h3 (hl.suf k1);have e1:=Aw h1;have e2:=Aw h5;simp only[tw,tx]at e1 e2;exact⟨((Ao h5).trans k2.1).trans k1,k2.2,l1,l2,h3,by omega,hl.suf k1,by omega⟩
theorem ay (sz:Int):Fine (fun r:List V=>∀v∈r,v.Wf) (rowR sz):=fun l a r h hl=>by
 obtain⟨k1,k2,m,q,h3,h4,h5,h6⟩:=Gu (P:=fun r:List V=>∀v∈r,v.Wf) (fun l a r h hl=>⟨(Cb (Fk sz) h hl).1,(Cb (Fk sz) h hl).2.2⟩) l a r h hl;have k3:=(Cb (Fk sz) h3 h5).2.1;exact⟨k1,by omega,k2⟩
theorem aj (sz:Int):Fine (fun x:Bytes×Ex=>x.2.Wf) (setR sz):=fun l a r h hl=>by
 obtain⟨nm,l1,h1,h2⟩:=Am h;obtain⟨u,l2,h3,h4⟩:=Am h2;obtain⟨e,h5,rfl⟩:=A6 h4;have k1:=Bh h1;have k2:=(Ao h3).trans k1;have k3:=Ea sz _ _ _ h5 (hl.suf k2);have e1:=Be h1;have e2:=Aw h3;simp only[tw,tx]at e2;have e3:=k3.2.1;exact⟨k3.1.trans k2,by omega,k3.2.2⟩
theorem Wi (sz:Int):Fine (fun _=>True) (sortR sz):=fun l a r h hl=>by
 obtain⟨n,l1,h1,h2⟩:=Am h;have k1:=(Gm h1 hl).1;have e1:=Gn h1;split at h2
 ·exact ahx
 ·split at h2
  ·exact ahx
  ·cases h2;exact⟨k1,by omega,trivial⟩
theorem Xt (sz:Int):Fine (fun p:Pk=>p.arg.Wf) (itemR sz):=fun l a r h hl=>by
 have key:∀(w:Bytes) (fn:Int) (l1:List Tok),tk w l=some l1->(insideR sz (anyR sz) l1).map (fun e=>Pk.mk fn e)=.ok a r->r<:+ l/\r.length+1<=l.length/\a.arg.Wf:=fun w fn l1 h1 h2=>by
  obtain⟨e,h3,rfl⟩:=A6 h2;have k0:=A4 h1;obtain⟨k1,k2,m,q,h4,h5,h6,h7⟩:=Gu (P:=Ex.Wf) (fun l a r h hl=>⟨(Ea sz l a r h hl).1,(Ea sz l a r h hl).2.2⟩) _ _ _ h3 (hl.suf k0.1);have:=(Ea sz _ _ _ h4 h6).2.1;exact⟨k1.trans k0.1,by omega,k2⟩
 unfold itemR at h;split at h
 ·rename_i r1 h1;obtain⟨u,h2,rfl⟩:=A6 h;have k0:=A4 h1;have e1:=Aw h2;exact⟨(Ao h2).trans k0.1,by omega,E1⟩
 ·split at h
  ·rename_i r1 h1;exact key _ _ _ h1 h
  ·split at h
   ·rename_i r1 h1;exact key _ _ _ h1 h
   ·split at h
    ·rename_i r1 h1;exact key _ _ _ h1 h
    ·obtain⟨e,h2,rfl⟩:=A6 h;exact Ea sz _ _ _ h2 hl
theorem Hk {sz:Int} {l r:List Tok} {e:Ex} (h:whereR sz l=.ok e r) (hl:TokOk l):r<:+ l/\e.Wf:=by
 unfold whereR at h;split at h
 ·rename_i r1 h1;have k:=A4 h1;have k1:=Ea sz _ _ _ h (hl.suf k.1);exact⟨k1.1.trans k.1,k1.2.2⟩
 ·cases h;exact⟨xh,E1⟩
theorem Gx (sz:Int):Fine (fun _=>True) (columnR sz):=fun l a r h hl=>by
 obtain⟨nm,l1,h1,h2⟩:=Am h;obtain⟨k,l2,h3,h4⟩:=Am h2;have k1:=Bh h1;have e1:=Be h1;have k2:l2<:+ l1:=by
  split at h3
  ·rename_i r1 h5
   cases h3;exact(A4 h5).1
  ·split at h3
   ·rename_i r1 h5
    cases h3;exact(A4 h5).1
   ·obtain⟨u,h6,_⟩:=A6 h3;exact Ao h6
 have k3:r<:+ l2:=by
  split at h4
  ·rename_i r1 h5;obtain⟨u,h6,_⟩:=A6 h4;exact(Ao h6).trans (A4 h5).1
  ·cases h4;exact xh
 have:=k2.length_le;have:=k3.length_le;exact⟨(k3.trans k2).trans k1,by omega,trivial⟩
theorem Ul (sz:Int) (cols:List Col):Fine (fun c:Chk=>c.val.Wf) (checkR sz cols):=fun l a r h hl=>by
 obtain⟨u,l1,h1,h2⟩:=Am h;obtain⟨k,l2,h3,h4⟩:=Am h2;obtain⟨nm,l3,h5,h6⟩:=Am h4;have k1:=Ao h1;have e1:=Aw h1;simp only[tw,tx]at e1;have k2:l2<:+ l1:=by
  unfold checkColR at h3;split at h3
  ·split at h3
   ·cases h3;exact xh
   ·simp[stopR]at h3
  ·cases h3;exact xh
 have k3:=Bh h5;split at h6
 ·simp[stopR]at h6
 ·obtain⟨v,l4,h7,h8⟩:=Am h6;obtain⟨u2,h9,rfl⟩:=A6 h8;have k4:=((Fz l3).trans k3).trans (k2.trans k1);have k5:=Dq h7 (hl.suf k4);have k6:=(Ao h9).trans k5.1;have:=k2.length_le;have:=k3.length_le;have:=(k6.trans (Fz l3)).length_le;exact⟨k6.trans k4,by omega,k5.2⟩
theorem D0 (sz:Int):∀(f:Nat) (cols:List Col) (checks:List Chk) (l:List Tok) (a:List Col×List Chk) (r:List Tok),tableMore sz f cols checks l=.ok a r->TokOk l->(∀c∈checks,c.val.Wf) ->
 r<:+ l/\a.1.length+a.2.length+r.length<=cols.length+checks.length+l.length/\∀c∈a.2,c.val.Wf
 | 0,cols,checks,l,a,r,h,hl,hc=>by
  simp only[tableMore,Res.ok.injEq]at h;exact fy
 | f+1,cols,checks,l,a,r,h,hl,hc=>by
  simp only[tableMore]at h;split at h
  ·simp only[Res.ok.injEq]at h;exact fy
  ·rename_i r1 h1;have k0:=A4 h1;split at h
   ·obtain⟨x,l1,h2,h3⟩:=Am h;have k1:=Ul sz cols _ _ _ h2 (hl.suf k0.1);have k2:=D0 sz f _ _ _ _ _ h3 ((hl.suf k0.1).suf k1.1) (fun c hx=>by
     rcases wi.1 hx with hx|hx
     ·exact hc c hx
     ·simp only[vh]at hx;subst hx;exact k1.2.2)
    exact ahk
   ·split at h
    ·obtain⟨x,l1,h2,h3⟩:=Am h;have k1:=Gx sz _ _ _ h2 (hl.suf k0.1);have k2:=D0 sz f _ _ _ _ _ h3 ((hl.suf k0.1).suf k1.1) hc;exact ahk
    ·exact Zk
theorem Rs {sz:Int} {l r:List Tok} {t:Tbl} (h:tableR sz l=.ok t r) (hl:TokOk l):r<:+ l/\t.cols.length+t.checks.length<=l.length/\t.indexes=[]/\(∀c∈t.checks,c.val.Wf)/\t.name.length<=4000:=by
 obtain⟨nm,l1,h1,h2⟩:=Am h;obtain⟨u,l2,h3,h4⟩:=Am h2;obtain⟨c,l3,h5,h6⟩:=Am h4;obtain⟨cc,l4,h7,h8⟩:=Am h6;obtain⟨u2,h9,rfl⟩:=A6 h8;have k:=(Ao h3).trans (Bh h1);have k2:=Gx sz _ _ _ h5 (hl.suf k);have k3:=D0 sz _ _ _ _ _ _ h7 ((hl.suf k).suf k2.1) acx;refine⟨((Ao h9).trans k3.1).trans (k2.1.trans k),?_,rfl,k3.2.2,A8 h1 hl⟩;have e:=k.length_le;have e:=k2.2.1;have e:=k3.2.1;simp only[tw,tx]at e;show cc.1.length+cc.2.length<=l.length;omega
theorem K9 (sz:Int):∀(f:Nat) (fr:List Bytes) (on:List Ex) (l:List Tok) (a:List Bytes×List Ex) (r:List Tok),joinsR sz f fr on l=.ok a r->TokOk l->(∀e∈on,e.Wf) ->
 r<:+ l/\a.1.length+a.2.length+r.length<=fr.length+on.length+l.length/\∀e∈a.2,e.Wf
 | 0,fr,on,l,a,r,h,hl,hc=>by
  simp only[joinsR,Res.ok.injEq]at h;exact fy
 | f+1,fr,on,l,a,r,h,hl,hc=>by
  simp only[joinsR]at h;split at h
  ·simp only[Res.ok.injEq]at h;exact fy
  ·rename_i r1 h1;have k0:=A4 h1;obtain⟨nm,l1,h2,h3⟩:=Am h;obtain⟨u,l2,h4,h5⟩:=Am h3;obtain⟨e,l3,h6,h7⟩:=Am h5;have k1:=((Ao h4).trans (Bh h2)).trans k0.1;have k2:=Ea sz _ _ _ h6 (hl.suf k1);have k3:=K9 sz f _ _ _ _ _ h7 ((hl.suf k1).suf k2.1) (fun c hx=>by
    rcases wi.1 hx with hx|hx
    ·exact hc c hx
    ·simp only[vh]at hx;subst hx;exact k2.2.2)
   refine⟨(k3.1.trans k2.1).trans k1,?_,k3.2.2⟩;have e0:=Be h2;have e1:=Aw h4;have e2:=k2.2.1;have e3:=k3.2.1;simp only[ua,tw,tx]at e1 e3;omega
theorem Vt {α:Type} {sz:Int} {w:Bytes} {P:α->Prop} {read:List Tok->Res α} (hr:Fine P read) {l:List Tok} {a:List α} {r:List Tok} (h:byR sz w read l=.ok a r) (hl:TokOk l):r<:+ l/\a.length+r.length<=l.length/\∀x∈a,P x:=by
 unfold byR at h;split at h
 ·rename_i r1 h1;have k:=A4 h1;obtain⟨u,l1,h2,h3⟩:=Am h;have k1:=(Ao h2).trans k.1;have k:=Cb hr h3 (hl.suf k1);have:=k1.length_le;exact⟨k.1.trans k1,by omega,k.2.2⟩
 ·cases h;exact⟨xh,by simp,by simp⟩
theorem J3 (w:Bytes) (l:List Tok):(optR w l).2<:+ l:=by
 unfold optR;split
 ·rename_i r h;exact(A4 h).1
 ·exact xh
theorem Q5 {sz:Int} {l r:List Tok} {x:Sel} (h:chooseR sz l=.ok x r) (hl:TokOk l):r<:+ l/\x.Wf/\x.lists<=l.length+1:=by
 obtain⟨its,l2,h1,h⟩:=Am h;obtain⟨u,l3,h2,h⟩:=Am h;obtain⟨nm,l4,h3,h⟩:=Am h;obtain⟨fo,l5,h4,h⟩:=Am h;obtain⟨wh,l6,h5,h⟩:=Am h;obtain⟨gr,l7,h6,h⟩:=Am h;obtain⟨so,l8,h7,h⟩:=Am h;obtain⟨n,h8,rfl⟩:=A6 h;have k:=J3 [100,105,115,116,105,110,99,116] l;have k1:l2<:+ (optR [100,105,115,116,105,110,99,116] l).2/\its.length+l2.length<=(optR [100,105,115,116,105,110,99,116] l).2.length/\∀p∈its,p.arg.Wf:=by
  unfold itemsR at h1;split at h1
  ·rename_i r1 h9
   cases h1;have:=A4 h9;exact⟨this.1,by simp only[tx];omega,by simp⟩
  ·exact Cb (Xt sz) h1 (hl.suf k)
 have k2:=Ao h2;have k3:=Bh h3;have t:l4<:+ l:=(k3.trans k2).trans (k1.1.trans k);have k4:=K9 sz _ _ _ _ _ _ h4 (hl.suf t) acx;have t5:=k4.1.trans t;have k5:=Hk h5 (hl.suf t5);have t:=k5.1.trans t5;have k6:=Vt (a7 sz) h6 (hl.suf t);have t7:=k6.1.trans t;have k7:=Vt (Wi sz) h7 (hl.suf t7);have t:=k7.1.trans t7;have k8:r<:+ l8:=by
  unfold limitR at h8;split at h8
  ·rename_i r1 h9;exact(Gm h8 ((hl.suf t).suf (A4 h9).1)).1.trans (A4 h9).1
  ·cases h8;exact xh
 refine⟨k8.trans t,⟨k1.2.2,k4.2.2,k5.2,k6.2.2⟩,?_⟩;have e:=k.length_le;have e:=k1.2.1;have e:=k2.length_le;have e:=Be h3;have e:=k4.2.1;have e5:=k5.1.length_le;have e6:=k6.2.1;have e7:=k7.2.1;simp only[tw,tx]at e;show its.length+fo.1.length+fo.2.length+gr.length+so.length<=_;omega
theorem Stm.zero_wf:Stm.zero.Wf:=⟨by simp[Stm.zero,Tbl.zero],by simp[Stm.zero],by simp[Stm.zero],E1,⟨by simp[Stm.zero,Sel.zero],by simp[Stm.zero,Sel.zero],E1,by simp[Stm.zero,Sel.zero]⟩⟩
theorem Ma {sz:Int} {l r:List Tok} {x:Stm} (h:stmtR sz l=.ok x r) (hl:TokOk l):x.Wf/\x.lists<=2 * l.length/\x.txt<=8000:=by
 have Z:=Stm.zero_wf;have z:Stm.lists Stm.zero=0:=ac0;have bare:∀y:Stm,y.names=[]->y.rows=[]->y.exprs=[]->y.schema=Tbl.zero->y.where_=Ex.zero->y.select=Sel.zero->y.table.length<=4000->y.name.length<=4000->y.Wf/\y.lists<=2 * l.length/\y.txt<=8000:=fun y h1 h2 h3 h4 h5 h6 h7 h8=>by
  refine⟨⟨by rw[h4];simp[Tbl.zero],by rw[h2];simp,by rw[h3];simp,by rw[h5];exact E1,by rw[h6];exact Z.select⟩,?_,by unfold Stm.txt;rw[h4];simp only[Tbl.zero,tx];omega⟩;unfold Stm.lists Sel.lists;rw[h1,h2,h3,h4,h6];simp[Tbl.zero,Sel.zero]
 unfold stmtR at h;split at h
 ·rename_i l0 hw;have w:=A4 hw;unfold createR at h;split at h
  ·rename_i l1 h1;obtain⟨t,h2,rfl⟩:=A6 h;have k:=A4 h1;have k2:=Rs h2 ((hl.suf w.1).suf k.1);refine⟨⟨k2.2.2.2.1,Z.rows,Z.exprs,Z.where_,Z.select⟩,?_,by have:=k2.2.2.2.2;simp only[Stm.txt,Stm.zero,tx];omega⟩;simp only[Stm.lists,Sel.lists,Stm.zero,Sel.zero,k2.2.2.1,tx];have:=k2.2.1;omega
  ·obtain⟨_,l1,h1,h⟩:=Am h;obtain⟨_,l2,h2,h⟩:=Am h;obtain⟨_,l3,h3,h⟩:=Am h;obtain⟨_,l4,h4,h⟩:=Am h;obtain⟨ns,h5,rfl⟩:=A6 h;have t1:=(Ao h1).trans ((J3 _ _).trans w.1);have t3:=(Ao h3).trans ((Bh h2).trans t1);have t4:=(Bh h4).trans t3;have n:=A8 h2 (hl.suf t1);have n:=A8 h4 (hl.suf t3);obtain⟨_,_,m,q,h6,h7,h8,h9⟩:=Gu (P:=fun _=>True) (fun l a r h hl=>⟨(Cb (Mm sz) h hl).1,trivial⟩) _ _ _ h5 (hl.suf t4);have k:=(Cb (Mm sz) h6 h8).2.1;refine⟨⟨Z.checks,Z.rows,Z.exprs,Z.where_,Z.select⟩,?_,by simp only[Stm.txt,Stm.zero,Tbl.zero,tx];omega⟩;simp only[Stm.lists,Sel.lists,Stm.zero,Sel.zero,Tbl.zero,tx];have:=t4.length_le;omega
 ·split at h
  ·rename_i l0 hw;have w:=(A4 hw).1;unfold dropR at h;split at h
   ·rename_i l1 h1;obtain⟨t,h2,rfl⟩:=A6 h;exact bare _ rfl rfl rfl rfl rfl rfl (A8 h2 (hl.suf ((A4 h1).1.trans w))) (yu _)
   ·obtain⟨_,l1,h1,h⟩:=Am h;obtain⟨_,l2,h2,h⟩:=Am h;obtain⟨_,l3,h3,h⟩:=Am h;obtain⟨ns,h5,rfl⟩:=A6 h;have t1:=(Ao h1).trans w;have t3:=(Ao h3).trans ((Bh h2).trans t1);exact bare _ rfl rfl rfl rfl rfl rfl (A8 h5 (hl.suf t3)) (A8 h2 (hl.suf t1))
  ·split at h
   ·rename_i l0 hw;have w:=(A4 hw).1;obtain⟨_,l1,h1,h⟩:=Am h;obtain⟨_,l2,h2,h⟩:=Am h;obtain⟨_,l3,h3,h⟩:=Am h;obtain⟨ns,h5,rfl⟩:=A6 h;have t1:=(Ao h1).trans w;have t2:=(Gx sz _ _ _ h2 (hl.suf t1)).1.trans t1;exact bare _ rfl rfl rfl rfl rfl rfl (A8 h5 (hl.suf ((Ao h3).trans t2))) (yu _)
   ·split at h
    ·rename_i l0 hw;have w:=A4 hw;obtain⟨_,l1,h1,h⟩:=Am h;obtain⟨_,l2,h2,h⟩:=Am h;obtain⟨_,l3,h3,h⟩:=Am h;obtain⟨rs,h5,rfl⟩:=A6 h;have t3:=((Ao h3).trans (Bh h2)).trans ((Ao h1).trans w.1);have n:=A8 h2 (hl.suf ((Ao h1).trans w.1));have k:=Cb (ay sz) h5 (hl.suf t3);refine⟨⟨Z.checks,k.2.2,Z.exprs,Z.where_,Z.select⟩,?_,by simp only[Stm.txt,Stm.zero,Tbl.zero,tx];omega⟩;simp only[Stm.lists,Sel.lists,Stm.zero,Sel.zero,Tbl.zero,tx];have:=t3.length_le;have:=k.2.1;omega
    ·split at h
     ·rename_i l0 hw;have w:=A4 hw;obtain⟨_,l1,h1,h⟩:=Am h;obtain⟨_,l2,h2,h⟩:=Am h;obtain⟨ss,l3,h3,h⟩:=Am h;obtain⟨wh,h5,rfl⟩:=A6 h;have t2:=((Ao h2).trans (Bh h1)).trans w.1;have n:=A8 h1 (hl.suf w.1);have k:=Cb (aj sz) h3 (hl.suf t2);have k5:=Hk h5 ((hl.suf t2).suf k.1);refine⟨⟨Z.checks,Z.rows,fun e he=>?_,k5.2,Z.select⟩,?_,by simp only[Stm.txt,Stm.zero,Tbl.zero,tx];omega⟩
      ·obtain⟨y,hy,rfl⟩:=zd.1 he;exact k.2.2 y hy
      ·simp only[Stm.lists,Sel.lists,Stm.zero,Sel.zero,Tbl.zero,tx,zr];have:=t2.length_le;have:=k.2.1;omega
     ·split at h
      ·rename_i l0 hw;have w:=A4 hw;obtain⟨_,l1,h1,h⟩:=Am h;obtain⟨_,l2,h2,h⟩:=Am h;obtain⟨wh,h5,rfl⟩:=A6 h;have t2:=((Bh h2).trans (Ao h1)).trans w.1;have n:=A8 h2 (hl.suf ((Ao h1).trans w.1));have k:=Hk h5 (hl.suf t2);refine⟨⟨Z.checks,Z.rows,Z.exprs,k.2,Z.select⟩,?_,by simp only[Stm.txt,Stm.zero,Tbl.zero,tx];omega⟩;show Stm.lists Stm.zero<=_;rw[z];omega
      ·split at h
       ·rename_i l0 hw;have w:=A4 hw;obtain⟨s,h5,rfl⟩:=A6 h;have k:=Q5 h5 (hl.suf w.1);refine⟨⟨Z.checks,Z.rows,Z.exprs,Z.where_,k.2.1⟩,?_,by simp only[Stm.txt,Stm.zero,Tbl.zero,tx];omega⟩;simp only[Stm.lists,Stm.zero,Tbl.zero,tx];have:=k.2.2;omega
       ·split at h
        ·unfold beginR at h;split at h
         ·cases h;exact lh
         ·split at h
          ·obtain⟨_,_,rfl⟩:=A6 h;exact lh
          ·cases h;exact lh
        ·split at h
         ·cases h;exact lh
         ·split at h
          ·rename_i l0 hw;unfold rollbackR at h;split at h
           ·rename_i l1 h1;obtain⟨_,h2,rfl⟩:=A6 h;exact bare _ rfl rfl rfl rfl rfl rfl (yu _) (A8 h2 (hl.suf ((A4 h1).1.trans (A4 hw).1)))
           ·cases h;exact lh
          ·split at h
           ·rename_i l0 hw;obtain⟨_,h2,rfl⟩:=A6 h;exact bare _ rfl rfl rfl rfl rfl rfl (yu _) (A8 h2 (hl.suf (A4 hw).1))
           ·obtain⟨_,l1,h1,h⟩:=Am h;obtain⟨_,h2,rfl⟩:=A6 h;exact bare _ rfl rfl rfl rfl rfl rfl (yu _) (A8 h2 (hl.suf (Ao h1)))
inductive Xp where
 | mk (op n:Int) (val:V) (args:List Xp)
def Xp.op:Xp->Int|.mk o _ _ _=>o
def Xp.n:Xp->Int|.mk _ n _ _=>n
def Xp.val:Xp->V|.mk _ _ v _=>v
def Xp.args:Xp->List Xp|.mk _ _ _ l=>l
def Xp.zero:Xp:=.mk 0 0 V.null []
def Xp.col (n:Int):Xp:=.mk 1 n V.null []
theorem Xp.ind {P:Xp->Prop} (h:∀op n v args,(∀a∈args,P a)->P (.mk op n v args)):∀e,P e:=fun e=>by
 refine Xp.rec (motive_1:=P) (motive_2:=fun l=>∀a∈l,P a) ?_ ?_ ?_ e
 ·intro op n v args ih;exact h op n v args ih
 ·intro a ha
  cases ha
 ·exact qp
structure Ag where
 fn:Int
 arg:Xp
structure Od where
 col:Int
 down:Bool
 deriving DecidableEq
inductive Qy where
 | mk (k:Int) (tab:List UInt8) (subs:List Qy) (cond:Xp) (cols:List Xp) (group:List Int) (aggs:List Ag) (order:List Od) (n:Int)
theorem Qy.ind {P:Qy->Prop} (h:∀k tab subs cond cols group aggs order n,(∀a∈subs,P a)->P (.mk k tab subs cond cols group aggs order n)):∀e,P e:=fun e=>by
 refine Qy.rec (motive_1:=P) (motive_2:=fun l=>∀a∈l,P a) ?_ ?_ ?_ e
 ·intro k tab subs cond cols group aggs order n ih;exact h k tab subs cond cols group aggs order n ih
 ·intro a ha
  cases ha
 ·exact qp
mutual
def nodesQ:Qy->Nat
 | .mk _ _ subs _ _ _ _ _ _=>1+nodesQs subs
def nodesQs:List Qy->Nat
 | []=>0
 | a::l=>nodesQ a+nodesQs l
end
def Xp.isZero (x:Xp):Bool:=decide (x.op=0)&&decide (x.n=0)&&decide (x.val=V.null)&&decide (x.args.length=0)
def nodeQ (k:Int) (tab:List UInt8) (ns:Nat) (cond:Xp) (cols:List Xp) (group:List Int) (aggs:List Ag) (order:List Od) (n:Int):Bool:=
 decide (1<=k)&&decide (k<=8)&&(decide (k=1)||decide (tab=[]))&&(decide (k=2)||decide (k=4)||cond.isZero)&&(decide (k=3)||decide (cols.length=0))&&
  (decide (k=5)||decide (group.length=0)&&decide (aggs.length=0))&&(decide (k=6)||decide (order.length=0))&&(decide (k=7)||decide (n=0))&&
  decide ((ns:Int)=if k=1 then 0 else if k=4 then 2 else 1)&&decide (cols.length+group.length+aggs.length+order.length<=1000000)&&aggs.all (fun a=>decide (a.fn≠1)||a.arg.isZero)
mutual
def Qy.formed:Qy->Bool
 | .mk k tab subs cond cols group aggs order n=>nodeQ k tab subs.length cond cols group aggs order n&&formedQs subs
def formedQs:List Qy->Bool
 | []=>true
 | a::l=>a.formed&&formedQs l
end
theorem N0 (l:List Qy):formedQs l=l.all Qy.formed:=by
 induction l with
 | nil=>rfl
 | cons a l ih=>rw[formedQs,zi,ih]
def partTok (p:Bytes):Option (Int×Bytes×Int):=match tokenR p with
 | .ok (t,n)=>if n=p.length then some (t.kind,t.s,t.n)else none
 | .error _=>none
def IsTok (p:Bytes) (t:Tok):Prop:=partTok p=some (t.kind,t.s,t.n)
inductive Carries:List Bytes->List Tok->Prop where
 | nil:Carries [] []
 | cons {p:Bytes} {t:Tok} {ps:List Bytes} {l:List Tok} (h:IsTok p t) (hs:Carries ps l):Carries (p::ps) (t::l)
theorem Qn:((keywords++signs).all fun w=>decide (partTok w=some (if keywords.contains w then 1 else 5,w,0)))=true:=ac0
theorem Bv {w:Bytes} (h:(keywords++signs).contains w=true):partTok w=some (if keywords.contains w then 1 else 5,w,0):=by
 have:=vg.1 Qn w (by simpa using h);simpa using this
theorem El {α:Type} {p:α->Bool}:∀{l:List α},(l.takeWhile p).length=l.length->∀c∈l,p c=true
 | [],_,c,hc=>by cases hc
 | a::l,h,c,hc=>by
  by_cases ha:p a=true
  ·rw[zo ha,tw,tw]at h;rcases uw.1 hc with rfl|hc
   ·exact ha
   ·exact El acw c hc
  ·rw[aa0 ha]at h;simp at h
theorem Bs {α:Type} {p:α->Bool}:∀{l:List α},(∀c∈l,p c=true)->l.takeWhile p=l
 | [],_=>rfl
 | a::l,h=>by rw[zo (h a acx),Bs (fun c hc=>h c (by simp[hc]))]
theorem Fx {α:Type} {p:α->Bool} {l r:List α} (h:∀c∈l,p c=true) (hr:∀c,r.head?=some c->p c=false):(l++r).takeWhile p=l:=by
 rw[abr h]
 cases r with
 | nil=>simp
 | cons c r=>rw[aa0 (by simp[hr c rfl])];simp
theorem Na {s t:Bytes} (h:toQuote s=some t):∃r,s=t++39::r/\∀c∈t,c≠39:=by
 induction s generalizing t with
 | nil=>cases h
 | cons c r ih=>
  simp only[toQuote]at h;split at h
  ·rename_i hc
   cases h;exact⟨r,by rw[hc];rfl,by simp⟩
  ·rename_i hc;simp only[aaa]at h;obtain⟨t',ht',rfl⟩:=h;obtain⟨r',rfl,hr'⟩:=ih ht';exact⟨r',rfl,fun d hd=>by rcases uw.1 hd with rfl|hd;exact hc;exact hr' d hd⟩
theorem Kj {t r:Bytes} (h:∀c∈t,c≠39):toQuote (t++39::r)=some t:=by
 induction t with
 | nil=>simp[toQuote]
 | cons c t ih=>
  simp only[tz,toQuote];rw[if_neg (h c acx),ih (fun d hd=>h d (by simp[hd]))];rfl
theorem I9 {s g:Bytes} (h:signOf s=some g):g∈signs/\g.isPrefixOf s=true:=⟨aa6 h,by simpa using List.find?_some h⟩
theorem O1:∀g∈signs,∀(r:Bytes),(r=[]\/∃c r',r=c::r'/\accS c=true)->signOf (g++r)=some g:=by
 intro g hg r hr;have hr:r=[]\/∃r',r=32::r'\/r=9::r'\/r=10::r':=by
  rcases hr with h|⟨c,r',rfl,hc⟩
  ·exact .inl h
  ·simp only[accS,vy,zp]at hc;rcases hc with(rfl|rfl)|rfl
   ·exact .inr ⟨r',.inl rfl⟩
   ·exact .inr ⟨r',.inr (.inl rfl)⟩
   ·exact .inr ⟨r',.inr (.inr rfl)⟩
 simp only[signs,uw,vl,xp]at hg;rcases hr with rfl|⟨r',rfl|rfl|rfl⟩
 all_goals rcases hg with rfl|rfl|rfl|rfl|rfl|rfl|rfl|rfl|rfl|rfl|rfl|rfl|rfl
 all_goals rfl
theorem cu {c:UInt8} (h:lowB c=true):97<=c.toNat/\c.toNat<=122:=by simpa[lowB]using h
theorem Km {c:UInt8} (h:accS c=true):accP c=false:=by
 simp only[accS,vy,zp]at h;rcases h with(rfl|rfl)|rfl<;>rfl
theorem Vi {p:Bytes} {x:Int×Bytes×Int} (h:partTok p=some x):p≠[]:=by
 rintro rfl;simp[partTok,tokenR]at h
theorem Sk {p r:Bytes} {k:Int} {s:Bytes} {n:Int} (h:partTok p=some (k,s,n)) (hr:r=[] \/∃c r',r=c::r'/\ accS c=true):tokenR (p++r)=.ok (⟨k,0,s,n⟩,p.length):=by
 have hh:∀c,r.head?=some c -> accP c=false:=by
  intro c hc;rcases hr with rfl|⟨d,r',rfl,hd⟩
  ·cases hc
  ·cases hc;exact Km hd
 obtain⟨c,q,rfl⟩:∃c q,p=c::q:=by
  cases p with
  | nil=>exact absurd rfl (Vi h)
  | cons c q=>exact⟨c,q,rfl⟩
 unfold partTok at h;have fin:∀{t:Tok} {m:Nat},tokenR (c::q)=.ok (t,m) -> t.at_=0 -> (m=(c::q).length -> tokenR (c::q++r)=.ok (t,m)) -> tokenR (c::q++r)=.ok (⟨k,0,s,n⟩,(c::q).length):=by
  intro t m hm h0 hgo;rw[hm]at h;simp only at h;split at h
  ·rename_i hl;simp only[uz,aaf]at h;obtain⟨e1,e2,e3⟩:=h;rw[hgo hl,hl,<- e1,<- e2,<- e3,<- h0]
  ·cases h
 by_cases hlow:lowB c=true
 ·have e1:∀z:Bytes,tokenR (c::z)=if keywords.contains ((c::z).takeWhile accP)then .ok (⟨1,0,(c::z).takeWhile accP,0⟩,((c::z).takeWhile accP).length)
   else if isName ((c::z).takeWhile accP)then .ok (⟨2,0,(c::z).takeWhile accP,0⟩,((c::z).takeWhile accP).length)else .error 2:=fun z=>by
   simp only[tokenR]
   rw[if_pos hlow]
  have go:((c::q).takeWhile accP).length=(c::q).length -> (c::(q++r)).takeWhile accP=(c::q).takeWhile accP:=fun hl=>by exact pt
  have e2:=e1 q;split at e2
  ·rename_i hk;exact fin e2 rfl (fun hl=>by rw[tz,e1,go hl,if_pos hk])
  ·rename_i hk;split at e2
   ·rename_i hn;exact fin e2 rfl (fun hl=>by rw[tz,e1,go hl,if_neg hk,if_pos hn])
   ·rw[e2]at h
    cases h
 ·by_cases hdig:digB' c=true
  ·have e1:∀z:Bytes,tokenR (c::z)=(match Lib.atoiAll ((c::z).takeWhile accP)with
     | .ok n=>if 549755813888<n \/Lib.itoa n≠(c::z).takeWhile accP then .error 381 else .ok (⟨3,0,[],n⟩,((c::z).takeWhile accP).length)
     | _=>.error 381):=fun z=>by
    simp only[tokenR]
    rw[if_neg hlow,if_pos hdig]
    rfl
   have go:((c::q).takeWhile accP).length=(c::q).length -> (c::(q++r)).takeWhile accP=(c::q).takeWhile accP:=fun hl=>by exact pt
   have e2:=e1 q;split at e2
   ·rename_i v hv;split at e2
    ·rw[e2]at h
     cases h
    ·rename_i hk;exact fin e2 rfl (fun hl=>by rw[tz,e1,go hl,hv];simp only;rw[if_neg hk])
   ·rw[e2]at h
    cases h
  ·by_cases hq:c=39
   ·have e1:∀z:Bytes,tokenR (c::z)=(match toQuote z with
      | none=>.error 382
      | some t=>match parseP (39::(t++[39]))with
       | some v=>if v.k=2 then .ok (⟨4,0,v.s.data.toList,0⟩,t.length+2)else .error 382
       | none=>.error 382):=fun z=>by
     simp only[tokenR]
     rw[if_neg hlow,if_neg hdig,if_pos hq]
     rfl
    have e2:=e1 q
    cases ht:toQuote q with
    | none=>rw[ht]at e2;simp only at e2;rw[e2]at h;cases h
    | some t=>
     rw[ht]at e2;simp only at e2;obtain⟨z,hz,hz39⟩:=Na ht;have go:toQuote (q++r)=some t:=by rw[hz,uv,tz];exact Kj hz39
     split at e2
     ·rename_i v hv;split at e2
      ·rename_i hk;exact fin e2 rfl (fun _=>by rw[tz,e1,go];simp only;rw[hv];simp only;rw[if_pos hk])
      ·rw[e2]at h
       cases h
     ·rw[e2]at h
      cases h
   ·have e1:∀z:Bytes,tokenR (c::z)=(match signOf (c::z)with
      | some g=>.ok (⟨5,0,g,0⟩,g.length)
      | none=>.error 380):=fun z=>by
     simp only[tokenR]
     rw[if_neg hlow,if_neg hdig,if_neg hq]
     rfl
    have e2:=e1 q
    cases hg:signOf (c::q)with
    | none=>rw[hg]at e2;simp only at e2;rw[e2]at h;cases h
    | some g=>
     rw[hg]at e2;simp only at e2;obtain⟨hgs,hpre⟩:=I9 hg;refine fin e2 rfl (fun hl=>?_);have hp:g=c::q:=by
      have:=abx.1 hpre;exact this.eq_of_length hl
     rw[tz,e1,<- tz,<- hp,O1 g hgs r hr]
def spaced:List (Bytes×Bytes)->Bytes
 | []=>[]
 | (sp,p)::l=>sp++p++spaced l
def placed (at_:Nat):List (Bytes×Bytes)->List Tok
 | []=>[]
 | (sp,p)::l=>(match partTok p with
  | some (k,s,n)=>⟨k,((at_+sp.length:Nat):Int),s,n⟩
  | none=>⟨0,0,[],0⟩)::placed (at_+sp.length+p.length) l
structure Spaced (l:List (Bytes×Bytes)):Prop where
 sp:∀x∈l,∀c∈x.1,accS c=true
 ne:∀x∈l.tail,x.1≠[]
 part:∀x∈l,(partTok x.2).isSome=true
theorem Xa {p:Bytes} (h:(partTok p).isSome=true):∃c q,p=c::q/\accS c=false:=by
 obtain⟨x,hx⟩:=ye.1 h
 cases p with
 | nil=>exact absurd rfl (Vi hx)
 | cons c q=>
  refine⟨c,q,rfl,?_⟩
  cases hs:accS c with
  | false=>rfl
  | true=>
   simp only[accS,vy,zp]at hs;have:tokenR (c::q)=.error 380:=by
    rcases hs with(rfl|rfl)|rfl
    all_goals
     simp only[tokenR]
     rw[if_neg acy,if_neg acy,if_neg acy]
     rfl
   unfold partTok at hx;rw[this]at hx
   cases hx
theorem H0:∀(l:List (Bytes×Bytes)) (tail:Bytes) (f at_:Nat) (acc:List Tok),Spaced l->(∀c∈tail,accS c=true)->(spaced l++tail).length<f ->
 toksF f at_ acc (spaced l++tail)=.ok (acc++placed at_ l)
 | [],tail,f,at_,acc,_,ht,hf=>by
  obtain⟨f,rfl⟩:∃g,f=g+1:=⟨f - 1,by omega⟩;simp only[spaced,uc,toksF,placed,vr,Bs ht,aaj]
 | (sp,p)::l,tail,f,at_,acc,hs,ht,hf=>by
  obtain⟨f,rfl⟩:∃g,f=g+1:=⟨f - 1,by omega⟩;obtain⟨c,q,hp,hc⟩:=Xa (hs.part (sp,p) acx);obtain⟨⟨k,s,n⟩,hx⟩:=ye.1 (hs.part (sp,p) acx);simp only at hp hx;have e1:spaced ((sp,p)::l)++tail=sp++(p++(spaced l++tail)):=by simp[spaced]
  have hsp:(sp++(p++(spaced l++tail))).takeWhile accS=sp:=Fx (hs.sp (sp,p) acx) (fun d hd=>by rw[hp]at hd;cases hd;exact hc);have hr:spaced l++tail=[]\/∃c r',spaced l++tail=c::r'/\accS c=true:=by
   cases l with
   | nil=>
    cases tail with
    | nil=>exact .inl rfl
    | cons d r=>exact .inr ⟨d,r,rfl,ht d acx⟩
   | cons y l=>
    obtain⟨sp2,p2⟩:=y;have h:=hs.ne (sp2,p2) acx;have h3:=hs.sp (sp2,p2) acx
    cases sp2 with
    | nil=>exact absurd rfl h
    | cons d r=>exact .inr ⟨d,_,rfl,h3 d acx⟩
  have htok:=Sk hx hr;have hlen:(sp++(p++(spaced l++tail))).length=sp.length+p.length+(spaced l++tail).length:=by simp[zx]
  have hp1:1<=p.length:=by rw[hp];simp
  rw[e1]at hf ⊢;rw[hlen]at hf;simp only[toksF,hsp,List.drop_left];have e:p++(spaced l++tail)=c::(q++(spaced l++tail)):=by rw[hp];rfl
  have hd:(c::(q++(spaced l++tail))).drop p.length=spaced l++tail:=by rw[<- e,List.drop_left]
  rw[e]at htok ⊢;simp only[htok,hd];rw[H0 l tail f (at_+sp.length+p.length) _ ⟨fun x hx=>hs.sp x (by simp[hx]),fun x hx=>hs.ne x (List.mem_of_mem_tail hx),fun x hx=>hs.part x (by simp[hx])⟩ ht acw];simp only[placed,hx,uv,tz,uc]
theorem Gk:∀(l:List (Bytes×Bytes)) (at_:Nat),(∀x∈l,(partTok x.2).isSome=true)->Carries (l.map (·.2)) (placed at_ l)
 | [],_,_=>Carries.nil
 | (sp,p)::l,at_,h=>by
  obtain⟨⟨k,s,n⟩,hx⟩:=ye.1 (h (sp,p) acx);simp only at hx;refine Carries.cons ?_ (Gk l _ (fun x hx=>h x (by simp[hx])));unfold IsTok;rw[hx]
theorem Om (l:List (Bytes×Bytes)) (tail:Bytes) (hs:Spaced l) (ht:∀c∈tail,accS c=true) (hl:(spaced l++tail).length<=4000):toksR (spaced l++tail)=.ok (placed 0 l):=by
 unfold toksR;rw[if_neg acw,H0 l tail _ 0 [] hs ht acw];rfl
theorem An {l:List Tok} (h:Carries [] l):l=[]:=by cases h;rfl
theorem Ab {p:Bytes} {ps:List Bytes} {l:List Tok} (h:Carries (p::ps) l):∃t r,l=t::r/\IsTok p t/\Carries ps r:=by
 cases h with
 | cons h1 h2=>exact⟨_,_,rfl,h1,h2⟩
def Fixed (w:Bytes):Prop:=(keywords++signs).contains w=true
theorem Jg {w:Bytes} {t:Tok} (hw:Fixed w) (h:IsTok w t):(t.kind=1\/t.kind=5)/\t.s=w:=by
 have h1:=Bv hw;unfold IsTok at h;rw[h1]at h;simp only[uz,aaf]at h;obtain⟨e,e2,_⟩:=h;refine⟨?_,e2.symm⟩;rw[<- e];split
 ·exact .inl rfl
 ·exact .inr rfl
theorem Tm {p:Bytes} {t:Tok} (h:IsTok p t) (hk:t.kind=1\/t.kind=5):t.s=p:=by
 unfold IsTok partTok at h;split at h
 ·rename_i u n hu;split at h
  ·rename_i hl;simp only[uz,aaf]at h;obtain⟨e,e2,_⟩:=h;rw[<- e]at hk;rw[<- e2]
   cases p with
   | nil=>simp[tokenR]at hu
   | cons c q=>
    simp only[tokenR]at hu;split at hu
    ·split at hu
     ·cases hu;simp only at hl ⊢;exact Bs (El hl)
     ·split at hu
      ·cases hu;simp at hk
      ·cases hu
    ·split at hu
     ·split at hu
      ·split at hu
       ·cases hu
       ·cases hu;simp at hk
      ·cases hu
     ·split at hu
      ·split at hu
       ·cases hu
       ·split at hu
        ·split at hu
         ·cases hu;simp at hk
         ·cases hu
        ·cases hu
      ·split at hu
       ·rename_i g hg
        cases hu;simp only at hl ⊢;obtain⟨_,hpre⟩:=I9 hg;exact(abx.1 hpre).eq_of_length hl
       ·cases hu
  ·cases h
 ·cases h
theorem Aj {p w:Bytes} {t:Tok} {r:List Tok} (h:IsTok p t) (hne:p≠w):tk w (t::r)=none:=by
 simp only[tk];rw[if_neg];rintro⟨h1,h2⟩;exact hne ((Tm h h1).symm.trans h2)
theorem D4 {w:Bytes} {t:Tok} {r:List Tok} (hw:Fixed w) (h:IsTok w t):seesWord (t::r)=w:=by
 obtain⟨h1,h2⟩:=Jg hw h;simp only[seesWord];rw[if_pos h1,h2]
theorem Nv {s:Bytes} (h:isName s=true):s≠[]/\s.length<=16/\keywords.contains s=false/\(∀c∈s,accP c=true)/\∀c,s.head?=some c->lowB c=true:=by
 cases s with
 | nil=>simp[isName]at h
 | cons c q=>
  simp only[isName,tr,uk,yj,vg]at h;obtain⟨⟨⟨h1,h2⟩,h3⟩,h4⟩:=h;exact⟨by simp,h1,h2,h4,fun d hd=>by cases hd;exact h3⟩
theorem D6 {s:Bytes} (h:isName s=true):partTok s=some (2,s,0):=by
 obtain⟨h0,h1,h2,h3,h4⟩:=Nv h
 cases s with
 | nil=>exact absurd rfl h0
 | cons c q=>
  have hw:(c::q).takeWhile accP=c::q:=Bs h3;unfold partTok;simp only[tokenR];rw[if_pos (h4 c rfl),hw,if_neg (by rw[h2];simp),if_pos h];simp
theorem Ih {s w:Bytes} (h:isName s=true) (hw:Fixed w):s≠w:=by
 rintro rfl;have h1:=D6 h;rw[Bv hw]at h1;simp only[uz,aaf]at h1;have:=h1.1;split at this<;>exact absurd this acy
theorem Ll {c:UInt8} (h:48<=c.toNat/\c.toNat<=57):lowB c=false/\digB' c=true/\accP c=true:=by
 have h1:digB' c=true:=by simp[digB',h.1,h.2]
 refine⟨?_,h1,by simp[accP,h1]⟩
 cases hl:lowB c with
 | false=>rfl
 | true=>have:=cu hl;omega
theorem Fj {n:Int} (h0:0<=n) (h1:n<=549755813888):partTok (Lib.itoa n)=some (3,[],n):=by
 have hd:∀c∈Lib.itoa n,48<=c.toNat/\c.toNat<=57:=by
  unfold Lib.itoa;rw[if_neg acw];exact Er _
 obtain⟨c,r,hi,_⟩:=Mv n;have ha:=Io n acw acw;have hw:(Lib.itoa n).takeWhile accP=Lib.itoa n:=Bs (fun c hc=>(Ll (hd c hc)).2.2);have hc:=Ll (hd c (by rw[hi];simp));unfold partTok;rw[hi]at hw ha ⊢;simp only[tokenR];rw[if_neg (by simp[hc.1]),if_pos hc.2.1,hw,ha];simp only;rw[if_neg (by rw[hi];simp;omega)];simp
theorem Ua (c:UInt8):∀d∈escB c,d≠39:=by
 intro d hd
 cases hp:plainB (c.toNat:Int)
 ·have hc:=c.toNat_lt;rw[Qu hp]at hd;have key:∀x,x<16->hexD x≠39:=ac0;simp only[uw,vl,xp]at hd;rcases hd with rfl|rfl|rfl
  ·decide
  ·exact key _ acw
  ·exact key _ acw
 ·rw[Lh hp]at hd;simp only[vh]at hd;subst hd;rintro rfl;revert hp;decide
theorem text_tok {v:V} (hk:v.k=2) (h:v.right=true):partTok v.print=some (4,v.s.data.toList,0):=by
 have hp:v.print=39::(v.s.data.toList.flatMap escB++[39]):=by
  obtain⟨k,n,s⟩:=v;simp only at hk;subst hk;rfl
 have hq:toQuote (v.s.data.toList.flatMap escB++[39])=some (v.s.data.toList.flatMap escB):=Kj (r:=[]) (fun c hc=>by
  obtain⟨d,_,hd⟩:=wj.1 hc;exact Ua d c hd)
 have hv:=Pj v h;rw[hp]at hv ⊢;unfold partTok;simp only[tokenR];rw[if_neg acy,if_neg acy,if_pos trivial,hq];simp only[hv];rw[if_pos hk];simp
theorem Bu {p:Bytes} {t:Tok} {k:Int} {s:Bytes} {n:Int} (hp:partTok p=some (k,s,n)) (h:IsTok p t):t.kind=k/\t.s=s/\t.n=n:=by
 unfold IsTok at h;rw[hp]at h;simp only[uz,aaf]at h;exact⟨h.1.symm,h.2.1.symm,h.2.2.symm⟩
structure Stop (lev:Nat) (rest:List Tok):Prop where
 op:∀o lv,opOf (seesWord rest)=some (o,lv)->lv<(lev:Int)
 is:lev<=3->tk [105,115] rest=none
 dot:tk [46] rest=none
theorem Stop.mono {k m:Nat} {rest:List Tok} (h:Stop k rest) (hm:k<=m):Stop m rest:=⟨fun o lv ho=>by have:=h.op o lv ho;omega,fun h3=>h.is acw,h.dot⟩
theorem Pq:((List.range 16).all fun o=>decide (3<=o/\o<=13->opOf (signP o)=some ((o:Int),levP o)/\(keywords++signs).contains (signP o)=true/\signP o≠[105,115]/\0<=levP o/\levP o<=5/\levP o≠2))=true:=ac0
theorem Ct {op:Int} (h1:3<=op) (h2:op<=13):opOf (signP op)=some (op,levP op)/\Fixed (signP op)/\signP op≠[105,115]/\0<=levP op/\levP op<=5/\levP op≠2:=by
 obtain⟨n,rfl⟩:∃n:Nat,op=(n:Int):=⟨op.toNat,by omega⟩;have:=vg.1 Pq n (by simp;omega);simp only[uk]at this;exact this acw
theorem formed_cases {op:Int} {t n:Bytes} {v:V} {args:List Ex} (h:(Ex.mk op t n v args).formed=true):(op=1/\args=[]/\v=V.null/\isName n=true/\(t=[]\/isName t=true))\/(op=2/\args=[]/\v.right=true/\t=[]/\n=[]) \/(∃a,(op=14\/op=15)/\args=[a]/\a.formed=true/\v=V.null/\t=[]/\n=[])\/(∃a b,3<=op/\op<=13/\args=[a,b]/\a.formed=true/\b.formed=true/\v=V.null/\t=[]/\n=[]):=by
 simp only[Ex.formed,nodeOk,tr,uk,vy]at h;obtain⟨⟨⟨⟨⟨⟨h1,h2⟩,h3⟩,h4⟩,h5⟩,h6⟩,h7⟩:=h;by_cases e:op=1
 ·subst e;simp only[true_or,if_true]at h3 h6;simp only[tr,vy,uk]at h6;have:args=[]:=ut acw;exact .inl ⟨rfl,this,by rcases h5 with h5|h5;exact absurd h5 acy;exact h5,h6.1,h6.2⟩
 ·rw[if_neg e]at h6;simp only[uk,aab]at h6;by_cases e2:op=2
  ·subst e2;simp only[or_true,if_true]at h3;have:args=[]:=ut acw;exact .inr (.inl ⟨rfl,this,h4,h6.2,h6.1⟩)
  ·have hv:v=V.null:=by rcases h5 with h5|h5;exact absurd h5 e2;exact h5
   rw[if_neg acw]at h3;by_cases e:op=14\/op=15
   ·rw[if_pos e]at h3;obtain⟨a,rfl⟩:∃a,args=[a]:=List.length_eq_one_iff.1 acw;simp only[formedL,Bool.and_true]at h7;exact .inr (.inr (.inl ⟨a,e,rfl,h7,hv,h6.2,h6.1⟩))
   ·rw[if_neg e]at h3;obtain⟨a,b,rfl⟩:∃a b,args=[a,b]:=by
     rcases args with _|⟨a,_|⟨b,_|⟨c,l⟩⟩⟩
     ·simp at h3
     ·simp at h3
     ·exact⟨a,b,rfl⟩
     ·simp at h3;omega
    simp only[formedL,Bool.and_true,tr]at h7;exact .inr (.inr (.inr ⟨a,b,by omega,by omega,rfl,h7.1,h7.2,hv,h6.2,h6.1⟩))
def bare:Ex->List Bytes
 | .mk op t n v args=>bodyP op t n v (exKids args)
theorem Da {e:Ex} {lev:Int} (h:lev<=exLev e.op):exPr e lev=bare e:=by
 obtain⟨op,t,n,v,args⟩:=e;simp only[Ex.op]at h;have hd:decide (exLev op<lev)=false:=by simp;omega
 simp only[exPr,bare,hd,whenP,u9,wy,uc,vr]
theorem D8 {e:Ex} {lev:Int} (h:exLev e.op<lev):exPr e lev=[40]::(bare e++[[41]]):=by
 obtain⟨op,t,n,v,args⟩:=e;simp only[Ex.op]at h;have hd:decide (exLev op<lev)=true:=by simpa using h
 simp only[exPr,bare,hd,whenP,if_true,tz,uc]
theorem D9 (t n:Bytes) (v:V):bare (.mk 1 t n v [])=whenP (decide (t≠[])) [t,[46]]++[n]:=by simp[bare,bodyP]
theorem E3 (t n:Bytes) (v:V):bare (.mk 2 t n v [])=pVal v:=by simp[bare,bodyP]
theorem E5 (t n:Bytes) (v:V) (a:Ex):bare (.mk 14 t n v [a])=[110,111,116]::exPr a 2:=by simp[bare,bodyP,exKids]
theorem Dw (t n:Bytes) (v:V) (a:Ex):bare (.mk 15 t n v [a])=exPr a 4++[[105,115],[110,117,108,108]]:=by simp[bare,bodyP,exKids]
theorem Gy {op:Int} (h3:3<=op) (h13:op<=13) (t n:Bytes) (v:V) (a b:Ex):bare (.mk op t n v [a,b])=exPr a (if levP op=3 then 4 else levP op)++[signP op]++exPr b (levP op+1):=by
 simp only[bare,bodyP,exKids];rw[if_neg (show op≠1 by omega),if_neg (show op≠2 by omega),if_neg (show op≠14 by omega),if_neg (show op≠15 by omega)]
theorem D2 {w:Bytes} {t:Tok} {r:List Tok} {lev:Nat} (hw:Fixed w) (h:IsTok w t) (ho:∀o lv,opOf w=some (o,lv)->lv<(lev:Int)) (hi:lev<=3->w≠[105,115]) (hd:w≠[46]):Stop lev (t::r):=
 ⟨by rw[D4 hw h];exact ho,fun h3=>Aj h (hi h3),Aj h hd⟩
theorem isZero_eq {e:Ex} (h:e.isZero=true):e=Ex.zero:=by
 obtain⟨op,t,n,v,args⟩:=e;simp only[Ex.isZero,tr,uk]at h;obtain⟨⟨⟨⟨rfl,rfl⟩,rfl⟩,rfl⟩,h⟩:=h;have:args=[]:=ut h;subst this;rfl
theorem Au {x:Stm} (h:x.unused=true):x={Stm.zero with kind:=x.kind}:=by
 obtain⟨k,tb,nm,⟨sn,sc,si,sk⟩,col,names,u,rows,exprs,wh,⟨d,items,fr,on,sw,gr,so,lim⟩,mode⟩:=x;simp only[Stm.unused,tr,uk,yj]at h;obtain⟨⟨⟨⟨⟨⟨⟨⟨h1,h2⟩,h3⟩,h4⟩,h5⟩,h6⟩,h7⟩,h8⟩,h9⟩:=h;simp only[aab]at h2;obtain⟨⟨rfl,rfl⟩,rfl⟩:=h2;have hn:names=[]:=ut acw;have hr:rows=[]:=ut acw;have he:exprs=[]:=ut acw;have hc:sc=[]:=ut acw;have hi:si=[]:=ut acw;have hk:sk=[]:=ut acw;have hit:items=[]:=ut acw;have hf:fr=[]:=ut acw;have ho:on=[]:=ut acw;have hg:gr=[]:=ut acw;have hs:so=[]:=ut acw;have hw:=isZero_eq h5;have hsw:=isZero_eq h8;subst hn hr he hc hi hk hit hf ho hg hs h3 h4 hw hsw h6 h7 h9;rfl
def Soft (ws:List Bytes) (rest:List Tok):Prop:=rest=[]\/∃w t r,rest=t::r/\IsTok w t/\w∈ws
theorem Soft.nil (ws:List Bytes):Soft ws []:=.inl rfl
theorem Soft.cons {ws:List Bytes} {w:Bytes} {t:Tok} {r:List Tok} (h:IsTok w t) (hw:w∈ws):Soft ws (t::r):=.inr ⟨w,t,r,rfl,h,hw⟩
theorem Soft.tk {ws:List Bytes} {rest:List Tok} (h:Soft ws rest) {v:Bytes} (hv:ws.contains v=false):tk v rest=none:=by
 rcases h with rfl|⟨w,t,r,rfl,ht,hw⟩
 ·rfl
 ·refine Aj ht ?_;rintro rfl;rw[Cr,aal]at hv;exact hv hw
theorem Soft.mono {ws vs:List Bytes} {rest:List Tok} (h:Soft ws rest) (hs:∀w∈ws,w∈vs):Soft vs rest:=by
 rcases h with h|⟨w,t,r,h1,h2,h3⟩
 ·exact .inl h
 ·exact .inr ⟨w,t,r,h1,h2,hs w h3⟩
def endWords:List Bytes:=[[41],[44],[102,114,111,109],[106,111,105,110],[119,104,101,114,101],[103,114,111,117,112],[111,114,100,101,114],[108,105,109,105,116]]
theorem Lj:(endWords.all fun w=>(keywords++signs).contains w&&decide (opOf w=none)&&decide (w≠[105,115])&&decide (w≠[46]))=true:=ac0
theorem Soft.stop {rest:List Tok} (h:Soft endWords rest) (lev:Nat):Stop lev rest:=by
 rcases h with rfl|⟨w,t,r,rfl,ht,hw⟩
 ·have h0:opOf (seesWord [])=none:=ac0;refine⟨fun o lv h=>?_,fun _=>rfl,rfl⟩;rw[h0]at h
  cases h
 ·have:=vg.1 Lj w hw;simp only[tr,uk]at this;obtain⟨⟨⟨h1,h2⟩,h3⟩,h4⟩:=this;exact D2 h1 ht (by rw[h2];intro o lv h;cases h) (fun _=>h3) h4
theorem fx {w:Bytes} (h:(keywords++signs).contains w=true):Fixed w:=h
def HeadOk (p:Bytes):Prop:=isName p=true\/p∈[[40],[110,111,116],[45],[110,117,108,108],[116,114,117,101],[102,97,108,115,101]]\/(∃n:Int,0<=n/\n<=549755813888/\p=Lib.itoa n)\/∃r,p=39::r
theorem HeadOk.ne {p w:Bytes} (h:HeadOk p) (hw:Fixed w) (h6:[[40],[110,111,116],[45],[110,117,108,108],[116,114,117,101],[102,97,108,115,101]].contains w=false):p≠w:=by
 rintro rfl;rcases h with h|h|⟨n,h0,h1,h⟩|⟨r,rfl⟩
 ·exact Ih h hw rfl
 ·rw[Cr,aal]at h6;exact h6 h
 ·have:=Fj h0 h1;rw[<- h,Bv hw]at this;simp only[uz,aaf]at this;have:=this.1;split at this<;>exact absurd this acy
 ·have h1:=Bv hw;have h2:∀w∈keywords++signs,w.head?≠some 39:=ac0;exact h2 _ (by unfold Fixed at hw;simpa using hw) rfl
theorem Ay {e:Ex} (h:e.good=true):e.formed=true:=by
 simp only[Ex.good,tr]at h;exact h.2
end Go.Proofs.YtimoefagohifaaaGreatDoor
