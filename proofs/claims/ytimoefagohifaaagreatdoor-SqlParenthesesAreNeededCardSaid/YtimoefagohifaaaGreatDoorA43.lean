/- Laws that the last part needs. No condition. -/
import Derived.Test.YtimoefagohifaaaGreatDoorA25
import Derived.Test.YtimoefagohifaaaGreatDoorA36
set_option maxHeartbeats 2000000
namespace Go.Proofs.YtimoefagohifaaaGreatDoor
open Tryz
section
open Go.RowKit Go.Sort
theorem L7 (L:Nat):∀(f pos:Nat) (acc:List Tok) (s:Bytes) (p x:Int),toksF f pos acc s=.error (p,x)->pos+s.length=L->0<=p/\p<=L
 | 0,pos,acc,s,p,x,h,_=>by simp[toksF]at h
 | f+1,pos,acc,s,p,x,h,hL=>by
  rw[E9]at h;have hsp:(s.takeWhile accS).length<=s.length:=(zg _).length_le
  cases hu:s.drop (s.takeWhile accS).length with
  | nil=>rw[hu]at h;cases h
  | cons c r=>
   have hrl:(c::r).length=s.length - (s.takeWhile accS).length:=by rw[<- hu];simp
   rw[hu]at h;simp only at h
   cases htk:tokenR (c::r)with
   | error y=>rw[htk]at h;cases h;omega
   | ok tn=>
    obtain⟨t,n⟩:=tn;rw[htk]at h;simp only at h;obtain⟨⟨hn1,hn2⟩,_⟩:=Iv htk;have hdl:((c::r).drop n).length=(c::r).length - n:=acx;exact L7 L f _ _ _ p x h (by rw[hdl];omega)
theorem L5 {s:Bytes} {p x:Int} (h:toksR s=.error (p,x)):0<=p/\p<=s.length:=by
 unfold toksR at h;split at h
 ·cases h;omega
 ·exact L7 s.length _ _ _ _ p x h acx
end
section
variable {α β:Type} {sz:Int} {l m r:List Tok}
theorem Wc {x:Int} (h:x≠0):Fair sz l (stopR sz l x:Res α):=by
 cases l with
 | nil=>exact⟨.inl rfl,h⟩
 | cons t l=>exact⟨.inr ⟨t,aba,rfl⟩,h⟩
theorem Dg {a:α}:Fair sz l (.ok a l):=xh
theorem B2 {P:Prop} (h:P:=by
 repeat(with_reducible first
  | exact Dg
  | exact Wc acy
  | exact this _
  | exact this _ _
  | exact this _ _ _
  | exact Bp _ _ _
  | exact E0 _ _
  | exact Pu _ _
  | exact Nt _ _
  | exact O8 _ _
  | exact ff _ _
  | exact Jl _ _
  | exact Um _ _ _
  | exact Kg _ _
  | refine Mq (fun _=>?_) _
  | refine Nw (fun _=>?_) _
  | refine N7 (fun _=>?_) _
  | refine Fair.map ?_
  | refine Fair.bind ?_ (fun _ _=>?_)
  | split
  | refine Fair.tk (by assumption) ?_
  | refine Fair.next (by assumption) ?_
  | refine Fair.tail ?_)):P:=h
end
theorem Bp (sz:Int):∀(ws:List Bytes) (l:List Tok),Fair sz l (wantsR sz ws l)
 | [],l=>Dg
 | w::ws,l=>by
  have:=Bp sz ws;unfold wantsR;exact B2
theorem E0 (sz:Int) (l:List Tok):Fair sz l (nameR sz l):=by
 unfold nameR;exact B2
theorem Pu (sz:Int) (l:List Tok):Fair sz l (numberR sz l):=by
 unfold numberR;exact B2
theorem Nt (sz:Int) (l:List Tok):Fair sz l (literalR sz l):=by
 unfold literalR;exact B2
theorem O8 (sz:Int) (l:List Tok):Fair sz l (refR sz l):=by
 unfold refR;exact B2
theorem Qf (sz:Int) (e:Ex) (l:List Tok):Fair sz l (isNullR sz e l):=by
 unfold isNullR;exact B2
theorem M1 (sz:Int):∀f:Nat,(∀lev l x,exprF sz f lev l=some x->Fair sz l x)/\(∀lev e l x,chainF sz f lev e l=some x->Fair sz l x)
 | 0=>⟨fun lev l x h=>by simp[exprF]at h,fun lev e l x h=>by simp[chainF]at h⟩
 | f+1=>by
  obtain⟨ih1,ih2⟩:=M1 sz f;have up:∀{lev:Nat} {l:List Tok} {g:Ex->Ex} {x:Res Ex},(exprF sz f lev l).map (fun x=>x.map g)=some x->Fair sz l x:=fun{lev l g x} h=>by
   cases hx:exprF sz f lev l with
   | none=>rw[hx]at h;cases h
   | some y=>
    rw[hx]at h;simp only[ze,uz]at h;subst h;exact(ih1 _ _ _ hx).map
  refine⟨fun lev l x h=>?_,fun lev e l x h=>?_⟩
  ·rw[exprF]at h;split at h
   ·split at h
    ·exact Fair.tk (by assumption) (up h)
    ·exact ih1 _ _ _ h
   ·split at h
    ·split at h
     ·cases h
     ·exact pw
     ·rename_i e1 l1 hx;have k1:l1<:+ l:=ih1 _ _ _ hx;split at h
      ·exact(Fair.tail (up h)).suf k1
      ·cases h;exact(Qf _ _ _).suf k1
    ·split at h
     ·split at h
      ·refine Fair.tk (by assumption) ?_;split at h
       ·cases h
       ·exact pw
       ·rename_i e1 l1 hx;have k1:l1<:+ _:=ih1 _ _ _ hx
        cases h;exact(Fair.map (Bp _ _ _)).suf k1
      ·cases h;exact B2
     ·split at h
      ·cases h
      ·exact pw
      ·rename_i e1 l1 hx;have k1:l1<:+ l:=ih1 _ _ _ hx;exact(ih2 _ _ _ _ h).suf k1
  ·rw[chainF]at h;split at h
   ·cases h;exact Dg
   ·split at h
    ·cases h;exact Dg
    ·refine Fair.tail ?_;split at h
     ·cases h
     ·exact pw
     ·rename_i e2 l2 hx;have k1:l2<:+ _:=ih1 _ _ _ hx;exact(ih2 _ _ _ _ h).suf k1
theorem ff (sz:Int) (l:List Tok):Fair sz l (anyR sz l):=(M1 sz _).1 _ _ _ (Fp sz 0 l acy)
section
variable {α:Type} {sz:Int} {read:List Tok->Res α}
theorem Mo (hr:∀l,Fair sz l (read l)):∀(f:Nat) (acc:List α) (l:List Tok),Fair sz l (moreR read f acc l)
 | 0,_,_=>Dg
 | f+1,acc,l=>by
  have:=fun acc l=>Mo hr f acc l;unfold moreR;split
  ·refine Fair.tk (by assumption) (Fair.bind (hr _) fun _ _=>this _ _)
  ·exact Dg
theorem Mq (hr:∀l,Fair sz l (read l)) (l:List Tok):Fair sz l (listR read l):=Fair.bind (hr _) fun _ _=>Mo hr _ _ _
theorem Nw (hr:∀l,Fair sz l (read l)) (l:List Tok):Fair sz l (insideR sz read l):=Fair.bind (Bp _ _ _) fun _ _=>Fair.bind (hr _) fun _ _=>Fair.map (Bp _ _ _)
theorem N7 {w:Bytes} (hr:∀l,Fair sz l (read l)) (l:List Tok):Fair sz l (byR sz w read l):=by
 unfold byR;split
 ·exact Fair.tk (by assumption) (Fair.bind (Bp _ _ _) fun _ _=>Mq hr _)
 ·exact Dg
end
theorem Kg (sz:Int) (l:List Tok):Fair sz l (whereR sz l):=by
 unfold whereR;exact B2
theorem Jl (sz:Int) (l:List Tok):Fair sz l (columnR sz l):=by
 unfold columnR;exact B2
theorem Um (sz:Int) (cols:List Col) (l:List Tok):Fair sz l (checkR sz cols l):=by
 unfold checkR checkColR;exact B2
theorem F0 (sz:Int):∀(f:Nat) (cols:List Col) (checks:List Chk) (l:List Tok),Fair sz l (tableMore sz f cols checks l)
 | 0,_,_,_=>Dg
 | f+1,cols,checks,l=>by
  have:=fun c k l=>F0 sz f c k l;unfold tableMore;exact B2
theorem La (sz:Int):∀(f:Nat) (fr:List Bytes) (on:List Ex) (l:List Tok),Fair sz l (joinsR sz f fr on l)
 | 0,_,_,_=>Dg
 | f+1,fr,on,l=>by
  have:=fun c k l=>La sz f c k l;unfold joinsR;exact B2
theorem Xu (sz:Int) (l:List Tok):Fair sz l (itemR sz l):=by
 unfold itemR;exact B2
theorem Wj (sz:Int) (l:List Tok):Fair sz l (sortR sz l):=by
 unfold sortR;exact B2
theorem Q6 (sz:Int) (l:List Tok):Fair sz l (chooseR sz l):=by
 unfold chooseR;refine Fair.suf (l:=(optR [100,105,115,116,105,110,99,116] l).2) ?_ (J3 _ l);refine Fair.bind ?_ fun _ _=>Fair.bind (Bp _ _ _) fun _ _=>Fair.bind (E0 _ _) fun _ _=>Fair.bind (La _ _ _ _ _) fun _ _=>Fair.bind (Kg _ _) fun _ _=>Fair.bind (N7 (O8 _) _) fun _ _=>Fair.bind (N7 (Wj _) _) fun _ _=>Fair.map ?_
 ·unfold itemsR;have:=Xu sz;exact B2
 ·unfold limitR;exact B2
theorem Q1 (sz:Int) (l:List Tok):Fair sz l (createR sz l):=by
 have:=F0 sz;unfold createR;split
 ·refine Fair.tk (by assumption) (Fair.map ?_);unfold tableR;refine Fair.bind (E0 _ _) fun _ _=>Fair.bind (Bp _ _ _) fun _ _=>Fair.bind (Jl _ _) fun _ _=>Fair.bind (this _ _ _ _) fun _ _=>Fair.map (Bp _ _ _)
 ·refine Fair.suf (l:=(optR [117,110,105,113,117,101] l).2) ?_ (J3 _ l);unfold createIndexR;exact B2
theorem Yy (sz:Int) (l:List Tok):Fair sz l (dropR sz l):=by
 unfold dropR dropIndexR;exact B2
theorem fk (sz:Int) (l:List Tok):Fair sz l (addColumnR sz l):=by
 unfold addColumnR;exact B2
theorem Qi (sz:Int) (l:List Tok):Fair sz l (insertR sz l):=by
 unfold insertR rowR;exact B2
theorem Oj (sz:Int) (l:List Tok):Fair sz l (updateR sz l):=by
 unfold updateR setR;exact B2
theorem Q0 (sz:Int) (l:List Tok):Fair sz l (deleteR sz l):=by
 unfold deleteR;exact B2
theorem Ur (sz:Int) (l:List Tok):Fair sz l (beginR sz l):=by
 unfold beginR;exact B2
theorem Lu (sz:Int) (l:List Tok):Fair sz l (rollbackR sz l):=by
 unfold rollbackR;exact B2
theorem Wd (sz:Int) (l:List Tok):Fair sz l (stmtR sz l):=by
 unfold stmtR;split
 ·exact Fair.tk (by assumption) (Q1 _ _)
 split
 ·exact Fair.tk (by assumption) (Yy _ _)
 split
 ·exact Fair.tk (by assumption) (fk _ _)
 split
 ·exact Fair.tk (by assumption) (Qi _ _)
 split
 ·exact Fair.tk (by assumption) (Oj _ _)
 split
 ·exact Fair.tk (by assumption) (Q0 _ _)
 split
 ·exact Fair.tk (by assumption) (Fair.map (Q6 _ _))
 split
 ·exact Fair.tk (by assumption) (Ur _ _)
 split
 ·exact Fair.tk (by assumption) Dg
 split
 ·exact Fair.tk (by assumption) (Lu _ _)
 split
 ·exact Fair.tk (by assumption) (Fair.map (E0 _ _))
 exact Fair.bind (Bp _ _ _) fun _ _=>Fair.map (E0 _ _)
theorem L6 (e:Int) (he:e=0):∀(f pos:Nat) (acc:List Tok) (s:Bytes) (p:Int),toksF f pos acc s≠.error (p,e)
 | 0,pos,acc,s,p,h=>by simp[toksF]at h
 | f+1,pos,acc,s,p,h=>by
  rw[E9]at h;split at h
  ·cases h
  ·split at h
   ·rename_i x hx
    cases h;have:=Ki hx;omega
   ·exact L6 e he f _ _ _ _ h
theorem Su {s:Bytes} {p q:Int} (h:parseS s=.error (p,q)):0<=p/\p<=s.length/\q≠0:=by
 unfold parseS at h;split at h
 ·rename_i pq hx
  cases h;refine⟨(L5 hx).1,(L5 hx).2,fun e=>?_⟩;unfold toksR at hx;split at hx
  ·cases hx;omega
  ·exact L6 q e _ _ _ _ _ hx
 ·rename_i l hl;have hf:=(E8 hl).1;have k:=Wd s.length l;split at h
  ·rename_i p1 x hy
   cases h;rw[hy]at k;refine⟨?_,?_,k.2⟩
   ·rcases k.1 with e|⟨t,ht,e⟩
    ·omega
    ·have:=(hf t ht).at_;omega
   ·rcases k.1 with e|⟨t,ht,e⟩
    ·omega
    ·have:=(hf t ht).at_;omega
  ·rename_i x r hy;rw[hy]at k;split at h
   ·rename_i t _
    cases h;have:=(hf t (List.IsSuffix.subset k acx)).at_;exact⟨this.1,this.2,by decide⟩
   ·split at h
    ·cases h
    ·cases h;exact⟨by decide,by omega,by decide⟩
end Go.Proofs.YtimoefagohifaaaGreatDoor
