/- Laws that the last part needs. No condition. -/
import Derived.Test.YtimoefagohifaaaGreatDoorA17
namespace Go.Proofs.YtimoefagohifaaaGreatDoor
open Tryz
def oneSp:List Bytes->List (Bytes×Bytes)
 | []=>[]
 | p::l=>([],p)::l.map fun q=>([32],q)
theorem F8:∀l:List Bytes,spaced (oneSp l)=joinSp l
 | []=>rfl
 | [p]=>by simp[oneSp,spaced,joinSp]
 | p::q::l=>by
  have h:=F8 (q::l);simp only[oneSp,spaced,yp,joinSp,uc]at h ⊢;rw[<- h];simp
theorem Ie {l:List Bytes} (h:∀p∈l,(partTok p).isSome=true):Spaced (oneSp l):=by
 cases l with
 | nil=>exact⟨by simp[oneSp],by simp[oneSp],by simp[oneSp]⟩
 | cons p l=>
  refine⟨?_,?_,?_⟩
  ·intro x hx c hc;simp only[oneSp,uw,zd]at hx;rcases hx with rfl|⟨q,_,rfl⟩
   ·cases hc
   ·simp only[vh]at hc;subst hc;rfl
  ·intro x hx;simp only[oneSp,abt,zd]at hx;obtain⟨q,_,rfl⟩:=hx;simp
  ·intro x hx;simp only[oneSp,uw,zd]at hx;rcases hx with rfl|⟨q,hq,rfl⟩
   ·exact h p acx
   ·exact h q (by simp[hq])
theorem Ps (l:List Bytes):(oneSp l).map (·.2)=l:=by
 cases l with
 | nil=>rfl
 | cons p l=>
  simp only[oneSp,yp,List.map_map];congr 1;exact List.map_id' l
theorem V3 (l:List Bytes) (h:∀p∈l,(partTok p).isSome=true) (hl:(joinSp l).length<=4000):toksR (joinSp l)=.ok (placed 0 (oneSp l))/\Carries l (placed 0 (oneSp l)):=by
 have:=Om (oneSp l) [] (Ie h) acx (by rw[vr,F8];exact hl);rw[vr,F8]at this;have h2:=Gk (oneSp l) 0 (Ie h).part;rw[Ps]at h2;exact⟨this,h2⟩
end Go.Proofs.YtimoefagohifaaaGreatDoor
