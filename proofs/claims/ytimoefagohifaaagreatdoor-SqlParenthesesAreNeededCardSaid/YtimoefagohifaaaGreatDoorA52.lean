/- Laws that the last part needs. No condition. -/
import Derived.Test.YtimoefagohifaaaGreatDoorA39
import Derived.Test.YtimoefagohifaaaGreatDoorA41
namespace Go.Proofs.YtimoefagohifaaaGreatDoor
open Go.RowKit Go.Sort Tryz
def RowB (w:World) (g:Nat) (s:Bytes):Prop:=∃cs fr,w.heap[g]?=some (.cells cs 5 fr)/\(∀i,i<s.length->cs[i]?=some (.int .u8 ((s.getD i 0).toNat:Int)))/\s.length<=fr.1
theorem RowB.cell {w:World} {g:Nat} {s:Bytes} (h:RowB w g s) {i:Nat} (hi:i<s.length):w.cell? ⟨g,i,none⟩=some (.int .u8 ((s.getD i 0).toNat:Int))/\w.frozen? ⟨g,i,none⟩=false/\g<w.heap.size:=by
 obtain⟨cs,fr,h1,h2,h3⟩:=h;obtain⟨lo,hi'⟩:=fr;refine⟨by simp only[World.cell?,h1];exact h2 i hi,?_,(uh.1 h1).1⟩;have:¬lo<=i:=by simp only at h3;omega
 simp[World.frozen?,h1,this]
theorem RowB.set {w:World} {g:Nat} {s:Bytes} (h:RowB w g s) (n:Nat):RowB (w.setCell ⟨g,n,none⟩ (.int .u8 32)) g (s.set n 32):=by
 obtain⟨cs,fr,h1,h2,h3⟩:=h;refine⟨cs.setIfInBounds n (.int .u8 32),fr,?_,fun i hi=>?_,by rw[List.length_set];exact h3⟩
 ·simp[World.setCell,yw,h1]
 ·rw[List.length_set]at hi;have h4:=h2 i hi;have hlt:=(uh.1 h4).1;rw[abs];by_cases e:n=i
  ·subst e;rw[if_pos rfl,if_pos hlt];simp[List.getD,hi]
  ·rw[if_neg e,h4];simp[List.getD,List.getElem?_set_ne e]
theorem RowB.string {w:World} {g cap:Nat} {s:Bytes} (h:RowB w g s):(convert 58 9 (.slice (O g) s.length cap)).run prog w=.ok (.string (Y s)) w:=
 acd w 58 9 5 ⟨g,0,none⟩ cap s underlying58 underlying5 underlying9 (fun j hj=>by
  have e1:(⟨g,0,none⟩:Addr).add j=⟨g,0+j,none⟩:=by unfold Addr.add;split<;>simp_all
  rw[e1,xr,(h.cell hj).1];simp[List.getD,hj])
end Go.Proofs.YtimoefagohifaaaGreatDoor
