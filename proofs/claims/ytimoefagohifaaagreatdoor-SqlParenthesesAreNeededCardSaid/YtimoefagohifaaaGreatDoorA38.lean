/- Laws that the last part needs. No condition. -/
import Derived.Test.YtimoefagohifaaaGreatDoorA29
import Derived.Test.YtimoefagohifaaaGreatDoorA30
namespace Go.Proofs.YtimoefagohifaaaGreatDoor
open Go.RowKit Go.Sort Tryz
def RdIs (p:Nat) (x:Except Int (Tok×Nat)) (v:Value):Prop:=match x with
 | .ok (t,n)=>v=.agg #[U t.kind,U (p:Int),.string (Y t.s),U t.n,U ((p:Int)+(n:Int)),U 0]
 | .error e=>∃a b c d f,v=.agg #[U a,U b,.string c,U d,U f,U e]/\e≠0
theorem RdIs.cells {p:Nat} {x:Except Int (Tok×Nat)} {v:Value} (h:RdIs p x v):∃a b c d f g,v=.agg #[U a,U b,.string c,U d,U f,U g]:=by
 cases x with
 | ok tn=>obtain⟨t,n⟩:=tn;exact⟨_,_,_,_,_,_,h⟩
 | error e=>obtain⟨a,b,c,d,f,h,_⟩:=h;exact⟨_,_,_,_,_,_,h⟩
def SanityAt:Prop:=∀(B:Nat) (W:World),Env B W->Calls prog 8 #[] W (fun e w'=>e=.returned (.bool true)/\Below W.heap.size W w')
end Go.Proofs.YtimoefagohifaaaGreatDoor
