/- Laws that the last part needs. No condition. -/
import Derived.Test.YtimoefagohifaaaGreatDoorA26
namespace Go.Proofs.YtimoefagohifaaaGreatDoor
open Go.RowKit Go.Sort Tryz
def StmtAt (sz:Int) (l:List Tok):Prop:=∀(pb:Nat) (w:World),Psr w pb sz l->Calls prog 54 #[.pointer (some ⟨pb,0,none⟩)] w (Post pb sz (RStm w.heap.size) (stmtR sz l) w)
def CheckAt (x:Stm):Prop:=∀(Q:Nat->Prop) (s:SV) (w:World),StmIn Q w s x->Calls prog 14 #[.agg s.arr] w (Says (U (errF x.formed)) w)
end Go.Proofs.YtimoefagohifaaaGreatDoor
