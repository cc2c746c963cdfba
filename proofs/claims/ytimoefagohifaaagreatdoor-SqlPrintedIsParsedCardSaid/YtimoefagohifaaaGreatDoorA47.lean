/- Laws that the last part needs. No condition. -/
import Derived.Test.YtimoefagohifaaaGreatDoorA45
import Derived.Test.YtimoefagohifaaaGreatDoorA46
namespace Go.Proofs.YtimoefagohifaaaGreatDoor
open Tryz
theorem Sl {x:Stm} (h:x.formed=true) (hl:(joinSp (stmP x)).length<=4000):parseS (joinSp (stmP x))=.ok x:=by
 obtain⟨h1,h2⟩:=V3 (stmP x) (gz h) hl;unfold parseS;rw[h1];simp only[Wq h h2];rw[if_pos h]
end Go.Proofs.YtimoefagohifaaaGreatDoor
