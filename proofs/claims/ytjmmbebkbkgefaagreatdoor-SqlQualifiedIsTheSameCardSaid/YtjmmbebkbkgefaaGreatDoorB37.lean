/- Part 37; the last part says what is proved. No condition. -/
import Derived.Test.YtjmmbebkbkgefaaGreatDoorB36
set_option linter.unusedVariables false
set_option linter.unusedSimpArgs false
namespace Go.Proofs.YtjmmbebkbkgefaaGreatDoor
open Go.RowKit Go.Sort Go.Proofs.Tryz
def fewB (s:Bytes):Bool:=match toksR s with
 | .error _=>true
 | .ok l=>notFew.all (fun w=>(tk w l).isNone)&&match stmtR s.length l with
  | .err _ _=>true
  | .ok x r=>r.isEmpty&&x.formed
theorem C8 {s:Bytes} (hs:s.length<=1000000) (hf:fewB s=true) (hc:∀x,parseS s=.ok x->CheckAt x):ParseAt s:=by
 intro B w he;unfold fewB at hf
 cases hx:toksR s with
 | error p=>obtain⟨p,q⟩:=p;exact Ux s hs p q hx w he
 | ok l=>
  rw[hx]at hf;simp only[Bool.and_eq_true]at hf;have hS:Hid (StmtAt (s.length:Int) l):=fun pb w h=>Ky pb _ l w h (fun x hx=>by
   have:=List.all_eq_true.1 hf.1 x hx;simpa using this)
  cases hst:stmtR s.length l with
  | err p q=>exact Qm s hs l p q hx hst w he hS
  | ok x r=>
   rw[hst]at hf;simp only[Bool.and_eq_true,List.isEmpty_iff]at hf;obtain⟨_,rfl,hfm⟩:=hf;have hp:parseS s=.ok x:=by unfold parseS;rw[hx];simp only[hst];rw[if_pos hfm]
   exact Qp s hs l x hx hst hfm w he hS (hc x hp)
theorem Bv {a b:Nat} (h:Nat.ble a b=true):a<=b:=Nat.le_of_ble_eq_true h
theorem Pc:CheckAt exStm:=fun Q s w h=>Kr Q exStm s w h (by refine⟨?_,?_,?_,?_,⟨?_,?_,?_,?_⟩⟩<;>simp[Ex.Wf,ExsWf,V.Wf,exStm,Stm.zero,Tbl.zero,Sel.zero,Ex.zero,colEx,V.null]) rfl (Bv (by kernel_rfl)) (Bv (by kernel_rfl))
theorem L9:CheckAt exStm2:=fun Q s w h=>Kr Q exStm2 s w h (by refine⟨?_,?_,?_,?_,⟨?_,?_,?_,?_⟩⟩<;>simp[Ex.Wf,ExsWf,V.Wf,exStm2,Stm.zero,Tbl.zero,Sel.zero,Ex.zero,colEx,opEx,valEx,V.null]) rfl (Bv (by kernel_rfl)) (Bv (by kernel_rfl))
theorem Vr:CheckAt {Stm.zero with kind:=10,mode:=2}:=fun Q s w h=>We Q _ s w h (by refine⟨?_,?_,?_,?_,⟨?_,?_,?_,?_⟩⟩<;>simp[Ex.Wf,ExsWf,V.Wf,Stm.zero,Tbl.zero,Sel.zero,Ex.zero,V.null]) rfl (Bv (by kernel_rfl)) (Bv (by kernel_rfl))
theorem Ks {s:Bytes} {x:Stm} (h:parseS s=.ok x) (hc:CheckAt x):∀y,parseS s=.ok y->CheckAt y:=fun y hy=>by
 rw[h]at hy;cases hy;exact hc
theorem Kt {s:Bytes} {p:Int×Int} (h:parseS s=.error p):∀y,parseS s=.ok y->CheckAt y:=fun y hy=>by
 rw[h]at hy;cases hy
theorem Jt:SanityAt:=fun _ w he=>Uh w he (C8 (by decide) (by kernel_rfl) (Ks Pb Pc)) (C8 (by decide) (by kernel_rfl) (Ks L8 L9)) (C8 (by decide) (by kernel_rfl) (Kt Yi))
 (C8 (by decide) (by kernel_rfl) (Kt Yf)) (C8 (by decide) (by kernel_rfl) (Kt Td)) (C8 (by decide) (by kernel_rfl) (Ks Pd Vr))
 (fun s w h he=>Oa exStm s w h he rfl (by kernel_rfl) (Bv (by kernel_rfl)) (Bv (by kernel_rfl)) Pc) (fun s w h he=>Oa exStm2 s w h he rfl (by kernel_rfl) (Bv (by kernel_rfl)) (Bv (by kernel_rfl)) L9)
theorem Ln (x:Sel) (h:x.Wf) (hl:x.lists<=4611686018427387904):CheckAt (selE x):=fun Q s w hs=>Kr Q (selE x) s w hs (by
 refine⟨?_,?_,?_,?_,h⟩;all_goals simp[Ex.Wf,ExsWf,V.Wf,selE,Stm.zero,Tbl.zero,Sel.zero,Ex.zero,V.null]) rfl (by simpa[selE,Stm.lists,Stm.zero,Tbl.zero]using hl) (by simp[selE,Stm.txt,Stm.zero,Tbl.zero])
end Go.Proofs.YtjmmbebkbkgefaaGreatDoor
