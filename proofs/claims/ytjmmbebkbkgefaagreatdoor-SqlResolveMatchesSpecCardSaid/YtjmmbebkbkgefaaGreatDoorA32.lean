/- Part 32; the last part says what is proved. No condition. -/
import Derived.Test.YtjmmbebkbkgefaaGreatDoorA31
namespace Go.Proofs.YtjmmbebkbkgefaaGreatDoor
open Go.RowKit Go.Sort
def fewB (s : Bytes) : Bool:=match toksR s with
 | .error _=>true
 | .ok l=>notFew.all (fun w=>(tk w l).isNone) && match stmtR s.length l with
  | .err _ _=>true
  | .ok x r=>r.isEmpty && x.formed
theorem parse_few {s : Bytes} (hs : s.length≤1000000) (hf : fewB s = true) (hc : ∀ x,parseS s = .ok x→CheckAt x) : ParseAt s:=by
 intro B w he
 unfold fewB at hf
 cases hx : toksR s with
 | error p=>obtain ⟨p,q⟩:=p; exact parse_bad s hs p q hx w he
 | ok l=>
  rw [hx] at hf
  simp only [Bool.and_eq_true] at hf
  have hS : Hid (StmtAt (s.length : Int) l):=fun pb w h=>statement_few pb _ l w h (fun x hx=>by
   have:=List.all_eq_true.1 hf.1 x hx
   simpa using this)
  cases hst : stmtR s.length l with
  | err p q=>exact parse_stop s hs l p q hx hst w he hS
  | ok x r=>
   rw [hst] at hf
   simp only [Bool.and_eq_true,List.isEmpty_iff] at hf
   obtain ⟨_,rfl,hfm⟩:=hf
   have hp : parseS s = .ok x:=by unfold parseS; rw [hx]; simp only [hst]; rw [if_pos hfm]
   exact parse_done s hs l x hx hst hfm w he hS (hc x hp)
theorem le_of_ble {a b : Nat} (h : Nat.ble a b = true) : a≤b:=Nat.le_of_ble_eq_true h
theorem ex_check : CheckAt exStm:=fun Q s w h=>ckKind_9 Q exStm s w h (by refine ⟨?_,?_,?_,?_,⟨?_,?_,?_,?_⟩⟩ <;> simp [Ex.Wf,ExsWf,V.Wf,exStm,Stm.zero,Tbl.zero,Sel.zero,Ex.zero,colEx,V.null]) rfl (le_of_ble (by kernel_rfl)) (le_of_ble (by kernel_rfl))
theorem ex2_check : CheckAt exStm2:=fun Q s w h=>ckKind_9 Q exStm2 s w h (by refine ⟨?_,?_,?_,?_,⟨?_,?_,?_,?_⟩⟩ <;> simp [Ex.Wf,ExsWf,V.Wf,exStm2,Stm.zero,Tbl.zero,Sel.zero,Ex.zero,colEx,opEx,valEx,V.null]) rfl (le_of_ble (by kernel_rfl)) (le_of_ble (by kernel_rfl))
theorem ex3_check : CheckAt { Stm.zero with kind:=10,mode:=2 }:=fun Q s w h=>ckKind_10 Q _ s w h (by refine ⟨?_,?_,?_,?_,⟨?_,?_,?_,?_⟩⟩ <;> simp [Ex.Wf,ExsWf,V.Wf,Stm.zero,Tbl.zero,Sel.zero,Ex.zero,V.null]) rfl (le_of_ble (by kernel_rfl)) (le_of_ble (by kernel_rfl))
theorem check_of {s : Bytes} {x : Stm} (h : parseS s = .ok x) (hc : CheckAt x) : ∀ y,parseS s = .ok y→CheckAt y:=fun y hy=>by
 rw [h] at hy; cases hy; exact hc
theorem check_no {s : Bytes} {p : Int × Int} (h : parseS s = .error p) : ∀ y,parseS s = .ok y→CheckAt y:=fun y hy=>by
 rw [h] at hy; cases hy
theorem sanity_few : SanityAt:=fun _ w he=>sanity_of w he (parse_few (by decide) (by kernel_rfl) (check_of ex_parse ex_check)) (parse_few (by decide) (by kernel_rfl) (check_of ex_parse2 ex2_check)) (parse_few (by decide) (by kernel_rfl) (check_no ex_one))
 (parse_few (by decide) (by kernel_rfl) (check_no ex_two)) (parse_few (by decide) (by kernel_rfl) (check_no ex_five)) (parse_few (by decide) (by kernel_rfl) (check_of ex_begin ex3_check))
 (fun s w h he=>prKind_9 exStm s w h he rfl (by kernel_rfl) (le_of_ble (by kernel_rfl)) (le_of_ble (by kernel_rfl)) ex_check) (fun s w h he=>prKind_9 exStm2 s w h he rfl (by kernel_rfl) (le_of_ble (by kernel_rfl)) (le_of_ble (by kernel_rfl)) ex2_check)
theorem del_check (e : Ex) (h : e.Wf) : CheckAt (delE e):=fun Q s w hs=>ckKind_8 Q (delE e) s w hs (by
 refine ⟨?_,?_,?_,?_,⟨?_,?_,?_,?_⟩⟩
 case refine_4=>exact h
 all_goals simp [Ex.Wf,ExsWf,V.Wf,delE,Stm.zero,Tbl.zero,Sel.zero,Ex.zero,V.null]) rfl (by simp [delE,Stm.lists,Stm.zero,Tbl.zero,Sel.zero,Sel.lists]) (by simp [delE,Stm.txt,Stm.zero,Tbl.zero])
theorem law39_any {B : Nat} (sc : List Tbl) (e : Ex) (tv : Value) (cs : List Value) (w : World) (he : Env B w) (ht : RSl tblE (fun _=>True) w tv sc) (hs : sc.length≤4611686018427387904) (hin : ExIn (fun _=>True) w e cs) (hwf : e.Wf) :
  Calls Tryz.prog 3 #[tv,.agg cs.toArray] w (fun e w'=>e = .returned (.bool true)∧Below w.heap.size w w'):=law39_of sanity_few del_check sc e tv cs w he ht hs hin hwf
end Go.Proofs.YtjmmbebkbkgefaaGreatDoor
