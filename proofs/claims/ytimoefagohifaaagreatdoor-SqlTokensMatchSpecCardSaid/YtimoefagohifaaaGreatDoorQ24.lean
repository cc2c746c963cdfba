/-
  Part 24 of the texts of one proof, made small by a program: see the last part for what is proved. No condition.
-/
import Derived.Lib.ItoaLen
import Derived.Test.YtimoefagohifaaaGreatDoorQ01
import Derived.Test.YtimoefagohifaaaGreatDoorQ03
namespace Go.Proofs.YtimoefagohifaaaGreatDoor
theorem isZero_eq {e : Ex} (h : e.isZero = true) : e = Ex.zero:=by
 obtain ⟨op,t,n,v,args⟩:=e
 simp only [Ex.isZero,Bool.and_eq_true,decide_eq_true_eq] at h
 obtain ⟨⟨⟨⟨rfl,rfl⟩,rfl⟩,rfl⟩,h⟩:=h
 have : args = []:=List.eq_nil_of_length_eq_zero h
 subst this; rfl
def Soft (ws : List Bytes) (rest : List Tok) : Prop:=rest = []∨∃ w t r,rest = t :: r∧IsTok w t∧w ∈ ws
theorem Soft.nil (ws : List Bytes) : Soft ws []:=.inl rfl
theorem Soft.cons {ws : List Bytes} {w : Bytes} {t : Tok} {r : List Tok} (h : IsTok w t) (hw : w ∈ ws) : Soft ws (t :: r):=.inr ⟨w,t,r,rfl,h,hw⟩
theorem Soft.tk {ws : List Bytes} {rest : List Tok} (h : Soft ws rest) {v : Bytes} (hv : ws.contains v = false) : tk v rest = none:=by
 rcases h with rfl | ⟨w,t,r,rfl,ht,hw⟩
 ·rfl
 ·refine tk_no ht ?_
  rintro rfl
  rw [List.contains_eq_mem,decide_eq_false_iff_not] at hv
  exact hv hw
theorem Soft.mono {ws vs : List Bytes} {rest : List Tok} (h : Soft ws rest) (hs : ∀ w ∈ ws,w ∈ vs) : Soft vs rest:=by
 rcases h with h | ⟨w,t,r,h1,h2,h3⟩
 ·exact .inl h
 ·exact .inr ⟨w,t,r,h1,h2,hs w h3⟩
def endWords : List Bytes:=[[41],[44],[102,114,111,109],[106,111,105,110],[119,104,101,114,101],[103,114,111,117,112],[111,114,100,101,114],[108,105,109,105,116]]
theorem endWords_facts : (endWords.all fun w=>(keywords ++ signs).contains w && decide (opOf w = none) && decide (w ≠ [105,115]) && decide (w ≠ [46])) = true:=by decide +kernel
theorem Soft.stop {rest : List Tok} (h : Soft endWords rest) (lev : Nat) : Stop lev rest:=by
 rcases h with rfl | ⟨w,t,r,rfl,ht,hw⟩
 ·have h0 : opOf (seesWord []) = none:=by decide +kernel
  refine ⟨fun o lv h=>?_,fun _=>rfl,rfl⟩
  rw [h0] at h
  cases h
 ·have:=List.all_eq_true.1 endWords_facts w hw
  simp only [Bool.and_eq_true,decide_eq_true_eq] at this
  obtain ⟨⟨⟨h1,h2⟩,h3⟩,h4⟩:=this
  exact stop_fixed h1 ht (by rw [h2]; intro o lv h; cases h) (fun _=>h3) h4
def AllTok (ps : List Bytes) : Prop:=∀ p ∈ ps,(partTok p).isSome = true
theorem AllTok.nil : AllTok []:=fun p hp=>by cases hp
theorem AllTok.cons {p : Bytes} {ps : List Bytes} (h1 : (partTok p).isSome = true) (h2 : AllTok ps) : AllTok (p :: ps):=fun q hq=>by
 rcases List.mem_cons.1 hq with rfl | hq
 ·exact h1
 ·exact h2 q hq
theorem AllTok.append {a b : List Bytes} (h1 : AllTok a) (h2 : AllTok b) : AllTok (a ++ b):=fun q hq=>(List.mem_append.1 hq).elim (h1 q) (h2 q)
def wt : List Bytes→Nat
 | []=>0
 | p :: l=>p.length + 1 + wt l
def exStm : Stm:={ Stm.zero with kind:=9,select:=⟨false,[⟨0,colEx [] [97]⟩,⟨2,colEx [] [98]⟩],[[116]],[],Ex.zero,[colEx [] [97]],[⟨2,true⟩],3⟩ }
theorem ex_parse : parseS [115,101,108,101,99,116,32,97,32,44,32,115,117,109,32,40,32,98,32,41,32,102,114,111,109,32,116,32,103,114,111,117,112,32,98,121,32,97,32,111,114,100,101,114,32,98,121,32,50,32,100,101,115,99,32,108,105,109,105,116,32,51] = .ok exStm:=by kernel_rfl
theorem ex_one : parseS [115,101,108,101,99,116,32,102,114,111,109,32,116] = .error (7,380):=by kernel_rfl
theorem ex_print : printS exStm = ([115,101,108,101,99,116,32,97,32,44,32,115,117,109,32,40,32,98,32,41,32,102,114,111,109,32,116,32,103,114,111,117,112,32,98,121,32,97,32,111,114,100,101,114,32,98,121,32,50,32,100,101,115,99,32,108,105,109,105,116,32,51],0):=by kernel_rfl
theorem ex_three : toksR [100,114,111,112,32,116,97,98,108,101,32,65] = .error (11,380):=by kernel_rfl
theorem ex_four : toksR [108,105,109,105,116,32,48,49] = .error (6,381):=by kernel_rfl
theorem ex_two : parseS [100,114,111,112,32,116,97,98,108,101] = .error (10,380):=by kernel_rfl
theorem ex_five : parseS [100,101,108,101,116,101,32,102,114,111,109,32,116,32,119,104,101,114,101,32,97,32,61,32,39,120] = .error (24,382):=by kernel_rfl
theorem ex_begin : parseS [98,101,103,105,110,32,114,101,97,100,32,111,110,108,121] = .ok { Stm.zero with kind:=10,mode:=2 }:=by kernel_rfl
def exStm2 : Stm:={ Stm.zero with kind:=9,select:=⟨false,[],[[116]],[],opEx 12 [opEx 14 [opEx 13 [opEx 6 [colEx [] [97],valEx ⟨1,1,⟨#[]⟩⟩],opEx 8 [colEx [] [98],valEx ⟨1,2,⟨#[]⟩⟩]]],opEx 14 [opEx 15 [colEx [] [99]]]],[],[],-1⟩ }
theorem ex_parse2 : parseS [115,101,108,101,99,116,32,42,32,102,114,111,109,32,116,32,119,104,101,114,101,32,110,111,116,40,97,61,49,32,111,114,32,98,60,50,41,32,97,110,100,32,99,32,105,115,32,110,111,116,32,110,117,108,108] = .ok exStm2:=by kernel_rfl
theorem ex_print2 : printS exStm2 = ([115,101,108,101,99,116,32,42,32,102,114,111,109,32,116,32,119,104,101,114,101,32,110,111,116,32,40,32,97,32,61,32,49,32,111,114,32,98,32,60,32,50,32,41,32,97,110,100,32,110,111,116,32,99,32,105,115,32,110,117,108,108],0):=by kernel_rfl
end Go.Proofs.YtimoefagohifaaaGreatDoor
