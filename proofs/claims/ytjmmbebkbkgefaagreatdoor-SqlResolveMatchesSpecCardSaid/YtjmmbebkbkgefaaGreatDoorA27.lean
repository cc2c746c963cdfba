/- Part 27; the last part says what is proved. No condition. -/
import Derived.Lib.ItoaLen
import Derived.Test.YtjmmbebkbkgefaaGreatDoorA03
namespace Go.Proofs.YtjmmbebkbkgefaaGreatDoor
theorem isZero_eq {e : Ex} (h : e.isZero = true) : e = Ex.zero:=by
 obtain ⟨op,t,n,v,args⟩:=e
 simp only [Ex.isZero,Bool.and_eq_true,decide_eq_true_eq] at h
 obtain ⟨⟨⟨⟨rfl,rfl⟩,rfl⟩,rfl⟩,h⟩:=h
 have : args = []:=List.eq_nil_of_length_eq_zero h
 subst this; rfl
def Soft (ws : List Bytes) (rest : List Tok) : Prop:=rest = []∨∃ w t r,rest = t :: r∧IsTok w t∧w ∈ ws
theorem Soft.nil (ws : List Bytes) : Soft ws []:=.inl rfl
theorem Soft.cons {ws : List Bytes} {w : Bytes} {t : Tok} {r : List Tok} (h : IsTok w t) (hw : w ∈ ws) : Soft ws (t :: r):=.inr ⟨w,t,r,rfl,h,hw⟩
theorem Soft.tk {ws : List Bytes} {rest : List Tok} (h : Soft ws rest) {v : Bytes} (hv : ws.contains v = false) : tk v rest = none:=by
 rcases h with rfl | ⟨w,t,r,rfl,ht,hw⟩
 ·rfl
 ·refine tk_no ht ?_
  rintro rfl
  rw [List.contains_eq_mem,decide_eq_false_iff_not] at hv
  exact hv hw
theorem Soft.mono {ws vs : List Bytes} {rest : List Tok} (h : Soft ws rest) (hs : ∀ w ∈ ws,w ∈ vs) : Soft vs rest:=by
 rcases h with h | ⟨w,t,r,h1,h2,h3⟩
 ·exact .inl h
 ·exact .inr ⟨w,t,r,h1,h2,hs w h3⟩
def endWords : List Bytes:=[[41],[44],[102,114,111,109],[106,111,105,110],[119,104,101,114,101],[103,114,111,117,112],[111,114,100,101,114],[108,105,109,105,116]]
theorem endWords_facts : (endWords.all fun w=>(keywords ++ signs).contains w && decide (opOf w = none) && decide (w ≠ [105,115]) && decide (w ≠ [46])) = true:=by decide +kernel
theorem Soft.stop {rest : List Tok} (h : Soft endWords rest) (lev : Nat) : Stop lev rest:=by
 rcases h with rfl | ⟨w,t,r,rfl,ht,hw⟩
 ·have h0 : opOf (seesWord []) = none:=by decide +kernel
  refine ⟨fun o lv h=>?_,fun _=>rfl,rfl⟩
  rw [h0] at h
  cases h
 ·have:=List.all_eq_true.1 endWords_facts w hw
  simp only [Bool.and_eq_true,decide_eq_true_eq] at this
  obtain ⟨⟨⟨h1,h2⟩,h3⟩,h4⟩:=this
  exact stop_fixed h1 ht (by rw [h2]; intro o lv h; cases h) (fun _=>h3) h4
def AllTok (ps : List Bytes) : Prop:=∀ p ∈ ps,(partTok p).isSome = true
theorem AllTok.nil : AllTok []:=fun p hp=>by cases hp
theorem AllTok.cons {p : Bytes} {ps : List Bytes} (h1 : (partTok p).isSome = true) (h2 : AllTok ps) : AllTok (p :: ps):=fun q hq=>by
 rcases List.mem_cons.1 hq with rfl | hq
 ·exact h1
 ·exact h2 q hq
theorem AllTok.append {a b : List Bytes} (h1 : AllTok a) (h2 : AllTok b) : AllTok (a ++ b):=fun q hq=>(List.mem_append.1 hq).elim (h1 q) (h2 q)
def wt : List Bytes→Nat
 | []=>0
 | p :: l=>p.length + 1 + wt l
def exStm : Stm:={ Stm.zero with kind:=9,select:=⟨false,[⟨0,colEx [] [97]⟩,⟨2,colEx [] [98]⟩],[[116]],[],Ex.zero,[colEx [] [97]],[⟨2,true⟩],3⟩ }
theorem ex_parse : parseS [115,101,108,101,99,116,32,97,32,44,32,115,117,109,32,40,32,98,32,41,32,102,114,111,109,32,116,32,103,114,111,117,112,32,98,121,32,97,32,111,114,100,101,114,32,98,121,32,50,32,100,101,115,99,32,108,105,109,105,116,32,51] = .ok exStm:=by kernel_rfl
theorem ex_one : parseS [115,101,108,101,99,116,32,102,114,111,109,32,116] = .error (7,380):=by kernel_rfl
theorem ex_print : printS exStm = ([115,101,108,101,99,116,32,97,32,44,32,115,117,109,32,40,32,98,32,41,32,102,114,111,109,32,116,32,103,114,111,117,112,32,98,121,32,97,32,111,114,100,101,114,32,98,121,32,50,32,100,101,115,99,32,108,105,109,105,116,32,51],0):=by kernel_rfl
theorem ex_three : toksR [100,114,111,112,32,116,97,98,108,101,32,65] = .error (11,380):=by kernel_rfl
theorem ex_four : toksR [108,105,109,105,116,32,48,49] = .error (6,381):=by kernel_rfl
theorem ex_two : parseS [100,114,111,112,32,116,97,98,108,101] = .error (10,380):=by kernel_rfl
theorem ex_five : parseS [100,101,108,101,116,101,32,102,114,111,109,32,116,32,119,104,101,114,101,32,97,32,61,32,39,120] = .error (24,382):=by kernel_rfl
theorem ex_begin : parseS [98,101,103,105,110,32,114,101,97,100,32,111,110,108,121] = .ok { Stm.zero with kind:=10,mode:=2 }:=by kernel_rfl
def exStm2 : Stm:={ Stm.zero with kind:=9,select:=⟨false,[],[[116]],[],opEx 12 [opEx 14 [opEx 13 [opEx 6 [colEx [] [97],valEx ⟨1,1,⟨#[]⟩⟩],opEx 8 [colEx [] [98],valEx ⟨1,2,⟨#[]⟩⟩]]],opEx 14 [opEx 15 [colEx [] [99]]]],[],[],-1⟩ }
theorem ex_parse2 : parseS [115,101,108,101,99,116,32,42,32,102,114,111,109,32,116,32,119,104,101,114,101,32,110,111,116,40,97,61,49,32,111,114,32,98,60,50,41,32,97,110,100,32,99,32,105,115,32,110,111,116,32,110,117,108,108] = .ok exStm2:=by kernel_rfl
theorem ex_print2 : printS exStm2 = ([115,101,108,101,99,116,32,42,32,102,114,111,109,32,116,32,119,104,101,114,101,32,110,111,116,32,40,32,97,32,61,32,49,32,111,114,32,98,32,60,32,50,32,41,32,97,110,100,32,110,111,116,32,99,32,105,115,32,110,117,108,108],0):=by kernel_rfl
def flatC (l : List Tbl) : List (Bytes × Bytes):=l.flatMap fun t=>t.cols.map fun c=>(t.name,c.name)
def hitC (t n : Bytes) (p : Bytes × Bytes) : Bool:=p.2 == n && (t == [] || t == p.1)
def fndC (t n : Bytes) : Nat→List (Bytes × Bytes)→List Int
 | _,[]=>[]
 | i,p :: l=>if hitC t n p then (i : Int) :: fndC t n (i + 1) l else fndC t n (i + 1) l
theorem fndC_le (t n : Bytes) : ∀ (l : List (Bytes × Bytes)) (i : Nat),(fndC t n i l).length≤l.length
 | [],_=>by simp [fndC]
 | p :: l,i=>by
  have:=fndC_le t n l (i + 1)
  unfold fndC
  by_cases h : hitC t n p = true
  ·rw [if_pos h]; simp only [List.length_cons]; omega
  ·rw [if_neg h]; simp only [List.length_cons]; omega
def pickC : List Int→Except Int Xp
 | []=>.error 5
 | [i]=>.ok (.col i)
 | _=>.error 6
mutual
def Ex.res (sc : List (Bytes × Bytes)) : Ex→Except Int Xp
 | .mk op t n v args=>if op = 1 then pickC (fndC t n 0 sc) else match resL sc args with
  | .error e=>.error e
  | .ok l=>.ok (.mk op 0 v l)
def resL (sc : List (Bytes × Bytes)) : List Ex→Except Int (List Xp)
 | []=>.ok []
 | e :: l=>match Ex.res sc e with
  | .error x=>.error x
  | .ok a=>match resL sc l with
   | .error x=>.error x
   | .ok r=>.ok (a :: r)
end
mutual
def Ex.brief : Ex→Prop
 | .mk _ _ _ _ args=>args.length≤1000000∧briefL args
def briefL : List Ex→Prop
 | []=>True
 | e :: l=>Ex.brief e∧briefL l
end
theorem briefL_mem : ∀ {l : List Ex},briefL l→∀ a ∈ l,a.brief
 | [],_,a,h=>by cases h
 | e :: l,hb,a,h=>by
  rcases List.mem_cons.1 h with rfl | h
  ·exact hb.1
  ·exact briefL_mem hb.2 a h
def errX : Except Int Xp→Int
 | .error k=>k
 | .ok _=>0
def okX : Except Int Xp→Xp
 | .error _=>Xp.zero
 | .ok x=>x
def joinX (op : Int) (v : V) (acc : List Xp) : Except Int (List Xp)→Except Int Xp
 | .error e=>.error e
 | .ok l=>.ok (.mk op 0 v (acc ++ l))
theorem res_mk (sc : List (Bytes × Bytes)) (op : Int) (t n : Bytes) (v : V) (args : List Ex) (h : ¬ op = 1) : Ex.res sc (.mk op t n v args) = joinX op v [] (resL sc args):=by
 unfold Ex.res
 rw [if_neg h]
 cases resL sc args <;> rfl
theorem joinX_err (op : Int) (v : V) (acc : List Xp) (sc : List (Bytes × Bytes)) (e : Ex) (l : List Ex) (k : Int) (h : Ex.res sc e = .error k) : joinX op v acc (resL sc (e :: l)) = .error k:=by
 unfold resL; rw [h]; rfl
theorem joinX_ok (op : Int) (v : V) (acc : List Xp) (sc : List (Bytes × Bytes)) (e : Ex) (l : List Ex) (x : Xp) (h : Ex.res sc e = .ok x) : joinX op v acc (resL sc (e :: l)) = joinX op v (acc ++ [x]) (resL sc l):=by
 have e1 : resL sc (e :: l) = match resL sc l with | .error y=>.error y | .ok r=>.ok (x :: r):=by
  conv=>lhs; unfold resL
  rw [h]
 rw [e1]
 cases resL sc l with
 | error y=>rfl
 | ok r=>simp [joinX]
theorem joinX_nil (op : Int) (v : V) (acc : List Xp) (sc : List (Bytes × Bytes)) : joinX op v acc (resL sc []) = .ok (.mk op 0 v acc):=by
 unfold resL; simp [joinX]
theorem res_col (sc : List (Bytes × Bytes)) (t n : Bytes) (v : V) (args : List Ex) : Ex.res sc (.mk 1 t n v args) = pickC (fndC t n 0 sc):=by
 unfold Ex.res; rw [if_pos rfl]
theorem flatC_cons (t : Tbl) (l : List Tbl) : flatC (t :: l) = t.cols.map (fun c=>(t.name,c.name)) ++ flatC l:=by simp [flatC]
def restC (t : Tbl) (j : Nat) (l : List Tbl) : List (Bytes × Bytes):=(t.cols.drop j).map (fun c=>(t.name,c.name)) ++ flatC l
theorem restC_zero (t : Tbl) (l : List Tbl) : restC t 0 l = flatC (t :: l):=by rw [flatC_cons]; rfl
theorem restC_end (t : Tbl) (l : List Tbl) : restC t t.cols.length l = flatC l:=by unfold restC; rw [List.drop_length]; rfl
theorem restC_step (t : Tbl) (j : Nat) (l : List Tbl) (c : Col) (h : t.cols[j]? = some c) : restC t j l = (t.name,c.name) :: restC t (j + 1) l:=by
 obtain ⟨hj,rfl⟩:=List.getElem?_eq_some_iff.1 h
 unfold restC
 rw [List.drop_eq_getElem_cons hj]; rfl
theorem fndC_hit (t n : Bytes) (i : Nat) (p : Bytes × Bytes) (l : List (Bytes × Bytes)) (h : hitC t n p = true) : fndC t n i (p :: l) = (i : Int) :: fndC t n (i + 1) l:=by
 conv=>lhs; unfold fndC
 rw [if_pos h]
theorem fndC_miss (t n : Bytes) (i : Nat) (p : Bytes × Bytes) (l : List (Bytes × Bytes)) (h : hitC t n p = false) : fndC t n i (p :: l) = fndC t n (i + 1) l:=by
 conv=>lhs; unfold fndC
 rw [if_neg (by rw [h]; decide)]
theorem formedL_mem : ∀ {l : List Ex},formedL l = true→∀ a ∈ l,a.formed = true
 | [],_,a,h=>by cases h
 | e :: l,hb,a,h=>by
  unfold formedL at hb
  rw [Bool.and_eq_true] at hb
  rcases List.mem_cons.1 h with rfl | h
  ·exact hb.1
  ·exact formedL_mem hb.2 a h
theorem formed_brief : ∀ e : Ex,e.formed = true→e.brief:=by
 refine Ex.ind fun op t n v args ih=>?_
 intro h
 unfold Ex.formed at h
 rw [Bool.and_eq_true] at h
 have hl : args.length≤2:=by
  have h1:=h.1
  unfold nodeOk at h1
  simp only [Bool.and_eq_true,decide_eq_true_eq] at h1
  have h2:=h1.1.1.1.2
  split at h2
  ·omega
  ·split at h2 <;> omega
 have key : ∀ l : List Ex,(∀ a ∈ l,a.formed = true→a.brief)→(∀ a ∈ l,a.formed = true)→briefL l:=by
  intro l
  induction l with
  | nil=>intro _ _; exact trivial
  | cons a l ihl=>
   intro h1 h2
   exact ⟨h1 a (by simp) (h2 a (by simp)),ihl (fun d hd=>h1 d (by simp [hd])) (fun d hd=>h2 d (by simp [hd]))⟩
 exact ⟨by omega,key args ih (formedL_mem h.2)⟩
def noteC : List Int→Int × Int
 | []=>(0,5)
 | [i]=>(i,0)
 | _=>(0,6)
theorem noteC_pick (l : List Int) : pickC l = if (noteC l).2 = 0 then .ok (.col (noteC l).1) else .error (noteC l).2:=by
 rcases l with _ | ⟨a,_ | ⟨b,l⟩⟩ <;> rfl
mutual
def Xp.short : Xp→Prop
 | .mk _ _ _ l=>l.length≤1000000∧shortL l
def shortL : List Xp→Prop
 | []=>True
 | e :: l=>Xp.short e∧shortL l
end
theorem shortL_mem : ∀ {l : List Xp},shortL l→∀ a ∈ l,a.short
 | [],_,a,h=>by cases h
 | e :: l,hb,a,h=>by
  rcases List.mem_cons.1 h with rfl | h
  ·exact hb.1
  ·exact shortL_mem hb.2 a h
theorem res_short (sc : List (Bytes × Bytes)) : ∀ e : Ex,e.brief→∀ x,Ex.res sc e = .ok x→x.short:=by
 refine Ex.ind fun op t n v args ih=>?_
 intro hb x h
 have key : ∀ l : List Ex,(∀ a ∈ l,a.brief→∀ x,Ex.res sc a = .ok x→x.short)→briefL l→∀ r,resL sc l = .ok r→r.length = l.length∧shortL r:=by
  intro l
  induction l with
  | nil=>
   intro _ _ r h
   unfold resL at h
   injection h with h
   subst h
   exact ⟨rfl,trivial⟩
  | cons a l ihl=>
   intro hl hbl r h
   unfold resL at h
   cases h1 : Ex.res sc a with
   | error x=>rw [h1] at h; cases h
   | ok x=>
    rw [h1] at h
    cases h2 : resL sc l with
    | error y=>rw [h2] at h; cases h
    | ok y=>
     rw [h2] at h
     injection h with h
     subst h
     obtain ⟨e1,e2⟩:=ihl (fun d hd=>hl d (by simp [hd])) hbl.2 _ h2
     exact ⟨by simp [e1],hl a (by simp) hbl.1 _ h1,e2⟩
 by_cases ho : op = 1
 ·subst ho
  rw [res_col] at h
  have key2 : ∀ l : List Int,pickC l = .ok x→x.short:=by
   intro l h
   rcases l with _ | ⟨i,_ | ⟨j,l⟩⟩
   ·cases h
   ·injection h with h
    subst h
    exact ⟨by simp,trivial⟩
   ·cases h
  exact key2 _ h
 ·rw [res_mk _ _ _ _ _ _ ho] at h
  cases h2 : resL sc args with
  | error y=>rw [h2] at h; cases h
  | ok y=>
   rw [h2] at h
   injection h with h
   subst h
   obtain ⟨e1,e2⟩:=key args ih hb.2 _ h2
   exact ⟨by have:=hb.1; simp [e1]; omega,e2⟩
theorem okX_short (sc : List (Bytes × Bytes)) (e : Ex) (hb : e.brief) : (okX (Ex.res sc e)).short:=by
 cases h : Ex.res sc e with
 | error k=>exact ⟨by simp,trivial⟩
 | ok x=>exact res_short sc e hb x h
def tablesP (sc : List Tbl) : Bool:=sc.all (fun t=>decide (t.cols.length≤20)) && decide (sc.length≤10)
theorem flatC_le {sc : List Tbl} {n : Nat} (h : ∀ t ∈ sc,t.cols.length≤n) : (flatC sc).length≤sc.length * n:=by
 induction sc with
 | nil=>simp [flatC]
 | cons t l ih=>
  rw [flatC_cons,List.length_append,List.length_map,List.length_cons,Nat.add_mul]
  have h1:=h t (by simp)
  have h2:=ih (fun u hu=>h u (by simp [hu]))
  omega
theorem tablesP_le {sc : List Tbl} (h : tablesP sc = true) : sc.length≤10∧(flatC sc).length≤200:=by
 unfold tablesP at h
 rw [Bool.and_eq_true,List.all_eq_true] at h
 have h2 : sc.length≤10:=by simpa using h.2
 refine ⟨h2,Nat.le_trans (flatC_le (n:=20) fun t ht=>by simpa using h.1 t ht) (by omega)⟩
def delE (e : Ex) : Stm:={ Stm.zero with kind:=8,table:=[116],where_:=e }
theorem delE_ok {e : Ex} (h : (delE e).formed = true) (h0 : e.op ≠ 0) : e.formed = true:=by
 unfold Stm.formed delE at h
 simp only [show ¬ ((8 : Int) = 1) by decide,show ¬ ((8 : Int) = 2) by decide,show ¬ ((8 : Int) = 3) by decide,show ¬ ((8 : Int) = 4) by decide,show ¬ ((8 : Int) = 5) by decide,show ¬ ((8 : Int) = 6) by decide,show ¬ ((8 : Int) = 7) by decide,if_false,if_true,Bool.and_eq_true] at h
 have h1:=h.1.2
 unfold condR at h1
 rw [Bool.or_eq_true] at h1
 rcases h1 with h1 | h1
 ·obtain ⟨op,t,n,v,args⟩:=e
  unfold Ex.isZero at h1
  simp only [Bool.and_eq_true,decide_eq_true_eq] at h1
  exact absurd h1.1.1.1.1 h0
 ·unfold Ex.good at h1
  rw [Bool.and_eq_true] at h1
  exact h1.2
end Go.Proofs.YtjmmbebkbkgefaaGreatDoor
