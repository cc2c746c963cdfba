/-
  Part 26 of the texts of one proof, made small by a program: see the last part for what is proved. No condition.
-/
import Derived.Test.YtimoefagohifaaaGreatDoorQ21
namespace Go.Proofs.YtimoefagohifaaaGreatDoor
open Go.RowKit Go.Sort
theorem refBool_any (b : Bool) (w : World) : Calls Tryz.prog 220 #[.bool b] w fun e w'=>e = .returned (V.bool b).val∧Below w.heap.size w w':=by
 cases b
 all_goals
  go_enter Tryz.func220,Tryz.ntmps220
  go_wp2
  go_returns
  exact ⟨rfl,by go_grown⟩
set_option maxRecDepth 100000 in
theorem refRight_any (v : V) (w : World) : Calls Tryz.prog 222 #[v.val] w fun e w'=>e = .returned (.bool v.right)∧Below w.heap.size w w':=by
 obtain ⟨k,n,s⟩:=v
 unfold V.val
 by_cases h0 : k = 0
 ·subst h0
  go_enter Tryz.func222,Tryz.ntmps222
  go_wp2
  all_goals go_returns
  all_goals refine ⟨ret_bool ?_,by go_grown⟩
  all_goals (simp [V.right, *] <;> omega)
 by_cases h1 : k = 1
 ·subst h1
  go_enter Tryz.func222,Tryz.ntmps222
  go_wp2
  all_goals go_returns
  all_goals refine ⟨ret_bool ?_,by go_grown⟩
  all_goals (simp [V.right, *] <;> omega)
 by_cases h2 : k = 2
 ·subst h2
  go_enter Tryz.func222,Tryz.ntmps222
  go_wp2
  all_goals go_returns
  all_goals refine ⟨ret_bool ?_,by go_grown⟩
  all_goals (simp [V.right, *] <;> omega)
 by_cases h3 : k = 3
 ·subst h3
  go_enter Tryz.func222,Tryz.ntmps222
  go_wp2
  all_goals go_returns
  all_goals refine ⟨ret_bool ?_,by go_grown⟩
  all_goals (simp [V.right, *] <;> omega)
 ·have e : V.right ⟨k,n,s⟩ = false:=by simp [V.right,h0,h1,h2,h3]
  rw [e]
  clear e
  go_enter Tryz.func222,Tryz.ntmps222
  go_wp2
  go_returns
  exact ⟨rfl,by go_grown⟩
theorem tmod_neg (m : Nat) : Int.tmod (-(m : Int)) 10 = -((m % 10 : Nat) : Int):=by rw [Int.neg_tmod]; rfl
theorem tdiv_neg (m : Nat) : Int.tdiv (-(m : Int)) 10 = -((m / 10 : Nat) : Int):=by rw [Int.neg_tdiv]; rfl
theorem decLen_pow (k : Nat) : ∀ u : Nat,u < 10 ^ (k + 1)→(Lib.decDigits u).length≤k + 1:=by
 induction k with
 | zero=>intro u h; rw [Lib.decDigits,dif_pos (by omega)]; simp
 | succ k ih=>
  intro u h
  rw [Lib.decDigits]
  split
  ·simp
  ·have:=ih (u / 10) (by rw [Nat.pow_succ] at h; omega)
   simp; omega
theorem decLen (u : Nat) (h : u≤1000000000000000) : (Lib.decDigits u).length≤16:=decLen_pow 15 u (by omega)
def digC (m : Nat) : UInt8:=UInt8.ofNat (48 + m % 10)
theorem digC_small {m : Nat} (h : m < 10) : digC m = UInt8.ofNat (48 + m):=by unfold digC; rw [Nat.mod_eq_of_lt h]
theorem dec_big {m : Nat} (h : ¬ m < 10) : Lib.decDigits m = Lib.decDigits (m / 10) ++ [digC m]:=by rw [Lib.decDigits,dif_neg h]; rfl
theorem conv_one (o m : Nat) (w : World) (h : w.cell? ⟨o,0,none⟩ = some (.int .u8 (48 + (m : Int) % 10))) : (convert 58 9 (.slice (some ⟨o,0,none⟩) 1 1)).run Tryz.prog w = .ok (.string ⟨#[digC m]⟩) w:=
 run_convert_bytes_back w 58 9 5 ⟨o,0,none⟩ 1 [digC m] Tryz.underlying58 Tryz.underlying5 Tryz.underlying9 (fun j hj=>by
  obtain rfl : j = 0:=by simp at hj; omega
  rw [addr_add]
  simp only [List.getElem_cons_zero]
  rw [h]
  simp [digC]
  omega)
set_option maxRecDepth 100000 in
theorem count_any (m : Nat) : m≤1000000000000000→∀ w : World,Calls Tryz.prog 277 #[.int .i64 (-(m : Int))] w fun e w'=>e = .returned (.string ⟨(Lib.decDigits m).toArray⟩)∧Below w.heap.size w w':=by
 induction m using Nat.strongRecOn with
 | _ m ih=>
 intro hm w
 have IH:=Lib.hid ih
 clear ih
 have hd : m % 10 < 10:=Nat.mod_lt _ (by decide)
 have t1:=tmod_neg m
 have t2:=tdiv_neg m
 have c1 : Hid (∀ o (w' : World),w'.cell? ⟨o,0,none⟩ = some (.int .u8 (48 + (m : Int) % 10))→(convert 58 9 (.slice (some ⟨o,0,none⟩) 1 1)).run Tryz.prog w' = .ok (.string ⟨#[digC m]⟩) w'):=fun o w' h=>conv_one o m w' h
 have c2:=c1.out w.heap.size (w.alloc (.cells #[.int .u8 (48 + (m : Int) % 10)] 5)) (by go_cell)
 by_cases h10 : m < 10
 ·go_enter Tryz.func277,Tryz.ntmps277
  go_wp2_with fail
  go_returns
  refine ⟨?_,by go_grown⟩
  rw [Lib.decDigits,dif_pos h10,← digC_small h10]
  rfl
 ·have hz:=fun w=>run_string_add_lists (P:=Tryz.prog) (w:=w) (Lib.decDigits (m / 10)) [digC m] (by have:=decLen (m / 10) (by omega); omega) (by simp)
  have IH1:=Lib.hid (fun w=>IH.out (m / 10) (by omega) (by omega) w)
  have ed : -((m : Int) / 10) = -((m / 10 : Nat) : Int):=by omega
  go_enter Tryz.func277,Tryz.ntmps277
  go_wp2_with fail
  refine (IH1.out _).mono ?_
  rintro e w1 ⟨rfl,hb1⟩
  have HB1:=Lib.hid hb1
  clear hb1
  go_wp2_with fail
  go_returns
  refine ⟨?_,?_⟩
  ·rw [dec_big h10]
   rfl
  ·exact ((Below.refl _ w).alloc (Nat.le_refl _) _).trans (HB1.out.mono (by simp))
theorem rdigits_any (n : Int) (h0 : -1000000000000000≤n) (h1 : n≤1000000000000000) (w : World) : Calls Tryz.prog 258 #[.int .i64 n] w fun e w'=>e = .returned (.string ⟨(Lib.itoa n).toArray⟩)∧Below w.heap.size w w':=by
 by_cases hn : n < 0
 ·obtain ⟨m,rfl⟩ : ∃ m : Nat,n = -(m : Int):=⟨n.natAbs,by omega⟩
  have C:=Lib.hid (fun w=>count_any m (by omega) w)
  have hz:=fun w=>run_string_add_lists (P:=Tryz.prog) (w:=w) [45] (Lib.decDigits m) (by simp) (by have:=decLen m (by omega); omega)
  have e1 : Lib.itoa (-(m : Int)) = 45 :: Lib.decDigits m:=by unfold Lib.itoa; rw [if_pos hn]; simp
  rw [e1]
  clear e1
  go_enter Tryz.func258,Tryz.ntmps258
  go_wp2_with fail
  refine (C.out _).mono ?_
  rintro e w1 ⟨rfl,hb1⟩
  have HB1:=Lib.hid hb1
  clear hb1
  go_wp2_with fail
  go_returns
  exact ⟨by simp,HB1.out⟩
 ·obtain ⟨m,rfl⟩ : ∃ m : Nat,n = (m : Int):=⟨n.natAbs,by omega⟩
  have C:=Lib.hid (fun w=>count_any m (by omega) w)
  have e1 : Lib.itoa (m : Int) = Lib.decDigits m:=by unfold Lib.itoa; rw [if_neg hn]; simp
  rw [e1]
  clear e1
  go_enter Tryz.func258,Tryz.ntmps258
  go_wp2_with fail
  refine (C.out _).mono ?_
  rintro e w1 ⟨rfl,hb1⟩
  have HB1:=Lib.hid hb1
  clear hb1
  go_wp2_with fail
  go_returns
  exact ⟨rfl,HB1.out⟩
theorem conv_hex (d : Nat) (h : d < 16) (w : World) : (convert 3 5 (.int .i64 (if d < 10 then 48 + (d : Int) else 87 + (d : Int)))).run Tryz.prog w = .ok (.int .u8 ((hexD d).toNat : Int)) w:=by
 obtain rfl | rfl | rfl | rfl | rfl | rfl | rfl | rfl | rfl | rfl | rfl | rfl | rfl | rfl | rfl | rfl:=lt16 d h
 all_goals kernel_rfl
theorem hex_any (d : Nat) (h : d < 16) (w : World) : Calls Tryz.prog 259 #[.int .i64 (d : Int)] w fun e w'=>e = .returned (.int .u8 ((hexD d).toNat : Int))∧w = w':=by
 have hc:=fun w=>conv_hex d h w
 by_cases h10 : d < 10
 ·rw [if_pos h10] at hc
  go_enter Tryz.func259,Tryz.ntmps259
  go_wp2
  go_returns
  exact ⟨rfl,rfl⟩
 ·rw [if_neg h10] at hc
  go_enter Tryz.func259,Tryz.ntmps259
  go_wp2
  go_returns
  exact ⟨rfl,rfl⟩
theorem hex_div (c : Nat) (h : c < 256) (w : World) : Calls Tryz.prog 259 #[.int .i64 ((c : Int) / 16)] w fun e w'=>e = .returned (.int .u8 ((hexD (c / 16)).toNat : Int))∧w = w':=by
 rw [show (c : Int) / 16 = ((c / 16 : Nat) : Int) by omega]; exact hex_any _ (by omega) w
theorem hex_mod (c : Nat) (w : World) : Calls Tryz.prog 259 #[.int .i64 ((c : Int) % 16)] w fun e w'=>e = .returned (.int .u8 ((hexD (c % 16)).toNat : Int))∧w = w':=by
 rw [show (c : Int) % 16 = ((c % 16 : Nat) : Int) by omega]; exact hex_any _ (by omega) w
set_option maxRecDepth 100000 in
set_option maxHeartbeats 800000 in
theorem refPrint_text (s : ByteArray) (n : Int) (w : World) (hs : s.size≤1000000) :
  Calls Tryz.prog 223 #[.agg #[.int .i64 2,.int .i64 n,.string s]] w fun e w'=>e = .returned (.string ⟨(printText s).toArray⟩)∧Below w.heap.size w w':=by
 go_enter Tryz.func223,Tryz.ntmps223
 go_wp2_with fail
 go_loopw [3,4] (fun o i wr=>∃ k : Nat,k≤s.size∧i = .int .i64 k∧OwnsBytes wr (w.heap.size + 1) o (escTo s k)∧Below (w.heap.size + 1) (w.alloc (Obj.cells #[.int .i64 2,.int .i64 n,.string s] 42)) wr) (fun _ i _=>s.size - (intOf i).toNat)
 case atStart=>exact ⟨0,by omega,rfl,⟨rfl,Or.inr ⟨w.heap.size + 1,1,#[.int .u8 39],rfl,Nat.le_refl _,by repeat (first | (refine blk_same _ _ _ ?_; focus (simp; done)) | (refine blk_old ?_ ?_; focus (first | omega | (simp; done) | (simp; omega)))),Nat.le_refl _,by simp [maxLen],rfl,rfl⟩⟩,(Below.refl _ _).alloc (by simp) _⟩
 case round=>
  obtain ⟨k,hk,rfl,hown,hb⟩:=hrel
  have HO:=Lib.hid hown
  have HB:=Lib.hid hb
  have x2 : wr.cell? ⟨w.heap.size,2,none⟩ = some (.string s):=hb.cell_some (by omega) (by go_cell)
  clear hown hb
  by_cases hlt : k < s.size
  ·have hb256 : s[k].toNat < 256:=s[k].toNat_lt
   have hlen:=escLen s k
   cases hp : plainB (s[k].toNat : Int)
   ·have HP : Hid (plainB (s[k].toNat : Int) = false):=hp
    have hp' : decide ((s[k].toNat : Int) < 32) = true∨(decide ((s[k].toNat : Int) < 32) = false∧decide (126 < (s[k].toNat : Int)) = true)∨(decide ((s[k].toNat : Int) < 32) = false∧decide (126 < (s[k].toNat : Int)) = false∧((s[k].toNat : Int) == 39) = true)∨(decide ((s[k].toNat : Int) < 32) = false∧decide (126 < (s[k].toNat : Int)) = false∧((s[k].toNat : Int) == 39) = false∧((s[k].toNat : Int) == 92) = true):=by
     unfold plainB at hp; simp at hp ⊢; omega
    have H1:=Lib.hid (fun w=>hex_div s[k].toNat hb256 w)
    have H2:=Lib.hid (fun w=>hex_mod s[k].toNat w)
    clear hp
    rcases hp' with t1 | ⟨t1,t2⟩ | ⟨t1,t2,t3⟩ | ⟨t1,t2,t3,t4⟩
    all_goals
     go_wp2_with fail
     refine (H1.out _).mono ?_
     rintro e w' ⟨rfl,rfl⟩
     go_wp2_with fail
     refine (H2.out _).mono ?_
     rintro e w' ⟨rfl,rfl⟩
     go_wp2_with (at_builtin; go_must (refine wpList_append_new rfl _ _ 58 rfl 5 (.int .u8 0) 1 Tryz.underlying58 info5 rfl (w.heap.size + 1) u3 _ _ rfl HO.out #[.int .u8 92,.int .u8 ((hexD (s[k].toNat / 16)).toNat : Int),.int .u8 ((hexD (s[k].toNat % 16)).toNat : Int)] wr.heap.size rfl rfl (by simp [Value.oneCell']) (by simp; omega) (by simp [maxLen]; omega) (by have:=HB.out.size; simp at this; omega) ?_))
     intro v3 w3 hown3 hg3
     have HO3:=Lib.hid hown3
     have HB3 : Hid (Below (w.heap.size + 1) (w.alloc (Obj.cells #[.int .i64 2,.int .i64 n,.string s] 42)) w3):=Below.grown HB.out hg3 (by have:=HB.out.size; simp at this; omega) (fun k hk=>(World.ownsRow.lt HO.out k hk).1)
     clear hown3 hg3
     go_wp2_with fail
     go_roundw
     case rel=>exact ⟨k + 1,by omega,by go_num,OwnsBytes.of HO3.out (by rw [esc_snoc s k hlt,escB,HP.out,bytesV_append]; rfl),HB3.out⟩
     case measure=>simp [intOf]; omega
   ·have HP : Hid (plainB (s[k].toNat : Int) = true):=hp
    have hp' : decide ((s[k].toNat : Int) < 32) = false∧decide (126 < (s[k].toNat : Int)) = false∧((s[k].toNat : Int) == 39) = false∧((s[k].toNat : Int) == 92) = false:=by
     unfold plainB at hp; simp at hp ⊢; omega
    clear hp
    obtain ⟨t1,t2,t3,t4⟩:=hp'
    go_wp2_with (at_builtin; go_must (refine wpList_append_new rfl _ _ 58 rfl 5 (.int .u8 0) 1 Tryz.underlying58 info5 rfl (w.heap.size + 1) u3 _ _ rfl HO.out #[.int .u8 (s[k].toNat : Int)] wr.heap.size rfl rfl (by simp [Value.oneCell']) (by simp; omega) (by simp [maxLen]; omega) (by have:=HB.out.size; simp at this; omega) ?_))
    intro v3 w3 hown3 hg3
    have HO3:=Lib.hid hown3
    have HB3 : Hid (Below (w.heap.size + 1) (w.alloc (Obj.cells #[.int .i64 2,.int .i64 n,.string s] 42)) w3):=Below.grown HB.out hg3 (by have:=HB.out.size; simp at this; omega) (fun k hk=>(World.ownsRow.lt HO.out k hk).1)
    clear hown3 hg3
    go_wp2_with fail
    go_roundw
    case rel=>exact ⟨k + 1,by omega,by go_num,OwnsBytes.of HO3.out (by rw [esc_snoc s k hlt,escB,HP.out,bytesV_append]; rfl),HB3.out⟩
    case measure=>simp [intOf]; omega
  ·obtain rfl : k = s.size:=by omega
   have hlen:=escLen s s.size
   go_wp2_with (at_builtin; go_must (refine wpList_append_new rfl _ _ 58 rfl 5 (.int .u8 0) 1 Tryz.underlying58 info5 rfl (w.heap.size + 1) u3 _ _ rfl HO.out #[.int .u8 39] wr.heap.size rfl rfl (by simp [Value.oneCell']) (by simp; omega) (by simp [maxLen]; omega) (by have:=HB.out.size; simp at this; omega) ?_))
   intro v3 w3 hown3 hg3
   have ho3 : OwnsBytes w3 (w.heap.size + 1) v3 (printText s):=OwnsBytes.of hown3 (by rw [← esc_all,bytesV_append]; rfl)
   have HB3 : Hid (Below (w.heap.size + 1) (w.alloc (Obj.cells #[.int .i64 2,.int .i64 n,.string s] 42)) w3):=Below.grown HB.out hg3 (by have:=HB.out.size; simp at this; omega) (fun k hk=>(World.ownsRow.lt HO.out k hk).1)
   obtain ⟨g,cap,rfl,hconv⟩:=ho3.string (by simp [printText])
   clear hown3 hg3 ho3
   go_wp2_with fail
   go_returns
   exact ⟨rfl,((Below.refl _ w).alloc (Nat.le_refl _) _).trans (HB3.out.mono (by omega))⟩
set_option maxRecDepth 100000 in
theorem refPrint_any (v : V) (hr : v.right = true) (w : World) : Calls Tryz.prog 223 #[v.val] w fun e w'=>e = .returned (.string ⟨v.print.toArray⟩)∧Below w.heap.size w w':=by
 obtain ⟨k,n,s⟩:=v
 have hk : k = 0∨k = 1∨k = 2∨k = 3:=by
  unfold V.right at hr; simp only at hr
  repeat' split at hr
  all_goals first | omega | (cases hr)
 unfold V.val
 obtain rfl | rfl | rfl | rfl:=hk
 ·clear hr
  go_enter Tryz.func223,Tryz.ntmps223
  go_wp2
  go_returns
  exact ⟨rfl,by go_grown⟩
 ·have hn : -1000000000000000≤n∧n≤1000000000000000:=by simp [V.right] at hr; omega
  clear hr
  have C:=Lib.hid (fun w=>rdigits_any n hn.1 hn.2 w)
  go_enter Tryz.func223,Tryz.ntmps223
  go_wp2_with fail
  refine (C.out _).mono ?_
  rintro e w1 ⟨rfl,hb1⟩
  have HB1:=Lib.hid hb1
  clear hb1
  go_wp2_with fail
  go_returns
  exact ⟨rfl,((Below.refl _ w).alloc (Nat.le_refl _) _).trans (HB1.out.mono (by simp))⟩
 ·have hn : s.size≤40:=by simp [V.right] at hr; omega
  exact refPrint_text s n w (by omega)
 ·clear hr
  cases h1 : (n == 1)
  all_goals
   have H1:=Lib.hid h1
   go_enter Tryz.func223,Tryz.ntmps223
   go_wp2
   go_returns
   refine ⟨?_,by go_grown⟩
   simp [V.print,H1.out]
   rfl
def digI (c : Nat) : Int:=if 48≤c∧c≤57 then (c : Int) - 48 else if 97≤c∧c≤102 then (c : Int) - 87 else -1
def dig0 (c : UInt8) : Nat:=(max 0 (digI c.toNat)).toNat
theorem digI_bound (c : Nat) : -1 ≤ digI c ∧ digI c ≤ 15 := by unfold digI; repeat' split
                                                               all_goals omega
def gT : List UInt8→List UInt8
 | c :: x :: r=>if c = 92 then (match r with | y :: r'=>UInt8.ofNat (dig0 x * 16 + dig0 y) :: gT r' | []=>[c]) else c :: gT (x :: r)
 | _=>[]
def gFold : Int→List UInt8→Int
 | a,[]=>a
 | a,c :: l=>gFold (if c = 45 then a else a * 10 + (c.toNat : Int) - 48) l
def gNum (L : List UInt8) : Int:=if L.head? = some 45 then -gFold 0 (L.take 14) else gFold 0 (L.take 14)
def guess (L : List UInt8) : V:=
 if L = bTrue then V.bool true else if L = bFalse then V.bool false else if L.head? = some 39 then ⟨2,0,⟨(gT (L.drop 1)).toArray⟩⟩ else if L = bNull then V.null else ⟨1,gNum L,⟨#[]⟩⟩
def refP (L : List UInt8) : Option V:=if (guess L).right = true∧(guess L).print = L then some (guess L) else none
theorem digit_any (c : Nat) (hc : c < 256) (w : World) : Calls Tryz.prog 221 #[.int .u8 (c : Int)] w fun e w'=>e = .returned (.int .i64 (digI c))∧Below w.heap.size w w':=by
 unfold digI
 by_cases h1 : 48≤c∧c≤57
 ·rw [if_pos h1]
  obtain ⟨a1,a2⟩:=h1
  go_enter Tryz.func221,Tryz.ntmps221
  go_wp2
  go_returns
  exact ⟨rfl,Below.refl _ _⟩
 ·rw [if_neg h1]
  by_cases h2 : 97≤c∧c≤102
  ·rw [if_pos h2]
   obtain ⟨a1,a2⟩:=h2
   clear h1
   go_enter Tryz.func221,Tryz.ntmps221
   go_wp2
   go_returns
   exact ⟨ret_int (by omega),Below.refl _ _⟩
  ·rw [if_neg h2]
   have h : c < 48∨(57 < c∧c < 97)∨102 < c:=by omega
   clear h1 h2
   rcases h with h | ⟨h,h'⟩ | h
   all_goals
    go_enter Tryz.func221,Tryz.ntmps221
    go_wp2
    go_returns
    exact ⟨rfl,Below.refl _ _⟩
set_option maxRecDepth 100000 in
set_option maxHeartbeats 8000000 in
theorem refParse_bool (b : Bool) (s : ByteArray) (w : World) (h : s.data.toList = if b then bTrue else bFalse) : Calls Tryz.prog 158 #[.string s] w fun e w'=>e = .returned (parseRes (refP s.data.toList))∧Below w.heap.size w w':=by
 have HG : Hid (guess s.data.toList = V.bool b):=by show _ = _; rw [h]; cases b <;> rfl
 have e2 : (s.toList == [116,114,117,101]) = b:=by cases b; exact eq_no (by rw [h]; decide); exact eq_yes h
 have e3 : (s.toList == [102,97,108,115,101]) = !b:=by cases b; exact eq_yes h; exact eq_no (by rw [h]; decide)
 have B : Hid (∀ w,Calls Tryz.prog 220 #[.bool b] w fun e w'=>e = .returned (.agg #[.int .i64 3,.int .i64 (b2i b),.string ⟨#[]⟩])∧Below w.heap.size w w'):=fun w=>refBool_any b w
 have HR : Hid (refP s.data.toList = some (V.bool b)):=by
  show _ = _
  rw [refP,HG.out,if_pos ⟨by cases b <;> decide +kernel,by rw [h]; cases b; exact fmtFalse; exact fmtTrue⟩]
 have R : Hid (∀ w,Calls Tryz.prog 222 #[.agg #[.int .i64 3,.int .i64 (b2i b),.string ⟨#[]⟩]] w fun e w'=>e = .returned (.bool true)∧Below w.heap.size w w'):=fun w=>by
  have:=refRight_any (V.bool b) w
  rw [show (V.bool b).right = true by cases b <;> decide +kernel] at this
  exact this
 have P : Hid (∀ w,Calls Tryz.prog 223 #[.agg #[.int .i64 3,.int .i64 (b2i b),.string ⟨#[]⟩]] w fun e w'=>e = .returned (.string s)∧Below w.heap.size w w'):=fun w=>by
  have:=refPrint_any (V.bool b) (by cases b <;> decide +kernel) w
  rw [show (⟨(V.bool b).print.toArray⟩ : ByteArray) = s by
   rw [show (V.bool b).print = s.data.toList by rw [h]; cases b; exact fmtFalse; exact fmtTrue]] at this
  exact this
 have f1 : (s.toList == s.toList) = true:=by simp
 clear h HG
 cases b
 all_goals
  go_enter Tryz.func158,Tryz.ntmps158
  go_wp2_with fail
  refine Calls.mono (B.out _) ?_
  rintro e w1 ⟨rfl,hb1⟩
  refine St.call (St.alloc (St.alloc (St.start _))) hb1 ?_
  intro S1
  clear hb1
  try (simp only [World.size_alloc] at S1)
  have F1:=S1.out.facts
  simp only [St.Facts,cellFacts,apartFacts,and_true] at F1
  go_wp2_with fail
  refine Calls.mono (R.out _) ?_
  rintro e w2 ⟨rfl,hb2⟩
  refine St.call (St.set 0 (St.set 0 (St.set 0 (S1.out) rfl) rfl) rfl) hb2 ?_
  intro S2
  clear hb2
  try (simp only [List.set_cons_zero,List.set_cons_succ,List.setIfInBounds_toArray] at S2)
  clear F1
  have F2:=S2.out.facts
  simp only [St.Facts,cellFacts,apartFacts,and_true] at F2
  go_wp2_with fail
  refine Calls.mono (P.out _) ?_
  rintro e w3 ⟨rfl,hb3⟩
  refine St.call (S2.out) hb3 ?_
  intro S3
  clear hb3
  try (simp only [List.set_cons_zero,List.set_cons_succ,List.setIfInBounds_toArray,World.size_alloc] at S3)
  clear F2
  have F3:=S3.out.facts
  simp only [St.Facts,cellFacts,apartFacts,and_true] at F3
  go_wp2_with fail
 ·refine bodyPost_ret (v:=.tuple #[.agg #[.int .i64 3,.int .i64 (b2i false),.string ⟨#[]⟩],.bool true]) (by simp [results,Tryz.results158,go_sem,F3]) rfl ⟨by rw [HR.out]; rfl,?_⟩
  exact (St.set 1 (St.set 1 (St.set 1 S3.out rfl) rfl) rfl).below
 ·refine bodyPost_ret (v:=.tuple #[.agg #[.int .i64 3,.int .i64 (b2i true),.string ⟨#[]⟩],.bool true]) (by simp [results,Tryz.results158,go_sem,F3]) rfl ⟨by rw [HR.out]; rfl,?_⟩
  exact (St.set 1 (St.set 1 (St.set 1 S3.out rfl) rfl) rfl).below
theorem gFold_snoc (l : List UInt8) (c : UInt8) : ∀ a,gFold a (l ++ [c]) = (if c = 45 then gFold a l else gFold a l * 10 + (c.toNat : Int) - 48):=by
 induction l with
 | nil=>intro a; rfl
 | cons d l ih=>intro a; simp only [List.cons_append,gFold,ih]
theorem gFold_bound (l : List UInt8) : -(23 * (10 ^ l.length - 1 : Nat) : Int)≤gFold 0 l∧gFold 0 l≤(23 * (10 ^ l.length - 1 : Nat) : Int):=by
 have key : ∀ (k : Nat) (l : List UInt8),l.length = k→-(23 * (10 ^ k - 1 : Nat) : Int)≤gFold 0 l∧gFold 0 l≤(23 * (10 ^ k - 1 : Nat) : Int):=by
  intro k
  induction k with
  | zero=>intro l hl; have:=List.eq_nil_of_length_eq_zero hl; subst this; simp [gFold]
  | succ k ih=>
   intro l hl
   have hne : l ≠ []:=by intro e; rw [e] at hl; simp at hl
   rw [← List.dropLast_concat_getLast hne,gFold_snoc]
   have h1:=ih l.dropLast (by simp; omega)
   have h2:=(l.getLast hne).toNat_lt
   have h3 : 10 ^ (k + 1) = 10 * 10 ^ k:=by rw [Nat.pow_succ]; omega
   have h4 : 0 < 10 ^ k:=Nat.pow_pos (by decide)
   rw [h3]
   split <;> omega
 exact key l.length l rfl
set_option maxRecDepth 100000 in
set_option maxHeartbeats 8000000 in
theorem refParse_null (s : ByteArray) (w : World) (h : s.data.toList = bNull) : Calls Tryz.prog 158 #[.string s] w fun e w'=>e = .returned (parseRes (refP s.data.toList))∧Below w.heap.size w w':=by
 have HR : Hid (refP s.data.toList = some V.null):=by
  show _ = _
  rw [refP,show guess s.data.toList = V.null by rw [h]; rfl,if_pos ⟨by decide +kernel,by rw [h]; rfl⟩]
 have e1 : (s.toList == [110,117,108,108]) = true:=eq_yes h
 have e2 : (s.toList == [116,114,117,101]) = false:=eq_no (by rw [h]; decide)
 have e3 : (s.toList == [102,97,108,115,101]) = false:=eq_no (by rw [h]; decide)
 have hsz : s.size = 4:=by have : s.data.toList.length = s.size:=Array.length_toList; rw [h] at this; exact this.symm
 have h0 : 0 < s.size:=by omega
 have t39 : ((s[0].toNat : Int) == 39) = false:=by
  have : s[0] = 110:=by
   have h1 : s.data.toList[0]? = some s[0]:=List.getElem?_eq_some_iff.2 ⟨by simpa using h0,rfl⟩
   rw [h] at h1
   exact (Option.some.inj h1).symm
  rw [this]; rfl
 have R : Hid (∀ w,Calls Tryz.prog 222 #[.agg #[.int .i64 0,.int .i64 0,.string ⟨#[]⟩]] w fun e w'=>e = .returned (.bool true)∧Below w.heap.size w w'):=fun w=>by
  have:=refRight_any V.null w
  rw [show V.null.right = true by decide +kernel] at this
  exact this
 have P : Hid (∀ w,Calls Tryz.prog 223 #[.agg #[.int .i64 0,.int .i64 0,.string ⟨#[]⟩]] w fun e w'=>e = .returned (.string s)∧Below w.heap.size w w'):=fun w=>by
  have:=refPrint_any V.null (by decide +kernel) w
  rw [show (⟨V.null.print.toArray⟩ : ByteArray) = s by rw [show V.null.print = s.data.toList by rw [h]; rfl]] at this
  exact this
 have f1 : (s.toList == s.toList) = true:=by simp
 have hp : (0 : Int) < (s.size : Int):=by omega
 clear h hsz
 go_enter Tryz.func158,Tryz.ntmps158
 go_wp2_with fail
 refine Calls.mono (R.out _) ?_
 rintro e w2 ⟨rfl,hb2⟩
 refine St.call (St.alloc (St.alloc (St.start _))) hb2 ?_
 intro S2
 clear hb2
 try (simp only [World.size_alloc] at S2)
 have F2:=S2.out.facts
 simp only [St.Facts,cellFacts,apartFacts,and_true] at F2
 go_wp2_with fail
 refine Calls.mono (P.out _) ?_
 rintro e w3 ⟨rfl,hb3⟩
 refine St.call (S2.out) hb3 ?_
 intro S3
 clear hb3
 try (simp only [List.set_cons_zero,List.set_cons_succ,List.setIfInBounds_toArray,World.size_alloc] at S3)
 clear F2
 have F3:=S3.out.facts
 simp only [St.Facts,cellFacts,apartFacts,and_true] at F3
 go_wp2_with fail
 refine bodyPost_ret (v:=.tuple #[.agg #[.int .i64 0,.int .i64 0,.string ⟨#[]⟩],.bool true]) (by simp [results,Tryz.results158,go_sem,F3]) rfl ⟨by rw [HR.out]; rfl,?_⟩
 exact (St.set 1 (St.set 1 (St.set 1 S3.out rfl) rfl) rfl).below
set_option maxRecDepth 100000 in
set_option maxHeartbeats 8000000 in
theorem refParse_num (s : ByteArray) (w : World) (hs : s.size≤1000000) (h1 : s.data.toList ≠ bNull) (h2 : s.data.toList ≠ bTrue) (h3 : s.data.toList ≠ bFalse) (h4 : s.data.toList.head? ≠ some 39) :
  Calls Tryz.prog 158 #[.string s] w fun e w'=>e = .returned (parseRes (refP s.data.toList))∧Below w.heap.size w w':=by
 have HG : Hid (guess s.data.toList = ⟨1,gNum s.data.toList,⟨#[]⟩⟩):=by show _ = _; rw [guess,if_neg h2,if_neg h3,if_neg h4,if_neg h1]
 have e1 : (s.toList == [110,117,108,108]) = false:=eq_no h1
 have e2 : (s.toList == [116,114,117,101]) = false:=eq_no h2
 have e3 : (s.toList == [102,97,108,115,101]) = false:=eq_no h3
 have hl : s.data.toList.length = s.size:=Array.length_toList
 have hh : ∀ h : 0 < s.size,s.data.toList.head? = some s[0]:=fun h=>by
  rw [List.head?_eq_getElem?]; exact List.getElem?_eq_some_iff.2 ⟨by simpa using h,rfl⟩
 have HH:=Lib.hid hh
 have HL:=Lib.hid hl
 have t39 : ∀ h : 0 < s.size,((s[0].toNat : Int) == 39) = false:=fun h=>by
  rw [beq_eq_false_iff_ne]; intro e
  exact h4 (by rw [hh h,show s[0] = 39 from UInt8.toNat_inj.1 (by simp; omega)])
 have HT:=Lib.hid t39
 clear h1 h2 h3 h4 hl hh t39
 obtain ⟨N0,hN0⟩ : ∃ N0,N0 = gNum s.data.toList:=⟨_,rfl⟩
 rw [← hN0] at HG
 have HN0:=Lib.hid hN0
 clear hN0
 by_cases hp : 0 < s.size
 ·have t39:=HT.out hp
  clear HT
  go_enter Tryz.func158,Tryz.ntmps158
  go_wp2_with fail
  go_loopw [8] (fun i wr=>∃ (k : Nat) (N : Int),k≤s.size∧k≤14∧i = .int .i64 k∧Hid (N = gFold 0 (s.data.toList.take k))∧Hid (St w wr [(w.heap.size + 1,#[.int .i64 1,.int .i64 N,.string ⟨#[]⟩],42),(w.heap.size,#[.int .i64 0,.int .i64 0,.string ⟨#[]⟩],42)])) (fun i _=>s.size - (intOf i).toNat)
  case atStart=>exact ⟨0,0,by omega,by omega,rfl,by show _ = _; simp [gFold],by
   show St _ _ _
   have S0:=Lib.hid (St.alloc (cs:=#[.int .i64 1,.int .i64 0,.string ⟨#[]⟩]) (t:=42) (St.alloc (cs:=#[.int .i64 0,.int .i64 0,.string ⟨#[]⟩]) (t:=42) (St.start w)))
   simp only [World.size_alloc] at S0
   exact S0.out⟩
  case round=>
   obtain ⟨k,N,hk,hk14,rfl,HN,S1⟩:=hrel
   have hbd:=gFold_bound (s.data.toList.take k)
   rw [← HN.out,List.length_take,HL.out,show min k s.size = k by omega] at hbd
   have hpow : 10 ^ k≤100000000000000:=Nat.le_trans (Nat.pow_le_pow_right (by decide) hk14) (by decide)
   have n1 : -2300000000000000≤N:=by omega
   have n2 : N≤2300000000000000:=by omega
   clear hbd hpow
   have F1:=S1.out.facts
   simp only [St.Facts,cellFacts,apartFacts,and_true] at F1
   by_cases hlt : k < s.size∧k < 14
   ·obtain ⟨hlt1,hlt2⟩:=hlt
    have hc256 : s[k].toNat < 256:=s[k].toNat_lt
    have HS:=Lib.hid (take_snoc s k hlt1)
    cases t45 : ((s[k].toNat : Int) != 45)
    ·have h45 : s[k] = 45:=by
      have : (s[k].toNat : Int) = 45:=by simpa using t45
      exact UInt8.toNat_inj.1 (by simp; omega)
     have HN1 : Hid (N = gFold 0 (s.data.toList.take (k + 1))):=by show _ = _; rw [HS.out,gFold_snoc,if_pos h45]; exact HN.out
     clear h45
     go_wp2_with fail
     go_roundw
     case rel=>exact ⟨k + 1,N,by omega,by omega,by go_num,HN1.out,S1.out⟩
     case measure=>simp [intOf]; omega
    ·have h45 : s[k] ≠ 45:=by
      intro e; rw [e] at t45; exact absurd t45 (by decide)
     have HN1 : Hid (N * 10 + (s[k].toNat : Int) - 48 = gFold 0 (s.data.toList.take (k + 1))):=by show _ = _; rw [HS.out,gFold_snoc,if_neg h45,← HN.out]
     clear h45
     go_wp2_with fail
     clear F1
     have F1:=S1.out.factsG
     simp only [St.FactsG,cellFactsG,and_true] at F1
     have x1 : IntKind.i64.wrap (N * 10) = N * 10:=IntWalk.i64_in _ (by omega)
     have x2 : IntKind.i64.wrap (N * 10 + (s[k].toNat : Int)) = N * 10 + (s[k].toNat : Int):=IntWalk.i64_in _ (by omega)
     have x3 : IntKind.i64.wrap (N * 10 + (s[k].toNat : Int) - 48) = N * 10 + (s[k].toNat : Int) - 48:=IntWalk.i64_in _ (by omega)
     have x4 : IntKind.i64.wrap (s[k].toNat : Int) = (s[k].toNat : Int):=IntWalk.i64_in _ (by omega)
     refine wp_region_mixed 10 [(0,false),(1,false),(2,false),(3,false),(4,false),(5,false),(6,false),(7,false),(8,false),(9,false)] (by kernel_rfl) (by kernel_rfl) ?_
     repeat (refine wpM_mild rfl (fun K hK=>?_); go_simp; first | (refine hK _ ?_; clear hK K) | (apply Exists.intro; refine ⟨fun _=>?_,hK _ ?_⟩; (fail); clear hK K))
     refine wpM_tail ?_
     intro w2 hb2 _
     refine St.call (S1.out) hb2 ?_
     intro S2
     clear hb2
     try (simp only [List.set_cons_zero,List.set_cons_succ,List.setIfInBounds_toArray,World.size_alloc] at S2)
     clear F1 x1 x2 x3 x4
     have F2:=S2.out.facts
     simp only [St.Facts,cellFacts,apartFacts,and_true] at F2
     simp only [List.drop_succ_cons,List.drop_zero]
     go_wp2_with fail
     go_roundw
     case rel=>exact ⟨k + 1,N * 10 + (s[k].toNat : Int) - 48,by omega,by omega,by go_num,HN1.out,St.set 0 S2.out rfl⟩
     case measure=>simp [intOf]; omega
   ·have HN1 : Hid (N = gFold 0 (s.data.toList.take 14)):=by
     show _ = _
     rw [HN.out]
     by_cases h14 : k = 14
     ·rw [h14]
     ·have hl:=HL.out
      rw [List.take_of_length_le (by omega),List.take_of_length_le (by omega)]
    have hg : N0 = if s[0] = 45 then -N else N:=by
     rw [HN0.out,gNum,HH.out hp,HN1.out]
     by_cases h : s[0] = 45 <;> simp [h]
    have hcond : k < s.size→¬ k < 14:=fun h h'=>hlt ⟨h,h'⟩
    cases t45 : ((s[0].toNat : Int) == 45)
    ·have h45 : s[0] ≠ 45:=by intro e; rw [e] at t45; exact absurd t45 (by decide)
     rw [if_neg h45] at hg
     subst hg
     clear h45 HN1 HN HN0
     by_cases hks : k < s.size
     ·have hk2:=hcond hks
      clear hlt hcond
      cases hr : V.right (V.mk 1 N0 ⟨#[]⟩)
      all_goals
       have R:=Lib.hid (fun w=>refRight_any (V.mk 1 N0 ⟨#[]⟩) w)
       rw [hr] at R
       have HRR:=Lib.hid hr
      ·have HR : Hid (refP s.data.toList = none):=by show _ = _; rw [refP,HG.out,if_neg (by simp [hr])]
       clear hr
       go_wp2_with fail
       refine Calls.mono (R.out _) ?_
       rintro e w21 ⟨rfl,hb21⟩
       refine St.call (S1.out) hb21 ?_
       intro S21
       clear hb21
       try (simp only [List.set_cons_zero,List.set_cons_succ,List.setIfInBounds_toArray,World.size_alloc] at S21)
       have F21:=S21.out.facts
       simp only [St.Facts,cellFacts,apartFacts,and_true] at F21
       go_wp2_with fail
       refine bodyPost_ret (v:=.tuple #[.agg #[.int .i64 0,.int .i64 0,.string ⟨#[]⟩],.bool false]) (by simp [results,Tryz.results158,go_sem,F21]) rfl ⟨by rw [HR.out]; rfl,?_⟩
       exact (St.set 1 (St.set 1 (St.set 1 S21.out rfl) rfl) rfl).below
      ·have P:=Lib.hid (fun w=>refPrint_any (V.mk 1 N0 ⟨#[]⟩) hr w)
       obtain ⟨X,hX⟩ : ∃ X,X = V.print (V.mk 1 N0 ⟨#[]⟩):=⟨_,rfl⟩
       obtain ⟨sb,hsb⟩ : ∃ sb,sb = decide (V.print (V.mk 1 N0 ⟨#[]⟩) = s.data.toList):=⟨_,rfl⟩
       have f1 : ((⟨X.toArray⟩ : ByteArray).toList == s.toList) = sb:=by rw [ByteArray.toList_eq,ByteArray.toList_eq,hX,hsb,Bool.eq_iff_iff]; simp
       have f2 : (X == s.toList) = sb:=by rw [ByteArray.toList_eq,hX,hsb,Bool.eq_iff_iff]; simp
       rw [← hX] at P
       have HSB:=Lib.hid hsb
       clear hX hsb hr
       cases sb
       all_goals
        go_wp2_with fail
        refine Calls.mono (R.out _) ?_
        rintro e w21 ⟨rfl,hb21⟩
        refine St.call (S1.out) hb21 ?_
        intro S21
        clear hb21
        try (simp only [List.set_cons_zero,List.set_cons_succ,List.setIfInBounds_toArray,World.size_alloc] at S21)
        have F21:=S21.out.facts
        simp only [St.Facts,cellFacts,apartFacts,and_true] at F21
        go_wp2_with fail
        refine Calls.mono (P.out _) ?_
        rintro e w22 ⟨rfl,hb22⟩
        refine St.call (S21.out) hb22 ?_
        intro S22
        clear hb22
        try (simp only [List.set_cons_zero,List.set_cons_succ,List.setIfInBounds_toArray,World.size_alloc] at S22)
        clear F21
        have F22:=S22.out.facts
        simp only [St.Facts,cellFacts,apartFacts,and_true] at F22
        go_wp2_with fail
       ·have HR : Hid (refP s.data.toList = none):=by show _ = _; rw [refP,HG.out,if_neg (fun h=>by have:=HSB.out; simp at this; exact this h.2)]
        refine bodyPost_ret (v:=.tuple #[.agg #[.int .i64 0,.int .i64 0,.string ⟨#[]⟩],.bool false]) (by simp [results,Tryz.results158,go_sem,F22]) rfl ⟨by rw [HR.out]; rfl,?_⟩
        exact (St.set 1 (St.set 1 (St.set 1 S22.out rfl) rfl) rfl).below
       ·have HR : Hid (refP s.data.toList = some (V.mk 1 N0 ⟨#[]⟩)):=by show _ = _; rw [refP,HG.out,if_pos ⟨HRR.out,by have:=HSB.out; simpa using this.symm⟩]
        refine bodyPost_ret (v:=.tuple #[.agg #[.int .i64 1,.int .i64 N0,.string ⟨#[]⟩],.bool true]) (by simp [results,Tryz.results158,go_sem,F22]) rfl ⟨by rw [HR.out]; rfl,?_⟩
        exact (St.set 1 (St.set 1 (St.set 1 S22.out rfl) rfl) rfl).below
     ·clear hlt hcond
      cases hr : V.right (V.mk 1 N0 ⟨#[]⟩)
      all_goals
       have R:=Lib.hid (fun w=>refRight_any (V.mk 1 N0 ⟨#[]⟩) w)
       rw [hr] at R
       have HRR:=Lib.hid hr
      ·have HR : Hid (refP s.data.toList = none):=by show _ = _; rw [refP,HG.out,if_neg (by simp [hr])]
       clear hr
       go_wp2_with fail
       refine Calls.mono (R.out _) ?_
       rintro e w21 ⟨rfl,hb21⟩
       refine St.call (S1.out) hb21 ?_
       intro S21
       clear hb21
       try (simp only [List.set_cons_zero,List.set_cons_succ,List.setIfInBounds_toArray,World.size_alloc] at S21)
       have F21:=S21.out.facts
       simp only [St.Facts,cellFacts,apartFacts,and_true] at F21
       go_wp2_with fail
       refine bodyPost_ret (v:=.tuple #[.agg #[.int .i64 0,.int .i64 0,.string ⟨#[]⟩],.bool false]) (by simp [results,Tryz.results158,go_sem,F21]) rfl ⟨by rw [HR.out]; rfl,?_⟩
       exact (St.set 1 (St.set 1 (St.set 1 S21.out rfl) rfl) rfl).below
      ·have P:=Lib.hid (fun w=>refPrint_any (V.mk 1 N0 ⟨#[]⟩) hr w)
       obtain ⟨X,hX⟩ : ∃ X,X = V.print (V.mk 1 N0 ⟨#[]⟩):=⟨_,rfl⟩
       obtain ⟨sb,hsb⟩ : ∃ sb,sb = decide (V.print (V.mk 1 N0 ⟨#[]⟩) = s.data.toList):=⟨_,rfl⟩
       have f1 : ((⟨X.toArray⟩ : ByteArray).toList == s.toList) = sb:=by rw [ByteArray.toList_eq,ByteArray.toList_eq,hX,hsb,Bool.eq_iff_iff]; simp
       have f2 : (X == s.toList) = sb:=by rw [ByteArray.toList_eq,hX,hsb,Bool.eq_iff_iff]; simp
       rw [← hX] at P
       have HSB:=Lib.hid hsb
       clear hX hsb hr
       cases sb
       all_goals
        go_wp2_with fail
        refine Calls.mono (R.out _) ?_
        rintro e w21 ⟨rfl,hb21⟩
        refine St.call (S1.out) hb21 ?_
        intro S21
        clear hb21
        try (simp only [List.set_cons_zero,List.set_cons_succ,List.setIfInBounds_toArray,World.size_alloc] at S21)
        have F21:=S21.out.facts
        simp only [St.Facts,cellFacts,apartFacts,and_true] at F21
        go_wp2_with fail
        refine Calls.mono (P.out _) ?_
        rintro e w22 ⟨rfl,hb22⟩
        refine St.call (S21.out) hb22 ?_
        intro S22
        clear hb22
        try (simp only [List.set_cons_zero,List.set_cons_succ,List.setIfInBounds_toArray,World.size_alloc] at S22)
        clear F21
        have F22:=S22.out.facts
        simp only [St.Facts,cellFacts,apartFacts,and_true] at F22
        go_wp2_with fail
       ·have HR : Hid (refP s.data.toList = none):=by show _ = _; rw [refP,HG.out,if_neg (fun h=>by have:=HSB.out; simp at this; exact this h.2)]
        refine bodyPost_ret (v:=.tuple #[.agg #[.int .i64 0,.int .i64 0,.string ⟨#[]⟩],.bool false]) (by simp [results,Tryz.results158,go_sem,F22]) rfl ⟨by rw [HR.out]; rfl,?_⟩
        exact (St.set 1 (St.set 1 (St.set 1 S22.out rfl) rfl) rfl).below
       ·have HR : Hid (refP s.data.toList = some (V.mk 1 N0 ⟨#[]⟩)):=by show _ = _; rw [refP,HG.out,if_pos ⟨HRR.out,by have:=HSB.out; simpa using this.symm⟩]
        refine bodyPost_ret (v:=.tuple #[.agg #[.int .i64 1,.int .i64 N0,.string ⟨#[]⟩],.bool true]) (by simp [results,Tryz.results158,go_sem,F22]) rfl ⟨by rw [HR.out]; rfl,?_⟩
        exact (St.set 1 (St.set 1 (St.set 1 S22.out rfl) rfl) rfl).below
    ·have h45 : s[0] = 45:=by
      have : (s[0].toNat : Int) = 45:=by simpa using t45
      exact UInt8.toNat_inj.1 (by simp; omega)
     rw [if_pos h45] at hg
     subst hg
     clear h45 HN1 HN HN0
     by_cases hks : k < s.size
     ·have hk2:=hcond hks
      clear hlt hcond
      cases hr : V.right (V.mk 1 (-N) ⟨#[]⟩)
      all_goals
       have R:=Lib.hid (fun w=>refRight_any (V.mk 1 (-N) ⟨#[]⟩) w)
       rw [hr] at R
       have HRR:=Lib.hid hr
      ·have HR : Hid (refP s.data.toList = none):=by show _ = _; rw [refP,HG.out,if_neg (by simp [hr])]
       clear hr
       go_wp2_with fail
       refine Calls.mono (R.out _) ?_
       rintro e w21 ⟨rfl,hb21⟩
       refine St.call (St.set 0 (S1.out) rfl) hb21 ?_
       intro S21
       clear hb21
       try (simp only [List.set_cons_zero,List.set_cons_succ,List.setIfInBounds_toArray] at S21)
       have F21:=S21.out.facts
       simp only [St.Facts,cellFacts,apartFacts,and_true] at F21
       go_wp2_with fail
       refine bodyPost_ret (v:=.tuple #[.agg #[.int .i64 0,.int .i64 0,.string ⟨#[]⟩],.bool false]) (by simp [results,Tryz.results158,go_sem,F21]) rfl ⟨by rw [HR.out]; rfl,?_⟩
       exact (St.set 1 (St.set 1 (St.set 1 S21.out rfl) rfl) rfl).below
      ·have P:=Lib.hid (fun w=>refPrint_any (V.mk 1 (-N) ⟨#[]⟩) hr w)
       obtain ⟨X,hX⟩ : ∃ X,X = V.print (V.mk 1 (-N) ⟨#[]⟩):=⟨_,rfl⟩
       obtain ⟨sb,hsb⟩ : ∃ sb,sb = decide (V.print (V.mk 1 (-N) ⟨#[]⟩) = s.data.toList):=⟨_,rfl⟩
       have f1 : ((⟨X.toArray⟩ : ByteArray).toList == s.toList) = sb:=by rw [ByteArray.toList_eq,ByteArray.toList_eq,hX,hsb,Bool.eq_iff_iff]; simp
       have f2 : (X == s.toList) = sb:=by rw [ByteArray.toList_eq,hX,hsb,Bool.eq_iff_iff]; simp
       rw [← hX] at P
       have HSB:=Lib.hid hsb
       clear hX hsb hr
       cases sb
       all_goals
        go_wp2_with fail
        refine Calls.mono (R.out _) ?_
        rintro e w21 ⟨rfl,hb21⟩
        refine St.call (St.set 0 (S1.out) rfl) hb21 ?_
        intro S21
        clear hb21
        try (simp only [List.set_cons_zero,List.set_cons_succ,List.setIfInBounds_toArray] at S21)
        have F21:=S21.out.facts
        simp only [St.Facts,cellFacts,apartFacts,and_true] at F21
        go_wp2_with fail
        refine Calls.mono (P.out _) ?_
        rintro e w22 ⟨rfl,hb22⟩
        refine St.call (S21.out) hb22 ?_
        intro S22
        clear hb22
        try (simp only [List.set_cons_zero,List.set_cons_succ,List.setIfInBounds_toArray,World.size_alloc] at S22)
        clear F21
        have F22:=S22.out.facts
        simp only [St.Facts,cellFacts,apartFacts,and_true] at F22
        go_wp2_with fail
       ·have HR : Hid (refP s.data.toList = none):=by show _ = _; rw [refP,HG.out,if_neg (fun h=>by have:=HSB.out; simp at this; exact this h.2)]
        refine bodyPost_ret (v:=.tuple #[.agg #[.int .i64 0,.int .i64 0,.string ⟨#[]⟩],.bool false]) (by simp [results,Tryz.results158,go_sem,F22]) rfl ⟨by rw [HR.out]; rfl,?_⟩
        exact (St.set 1 (St.set 1 (St.set 1 S22.out rfl) rfl) rfl).below
       ·have HR : Hid (refP s.data.toList = some (V.mk 1 (-N) ⟨#[]⟩)):=by show _ = _; rw [refP,HG.out,if_pos ⟨HRR.out,by have:=HSB.out; simpa using this.symm⟩]
        refine bodyPost_ret (v:=.tuple #[.agg #[.int .i64 1,.int .i64 (-N),.string ⟨#[]⟩],.bool true]) (by simp [results,Tryz.results158,go_sem,F22]) rfl ⟨by rw [HR.out]; rfl,?_⟩
        exact (St.set 1 (St.set 1 (St.set 1 S22.out rfl) rfl) rfl).below
     ·clear hlt hcond
      cases hr : V.right (V.mk 1 (-N) ⟨#[]⟩)
      all_goals
       have R:=Lib.hid (fun w=>refRight_any (V.mk 1 (-N) ⟨#[]⟩) w)
       rw [hr] at R
       have HRR:=Lib.hid hr
      ·have HR : Hid (refP s.data.toList = none):=by show _ = _; rw [refP,HG.out,if_neg (by simp [hr])]
       clear hr
       go_wp2_with fail
       refine Calls.mono (R.out _) ?_
       rintro e w21 ⟨rfl,hb21⟩
       refine St.call (St.set 0 (S1.out) rfl) hb21 ?_
       intro S21
       clear hb21
       try (simp only [List.set_cons_zero,List.set_cons_succ,List.setIfInBounds_toArray] at S21)
       have F21:=S21.out.facts
       simp only [St.Facts,cellFacts,apartFacts,and_true] at F21
       go_wp2_with fail
       refine bodyPost_ret (v:=.tuple #[.agg #[.int .i64 0,.int .i64 0,.string ⟨#[]⟩],.bool false]) (by simp [results,Tryz.results158,go_sem,F21]) rfl ⟨by rw [HR.out]; rfl,?_⟩
       exact (St.set 1 (St.set 1 (St.set 1 S21.out rfl) rfl) rfl).below
      ·have P:=Lib.hid (fun w=>refPrint_any (V.mk 1 (-N) ⟨#[]⟩) hr w)
       obtain ⟨X,hX⟩ : ∃ X,X = V.print (V.mk 1 (-N) ⟨#[]⟩):=⟨_,rfl⟩
       obtain ⟨sb,hsb⟩ : ∃ sb,sb = decide (V.print (V.mk 1 (-N) ⟨#[]⟩) = s.data.toList):=⟨_,rfl⟩
       have f1 : ((⟨X.toArray⟩ : ByteArray).toList == s.toList) = sb:=by rw [ByteArray.toList_eq,ByteArray.toList_eq,hX,hsb,Bool.eq_iff_iff]; simp
       have f2 : (X == s.toList) = sb:=by rw [ByteArray.toList_eq,hX,hsb,Bool.eq_iff_iff]; simp
       rw [← hX] at P
       have HSB:=Lib.hid hsb
       clear hX hsb hr
       cases sb
       all_goals
        go_wp2_with fail
        refine Calls.mono (R.out _) ?_
        rintro e w21 ⟨rfl,hb21⟩
        refine St.call (St.set 0 (S1.out) rfl) hb21 ?_
        intro S21
        clear hb21
        try (simp only [List.set_cons_zero,List.set_cons_succ,List.setIfInBounds_toArray] at S21)
        have F21:=S21.out.facts
        simp only [St.Facts,cellFacts,apartFacts,and_true] at F21
        go_wp2_with fail
        refine Calls.mono (P.out _) ?_
        rintro e w22 ⟨rfl,hb22⟩
        refine St.call (S21.out) hb22 ?_
        intro S22
        clear hb22
        try (simp only [List.set_cons_zero,List.set_cons_succ,List.setIfInBounds_toArray,World.size_alloc] at S22)
        clear F21
        have F22:=S22.out.facts
        simp only [St.Facts,cellFacts,apartFacts,and_true] at F22
        go_wp2_with fail
       ·have HR : Hid (refP s.data.toList = none):=by show _ = _; rw [refP,HG.out,if_neg (fun h=>by have:=HSB.out; simp at this; exact this h.2)]
        refine bodyPost_ret (v:=.tuple #[.agg #[.int .i64 0,.int .i64 0,.string ⟨#[]⟩],.bool false]) (by simp [results,Tryz.results158,go_sem,F22]) rfl ⟨by rw [HR.out]; rfl,?_⟩
        exact (St.set 1 (St.set 1 (St.set 1 S22.out rfl) rfl) rfl).below
       ·have HR : Hid (refP s.data.toList = some (V.mk 1 (-N) ⟨#[]⟩)):=by show _ = _; rw [refP,HG.out,if_pos ⟨HRR.out,by have:=HSB.out; simpa using this.symm⟩]
        refine bodyPost_ret (v:=.tuple #[.agg #[.int .i64 1,.int .i64 (-N),.string ⟨#[]⟩],.bool true]) (by simp [results,Tryz.results158,go_sem,F22]) rfl ⟨by rw [HR.out]; rfl,?_⟩
        exact (St.set 1 (St.set 1 (St.set 1 S22.out rfl) rfl) rfl).below
 ·have hz : s.size = 0:=by omega
  have hnil : s.data.toList = []:=List.eq_nil_of_length_eq_zero (by rw [HL.out]; exact hz)
  have hg : N0 = 0:=by rw [HN0.out,hnil]; rfl
  subst hg
  clear HN0 hnil HT HH HL hz
  go_enter Tryz.func158,Tryz.ntmps158
  go_wp2_with fail
  refine wp_loop_rounds 1 ?_
  rw [rounds_succ]
  cases hr : V.right (V.mk 1 0 ⟨#[]⟩)
  all_goals
   have R:=Lib.hid (fun w=>refRight_any (V.mk 1 0 ⟨#[]⟩) w)
   rw [hr] at R
   have HRR:=Lib.hid hr
  ·have HR : Hid (refP s.data.toList = none):=by show _ = _; rw [refP,HG.out,if_neg (by simp [hr])]
   clear hr
   go_wp2_with fail
   refine Calls.mono (R.out _) ?_
   rintro e w21 ⟨rfl,hb21⟩
   refine St.call (St.alloc (St.alloc (St.start _))) hb21 ?_
   intro S21
   clear hb21
   try (simp only [World.size_alloc] at S21)
   have F21:=S21.out.facts
   simp only [St.Facts,cellFacts,apartFacts,and_true] at F21
   go_wp2_with fail
   refine bodyPost_ret (v:=.tuple #[.agg #[.int .i64 0,.int .i64 0,.string ⟨#[]⟩],.bool false]) (by simp [results,Tryz.results158,go_sem,F21]) rfl ⟨by rw [HR.out]; rfl,?_⟩
   exact (St.set 1 (St.set 1 (St.set 1 S21.out rfl) rfl) rfl).below
  ·have P:=Lib.hid (fun w=>refPrint_any (V.mk 1 0 ⟨#[]⟩) hr w)
   obtain ⟨X,hX⟩ : ∃ X,X = V.print (V.mk 1 0 ⟨#[]⟩):=⟨_,rfl⟩
   obtain ⟨sb,hsb⟩ : ∃ sb,sb = decide (V.print (V.mk 1 0 ⟨#[]⟩) = s.data.toList):=⟨_,rfl⟩
   have f1 : ((⟨X.toArray⟩ : ByteArray).toList == s.toList) = sb:=by rw [ByteArray.toList_eq,ByteArray.toList_eq,hX,hsb,Bool.eq_iff_iff]; simp
   have f2 : (X == s.toList) = sb:=by rw [ByteArray.toList_eq,hX,hsb,Bool.eq_iff_iff]; simp
   rw [← hX] at P
   have HSB:=Lib.hid hsb
   clear hX hsb hr
   cases sb
   all_goals
    go_wp2_with fail
    refine Calls.mono (R.out _) ?_
    rintro e w21 ⟨rfl,hb21⟩
    refine St.call (St.alloc (St.alloc (St.start _))) hb21 ?_
    intro S21
    clear hb21
    try (simp only [World.size_alloc] at S21)
    have F21:=S21.out.facts
    simp only [St.Facts,cellFacts,apartFacts,and_true] at F21
    go_wp2_with fail
    refine Calls.mono (P.out _) ?_
    rintro e w22 ⟨rfl,hb22⟩
    refine St.call (S21.out) hb22 ?_
    intro S22
    clear hb22
    try (simp only [List.set_cons_zero,List.set_cons_succ,List.setIfInBounds_toArray,World.size_alloc] at S22)
    clear F21
    have F22:=S22.out.facts
    simp only [St.Facts,cellFacts,apartFacts,and_true] at F22
    go_wp2_with fail
   ·have HR : Hid (refP s.data.toList = none):=by show _ = _; rw [refP,HG.out,if_neg (fun h=>by have:=HSB.out; simp at this; exact this h.2)]
    refine bodyPost_ret (v:=.tuple #[.agg #[.int .i64 0,.int .i64 0,.string ⟨#[]⟩],.bool false]) (by simp [results,Tryz.results158,go_sem,F22]) rfl ⟨by rw [HR.out]; rfl,?_⟩
    exact (St.set 1 (St.set 1 (St.set 1 S22.out rfl) rfl) rfl).below
   ·have HR : Hid (refP s.data.toList = some (V.mk 1 0 ⟨#[]⟩)):=by show _ = _; rw [refP,HG.out,if_pos ⟨HRR.out,by have:=HSB.out; simpa using this.symm⟩]
    refine bodyPost_ret (v:=.tuple #[.agg #[.int .i64 1,.int .i64 0,.string ⟨#[]⟩],.bool true]) (by simp [results,Tryz.results158,go_sem,F22]) rfl ⟨by rw [HR.out]; rfl,?_⟩
    exact (St.set 1 (St.set 1 (St.set 1 S22.out rfl) rfl) rfl).below
theorem gT_end {l : List UInt8} (h : l.length < 2) : gT l = []:=by
 rcases l with _ | ⟨a,_ | ⟨b,r⟩⟩
 ·rfl
 ·rfl
 ·simp at h; omega
theorem gT_plain {c x : UInt8} {r : List UInt8} (h : c ≠ 92) : gT (c :: x :: r) = c :: gT (x :: r):=by
 cases r with
 | nil=>simp [gT,h]
 | cons y r=>rw [gT,if_neg h]
theorem gT_esc {x y : UInt8} {r : List UInt8} : gT (92 :: x :: y :: r) = UInt8.ofNat (dig0 x * 16 + dig0 y) :: gT r:=by rw [gT,if_pos rfl]
theorem gT_last {x : UInt8} : gT [92,x] = [92]:=by rw [gT,if_pos rfl]
theorem dig0_val (c : UInt8) : max 0 (digI c.toNat) = (dig0 c : Int):=by unfold dig0; omega
theorem dig0_lt (c : UInt8) : dig0 c≤15:=by have:=digI_bound c.toNat; unfold dig0; omega
theorem conv_i64u8 (n : Nat) (h : n < 256) (w : World) : (convert 3 5 (.int .i64 (n : Int))).run Tryz.prog w = .ok (.int .u8 (n : Int)) w:=by
 have h1 : IntKind.u8.wrap (n : Int) = n:=by rw [IntKind.wrap_u8]; omega
 go_simp
theorem St.grown {w0 w w' : World} {L : List Blk} {row : Option Nat} (h : St w0 w L) (hg : w.grownBy w' row) (hr : ∀ k,row = some k→w0.heap.size≤k∧∀ x ∈ L,x.1 ≠ k) : St w0 w' L:=
 ⟨Below.grown h.below hg h.below.size (fun k hk=>(hr k hk).1),fun x hx=>⟨(h.own x hx).1,by
  rw [hg.block x.1 (Array.getElem?_eq_some_iff.1 (h.own x hx).2).1 (fun e=>(hr _ e.symm).2 x hx rfl)]
  exact (h.own x hx).2⟩,h.apart⟩
set_option maxRecDepth 100000 in
set_option maxHeartbeats 8000000 in
theorem refParse_text (s : ByteArray) (w : World) (hs : s.size≤1000000) (h2 : s.data.toList ≠ bTrue) (h3 : s.data.toList ≠ bFalse) (h4 : s.data.toList.head? = some 39) :
  Calls Tryz.prog 158 #[.string s] w fun e w'=>e = .returned (parseRes (refP s.data.toList))∧Below w.heap.size w w':=by
 have HG0 : Hid (guess s.data.toList = ⟨2,0,⟨(gT (s.data.toList.drop 1)).toArray⟩⟩):=by show _ = _; rw [guess,if_neg h2,if_neg h3,if_pos h4]
 have e2 : (s.toList == [116,114,117,101]) = false:=eq_no h2
 have e3 : (s.toList == [102,97,108,115,101]) = false:=eq_no h3
 have hl : s.data.toList.length = s.size:=Array.length_toList
 have hp : 0 < s.size:=by
  rcases Nat.eq_zero_or_pos s.size with h | h
  ·have:=List.eq_nil_of_length_eq_zero (hl.trans h); rw [this] at h4; cases h4
  ·exact h
 have t39 : ((s[0].toNat : Int) == 39) = true:=by
  have h1 : s.data.toList.head? = some s[0]:=by rw [List.head?_eq_getElem?]; exact List.getElem?_eq_some_iff.2 ⟨by simpa using hp,rfl⟩
  rw [h4] at h1
  rw [← Option.some.inj h1]; rfl
 have HL:=Lib.hid hl
 clear h2 h3 h4 hl
 go_enter Tryz.func158,Tryz.ntmps158
 go_wp2_with fail
 go_loopw [5,6] (fun o i wr=>∃ (k : Nat) (acc : List UInt8),1≤k∧k≤s.size + 1∧acc.length≤k∧i = .int .i64 k∧Hid (gT (s.data.toList.drop 1) = acc ++ gT (s.data.toList.drop k))∧Hid (OwnsBytes wr (w.heap.size + 2) o acc)∧Hid (St w wr [(w.heap.size + 1,#[.int .i64 2,.int .i64 0,.string ⟨#[]⟩],42),(w.heap.size,#[.int .i64 0,.int .i64 0,.string ⟨#[]⟩],42)])∧w.heap.size + 2≤wr.heap.size) (fun _ i _=>s.size + 1 - (intOf i).toNat)
 case atStart=>exact ⟨1,[],by omega,by omega,by simp,rfl,by show _ = _; simp,World.ownsRow_nil _ _ _ _,by
   show St _ _ _
   have S0:=Lib.hid (St.alloc (cs:=#[.int .i64 2,.int .i64 0,.string ⟨#[]⟩]) (t:=42) (St.alloc (cs:=#[.int .i64 0,.int .i64 0,.string ⟨#[]⟩]) (t:=42) (St.start w)))
   simp only [World.size_alloc] at S0
   exact S0.out,by simp⟩
 case round=>
  obtain ⟨k,acc,hk1,hk2,hak,rfl,HT,HO,S1,hsz⟩:=hrel
  by_cases hlt : k + 1 < s.size
  ·have hks : k < s.size:=by omega
   have hc256 : s[k].toNat < 256:=s[k].toNat_lt
   have HD:=Lib.hid (list_at hks)
   have HD1:=Lib.hid (list_at hlt)
   by_cases h92 : s[k] = 92
   ·have t92 : ((s[k].toNat : Int) == 92) = true:=by rw [h92]; rfl
    by_cases hin : k + 2 < s.size
    ·have hx:=s[k + 1].toNat_lt
     have hy:=s[k + 2].toNat_lt
     obtain ⟨n,hn⟩ : ∃ n,n = dig0 s[k + 1] * 16 + dig0 s[k + 2]:=⟨_,rfl⟩
     have hd1:=dig0_lt s[k + 1]
     have hd2:=dig0_lt s[k + 2]
     have hn256 : n < 256:=by omega
     have HR : Hid (gT (s.data.toList.drop 1) = (acc ++ [UInt8.ofNat n]) ++ gT (s.data.toList.drop (k + 3))):=by
      show _ = _
      rw [HT.out,HD.out,HD1.out,list_at hin,h92,gT_esc,hn]; simp
     have C1 : Hid (∀ w,Calls Tryz.prog 221 #[.int .u8 (s[k + 1].toNat : Int)] w fun e w'=>e = .returned (.int .i64 (digI s[k + 1].toNat))∧Laid w w'):=fun w=>digit_any _ hx w
     have C2 : Hid (∀ w,Calls Tryz.prog 221 #[.int .u8 (s[k + 2].toNat : Int)] w fun e w'=>e = .returned (.int .i64 (digI s[k + 2].toNat))∧Laid w w'):=fun w=>digit_any _ hy w
     have m1:=dig0_val s[k + 1]
     have m2:=dig0_val s[k + 2]
     have hcv:=fun w=>conv_i64u8 n hn256 w
     have hsum : (dig0 s[k + 1] : Int) * 16 + (dig0 s[k + 2] : Int) = (n : Int):=by omega
     have HN:=Lib.hid hn
     clear hn h92
     generalize dig0 s[k + 1] = p1 at *
     generalize dig0 s[k + 2] = p2 at *
     have k1 : ((k : Int) + 1).toNat = k + 1:=by omega
     have k2 : ((k : Int) + 2).toNat = k + 2:=by omega
     have g1 : (0 : Int)≤(k : Int) + 1:=by omega
     have g2 : (0 : Int)≤(k : Int) + 2:=by omega
     have g3 : (k : Int) + 1 < (s.size : Int):=by omega
     have g4 : (k : Int) + 2 < (s.size : Int):=by omega
     go_wp2_with fail
     have x1 : IntKind.i64.wrap ((k : Int) + 1) = (k : Int) + 1:=IntWalk.i64_in _ (by omega)
     have x2 : IntKind.i64.wrap ((k : Int) + 2) = (k : Int) + 2:=IntWalk.i64_in _ (by omega)
     have x3 : IntKind.i64.wrap ((p1 : Int) * 16) = (p1 : Int) * 16:=IntWalk.i64_in _ (by omega)
     have x4 : IntKind.i64.wrap (n : Int) = (n : Int):=IntWalk.i64_in _ (by omega)
     refine wp_region_mixed 16 [(0,false),(1,false),(2,false),(3,false),(4,false),(5,false),(6,false),(7,false),(8,false),(9,false),(10,false),(11,false),(12,false),(13,false),(14,false),(15,false)] (by kernel_rfl) (by kernel_rfl) ?_
     repeat (refine wpM_mild rfl (fun K hK=>?_); go_simp; first | (refine hK _ ?_; clear hK K) | (apply Exists.intro; refine ⟨fun _=>?_,hK _ ?_⟩; (first | with_reducible exact C1.out _ | with_reducible exact C2.out _); clear hK K))
     refine wpM_end ?_
     intro w2 _ hb2
     have HO2:=Lib.hid (HO.out.kept hb2)
     have hsz2 : w.heap.size + 2≤w2.heap.size:=Nat.le_trans hsz hb2.size
     refine St.call (S1.out) hb2 ?_
     intro S2
     clear hb2
     try (simp only [List.set_cons_zero,List.set_cons_succ,List.setIfInBounds_toArray,World.size_alloc] at S2)
     clear x1 x2 x3 x4 hcv m1 m2 hsum
     have HOF : Hid (((UInt8.ofNat n).toNat : Int) = n):=by show _ = _; simp; omega
     go_wp2_with (at_builtin; go_must (refine wpList_append_new rfl _ _ 58 rfl 5 (.int .u8 0) 1 Tryz.underlying58 info5 rfl (w.heap.size + 2) u5 _ _ rfl HO2.out #[.int .u8 (n : Int)] _ rfl rfl (by simp [Value.oneCell']) (by simp; omega) (by simp [maxLen]; omega) hsz2 ?_))
     intro v3 w3 hown3 hg3
     have S3 : Hid (St w w3 _):=Lib.hid (St.grown S2.out hg3 (fun k hk=>by
      have h1:=(World.ownsRow.lt HO2.out k hk).1
      refine ⟨by omega,fun x hx=>?_⟩
      simp only [List.mem_cons,List.not_mem_nil,or_false] at hx
      rcases hx with rfl | rfl
      ·show w.heap.size + 1 ≠ k; omega
      ·show w.heap.size ≠ k; omega))
     have HO3:=Lib.hid hown3
     have hsz3 : w.heap.size + 2≤w3.heap.size:=Nat.le_trans hsz2 hg3.size
     clear hown3 hg3
     go_wp2_with fail
     go_roundw
     case rel=>exact ⟨k + 3,acc ++ [UInt8.ofNat n],by omega,by omega,by simp; omega,by go_num,HR.out,OwnsBytes.of HO3.out (by rw [bytesV_append]; simp only [bytesV,List.map_cons,List.map_nil,HOF.out]),S3.out,hsz3⟩
     case measure=>simp [intOf]; omega
    ·have HR : Hid (gT (s.data.toList.drop 1) = (acc ++ [s[k]]) ++ gT (s.data.toList.drop (k + 1))):=by
      show _ = _
      have hnil : s.data.toList.drop (k + 2) = []:=List.drop_of_length_le (by have:=HL.out; omega)
      rw [HT.out,HD.out,HD1.out,hnil,h92,gT_last,gT_end (by simp)]; simp
     clear h92
     go_wp2_with (at_builtin; go_must (refine wpList_append_new rfl _ _ 58 rfl 5 (.int .u8 0) 1 Tryz.underlying58 info5 rfl (w.heap.size + 2) u5 _ _ rfl HO.out #[.int .u8 (s[k].toNat : Int)] _ rfl rfl (by simp [Value.oneCell']) (by simp; omega) (by simp [maxLen]; omega) hsz ?_))
     intro v3 w3 hown3 hg3
     have S3 : Hid (St w w3 _):=Lib.hid (St.grown S1.out hg3 (fun k hk=>by
      have h1:=(World.ownsRow.lt HO.out k hk).1
      refine ⟨by omega,fun x hx=>?_⟩
      simp only [List.mem_cons,List.not_mem_nil,or_false] at hx
      rcases hx with rfl | rfl
      ·show w.heap.size + 1 ≠ k; omega
      ·show w.heap.size ≠ k; omega))
     have HO3:=Lib.hid hown3
     have hsz3 : w.heap.size + 2≤w3.heap.size:=Nat.le_trans hsz hg3.size
     clear hown3 hg3
     go_wp2_with fail
     go_roundw
     case rel=>exact ⟨k + 1,acc ++ [s[k]],by omega,by omega,by simp; omega,by go_num,HR.out,OwnsBytes.of HO3.out (by rw [bytesV_append]; rfl),S3.out,hsz3⟩
     case measure=>simp [intOf]; omega
   ·have t92 : ((s[k].toNat : Int) == 92) = false:=by
     rw [beq_eq_false_iff_ne]; intro e; exact h92 (UInt8.toNat_inj.1 (by simp; omega))
    have HR : Hid (gT (s.data.toList.drop 1) = (acc ++ [s[k]]) ++ gT (s.data.toList.drop (k + 1))):=by
     show _ = _
     rw [HT.out,HD.out,HD1.out,gT_plain h92]; simp
    clear h92
    go_wp2_with (at_builtin; go_must (refine wpList_append_new rfl _ _ 58 rfl 5 (.int .u8 0) 1 Tryz.underlying58 info5 rfl (w.heap.size + 2) u5 _ _ rfl HO.out #[.int .u8 (s[k].toNat : Int)] _ rfl rfl (by simp [Value.oneCell']) (by simp; omega) (by simp [maxLen]; omega) hsz ?_))
    intro v3 w3 hown3 hg3
    have S3 : Hid (St w w3 _):=Lib.hid (St.grown S1.out hg3 (fun k hk=>by
     have h1:=(World.ownsRow.lt HO.out k hk).1
     refine ⟨by omega,fun x hx=>?_⟩
     simp only [List.mem_cons,List.not_mem_nil,or_false] at hx
     rcases hx with rfl | rfl
     ·show w.heap.size + 1 ≠ k; omega
     ·show w.heap.size ≠ k; omega))
    have HO3:=Lib.hid hown3
    have hsz3 : w.heap.size + 2≤w3.heap.size:=Nat.le_trans hsz hg3.size
    clear hown3 hg3
    go_wp2_with fail
    go_roundw
    case rel=>exact ⟨k + 1,acc ++ [s[k]],by omega,by omega,by simp; omega,by go_num,HR.out,OwnsBytes.of HO3.out (by rw [bytesV_append]; rfl),S3.out,hsz3⟩
    case measure=>simp [intOf]; omega
  ·have HA : Hid (gT (s.data.toList.drop 1) = acc):=by
    show _ = _
    rw [HT.out,gT_end (by rw [List.length_drop,HL.out]; omega)]; simp
   have HG : Hid (guess s.data.toList = (V.mk 2 0 ⟨acc.toArray⟩)):=by show _ = _; rw [HG0.out,HA.out]
   have hcv:=string_of_owned HO.out
   have F1:=S1.out.facts
   simp only [St.Facts,cellFacts,apartFacts,and_true] at F1
   cases hr : V.right (V.mk 2 0 ⟨acc.toArray⟩)
   all_goals
    have R:=Lib.hid (fun w=>refRight_any (V.mk 2 0 ⟨acc.toArray⟩) w)
    rw [hr] at R
    have HRR:=Lib.hid hr
   ·have HR : Hid (refP s.data.toList = none):=by show _ = _; rw [refP,HG.out,if_neg (by simp [hr])]
    clear hr
    go_wp2_with fail
    refine Calls.mono (R.out _) ?_
    rintro e w21 ⟨rfl,hb21⟩
    refine St.call (St.set 0 (S1.out) rfl) hb21 ?_
    intro S21
    clear hb21
    try (simp only [List.set_cons_zero,List.set_cons_succ,List.setIfInBounds_toArray] at S21)
    have F21:=S21.out.facts
    simp only [St.Facts,cellFacts,apartFacts,and_true] at F21
    go_wp2_with fail
    refine bodyPost_ret (v:=.tuple #[.agg #[.int .i64 0,.int .i64 0,.string ⟨#[]⟩],.bool false]) (by simp [results,Tryz.results158,go_sem,F21]) rfl ⟨by rw [HR.out]; rfl,?_⟩
    exact (St.set 1 (St.set 1 (St.set 1 S21.out rfl) rfl) rfl).below
   ·have P:=Lib.hid (fun w=>refPrint_any (V.mk 2 0 ⟨acc.toArray⟩) hr w)
    obtain ⟨X,hX⟩ : ∃ X,X = V.print (V.mk 2 0 ⟨acc.toArray⟩):=⟨_,rfl⟩
    obtain ⟨sb,hsb⟩ : ∃ sb,sb = decide (V.print (V.mk 2 0 ⟨acc.toArray⟩) = s.data.toList):=⟨_,rfl⟩
    have f1 : ((⟨X.toArray⟩ : ByteArray).toList == s.toList) = sb:=by rw [ByteArray.toList_eq,ByteArray.toList_eq,hX,hsb,Bool.eq_iff_iff]; simp
    have f2 : (X == s.toList) = sb:=by rw [ByteArray.toList_eq,hX,hsb,Bool.eq_iff_iff]; simp
    rw [← hX] at P
    have HSB:=Lib.hid hsb
    clear hX hsb hr
    cases sb
    all_goals
     go_wp2_with fail
     refine Calls.mono (R.out _) ?_
     rintro e w21 ⟨rfl,hb21⟩
     refine St.call (St.set 0 (S1.out) rfl) hb21 ?_
     intro S21
     clear hb21
     try (simp only [List.set_cons_zero,List.set_cons_succ,List.setIfInBounds_toArray] at S21)
     have F21:=S21.out.facts
     simp only [St.Facts,cellFacts,apartFacts,and_true] at F21
     go_wp2_with fail
     refine Calls.mono (P.out _) ?_
     rintro e w22 ⟨rfl,hb22⟩
     refine St.call (S21.out) hb22 ?_
     intro S22
     clear hb22
     try (simp only [List.set_cons_zero,List.set_cons_succ,List.setIfInBounds_toArray,World.size_alloc] at S22)
     clear F21
     have F22:=S22.out.facts
     simp only [St.Facts,cellFacts,apartFacts,and_true] at F22
     go_wp2_with fail
    ·have HR : Hid (refP s.data.toList = none):=by show _ = _; rw [refP,HG.out,if_neg (fun h=>by have:=HSB.out; simp at this; exact this h.2)]
     refine bodyPost_ret (v:=.tuple #[.agg #[.int .i64 0,.int .i64 0,.string ⟨#[]⟩],.bool false]) (by simp [results,Tryz.results158,go_sem,F22]) rfl ⟨by rw [HR.out]; rfl,?_⟩
     exact (St.set 1 (St.set 1 (St.set 1 S22.out rfl) rfl) rfl).below
    ·have HR : Hid (refP s.data.toList = some (V.mk 2 0 ⟨acc.toArray⟩)):=by show _ = _; rw [refP,HG.out,if_pos ⟨HRR.out,by have:=HSB.out; simpa using this.symm⟩]
     refine bodyPost_ret (v:=.tuple #[.agg #[.int .i64 2,.int .i64 0,.string ⟨acc.toArray⟩],.bool true]) (by simp [results,Tryz.results158,go_sem,F22]) rfl ⟨by rw [HR.out]; rfl,?_⟩
     exact (St.set 1 (St.set 1 (St.set 1 S22.out rfl) rfl) rfl).below
theorem refParse_any (s : ByteArray) (w : World) (hs : s.size≤1000000) : Calls Tryz.prog 158 #[.string s] w fun e w'=>e = .returned (parseRes (refP s.data.toList))∧Below w.heap.size w w':=by
 by_cases h2 : s.data.toList = bTrue
 ·exact refParse_bool true s w h2
 by_cases h3 : s.data.toList = bFalse
 ·exact refParse_bool false s w h3
 by_cases h4 : s.data.toList.head? = some 39
 ·exact refParse_text s w hs h2 h3 h4
 by_cases h1 : s.data.toList = bNull
 ·exact refParse_null s w h1
 ·exact refParse_num s w hs h1 h2 h3 h4
end Go.Proofs.YtimoefagohifaaaGreatDoor
